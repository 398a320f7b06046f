/- Parts of one proof. -/
import Derived.Recover
import Derived.Orders
import Derived.LoopN
set_option linter.all false
namespace Go.Proofs.YtmhhddhbdbcmbaaGreatDoor.Ev
section
variable {α β:Type} (a b:α) (l m n:List α) (f:α→β) (g:α→Option β) (p:α→Bool) (i:Nat)
theorem Za:(a::l).getD 0 b=a:=List.getD_cons_zero
theorem Zb:(a::l).getD (i+1) b=l.getD i b:=List.getD_cons_succ
theorem Zc:(a::l)[0]? = some a:=rfl
theorem Zd:(a::l)[i+1]? = l[i]?:=rfl
theorem Ze:(false=true)=False:=Bool.false_eq_true
theorem Zf:(a::l).length=l.length+1:=rfl
theorem Zg:(l++m).length=l.length+m.length:=List.length_append
theorem Zh:(some a).map f=some (f a):=rfl
theorem Zi:(a::l).take (i+1)=a::l.take i:=rfl
theorem Zj:(a::l).drop (i+1)=l.drop i:=List.drop_succ_cons
theorem Zk:([]:List α).length=0:=rfl
theorem Zl:(a::l).set 0 b=b::l:=rfl
theorem Zm:(a::l).set (i+1) b=a::l.set i b:=rfl
theorem Zn:(l++m)++n=l++(m++n):=List.append_assoc l m n
theorem Zo:(some a).bind g=g a:=rfl
theorem Zp:(a::l)++m=a::(l++m):=rfl
theorem Zq:(none:Option α).bind g=none:=rfl
theorem Zr:[]++l=l:=rfl
theorem Zs:l++[]=l:=List.append_nil l
theorem Zt:(none:Option α).map f=none:=rfl
theorem Zu:l.drop 0=l:=List.drop_zero
theorem Zv:(a::l).map f=f a::l.map f:=List.map_cons
theorem Zw:l.take 0=[]:=rfl
theorem Zx:(a::l).all p=(p a && l.all p):=rfl
theorem Zy:([]:List α).all p=true:=rfl
theorem Zz:([]:List α).map f=[]:=List.map_nil
theorem Z1:([]:List α).drop i=[]:=List.drop_nil
theorem ZA [BEq α] [ReflBEq α]:(a == a)=true:=beq_self_eq_true a
end
theorem ZB (n:Nat):0<n.succ:=Nat.zero_lt_succ n
theorem ZC (n k:Nat):n≤n+k:=Nat.le_add_right n k
theorem ZD (b:Bool):(b && false)=false:=Bool.and_false b
theorem ZE (b:Bool):(false && b)=false:=Bool.false_and b
theorem ZF:(!false)=true:=Bool.not_false
theorem ZG:(!true)=false:=Bool.not_true
theorem ZH (b:Bool):(true && b)=b:=Bool.true_and b
theorem ZI (b:Bool):(b && true)=b:=Bool.and_true b
theorem ZJ (b:Bool):(b && b)=b:=Bool.and_self b
theorem ZK (a b c:Nat):a+b+c=a+(b+c):=Nat.add_assoc a b c
theorem ZL (a:Nat):0+a=a:=Nat.zero_add a
theorem ZM (a:Nat):a+0=a:=rfl
theorem ZN (a:Nat):0*a=0:=Nat.zero_mul a
theorem ZO (h:Decidable False):@decide False h=false:=decide_false h
theorem ZP (h:Decidable True):@decide True h=true:=decide_true h
theorem ZQ (n:Nat):n≤n:=Nat.le_refl n
theorem ZR (n m:Nat):n+m-n=m:=Nat.add_sub_cancel_left ..
inductive AV where
 | bad
 | bool (b:Bool)
 | int (k:IntKind) (n:Int)
 | str (s:List UInt8)
 | nilP
 | ptr (id off st:Nat)
 | iptr (cells:List AV)
 | nilS
 | slc (id off len sz st:Nat)
 | lst (len:Nat) (cells:List AV)
 | nilM
 | map (id:Nat)
 | fn (f:Fn) (cap:List AV)
 | nilF
 | iface (t:TypeId) (v:AV)
 | nilI
 | agg (cells:List AV)
 | tup (vs:List AV)
inductive Blk where
 | row (cells:List AV) (st ty:Nat)
 | map (es:List (AV × AV))
 | siter (s:List UInt8) (pos:Nat)
 | miter (m k:Nat)
abbrev Mem:=List Blk
def AV.cells:AV→List AV
 | .agg cs=>cs
 | v=>[v]
def AV.one:AV→Bool
 | .bad | .agg _ | .tup _=>false
 | _=>true
def Xco:Value→AV
 | .bool b=>.bool b
 | .int k n=>.int k n
 | .string s=>.str s.data.toList
 | .pointer none=>.nilP
 | .slice none 0 0=>.nilS
 | .map none=>.nilM
 | .func f #[] #[]=>.fn f []
 | .nilFunc=>.nilF
 | .nilIface=>.nilI
 | _=>.bad
def ofV:Value→AV
 | .agg cs=>.agg (cs.toList.map Xco)
 | .tuple cs=>.tup (cs.toList.map Xco)
 | v=>Xco v
mutual
def eqv:AV→AV→Bool
 | .bad,.bad=>true
 | .bool a,.bool b=>a == b
 | .int k a,.int j b=>k == j && a == b
 | .str a,.str b=>a == b
 | .nilP,.nilP=>true
 | .ptr a b c,.ptr d e f=>a == d && b == e && c == f
 | .iptr a,.iptr b=>eqvL a b
 | .nilS,.nilS=>true
 | .slc a b c d e,.slc f g h i j=>a == f && b == g && c == h && d == i && e == j
 | .lst n a,.lst m b=>n == m && eqvL a b
 | .nilM,.nilM=>true
 | .map a,.map b=>a == b
 | .fn f a,.fn g b=>decide (f=g) && eqvL a b
 | .nilF,.nilF=>true
 | .iface t a,.iface u b=>t == u && eqv a b
 | .nilI,.nilI=>true
 | .agg a,.agg b=>eqvL a b
 | .tup a,.tup b=>eqvL a b
 | _,_=>false
def eqvL:List AV→List AV→Bool
 | [],[]=>true
 | a::x,b::y=>eqv a b && eqvL x y
 | _,_=>false
end
mutual
/-- Are all blocks that a value names below n? -/
def low (n:Nat):AV→Bool
 | .ptr id _ _=>decide (id<n)
 | .slc id _ _ _ _=>decide (id<n)
 | .map id=>decide (id<n)
 | .iptr cs=>lowL n cs
 | .lst _ cs=>lowL n cs
 | .fn _ cs=>lowL n cs
 | .iface _ v=>low n v
 | .agg cs=>lowL n cs
 | .tup cs=>lowL n cs
 | _=>true
def lowL (n:Nat):List AV→Bool
 | []=>true
 | c::cs=>low n c && lowL n cs
end
def lowE (n:Nat) (es:List (AV × AV)):Bool:=es.all fun e=>low n e.1 && low n e.2
def Xcn (n:Nat):Blk→Bool
 | .row cs _ _=>lowL n cs
 | .map es=>lowE n es
 | .siter _ _=>true
 | .miter m _=>decide (m<n)
def Xb6 (n:Nat) (H:Mem):Bool:=H.all (Xcn n)
def eqE:List (AV × AV)→List (AV × AV)→Bool
 | [],[]=>true
 | a::x,b::y=>eqv a.1 b.1 && eqv a.2 b.2 && eqE x y
 | _,_=>false
def eqB:Blk→Blk→Bool
 | .row a s p,.row b t q=>s == t && p == q && eqvL a b
 | .map a,.map b=>eqE a b
 | .siter a p,.siter b q=>a == b && p == q
 | .miter a p,.miter b q=>a == b && p == q
 | _,_=>false
def eqM:Mem→Mem→Bool
 | [],[]=>true
 | a::x,b::y=>eqB a b && eqM x y
 | _,_=>false
structure AAct where
 n:Nat
 t:List (Nat × AV)
 d:List (AV × List AV)
def Xad (l:List (Nat × AV)) (i:Nat):AV :=
 match l with
 | []=>.bad
 | (j,v)::r=>if i=j then v else Xad r i
def AAct.put (a:AAct) (dst:Option Tmp) (v:AV):AAct :=
 match dst with
 | some d=>{ a with t:=(d,if d<a.n then v else .bad)::a.t }
 | none=>a
structure Cfg where
 glob:Nat→Option (List AV)
 lib:FuncId→Option (List AV→Mem→Option (AV × Mem))
 live:FuncId→Nat→Option (List Tmp)
 keep:FuncId→Bool
section
variable (P:Program) (g:Cfg)
def AAct.eval (a:AAct):Operand→AV
 | .tmp i=>Xad a.t i
 | .const v=>ofV v
 | .global k=>match g.glob k with
  | some cs=>.iptr cs
  | none=>.bad
 | .func f=>.fn (.func f) []
def aggT (t:TypeId):Option Bool:=match P.underlying t with
 | some (.struct _) | some (.array _ _)=>some true
 | some _=>some false
 | none=>none
def szT (t:TypeId):Option Nat:=(P.info? t).map (·.size)
def Xfz (t:TypeId):Option AV:=((P.info? t).bind (·.zero)).map ofV
def Xdc (H:Mem):AV→Nat→Option (List AV)
 | .ptr id off st,n=>match H[id]? with
  | some (.row cs st' _)=>if st=st'∧off+n≤cs.length then some ((cs.drop off).take n) else none
  | _=>none
 | .iptr cs,n=>if n≤cs.length then some (cs.take n) else none
 | _,_=>none
def Xqd (H:Mem) (t:TypeId) (a:AV):Option AV :=
 match aggT P t with
 | some true=>(szT P t).bind fun n=>(Xdc H a n).map .agg
 | some false=>(Xdc H a 1).bind fun cs=>cs[0]?
 | none=>none
def Xd4 (cs:List AV) (off:Nat) (xs:List AV):List AV:=cs.take off++(xs++cs.drop (off+xs.length))
def Xth (H:Mem) (t:TypeId) (a v:AV):Option Mem :=
 match a with
 | .ptr id off st=>match H[id]? with
  | some (.row cs st' ty) =>
   if st=st'∧szT P t=some v.cells.length∧v.cells.all AV.one=true∧off+v.cells.length≤cs.length then some (H.set id (.row (Xd4 cs off v.cells) st ty)) else none
  | _=>none
 | _=>none
def newA (H:Mem) (T:TypeId) (cs:List AV):AV × Mem:=(.ptr H.length 0 0,H++[.row cs 0 (T+1)])
def Xev:AV→Bool
 | .bad=>false
 | .tup _=>false
 | _=>true
def Xhs (place:Nat→Option (Nat × Nat)) (cells:List AV):List (Nat × AV)→Option (List AV)
 | []=>some cells
 | (i,v)::rest=>match place i with
  | none=>none
  | some (off,size)=>if Xev v=true∧v.cells.length=size∧off+size≤cells.length then Xhs place (Xd4 cells off v.cells) rest else none
def Xr0 (fields:Array Field) (i:Nat):Option (Nat × Nat):=(fields[i]?).bind fun f=>(szT P f.type).map fun s=>(f.offset,s)
def Xjg (size:Nat) (i:Nat):Option (Nat × Nat):=some (i*size,size)
def Xrp (t:TypeId) (parts:List (Nat × AV)):Option AV :=
 (Xfz P t).bind fun z=>if Xev z=false then none else match P.underlying t with
 | some (.struct fields)=>if fields.all (fun f=>(szT P f.type).isSome) then (Xhs (Xr0 P fields) z.cells parts).map .agg else none
 | some (.array _ elem)=>(szT P elem).bind fun s=>(Xhs (Xjg s) z.cells parts).map .agg
 | _=>none
def Xe0 (z:List AV):Nat→List AV
 | 0=>[]
 | n+1=>z++Xe0 z n
def Xe6 (H:Mem) (t:TypeId) (len:Nat) (parts:List (Nat × AV)):Option (AV × Mem) :=
 match P.underlying t with
 | some (.slice elem)=>(szT P elem).bind fun s=>(Xfz P elem).bind fun z =>
  if z.cells.length=s∧Xev z=true∧len*s≤2 ^ 24 then (Xhs (Xjg s) (Xe0 z.cells len) parts).map fun cs=>(.slc H.length 0 len s 0,H++[.row cs 0 (elem+1)]) else none
 | _=>none
def Xns (op:BinOp) (k:IntKind) (a b:Int):Option AV :=
 match op with
 | .add=>some (.int k (k.wrap (a+b)))
 | .sub=>some (.int k (k.wrap (a-b)))
 | .mul=>some (.int k (k.wrap (a*b)))
 | .quo=>if b=0 then none else some (.int k (k.wrap (a.tdiv b)))
 | .rem=>if b=0 then none else some (.int k (a.tmod b))
 | .and=>some (.int k (k.wrap (BitVec.ofInt k.bits a &&& BitVec.ofInt k.bits b).toNat))
 | .or=>some (.int k (k.wrap (BitVec.ofInt k.bits a ||| BitVec.ofInt k.bits b).toNat))
 | .xor=>some (.int k (k.wrap (BitVec.ofInt k.bits a ^^^ BitVec.ofInt k.bits b).toNat))
 | .andNot=>some (.int k (k.wrap (BitVec.ofInt k.bits a &&& ~~~BitVec.ofInt k.bits b).toNat))
 | .eql=>some (.bool (a == b))
 | .neq=>some (.bool (a != b))
 | .lss=>some (.bool (decide (a<b)))
 | .leq=>some (.bool (decide (a≤b)))
 | .gtr=>some (.bool (decide (a>b)))
 | .geq=>some (.bool (decide (a ≥ b)))
 | _=>none
def Xlf (op:BinOp) (k:IntKind) (a b:Int):Option AV :=
 if b<0 then none else match op with
 | .shl=>some (.int k (k.wrap (a*2 ^ min b.toNat k.bits)))
 | .shr=>some (.int k (a.fdiv (2 ^ min b.toNat k.bits)))
 | _=>none
def Xyn (op:BinOp) (a b:List UInt8):Option AV :=
 match op with
 | .add=>if a.length+b.length≤2 ^ 40 then some (.str (a++b)) else none
 | .eql=>some (.bool (a == b))
 | .neq=>some (.bool !(a == b))
 | .lss=>some (.bool (Op.bytesLess a b))
 | .leq=>some (.bool (Op.bytesLess a b || a == b))
 | .gtr=>some (.bool !(Op.bytesLess a b || a == b))
 | .geq=>some (.bool !(Op.bytesLess a b))
 | _=>none
def Xl9 (t:TypeId) (cs:List AV) (off:Nat):Option AV :=
 match aggT P t with
 | some true=>(szT P t).bind fun s=>if off+s≤cs.length then some (.agg ((cs.drop off).take s)) else none
 | some false=>cs[off]?
 | none=>none
mutual
/-- Are two values of a type one? -/
def eqA (P:Program):Nat→TypeId→AV→AV→Option Bool
 | 0,_,_,_=>none
 | d+1,t,x,y=>match P.underlying t,x,y with
  | some .bool,.bool a,.bool b=>some (a == b)
  | some (.int _),.int k a,.int j b=>if k=j then some (a == b) else none
  | some .string,.str a,.str b=>some (a == b)
  | some (.struct fields),.agg xs,.agg ys=>if P.stoodInHeld t then none else eqFA P d fields.toList xs ys
  | _,_,_=>none
def eqFA (P:Program):Nat→List Field→List AV→List AV→Option Bool
 | _,[],_,_=>some true
 | 0,_::_,_,_=>none
 | d+1,f::fs,xs,ys =>
  if f.name = "_" then eqFA P d fs xs ys
  else match Xl9 P f.type xs f.offset,Xl9 P f.type ys f.offset with
  | some a,some b=>match eqA P d f.type a b with
   | some true=>eqFA P d fs xs ys
   | r=>r
  | _,_=>none
end
def Xkr:AV→Option Bool
 | .nilP=>some true
 | .ptr _ _ _=>some false
 | .iptr (_::_)=>some false
 | _=>none
def Xrd:AV→Option Bool
 | .nilS=>some true
 | .slc _ _ _ _ _=>some false
 | .lst _ (_::_)=>some false
 | _=>none
def Xl6:AV→Option Bool
 | .nilM=>some true
 | .map _=>some false
 | _=>none
def Xu5:AV→Option Bool
 | .nilF=>some true
 | .fn _ _=>some false
 | _=>none
def Xrk:AV→Option Bool
 | .nilI=>some true
 | .iface _ _=>some false
 | _=>none
def Xu8 (t:TypeId) (x y:AV):Option Bool :=
 match P.underlying t,y with
 | some (.pointer _),.nilP=>Xkr x
 | some (.slice _),.nilS=>Xrd x
 | some (.map _ _),.nilM=>Xl6 x
 | some (.func _ _ _),.nilF=>Xu5 x
 | some (.interface _),.nilI=>Xrk x
 | some (.struct _),.agg ys=>if P.eqGuardType P.depth t then none else eqA P 60 t x (.agg ys)
 | some .bool,.bool b=>eqA P 1 t x (.bool b)
 | _,_=>none
def Xgz (x y:Operand) (a b:AV):Bool:=match a,b with
 | .nilI,.nilI=>(match x with | .const _=>true | _=>false) || (match y with | .const _=>true | _=>false)
 | _,_=>true
def Xmv (op:BinOp) (k j:IntKind) (a b:Int):Option AV :=
 match op with
 | .shl=>Xlf .shl k a b
 | .shr=>Xlf .shr k a b
 | op=>if k=j then Xns op k a b else none
def cmpA (op:BinOp) (t:TypeId) (x y:AV):Option AV :=
 match op with
 | .eql=>(Xu8 P t x y).map .bool
 | .neq=>(Xu8 P t x y).map fun b=>.bool !b
 | _=>none
def Xxs (op:BinOp) (t:TypeId) (x y:AV):Option AV :=
 match x,y with
 | .int k a,.int j b=>Xmv op k j a b
 | .str a,.str b=>Xyn op a b
 | x,y=>cmpA P op t x y
def unA (op:UnOp) (x:AV):Option AV :=
 match op,x with
 | .neg,.int k n=>some (.int k (k.wrap (0-n)))
 | .xor,.int k n=>Xns .xor k (if k.signed then -1 else k.max) n
 | .not,.bool b=>some (.bool !b)
 | _,_=>none
def Xal (s:List UInt8):List AV:=s.map fun b=>.int .u8 b.toNat
def Xwy:AV→Option UInt8
 | .int .u8 n=>if 0≤n∧n<256 then some (UInt8.ofNat n.toNat) else none
 | _=>none
def Xe3:List AV→Option (List UInt8)
 | []=>some []
 | c::cs=>match Xwy c,Xe3 cs with
  | some b,some bs=>some (b::bs)
  | _,_=>none
def Xcd (H:Mem) (sz:Nat):AV→Option (Nat × List AV)
 | .nilS=>some (0,[])
 | .lst n cs=>if cs.length=n*sz then some (n,cs) else none
 | .slc id off len s st=>match H[id]? with
  | some (.row cs st' _)=>if st=st'∧s=sz∧off+len*sz≤cs.length then some (len,(cs.drop off).take (len*sz)) else none
  | _=>none
 | _=>none
def Xnr (H:Mem) (src dst:TypeId) (x:AV):Option (AV × Mem) :=
 match P.underlying src,P.underlying dst,x with
 | some _,some (.int k),.int _ n=>some (.int k (k.wrap n),H)
 | some _,some .string,.int _ n=>some (.str (Utf8.encode n).data.toList,H)
 | some _,some .string,.str s=>some (.str s,H)
 | some .string,some (.slice e),.str s=>match P.underlying e with
  | some (.int .u8)=>if s.length≤2 ^ 40 then some (.slc H.length 0 s.length 1 0,H++[.row (Xal s) 0 (e+1)]) else none
  | _=>none
 | some (.slice _),some (.slice e),.slc id off len sz st=>match P.underlying e with
  | some (.int .u8)=>match H[id]? with
   | some (.row cs st' ty)=>if st=st'∧src=dst∧0<len then some (.slc id off len sz st,H) else none
   | _=>none
  | _=>none
 | some (.slice e),some .string,x=>match P.underlying e with
  | some (.int .u8)=>(Xcd H 1 x).bind fun p=>(Xe3 p.2).map fun s=>(.str s,H)
  | _=>none
 | some (.pointer t),some .unsafePointer,.ptr id off st=>match H[id]? with
  | some (.row cs st' _)=>if st=st'∧off<cs.length∧((P.info? t).map fun j=>decide (j.size≠0))=some true then some (.ptr id off st,H) else none
  | _=>none
 | some .unsafePointer,some (.pointer u),.ptr id off st=>match H[id]? with
  | some (.row cs st' (T+1))=>if st=st'∧(P.info? u).isSome=true∧liesAt P P.depth T (cs.length / P.cellsOf T) off u 1=true then some (.ptr id off st,H) else none
  | _=>none
 | _,_,_=>none
def Xfb:AV→Option Nat
 | .int _ n=>if 0≤n then some n.toNat else none
 | _=>none
def Xmn (t:TypeId) (x i:AV):Option AV :=
 (Xfb i).bind fun i=>match P.underlying t,x with
 | some (.slice e),.slc id off len s st=>if i<len∧szT P e=some s then some (.ptr id (off+i*s) st) else none
 | some (.slice e),.lst len cs=>(szT P e).bind fun s=>if i<len∧i*s+s≤cs.length∧0<s then some (.iptr (cs.drop (i*s))) else none
 | some (.array len e),.ptr id off st=>(szT P e).bind fun s=>if i<len then some (.ptr id (off+i*s) st) else none
 | some (.array len e),.iptr cs=>(szT P e).bind fun s=>if i<len∧i*s+s≤cs.length∧0<s then some (.iptr (cs.drop (i*s))) else none
 | _,_=>none
def ixA (t:TypeId) (x i:AV):Option AV :=
 (Xfb i).bind fun i=>match P.underlying t,x with
 | some .string,.str s=>(s[i]?).map fun b=>.int .u8 b.toNat
 | some (.array len e),.agg cs=>if i<len then (szT P e).bind fun s=>Xl9 P e cs (i*s) else none
 | _,_=>none
def Xdn (dflt:Nat):Option AV→Option Nat
 | none=>some dflt
 | some v=>Xfb v
def Xko (H:Mem) (t:TypeId) (x:AV) (lo hi:Option AV):Option AV :=
 (Xdn 0 lo).bind fun l=>match P.underlying t,x with
 | some .string,.str s=>(Xdn s.length hi).bind fun h=>if l≤h∧h≤s.length then some (.str ((s.drop l).take (h-l))) else none
 | some (.slice e),.slc id off len s st=>(Xdn len hi).bind fun h=>if l≤h∧h≤len∧szT P e=some s then some (.slc id (off+l*s) (h-l) s st) else none
 | some (.slice e),.lst len cs=>(szT P e).bind fun s=>(Xdn len hi).bind fun h =>
  if l≤h∧h≤len∧cs.length=len*s then some (.lst (h-l) ((cs.drop (l*s)).take ((h-l)*s))) else none
 | some (.slice e),.nilS=>(szT P e).bind fun _=>(Xdn 0 hi).bind fun h=>if l=0∧h=0 then some .nilS else none
 | some (.array n e),.ptr id off st=>(szT P e).bind fun s=>(Xdn n hi).bind fun h =>
  match H[id]? with
  | some (.row cs st' _)=>if l≤h∧h≤n∧st=st'∧off+n*s≤cs.length then some (.slc id (off+l*s) (h-l) s st) else none
  | _=>none
 | _,_=>none
def Xip (t:TypeId) (x:AV) (lo:Option AV) (hi mx:AV):Option AV :=
 (Xfb mx).bind fun m=>(Xfb hi).bind fun h=>(Xdn 0 lo).bind fun l=>match P.underlying t,x with
 | some (.slice e),.slc id off len sz st=>if l≤h∧h≤m∧m≤len∧szT P e=some sz then some (.slc id (off+l*sz) (h-l) sz st) else none
 | some (.slice e),.nilS=>if l=0∧h=0∧m=0∧(szT P e).isSome then some .nilS else none
 | _,_=>none
def Xh5 (s:TypeId) (x:AV) (i:Nat):Option AV :=
 match P.underlying s with
 | some (.struct fields)=>(fields[i]?).bind fun f=>match szT P f.type,x with
  | some (_+1),.ptr id off st=>some (.ptr id (off+f.offset) st)
  | some (_+1),.iptr cs=>if f.offset<cs.length then some (.iptr (cs.drop f.offset)) else none
  | _,_=>none
 | _=>none
def Xrr (t:TypeId) (x:AV) (i:Nat):Option AV :=
 match P.underlying t,x with
 | some (.struct fields),.agg cs=>(fields[i]?).bind fun f=>Xl9 P f.type cs f.offset
 | _,_=>none
def Xdz:AV→Option AV
 | .ptr id off st=>some (.ptr id off st)
 | .iptr (c::cs)=>some (.iptr (c::cs))
 | .fn (.func f) cs=>some (.fn (.func f) cs)
 | .map id=>some (.map id)
 | _=>none
def Xt2:TypeDesc→AV→AV→Option Bool
 | .int _,.int k a,.int j b=>if k=j then some (a == b) else none
 | .string,.str a,.str b=>some (a == b)
 | .bool,.bool a,.bool b=>some (a == b)
 | _,_,_=>none
def Xnt (d:TypeDesc) (k:AV):List (AV × AV)→Nat→Option (Option (Nat × AV))
 | [],_=>some none
 | e::es,i=>match Xt2 d k e.1 with
  | some true=>some (some (i,e.2))
  | some false=>Xnt d k es (i+1)
  | none=>none
def Xtn:TypeDesc→AV→Bool
 | .int k,.int j _=>k == j
 | .string,.str _=>true
 | .bool,.bool _=>true
 | _,_=>false
def Xqu (H:Mem) (t:TypeId) (m k:AV) (ok:Bool):Option AV :=
 match P.underlying t with
 | some (.map key elem)=>(P.underlying key).bind fun d =>
  (match m with
   | .nilM=>some []
   | .map id=>match H[id]? with
    | some (.map es)=>some es
    | _=>none
   | _=>none).bind fun es =>
  if Xtn d k then
   (Xnt d k es 0).bind fun r=>match r with
   | some (_,v)=>some (if ok then .tup [v,.bool true] else v)
   | none=>(Xfz P elem).map fun z=>if ok then .tup [z,.bool false] else z
  else none
 | _=>none
def Xj0 (H:Mem) (t:TypeId) (m k v:AV):Option Mem :=
 match P.underlying t,m with
 | some (.map key _),.map id=>(P.underlying key).bind fun d=>match H[id]? with
  | some (.map es)=>if Xtn d k then
    (Xnt d k es 0).map fun r=>match r with
    | some (i,_)=>H.set id (.map (es.set i (k,v)))
    | none=>H.set id (.map (es++[(k,v)]))
   else none
  | _=>none
 | _,_=>none
def Xhx (H:Mem) (t:TypeId) (len cap:AV):Option (AV × Mem) :=
 match P.underlying t,len,cap with
 | some (.slice elem),.int .i64 l,.int .i64 c=>(P.info? elem).bind fun i=>(Xfz P elem).bind fun z =>
  if 0≤l∧l≤c∧c≤2 ^ 30∧i.bytes≤2 ^ 10∧Xev z=true∧z.cells.length=i.size then some (.slc H.length 0 l.toNat i.size 0,H++[.row (Xe0 z.cells l.toNat) 0 (elem+1)]) else none
 | _,_,_=>none
def Xmz (x:AV) (asserted:TypeId) (ok:Bool):Option AV :=
 match P.underlying asserted,x with
 | some (.interface _),_=>none
 | some _,.nilI=>if ok then (Xfz P asserted).map fun z=>.tup [z,.bool false] else none
 | some _,.iface t v=>if t=asserted then some (if ok then .tup [v,.bool true] else v) else if ok then (Xfz P asserted).map fun z=>.tup [z,.bool false] else none
 | _,_=>none
def Xso (t:TypeId) (n:Nat):Bool:=match Xfz P t with
 | some z=>Xev z && z.cells.length == n
 | none=>false
def Xfu (H:Mem) (sz:Nat) (x:AV):Option (Nat × List AV) :=
 match x with
 | .str b=>if sz=1 then some (b.length,Xal b) else none
 | x=>Xcd H sz x
def srcT (xt:Option TypeId):Bool:=match xt with
 | some t=>match P.underlying t with
  | some (.slice _)=>true
  | some .string=>true
  | _=>false
 | none=>false
def Xgu (H:Mem) (elem:TypeId) (size n:Nat) (new:List AV):AV→Option (AV × Mem)
 | .nilS=>if n=0 then some (.nilS,H) else if n≤2 ^ 34 then some (.slc H.length 0 n size 0,H++[.row new 0 (elem+1)]) else none
 | .slc id off len sz st=>match H[id]? with
  | some (.row cs st' ty)=>if st=st'∧off=0∧sz=size∧cs.length=len*sz∧len+n≤2 ^ 34 then some (.slc id 0 (len+n) sz (st+1),H.set id (.row (cs++new) (st+1) (if ty=elem+1 then elem+1 else 0))) else none
  | _=>none
 | _=>none
def Xqi (H:Mem) (t:TypeId) (xt:Option TypeId) (s x:AV):Option (AV × Mem) :=
 match P.underlying t with
 | some (.slice elem)=>(P.info? elem).bind fun i=>if srcT P xt=true then
   (Xfu H i.size x).bind fun p=>if p.2.all AV.one=true∧i.bytes≤2 ^ 10∧Xso P elem i.size=true then Xgu H elem i.size p.1 p.2 s else none
  else none
 | _=>none
def copyA (H:Mem) (t:TypeId) (d x:AV):Option (AV × Mem) :=
 match P.underlying t with
 | some (.slice elem)=>(szT P elem).bind fun s =>
  (Xfu H s x).bind fun p=>match d with
  | .slc id off len sz st=>match H[id]? with
   | some (.row cs st' ty) =>
    if st=st'∧sz=s∧off+len*sz≤cs.length∧(p.2.take (min p.1 len*s)).all AV.one∧len<2 ^ 60 then some (.int .i64 (min p.1 len:Nat),H.set id (.row (Xd4 cs off (p.2.take (min p.1 len*s))) st ty)) else none
   | _=>none
  | _=>none
 | _=>none
def lenA (H:Mem) (t:TypeId) (x:AV):Option AV :=
 match P.underlying t,x with
 | some .string,.str s=>some (.int .i64 s.length)
 | some (.slice _),.slc _ _ n _ _=>some (.int .i64 n)
 | some (.slice _),.lst n _=>some (.int .i64 n)
 | some (.slice _),.nilS=>some (.int .i64 0)
 | some (.array n _),_=>some (.int .i64 n)
 | some (.map _ _),.nilM=>some (.int .i64 0)
 | some (.map _ _),.map id=>match H[id]? with
  | some (.map es)=>some (.int .i64 es.length)
  | _=>none
 | _,_=>none
def Xkg:Option AV→AV→Option AV
 | some (.int k a),.int _ b=>some (.int k (if b<a then b else a))
 | _,_=>none
def Xgp:Option AV→AV→Option AV
 | some (.int k a),.int _ b=>some (.int k (if b>a then b else a))
 | _,_=>none
def minA:List AV→Option AV
 | []=>none
 | x::rest=>rest.foldl Xkg (some x)
def maxA:List AV→Option AV
 | []=>none
 | x::rest=>rest.foldl Xgp (some x)
def Xwh (H:Mem) (t:TypeId) (x:AV):Option (AV × Mem) :=
 match P.underlying t,x with
 | some .string,.str s=>some (.ptr H.length 0 0,H++[.siter s 0])
 | some (.map _ _),.map m=>match H[m]? with
  | some (.map [])=>some (.ptr H.length 0 0,H++[.miter m 2])
  | some (.map [_])=>some (.ptr H.length 0 0,H++[.miter m 0])
  | _=>none
 | _,_=>none
def nextA (H:Mem) (it:AV) (isString:Bool):Option (AV × Mem) :=
 match it,isString with
 | .ptr id 0 _,true=>match H[id]? with
  | some (.siter s pos) =>
   if pos<s.length then
    let r:=Utf8.decode ⟨s.toArray⟩ pos
    some (.tup [.bool true,.int .i64 pos,.int .i32 r.1],H.set id (.siter s (pos+r.2)))
   else some (.tup [.bool false],H)
  | _=>none
 | .ptr id 0 _,false=>match H[id]? with
  | some (.miter m k)=>match H[m]?,k with
   | some (.map [e]),0=>some (.tup [.bool true,e.1,e.2],H.set id (.miter m 1))
   | some (.map [_]),1=>some (.tup [.bool false],H)
   | some (.map []),2=>some (.tup [.bool false],H)
   | _,_=>none
  | _=>none
 | _,_=>none
def Xw3 (H:Mem) (it:AV):Option AV :=
 match it with
 | .ptr id 0 _=>match H[id]? with
  | some (.miter m 1)=>match H[m]? with
   | some (.map [e])=>some (.tup [e.1,e.2])
   | _=>none
  | _=>none
 | _=>none
def Xf2:AV→Option AV
 | .nilS=>some .nilP
 | .slc id off len _ st=>if 0<len then some (.ptr id off st) else none
 | _=>none
def Xgd (H:Mem) (ts:List TypeId) (p n:AV):Option (AV × Mem) :=
 match ts,p,n with
 | [_,_],.nilP,.int .i64 0=>some (.str [],H)
 | [pt,_],.ptr id 0 st,.int .i64 n=>match H[id]?,P.underlying pt with
  | some (.row cs st' (T+1)),some (.pointer e)=>if st=st'∧e=T∧P.cellsOf e=1∧0<n∧n.toNat≤cs.length∧n<2 ^ 60 then (Xe3 (cs.take n.toNat)).map fun s=>(.str s,H.set id (.row [] (st+1) 0)) else none
  | _,_=>none
 | _,_,_=>none
inductive Res1 where
 | val (v:AV) (H:Mem)
 | pan (v:AV)
 | call (f:FuncId) (args:List AV)
 | dfr (f:AV) (args:List AV)
def Xbe (r:Option AV) (H:Mem):Option Res1:=r.map fun v=>.val v H
def Xlc (r:Option (AV × Mem)):Option Res1:=r.map fun p=>.val p.1 p.2
def mkM (r:Option Mem):Option Res1:=r.map fun H=>.val (.tup []) H
def Xc0 (H:Mem) (b:Builtin) (ts:Array TypeId) (args:List AV):Option Res1 :=
 match b,args with
 | .len,[x]=>(ts[0]?).bind fun t=>Xbe (lenA P H t x) H
 | .append,[s,x]=>(ts[0]?).bind fun t=>Xlc (Xqi P H t ts[1]? s x)
 | .copy,[d,x]=>(ts[0]?).bind fun t=>Xlc (copyA P H t d x)
 | .min,xs=>Xbe (minA xs) H
 | .max,xs=>Xbe (maxA xs) H
 | .unsafeSliceData,[x]=>Xbe (Xf2 x) H
 | .unsafeString,[p,n]=>Xlc (Xgd P H ts.toList p n)
 | _,_=>none
def Xa1 (f:FuncId):Bool:=match P.funcs[f]? with
 | some fn=>fn.body.isSome && fn.name != "runtime.NumGoroutine"
 | none=>false
def noEsc (f:FuncId):Bool:=match P.funcs[f]? with
 | some fn=>fn.body.isNone && fn.name == "internal/abi.NoEscape" && (Extern.findNext fn).isNone
 | none=>false
def Xot (H:Mem) (op:BinOp) (t:TypeId) (i o s j p q:Nat):Option Res1:=match P.underlying t,H[i]? with
 | some (.pointer e),some (.row _ st _)=>if i=j∧s=st∧q=st∧o=p∧(szT P e).isSome then (match op with
  | .eql=>some (.val (.bool true) H)
  | .neq=>some (.val (.bool false) H)
  | _=>none) else none
 | _,_=>none
def Xar (ρ:Operand→AV) (o:Oper) (H:Mem):Option Res1 :=
 match o.op with
 | .move x | .assign x=>some (.val (ρ x) H)
 | .pick c a b=>match ρ c with
  | .bool t=>some (.val (if t then ρ a else ρ b) H)
  | _=>none
 | .alloc elem=>(Xfz P elem).bind fun z=>if Xev z then some (.val (newA H elem z.cells).1 (newA H elem z.cells).2) else none
 | .box T x=>if Xev (ρ x) then some (.val (newA H T (ρ x).cells).1 (newA H T (ρ x).cells).2) else none
 | .build t parts=>Xbe (Xrp P t (parts.toList.map fun p=>(p.1,ρ p.2))) H
 | .buildSlice t n parts=>Xlc (Xe6 P H t n (parts.toList.map fun p=>(p.1,ρ p.2)))
 | .load t a=>Xbe (Xqd P H t (ρ a)) H
 | .store t a x=>mkM (Xth P H t (ρ a) (ρ x))
 | .nilCheck x=>Xbe (Xdz (ρ x)) H
 | .binOp op t x y _=>match ρ x,ρ y with
  | .ptr i o s,.ptr j p q=>Xot P H op t i o s j p q
  | a,b=>if Xgz x y a b then Xbe (Xxs P op t a b) H else none
 | .unOp op _ x=>Xbe (unA op (ρ x)) H
 | .convert s d x=>Xlc (Xnr P H s d (ρ x))
 | .makeInterface t x=>match P.underlying t with
  | some (.interface _)=>none
  | some _=>some (.val (.iface t (ρ x)) H)
  | none=>none
 | .makeFunc f first cap=>if first.size=0 then some (.val (.fn f (cap.toList.map ρ)) H) else none
 | .makeMap _ none=>some (.val (.map H.length) (H++[.map []]))
 | .makeSlice t l c=>Xlc (Xhx P H t (ρ l) (ρ c))
 | .slice t x lo hi none=>Xbe (Xko P H t (ρ x) (lo.map ρ) (hi.map ρ)) H
 | .fieldAddr s x i=>Xbe (Xh5 P s (ρ x) i) H
 | .field t x i=>Xbe (Xrr P t (ρ x) i) H
 | .indexAddr t x i=>Xbe (Xmn P t (ρ x) (ρ i)) H
 | .index t x i=>Xbe (ixA P t (ρ x) (ρ i)) H
 | .lookup t x i ok=>Xbe (Xqu P H t (ρ x) (ρ i) ok) H
 | .mapUpdate t m k v=>mkM (Xj0 P H t (ρ m) (ρ k) (ρ v))
 | .range t x=>Xlc (Xwh P H t (ρ x))
 | .next it s=>Xlc (nextA H (ρ it) s)
 | .typeAssert x _ a ok=>Xbe (Xmz P (ρ x) a ok) H
 | .extract t i=>match ρ t with
  | .tup vs=>Xbe vs[i]? H
  | _=>none
 | .panic x=>match ρ x with
  | .iface t v=>some (.pan (.iface t v))
  | _=>none
 | .call c=>match c.callee with
  | .builtin b=>Xc0 P H b c.argTypes (c.args.toList.map ρ)
  | .value f=>match ρ f with
   | .fn (.func k) cap=>if Xa1 P k then some (.call k (c.args.toList.map ρ++cap)) else if noEsc P k then (match c.args.toList.map ρ,cap with
    | [x],[]=>some (.val x H)
    | _,_=>none) else none
   | _=>none
  | _=>none
 | .defer c=>match c.callee with
  | .value f=>match ρ f with
   | .fn (.func k) cap=>some (.dfr (.fn (.func k) cap) (c.args.toList.map ρ))
   | _=>none
  | _=>none
 | .insert t m k v=>mkM (Xj0 P H t (ρ m) (ρ k) (ρ v))
 | .slice t x lo (some hi) (some mx)=>Xbe (Xip P t (ρ x) (lo.map ρ) (ρ hi) (ρ mx)) H
 | .entry it=>Xbe (Xw3 H (ρ it)) H
 | _=>none
inductive Out where
 | normal
 | exit (id:Nat)
 | ret
 | pan (v:AV)
inductive End where
 | ret (v:AV)
 | pan (v:AV)
abbrev Xc5:=FuncId→List AV→Mem→Option (End × Mem)
def Xdf (ops:Array Oper) (a:AAct) (o:Oper):Option Bool :=
 match o.guard with
 | none=>some true
 | some (j,want)=>match (ops[j]?).bind (·.dst) with
  | none=>some false
  | some d=>match Xad a.t d with
   | .bad=>none
   | .bool b=>some (b == want)
   | _=>some false
variable (F:Xc5)
def Xnm (ops:Array Oper) (o:Oper) (a:AAct) (H:Mem):Option (Out × AAct × Mem) :=
 match Xdf ops a o with
 | none=>none
 | some false=>some (.normal,a.put o.dst (.tup []),H)
 | some true=>match Xar P (a.eval g) o H with
  | none=>none
  | some (.val v H')=>some (.normal,a.put o.dst v,H')
  | some (.pan v)=>some (.pan v,a,H)
  | some (.dfr f args)=>some (.normal,{ a with d:=(f,args)::a.d }.put o.dst (.tup []),H)
  | some (.call f args)=>match F f args H with
   | some (.ret v,H')=>some (.normal,a.put o.dst v,H')
   | some (.pan v,H')=>some (.pan v,a,H')
   | none=>none
def opsA (ops:Array Oper):List Oper→AAct→Mem→Option (Out × AAct × Mem)
 | [],a,H=>some (.normal,a,H)
 | o::rest,a,H=>match Xnm P g F ops o a H with
  | some (.normal,a',H')=>opsA ops rest a' H'
  | r=>r
end
end Go.Proofs.YtmhhddhbdbcmbaaGreatDoor.Ev
