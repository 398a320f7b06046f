/- Parts of one proof. -/
import Derived.Test.YtmhhddhbdbcmbaaGreatDoorMaa
set_option linter.all false
namespace Go.Proofs.YtmhhddhbdbcmbaaGreatDoor.Ev
def AAct.keepT (l:List Tmp) (a:AAct):AAct:={ a with t:=l.map fun i=>(i,Xad a.t i) }
def Xto (n:Nat) (t:List (Nat × AV)):Bool:=t.all fun p=>low n p.2
def lowD (n:Nat) (d:List (AV × List AV)):Bool:=d.all fun p=>low n p.1 && lowL n p.2
def Xce (H0 H:Mem):Bool:=eqM (H.take H0.length) H0 || Xb6 H0.length (H.take H0.length)
def Xbk (live:Option (List Tmp)) (H0:Mem) (a:AAct) (H:Mem):AAct × Mem :=
 match live with
 | none=>(a,H)
 | some l=>if Xto H0.length (a.keepT l).t && lowD H0.length a.d && Xce H0 H then (a.keepT l,H.take H0.length) else (a.keepT l,H)
def Xa6 (body:AAct→Mem→Option (Out × AAct × Mem)) (live:Option (List Tmp)):Nat→AAct→Mem→Option (Out × AAct × Mem)
 | 0,_,_=>none
 | n+1,a,H=>match body a H with
  | some (.normal,a',H')=>Xa6 body live n (Xbk live H a' H').1 (Xbk live H a' H').2
  | r=>r
def Xue:Code→Nat
 | .region id _ _=>id
 | .seq x _=>Xue x
 | .block _ c=>Xue c
 | .loop c=>Xue c
 | _=>0
section
variable (P:Program) (g:Cfg) (F:Xc5)
def Xie (acc:List Nat) (o:Oper):Nat:=o.after.toList.foldr (fun e s=>if Region.binds .any e then (s ||| 2 ^ e.on) ||| acc.getD e.on 0 else s) 0
def Xp8:List Oper→List Nat→List Nat
 | [],acc=>acc
 | o::l,acc=>Xp8 l (acc++[Xie acc o])
def Xe9 (ops:Array Oper) (o:Oper):List Tmp :=
 (o.op.operands.toList.filterMap fun | .tmp t=>some t | _=>none)++(match o.guard with | some (j,_)=>((ops[j]?).bind (·.dst)).toList | none=>[])
def Xro (ops:Array Oper) (x y:Oper):Bool :=
 (match x.dst with
  | some d=>!(Xe9 ops y).contains d && y.dst != some d
  | none=>true) &&
 (match y.dst with
  | some d=>!(Xe9 ops x).contains d
  | none=>true)
def Xpr (ops:Array Oper):List (Nat × Oper × Nat)→Bool
 | []=>true
 | (j,x,_)::l=>l.all (fun q=>Xro ops x q.2.1 || q.2.2.testBit j) && Xpr ops l
def Xa2 (ops:Array Oper):List (Nat × Oper × Nat):=(List.range ops.size).zip (ops.toList.zip (Xp8 ops.toList []))
def Xqh:Nat→List Oper→Bool
 | _,[]=>true
 | i,o::l=>o.after.all (fun e=>!Region.binds .any e || decide (e.on<i)) && Xqh (i+1) l
def Xif (ops:Array Oper):Bool:=Xqh 0 ops.toList && Xpr ops (Xa2 ops)
def Xbp (o:Oper):Bool:=match o.op with
 | .move _ | .assign _ | .pick _ _ _ | .build _ _ | .unOp _ _ _ | .makeInterface _ _ | .makeFunc _ _ _ | .fieldAddr _ _ _ | .field _ _ _ | .indexAddr _ _ _ | .index _ _ _ | .typeAssert _ _ _ _ | .extract _ _=>true
 | .binOp op _ _ _ _=>(match op with
  | .eql | .neq=>false
  | _=>true)
 | _=>false
def isConst:Operand→Bool
 | .const _=>true
 | _=>false
def constA:Operand→AV
 | .const v=>ofV v
 | _=>.bad
def Xaz (o:Oper):Bool:=match o.op with
 | .alloc _=>true
 | .buildSlice _ _ parts=>parts.all fun p=>isConst p.2
 | _=>false
def resv (o:Oper):Option (List AV × Nat × Option (Nat × Nat)):=match o.op with
 | .alloc elem=>(Xfz P elem).bind fun z=>if Xev z then some (z.cells,elem,none) else none
 | .buildSlice t n parts=>match P.underlying t with
  | some (.slice elem)=>(szT P elem).bind fun s=>(Xfz P elem).bind fun z=>if z.cells.length=s∧Xev z=true∧n*s≤2 ^ 24 then (Xhs (Xjg s) (Xe0 z.cells n) (parts.toList.map fun p=>(p.1,constA p.2))).map fun cs=>(cs,elem,some (n,s)) else none
  | _=>none
 | _=>none
def resvV (id:Nat):Option (Nat × Nat)→AV
 | none=>.ptr id 0 0
 | some (n,s)=>.slc id 0 n s 0
def Xcg:List Oper→Option Mem
 | []=>some []
 | o::l=>if Xaz o then (resv P o).bind fun q=>(Xcg l).map fun H=>.row q.1 0 (q.2.1+1)::H else Xcg l
def Xea (ops:Array Oper) (id:Nat) (o:Oper) (a:AAct) (H:Mem):Option (AV × Mem) :=
 match Xdf ops a o with
 | none=>none
 | some false=>some (.tup [],H)
 | some true=>if Xaz o then (resv P o).bind fun q=>(match H[id]? with
   | some b=>if eqB b (.row q.1 0 (q.2.1+1)) then some (resvV id q.2.2,H) else none
   | none=>none)
  else match Xar P (a.eval g) o H with
   | some (.val v H')=>some (v,H')
   | some (.call f args)=>match F f args H with
    | some (.ret v,H')=>some (v,H')
    | _=>none
   | _=>none
def Xyo (ops:Array Oper):Nat→List Oper→AAct→Mem→Option (List (AV × Mem))
 | _,[],_,_=>some []
 | id,o::l,a,H=>match Xea P g F ops id o a H with
  | some (v,H')=>(Xyo ops (if Xaz o then id+1 else id) l (a.put o.dst v) H').map fun tr=>(v,H')::tr
  | none=>none
def Xai (tr:List (AV × Mem)) (H:Mem):Nat→Mem
 | 0=>H
 | k+1=>match tr[k]? with
  | some p=>p.2
  | none=>[]
def Xbz (l:List Oper) (k:Nat):Nat:=((l.take k).filter Xaz).length
def Xkx (ro:Nat→Oper→Mem→Bool) (tab:List (Nat × Oper × Nat)):List (Nat × Oper × Nat)→List (AV × Mem)→Mem→Bool
 | (i,_,b)::l,(_,H')::tr,H=>(eqM H' H || tab.all fun q=>Xbp q.2.1 || q.1 == i || b.testBit q.1 || q.2.2.testBit i || (ro q.1 q.2.1 H && ro q.1 q.2.1 H')) && Xkx ro tab l tr H'
 | _,_,_=>true
def Xcv:List Oper→List (AV × Mem)→AAct→AAct
 | o::l,(v,_)::tr,a=>Xcv l tr (a.put o.dst v)
 | _,_,a=>a
def Xi1 (tr:List (AV × Mem)) (H:Mem):Mem:=(tr.getLast?.map (·.2)).getD H
def roA (ops:Array Oper) (id0:Nat) (a:AAct) (H:Mem) (tr:List (AV × Mem)) (q:Nat) (o:Oper) (M:Mem):Bool :=
 eqM (Xai tr H (q+1)) (Xai tr H q) && match tr[q]?,Xea P g F ops (id0+Xbz ops.toList q) o (Xcv (ops.toList.take q) (tr.take q) a) M with
  | some p,some r=>eqv r.1 p.1 && eqM r.2 M
  | _,_=>false
def twoW (ops:Array Oper):Option (Nat × Nat):=match ((Xa2 ops).filter fun q=>!Xbp q.2.1).reverse with
 | y::x::_=>some (x.1,y.1)
 | _=>none
def twoT (ops:Array Oper) (x y:Nat):Bool:=decide (x<y) && (match (Xa2 ops)[x]?,(Xa2 ops)[y]? with
 | some p,some q=>p.2.1.dst.isNone && (q.2.1.dst.isNone && (!Xaz p.2.1 && (!Xaz q.2.1 && (Xa2 ops).all fun z=>z.1 == x || z.1 == y || Xbp z.2.1 || (p.2.2.testBit z.1 && q.2.2.testBit z.1))))
 | _,_=>false)
def Xq6 (tr:List (AV × Mem)) (M:Mem) (p:Nat):List (AV × Mem):=tr.take p++(tr.drop p).map fun z=>(z.1,M)
def swapA (ops:Array Oper) (id0:Nat) (a:AAct) (H:Mem) (tr:List (AV × Mem)) (x y:Nat):Bool:=match ops[x]?,ops[y]? with
 | some o1,some o2=>match Xea P g F ops (id0+Xbz ops.toList y) o2 (Xcv (ops.toList.take y) (tr.take y) a) (Xai tr H x) with
  | some (_,M)=>match Xea P g F ops (id0+Xbz ops.toList x) o1 (Xcv (ops.toList.take x) (tr.take x) a) M with
   | some (_,M')=>eqM M' (Xi1 tr H)
   | none=>false
  | none=>false
 | _,_=>false
def Xmc (ops:Array Oper) (a:AAct) (H:Mem):Option (Out × AAct × Mem) :=
 if Xif ops then (Xcg P ops.toList).bind fun rows=>(Xyo P g F ops H.length ops.toList a (H++rows)).bind fun tr =>
  if Xkx (roA P g F ops H.length a (H++rows) tr) (Xa2 ops) (Xa2 ops) tr (H++rows) then some (.normal,Xcv ops.toList tr a,Xi1 tr (H++rows)) else match twoW ops with
   | some (x,y)=>if twoT ops x y && (Xkx (roA P g F ops H.length a (H++rows) (Xq6 tr (Xai tr (H++rows) x) x)) (Xa2 ops) (Xa2 ops) (Xq6 tr (Xai tr (H++rows) x) x) (H++rows) && swapA P g F ops H.length a (H++rows) tr x y) then some (.normal,Xcv ops.toList tr a,Xi1 tr (H++rows)) else none
   | none=>none
 else none
def Xx2 (ops:Array Oper) (o:Oper) (a:AAct) (H:Mem):Option (AV × Mem):=match Xnm P g F ops o a H with
 | some (.pan v,_,H')=>some (v,H')
 | _=>none
def Xyq (ops:Array Oper) (n p:Nat) (M:Mem):List (Nat × Oper × Nat)→AAct→Bool
 | [],_=>true
 | (k,o,b)::l,a=>if decide (p<k) && !b.testBit p then (match Xea P g F ops (n+Xbz ops.toList k) o a M with
   | some (v,M')=>eqM M' M && Xyq ops n p M l (a.put o.dst v)
   | none=>false) else Xyq ops n p M l a
def Xyp (l:List Oper) (a:AAct):AAct:=l.foldl (fun a o=>a.put o.dst .bad) a
def panO (ops:Array Oper) (n:Nat) (a0:AAct) (M:Mem):Nat→List Oper→AAct→Option (Out × AAct × Mem)
 | _,[],_=>none
 | p,o::l,a=>match Xea P g F ops (n+Xbz ops.toList p) o a M with
  | some (v,M')=>if eqM M' M then panO ops n a0 M (p+1) l (a.put o.dst v) else none
  | none=>match Xx2 P g F ops o a M with
   | some (v,H')=>if Xyq P g F ops n p M (Xa2 ops) a then some (.pan v,Xyp ops.toList a0,H') else none
   | none=>none
def Xnf (ops:Array Oper) (a:AAct) (H:Mem):Option (Out × AAct × Mem):=match Xmc P g F ops a H with
 | some r=>some r
 | none=>if Xif ops then (Xcg P ops.toList).bind fun rows=>panO P g F ops H.length a (H++rows) 0 ops.toList a else none
def Xbt (fid:FuncId) (N:Nat):Code→AAct→Mem→Option (Out × AAct × Mem)
 | .skip,a,H=>some (.normal,a,H)
 | .label _,a,H=>some (.normal,a,H)
 | .region _ ops draw,a,H=>if draw then Xnf P g F ops a H else opsA P g F ops ops.toList a H
 | .seq x y,a,H=>match Xbt fid N x a H with
  | some (.normal,a',H')=>Xbt fid N y a' H'
  | r=>r
 | .cond c x y,a,H=>match a.eval g c with
  | .bool true=>Xbt fid N x a H
  | .bool false=>Xbt fid N y a H
  | _=>none
 | .block id c,a,H=>match Xbt fid N c a H with
  | some (.exit id',a',H')=>if id'=id then some (.normal,a',H') else some (.exit id',a',H')
  | r=>r
 | .loop c,a,H=>Xa6 (fun a H=>Xbt fid N c a H) (g.live fid (Xue c)) N (match g.live fid (Xue c) with | some l=>a.keepT l | none=>a) H
 | .exit id,a,H=>some (.exit id,a,H)
 | .ret,a,H=>some (.ret,a,H)
 | _,_,_=>none
def Xe7 (a:AAct) (H:Mem):List ResultVar→Option (List AV)
 | []=>some []
 | .tmp t::rs=>(Xe7 a H rs).map fun l=>Xad a.t t::l
 | .cell t ty::rs=>match Xad a.t t with
  | .nilP=>none
  | p=>(Xqd P H ty p).bind fun v=>(Xe7 a H rs).map fun l=>v::l
def resA (fn:Func) (a:AAct) (H:Mem):Option AV:=(Xe7 P a H fn.results.toList).map fun l=>match l with
 | [x]=>x
 | l=>.tup l
end
def Xel (f:AV→Option AV):List AV→Option (List AV)
 | []=>some []
 | c::cs=>match f c,Xel f cs with
  | some x,some xs=>some (x::xs)
  | _,_=>none
def frz (n0:Nat) (H:Mem):Nat→AV→Option AV
 | 0,_=>none
 | k+1,v=>match v with
  | .nilS=>some (.lst 0 [])
  | .agg cs=>(Xel (frz n0 H k) cs).map .agg
  | .tup cs=>(Xel (frz n0 H k) cs).map .tup
  | .iface t v=>(frz n0 H k v).map (.iface t)
  | .slc id off len sz st=>if id<n0 then some (.slc id off len sz st) else match H[id]? with
   | some (.row cs st' _)=>if st=st'∧off+len*sz≤cs.length then (Xel (frz n0 H k) ((cs.drop off).take (len*sz))).map (.lst len) else none
   | _=>none
  | v=>if low n0 v then some v else none
def Xao (keep:Bool) (H0:Mem) (v:AV) (H:Mem):AV × Mem :=
 match (if keep then some v else frz H0.length H 12 v) with
 | some v'=>if low H0.length v' && Xce H0 H then (v',H.take H0.length) else (v,H)
 | none=>(v,H)
def idx (i:Nat):List AV→List (Nat × AV)
 | []=>[]
 | x::xs=>(i,x)::idx (i+1) xs
def Xhm (o:Oper):Bool:=o.guard.isNone && match o.op with
 | .call c=>c.args.isEmpty && (match c.callee with
  | .builtin .recover=>true
  | _=>false)
 | _=>false
def evDef (P:Program) (g:Cfg) (F:Xc5) (N:Nat) (k:FuncId) (args:List AV) (m:Option AV) (H:Mem):Option Mem :=
 match P.funcs[k]? with
 | none=>none
 | some fn=>match fn.body with
  | some (.seq (.region _ ops false) rest)=>match ops.toList with
   | [o]=>if Xhm o then
     match Xbt P g F k N rest ((⟨max args.length fn.ntmps,idx 0 args,[]⟩ : AAct).put o.dst (m.getD .nilI)) H with
     | some (.normal,a,H1)=>if a.d.isEmpty then (resA P fn a H1).map fun _=>H1 else none
     | some (.ret,a,H1)=>if a.d.isEmpty then (resA P fn a H1).map fun _=>H1 else none
     | _=>none
    else none
   | _=>none
  | _=>none
def Xrz (P:Program) (g:Cfg) (F:Xc5) (N:Nat) (fn:Func) (keep:Bool) (H0:Mem) (a:AAct) (m:Option AV) (H1:Mem):Option (End × Mem) :=
 match a.d with
 | [(.fn (.func k) cap,dargs)]=>if Xa1 P k then (evDef P g F N k (dargs++cap) m H1).bind fun H2=>(resA P fn a H2).map fun v=>(.ret (Xao keep H0 v H2).1,(Xao keep H0 v H2).2) else none
 | _=>none
def evF (P:Program) (g:Cfg) (N:Nat):Nat→Xc5
 | 0=>fun _ _ _=>none
 | n+1=>fun f args H=>match g.lib f with
  | some s=>(s args H).map fun p=>(.ret p.1,p.2)
  | none=>match P.funcs[f]? with
   | none=>none
   | some fn=>match fn.body with
    | none=>none
    | some c=>match Xbt P g (evF P g N n) f N c ⟨max args.length fn.ntmps,idx 0 args,[]⟩ H with
     | some (.normal,a,H1)=>if a.d.isEmpty then (resA P fn a H1).map fun v=>(.ret (Xao (g.keep f) H v H1).1,(Xao (g.keep f) H v H1).2) else Xrz P g (evF P g N n) N fn (g.keep f) H a none H1
     | some (.ret,a,H1)=>if a.d.isEmpty then (resA P fn a H1).map fun v=>(.ret (Xao (g.keep f) H v H1).1,(Xao (g.keep f) H v H1).2) else Xrz P g (evF P g N n) N fn (g.keep f) H a none H1
     | some (.pan v,a,H1)=>if a.d.isEmpty then some (.pan (Xao false H v H1).1,(Xao false H v H1).2) else Xrz P g (evF P g N n) N fn (g.keep f) H a (some v) H1
     | _=>none
end Go.Proofs.YtmhhddhbdbcmbaaGreatDoor.Ev
