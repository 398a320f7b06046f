/- Parts of one proof. -/
import Derived.Test.YtmhhddhbdbcmbaaGreatDoorMab
set_option linter.all false
namespace Go.Proofs.YtmhhddhbdbcmbaaGreatDoor.Ev
inductive IArg where
 | tmp (i:Tmp)
 | lit (v:AV)
 | glob (k:Nat)
def Xb4:Operand→IArg
 | .tmp i=>.tmp i
 | .const v=>.lit (ofV v)
 | .global k=>.glob k
 | .func f=>.lit (.fn (.func f) [])
def AAct.evI (g:Cfg) (a:AAct):IArg→AV
 | .tmp i=>Xad a.t i
 | .lit v=>v
 | .glob k=>match g.glob k with
  | some cs=>.iptr cs
  | none=>.bad
inductive IOp where
 | mov (x:IArg)
 | pick (c x y:IArg)
 | new (ty:Nat) (z:List AV)
 | box (ty:Nat) (x:IArg)
 | load1 (a:IArg)
 | loadN (n:Nat) (a:IArg)
 | store (n:Nat) (a x:IArg)
 | faddr (off:Nat) (x:IArg)
 | fld1 (off:Nat) (x:IArg)
 | fldN (off n:Nat) (x:IArg)
 | iaddr (sz:Nat) (x i:IArg)
 | ixs (x i:IArg)
 | bin (op:BinOp) (x y:IArg)
 | un (op:UnOp) (x:IArg)
 | ext (t:IArg) (i:Nat)
 | lenS (x:IArg)
 | lenL (x:IArg)
 | call (f:FuncId) (args:List IArg)
 | conv (k:IntKind) (x:IArg)
 | mkif (t:Nat) (x:IArg)
 | app (elem sz:Nat) (s x:IArg)
 | cut (x:IArg) (lo hi:Option IArg)
 | bld (z:List AV) (parts:List (Nat × Nat × IArg))
 | bldS (ty sz n:Nat) (z:List AV) (parts:List (Nat × Nat × IArg))
 | nilT (neg:Bool) (which:Nat) (x:IArg)
 | eqb (neg:Bool) (x y:IArg)
 | eqS (neg:Bool) (pl:List (Nat × Nat)) (x y:IArg)
 | nchk (x:IArg)
 | iaddrA (len sz:Nat) (x i:IArg)
 | mkfn (f:Fn) (cap:List IArg)
 | callv (f:IArg) (args:List IArg)
 | lkp (d:TypeDesc) (z:AV) (m k:IArg) (ok:Bool)
 | upd (d:TypeDesc) (m k v:IArg)
 | mkm
 | lenM (x:IArg)
 | rngS (x:IArg)
 | nxt (it:IArg) (s:Bool)
 | ent (it:IArg)
 | s2b (e:Nat) (x:IArg)
 | b2s (x:IArg)
 | i2s (x:IArg)
 | cutS (s:Nat) (x:IArg) (lo hi:Option IArg)
 | cutA (n s:Nat) (x:IArg) (lo hi:Option IArg)
 | cut3 (s:Nat) (x:IArg) (lo:Option IArg) (hi mx:IArg)
 | cpy (s:Nat) (d x:IArg)
 | mks (e s:Nat) (z:List AV) (l c:IArg)
 | pan (x:IArg)
 | ptq (neg:Bool) (x y:IArg)
 | asrt (a:TypeId) (z x:IArg) (ok:Bool)
 | mm (mx:Bool) (l:List IArg)
 | raw (o:Oper)
structure IS where
 g:Option (Tmp × Bool)
 dst:Option Tmp
 op:IOp
def Xt0 (cells:List AV):List (Nat × Nat × AV)→Option (List AV)
 | []=>some cells
 | (off,size,v)::rest=>if Xev v=true∧v.cells.length=size∧off+size≤cells.length then Xt0 (Xd4 cells off v.cells) rest else none
def Xg8:Nat→Option AV→Option AV→Option Bool
 | 0,some (.bool a),some (.bool b)=>some (a == b)
 | 1,some (.int k a),some (.int j b)=>if k=j then some (a == b) else none
 | 2,some (.str a),some (.str b)=>some (a == b)
 | _,_,_=>none
def Xhn:List (Nat × Nat)→List AV→List AV→Option Bool
 | [],_,_=>some true
 | (off,w)::pl,xs,ys=>match Xg8 w xs[off]? ys[off]? with
  | some true=>Xhn pl xs ys
  | r=>r
def Xhg:Nat→AV→Option Bool
 | 0=>Xkr
 | 1=>Xrd
 | 2=>Xl6
 | 3=>Xu5
 | _=>Xrk
def Xj1 (d:TypeDesc) (z:AV) (H:Mem) (m k:AV) (ok:Bool):Option AV :=
 (match m with
  | .nilM=>some []
  | .map id=>match H[id]? with
   | some (.map es)=>some es
   | _=>none
  | _=>none).bind fun es =>
 if Xtn d k then
  (Xnt d k es 0).bind fun r=>match r with
  | some (_,v)=>some (if ok then .tup [v,.bool true] else v)
  | none=>some (if ok then .tup [z,.bool false] else z)
 else none
def Xjs (d:TypeDesc) (H:Mem) (m k v:AV):Option Mem :=
 match m with
 | .map id=>match H[id]? with
  | some (.map es)=>if Xtn d k then
    (Xnt d k es 0).map fun r=>match r with
    | some (i,_)=>H.set id (.map (es.set i (k,v)))
    | none=>H.set id (.map (es++[(k,v)]))
   else none
  | _=>none
 | _=>none
def lenMD (H:Mem):AV→Option AV
 | .nilM=>some (.int .i64 0)
 | .map id=>match H[id]? with
  | some (.map es)=>some (.int .i64 es.length)
  | _=>none
 | _=>none
def cutSD (s:Nat) (x:AV) (lo hi:Option AV):Option AV:=(Xdn 0 lo).bind fun l=>match x with
 | .slc id off len sz st=>(Xdn len hi).bind fun h=>if l≤h∧h≤len∧s=sz then some (.slc id (off+l*sz) (h-l) sz st) else none
 | .lst len cs=>(Xdn len hi).bind fun h=>if l≤h∧h≤len∧cs.length=len*s then some (.lst (h-l) ((cs.drop (l*s)).take ((h-l)*s))) else none
 | .nilS=>(Xdn 0 hi).bind fun h=>if l=0∧h=0 then some .nilS else none
 | _=>none
def cutAD (H:Mem) (n s:Nat) (x:AV) (lo hi:Option AV):Option AV:=(Xdn 0 lo).bind fun l=>match x with
 | .ptr id off st=>(Xdn n hi).bind fun h=>match H[id]? with
  | some (.row cs st' _)=>if l≤h∧h≤n∧st=st'∧off+n*s≤cs.length then some (.slc id (off+l*s) (h-l) s st) else none
  | _=>none
 | _=>none
def cut3D (s:Nat) (x:AV) (lo:Option AV) (hi mx:AV):Option AV :=
 (Xfb mx).bind fun m=>(Xfb hi).bind fun h=>(Xdn 0 lo).bind fun l=>match x with
 | .slc id off len sz st=>if l≤h∧h≤m∧m≤len∧s=sz then some (.slc id (off+l*sz) (h-l) sz st) else none
 | .nilS=>if l=0∧h=0∧m=0 then some .nilS else none
 | _=>none
def copyD (H:Mem) (s:Nat) (d x:AV):Option (AV × Mem):=(Xfu H s x).bind fun p=>match d with
 | .slc id off len sz st=>match H[id]? with
  | some (.row cs st' ty) =>
   if st=st'∧sz=s∧off+len*sz≤cs.length∧(p.2.take (min p.1 len*s)).all AV.one∧len<2 ^ 60 then some (.int .i64 (min p.1 len:Nat),H.set id (.row (Xd4 cs off (p.2.take (min p.1 len*s))) st ty)) else none
  | _=>none
 | _=>none
def makeD (H:Mem) (e s:Nat) (z:List AV):AV→AV→Option (AV × Mem)
 | .int .i64 l,.int .i64 c=>if 0≤l∧l≤c∧c≤2 ^ 30 then some (.slc H.length 0 l.toNat s 0,H++[.row (Xe0 z l.toNat) 0 (e+1)]) else none
 | _,_=>none
def Xuu (x:AV) (a:TypeId) (z:AV) (ok:Bool):Option AV:=match x with
 | .nilI=>if ok then some (.tup [z,.bool false]) else none
 | .iface t v=>if t=a then some (if ok then .tup [v,.bool true] else v) else if ok then some (.tup [z,.bool false]) else none
 | _=>none
section
variable (P:Program) (g:Cfg)
def opI (ρ:Operand→AV) (σ:IArg→AV) (o:IOp) (H:Mem):Option Res1 :=
 match o with
 | .mov x=>some (.val (σ x) H)
 | .pick c x y=>match σ c with
  | .bool true=>some (.val (σ x) H)
  | .bool false=>some (.val (σ y) H)
  | _=>none
 | .new ty z=>some (.val (.ptr H.length 0 0) (H++[.row z 0 (ty+1)]))
 | .box ty x=>if Xev (σ x) then some (.val (.ptr H.length 0 0) (H++[.row (σ x).cells 0 (ty+1)])) else none
 | .load1 a=>(Xdc H (σ a) 1).bind fun cs=>Xbe cs[0]? H
 | .loadN n a=>(Xdc H (σ a) n).map fun cs=>.val (.agg cs) H
 | .store n a x=>match σ a with
  | .ptr id off st=>match H[id]? with
   | some (.row cs st' ty)=>if st=st'∧n=(σ x).cells.length∧(σ x).cells.all AV.one=true∧off+(σ x).cells.length≤cs.length then some (.val (.tup []) (H.set id (.row (Xd4 cs off (σ x).cells) st ty))) else none
   | _=>none
  | _=>none
 | .faddr off x=>match σ x with
  | .ptr id o st=>some (.val (.ptr id (o+off) st) H)
  | .iptr cs=>if off<cs.length then some (.val (.iptr (cs.drop off)) H) else none
  | _=>none
 | .fld1 off x=>match σ x with
  | .agg cs=>Xbe cs[off]? H
  | _=>none
 | .fldN off n x=>match σ x with
  | .agg cs=>if off+n≤cs.length then some (.val (.agg ((cs.drop off).take n)) H) else none
  | _=>none
 | .iaddr sz x i=>(Xfb (σ i)).bind fun i=>match σ x with
  | .slc id off len s st=>if i<len∧sz=s then some (.val (.ptr id (off+i*s) st) H) else none
  | .lst len cs=>if i<len∧i*sz+sz≤cs.length∧0<sz then some (.val (.iptr (cs.drop (i*sz))) H) else none
  | _=>none
 | .ixs x i=>(Xfb (σ i)).bind fun i=>match σ x with
  | .str s=>(s[i]?).map fun b=>.val (.int .u8 b.toNat) H
  | _=>none
 | .bin op x y=>match σ x,σ y with
  | .int k a,.int j b=>Xbe (Xmv op k j a b) H
  | .str a,.str b=>Xbe (Xyn op a b) H
  | _,_=>none
 | .un op x=>Xbe (unA op (σ x)) H
 | .ext t i=>match σ t with
  | .tup vs=>Xbe vs[i]? H
  | _=>none
 | .lenS x=>match σ x with
  | .str s=>some (.val (.int .i64 s.length) H)
  | _=>none
 | .lenL x=>match σ x with
  | .slc _ _ n _ _=>some (.val (.int .i64 n) H)
  | .lst n _=>some (.val (.int .i64 n) H)
  | .nilS=>some (.val (.int .i64 0) H)
  | _=>none
 | .call f args=>some (.call f (args.map σ))
 | .conv k x=>match σ x with
  | .int _ n=>some (.val (.int k (k.wrap n)) H)
  | _=>none
 | .mkif t x=>some (.val (.iface t (σ x)) H)
 | .app elem sz s x=>(Xfu H sz (σ x)).bind fun p=>if p.2.all AV.one=true then Xlc (Xgu H elem sz p.1 p.2 (σ s)) else none
 | .cut x lo hi=>(Xdn 0 (lo.map σ)).bind fun l=>match σ x with
  | .str s=>(Xdn s.length (hi.map σ)).bind fun h=>if l≤h∧h≤s.length then some (.val (.str ((s.drop l).take (h-l))) H) else none
  | _=>none
 | .bld z parts=>(Xt0 z (parts.map fun p=>(p.1,p.2.1,σ p.2.2))).map fun cs=>.val (.agg cs) H
 | .bldS ty sz n z parts=>(Xt0 z (parts.map fun p=>(p.1,p.2.1,σ p.2.2))).map fun cs=>.val (.slc H.length 0 n sz 0) (H++[.row cs 0 (ty+1)])
 | .nilT neg w x=>(Xhg w (σ x)).map fun b=>.val (.bool (if neg then !b else b)) H
 | .eqb neg x y=>match σ x,σ y with
  | .bool a,.bool b=>some (.val (.bool (if neg then !(a == b) else a == b)) H)
  | _,_=>none
 | .eqS neg pl x y=>match σ x,σ y with
  | .agg xs,.agg ys=>(Xhn pl xs ys).map fun b=>.val (.bool (if neg then !b else b)) H
  | _,_=>none
 | .nchk x=>Xbe (Xdz (σ x)) H
 | .iaddrA len sz x i=>(Xfb (σ i)).bind fun i=>match σ x with
  | .ptr id off st=>if i<len then some (.val (.ptr id (off+i*sz) st) H) else none
  | .iptr cs=>if i<len∧i*sz+sz≤cs.length∧0<sz then some (.val (.iptr (cs.drop (i*sz))) H) else none
  | _=>none
 | .mkfn f cap=>some (.val (.fn f (cap.map σ)) H)
 | .callv f args=>match σ f with
  | .fn (.func k) cap=>if Xa1 P k then some (.call k (args.map σ++cap)) else none
  | _=>none
 | .lkp d z m k ok=>Xbe (Xj1 d z H (σ m) (σ k) ok) H
 | .upd d m k v=>mkM (Xjs d H (σ m) (σ k) (σ v))
 | .mkm=>some (.val (.map H.length) (H++[.map []]))
 | .lenM x=>Xbe (lenMD H (σ x)) H
 | .rngS x=>match σ x with
  | .str s=>some (.val (.ptr H.length 0 0) (H++[.siter s 0]))
  | _=>none
 | .nxt it s=>Xlc (nextA H (σ it) s)
 | .ent it=>Xbe (Xw3 H (σ it)) H
 | .s2b e x=>match σ x with
  | .str s=>if s.length≤2 ^ 40 then some (.val (.slc H.length 0 s.length 1 0) (H++[.row (Xal s) 0 (e+1)])) else none
  | _=>none
 | .b2s x=>(Xcd H 1 (σ x)).bind fun p=>(Xe3 p.2).map fun s=>.val (.str s) H
 | .i2s x=>match σ x with
  | .int _ n=>some (.val (.str (Utf8.encode n).data.toList) H)
  | _=>none
 | .cutS s x lo hi=>Xbe (cutSD s (σ x) (lo.map σ) (hi.map σ)) H
 | .cutA n s x lo hi=>Xbe (cutAD H n s (σ x) (lo.map σ) (hi.map σ)) H
 | .cut3 s x lo hi mx=>Xbe (cut3D s (σ x) (lo.map σ) (σ hi) (σ mx)) H
 | .cpy s d x=>Xlc (copyD H s (σ d) (σ x))
 | .mks e s z l c=>Xlc (makeD H e s z (σ l) (σ c))
 | .pan x=>match σ x with
  | .iface t v=>some (.pan (.iface t v))
  | _=>none
 | .ptq neg x y=>match σ x,σ y with
  | .ptr i o s,.ptr j p q=>(match H[i]? with
   | some (.row _ st _)=>if i=j∧s=st∧q=st∧o=p then some (.val (.bool !neg) H) else none
   | _=>none)
  | _,_=>none
 | .asrt a z x ok=>Xbe (Xuu (σ x) a (σ z) ok) H
 | .mm mx l=>Xbe (if mx then maxA (l.map σ) else minA (l.map σ)) H
 | .raw o=>Xar P ρ o H
variable (F:Xc5)
def Xya (s:IS) (a:AAct):Option Bool:=match s.g with
 | none=>some true
 | some (d,want)=>match Xad a.t d with
  | .bad=>none
  | .bool b=>some (b == want)
  | _=>some false
def stepI (s:IS) (a:AAct) (H:Mem):Option (Out × AAct × Mem) :=
 match Xya s a with
 | none=>none
 | some false=>some (.normal,a.put s.dst (.tup []),H)
 | some true=>match opI P (a.eval g) (a.evI g) s.op H with
  | none=>none
  | some (.val v H')=>some (.normal,a.put s.dst v,H')
  | some (.pan v)=>some (.pan v,a,H)
  | some (.dfr f args)=>some (.normal,{ a with d:=(f,args)::a.d }.put s.dst (.tup []),H)
  | some (.call f args)=>match F f args H with
   | some (.ret v,H')=>some (.normal,a.put s.dst v,H')
   | some (.pan v,H')=>some (.pan v,a,H')
   | none=>none
def opsI:List IS→AAct→Mem→Option (Out × AAct × Mem)
 | [],a,H=>some (.normal,a,H)
 | s::rest,a,H=>match stepI P g F s a H with
  | some (.normal,a',H')=>opsI rest a' H'
  | r=>r
structure ID where
 s:IS
 rsv:Option (Nat × Nat × List AV × Option (Nat × Nat))
 free:Bool
 conf:List Nat
 lat:List Nat
def valI (s:IS) (a:AAct) (H:Mem):Option (AV × Mem) :=
 match Xya s a with
 | none=>none
 | some false=>some (.tup [],H)
 | some true=>match opI P (a.eval g) (a.evI g) s.op H with
  | some (.val v H')=>some (v,H')
  | some (.call f args)=>match F f args H with
   | some (.ret v,H')=>some (v,H')
   | _=>none
  | _=>none
def Xtw (n:Nat) (d:ID) (a:AAct) (H:Mem):Option (AV × Mem):=match d.rsv with
 | some (k,ty,z,sl)=>match H[n+k]? with
  | some b=>if eqB b (.row z 0 (ty+1)) then some (resvV (n+k) sl,H) else none
  | none=>none
 | none=>valI P g F d.s a H
def Xr7 (n:Nat):List ID→AAct→Mem→Option (List (AV × Mem))
 | [],_,_=>some []
 | d::l,a,H=>match Xtw P g F n d a H with
  | some (v,H')=>(Xr7 n l (a.put d.s.dst v) H').map fun tr=>(v,H')::tr
  | none=>none
def Xpp:List ID→List (AV × Mem)→AAct→AAct
 | d::l,(v,_)::tr,a=>Xpp l tr (a.put d.s.dst v)
 | _,_,a=>a
def roD (n:Nat) (all:List ID) (a0:AAct) (H0:Mem) (tr0:List (AV × Mem)) (q:Nat) (M:Mem):Bool :=
 eqM (Xai tr0 H0 (q+1)) (Xai tr0 H0 q) && match all[q]?,tr0[q]? with
  | some d,some p=>match Xtw P g F n d (Xpp (all.take q) (tr0.take q) a0) M with
   | some r=>eqv r.1 p.1 && eqM r.2 M
   | none=>false
  | _,_=>false
def okD (ro:Nat→Mem→Bool):List ID→List (AV × Mem)→Mem→Bool
 | d::l,(_,H')::tr,H=>(d.free || eqM H' H || d.conf.all fun q=>ro q H && ro q H') && okD ro l tr H'
 | _,_,_=>true
def Xw1 (n:Nat) (l:List ID) (a:AAct) (H:Mem):Option (Out × AAct × Mem) :=
 (Xr7 P g F n l a H).bind fun tr=>if okD (roD P g F n l a H tr) l tr H then some (.normal,Xpp l tr a,Xi1 tr H) else none
def swapD (n x y:Nat) (l:List ID) (a:AAct) (H:Mem) (tr:List (AV × Mem)):Bool:=match l[x]?,l[y]? with
 | some d1,some d2=>match Xtw P g F n d2 (Xpp (l.take y) (tr.take y) a) (Xai tr H x) with
  | some (_,M)=>match Xtw P g F n d1 (Xpp (l.take x) (tr.take x) a) M with
   | some (_,M')=>eqM M' (Xi1 tr H)
   | none=>false
  | none=>false
 | _,_=>false
def Xqx (n x y:Nat) (l:List ID) (a:AAct) (H:Mem):Option (Out × AAct × Mem) :=
 (Xr7 P g F n l a H).bind fun tr=>if okD (roD P g F n l a H tr) l tr H then some (.normal,Xpp l tr a,Xi1 tr H)
  else if okD (roD P g F n l a H (Xq6 tr (Xai tr H x) x)) l (Xq6 tr (Xai tr H x) x) H && swapD P g F n x y l a H tr then some (.normal,Xpp l tr a,Xi1 tr H) else none
def mayPan:IOp→Bool
 | .call _ _ | .callv _ _ | .pan _ | .raw _=>true
 | _=>false
def panD (d:ID) (a:AAct) (M:Mem):Option (AV × Mem):=if d.rsv.isNone && mayPan d.s.op then (match stepI P g F d.s a M with
 | some (.pan v,_,H')=>some (v,H')
 | _=>none) else none
def seqD (n:Nat) (all:List ID) (M:Mem):List Nat→AAct→Bool
 | [],_=>true
 | q::r,a=>match all[q]? with
  | some d=>(match Xtw P g F n d a M with
   | some (v,M')=>eqM M' M && seqD n all M r (a.put d.s.dst v)
   | none=>false)
  | none=>false
def badD (l:List ID) (a:AAct):AAct:=l.foldl (fun a d=>a.put d.s.dst .bad) a
def panI (n:Nat) (all:List ID) (a0:AAct) (M:Mem):List ID→AAct→Option (Out × AAct × Mem)
 | [],_=>none
 | d::l,a=>match Xtw P g F n d a M with
  | some (v,M')=>if eqM M' M then panI n all a0 M l (a.put d.s.dst v) else none
  | none=>match panD P g F d a M with
   | some (v,H')=>if seqD P g F n all M d.lat a then some (.pan v,badD all a0,H') else none
   | none=>none
def drawI (n:Nat) (l:List ID) (a:AAct) (H:Mem):Option (Out × AAct × Mem):=match Xw1 P g F n l a H with
 | some r=>some r
 | none=>panI P g F n l a H l a
def Xwf (n x y:Nat) (l:List ID) (a:AAct) (H:Mem):Option (Out × AAct × Mem):=match Xqx P g F n x y l a H with
 | some r=>some r
 | none=>panI P g F n l a H l a
inductive IC where
 | skip
 | ops (l:List IS)
 | draw (rows:Mem) (l:List ID)
 | draw2 (x y:Nat) (rows:Mem) (l:List ID)
 | seq (x y:IC)
 | cond (c:IArg) (x y:IC)
 | block (id:Nat) (c:IC)
 | loop (live:Option (List Tmp)) (c:IC)
 | exit (id:Nat)
 | ret
 | bad
def evI (N:Nat):IC→AAct→Mem→Option (Out × AAct × Mem)
 | .skip,a,H=>some (.normal,a,H)
 | .ops l,a,H=>opsI P g F l a H
 | .draw rows l,a,H=>drawI P g F H.length l a (H++rows)
 | .draw2 x y rows l,a,H=>Xwf P g F H.length x y l a (H++rows)
 | .seq x y,a,H=>match evI N x a H with
  | some (.normal,a',H')=>evI N y a' H'
  | r=>r
 | .cond c x y,a,H=>match a.evI g c with
  | .bool true=>evI N x a H
  | .bool false=>evI N y a H
  | _=>none
 | .block id c,a,H=>match evI N c a H with
  | some (.exit id',a',H')=>if id'=id then some (.normal,a',H') else some (.exit id',a',H')
  | r=>r
 | .loop lv c,a,H=>Xa6 (fun a H=>evI N c a H) lv N (match lv with | some l=>a.keepT l | none=>a) H
 | .exit id,a,H=>some (.exit id,a,H)
 | .ret,a,H=>some (.ret,a,H)
 | .bad,_,_=>none
inductive IRes where
 | tmp (t:Tmp)
 | cell1 (t:Tmp)
 | cellN (n:Nat) (t:Tmp)
def Xbc (a:AAct) (H:Mem):List IRes→Option (List AV)
 | []=>some []
 | .tmp t::rs=>(Xbc a H rs).map fun l=>Xad a.t t::l
 | .cell1 t::rs=>(Xdc H (Xad a.t t) 1).bind fun cs=>(cs[0]?).bind fun v=>(Xbc a H rs).map fun l=>v::l
 | .cellN n t::rs=>(Xdc H (Xad a.t t) n).bind fun cs=>(Xbc a H rs).map fun l=>.agg cs::l
def Xc6 (rs:List IRes) (a:AAct) (H:Mem):Option AV:=(Xbc a H rs).map fun l=>match l with
 | [x]=>x
 | l=>.tup l
structure IF where
 n:Nat
 c:IC
 res:List IRes
 dfr:Option (Option Tmp × IC)
def defI (T:FuncId→Option IF) (N:Nat) (k:FuncId) (args:List AV) (m:Option AV) (H:Mem):Option Mem :=
 match T k with
 | none=>none
 | some i=>match i.dfr with
  | none=>none
  | some (dst,rest)=>match evI P g F N rest ((⟨max args.length i.n,idx 0 args,[]⟩ : AAct).put dst (m.getD .nilI)) H with
   | some (.normal,a,H1)=>if a.d.isEmpty then (Xc6 i.res a H1).map fun _=>H1 else none
   | some (.ret,a,H1)=>if a.d.isEmpty then (Xc6 i.res a H1).map fun _=>H1 else none
   | _=>none
def Xp7 (T:FuncId→Option IF) (N:Nat) (i:IF) (keep:Bool) (H0:Mem) (a:AAct) (m:Option AV) (H1:Mem):Option (End × Mem) :=
 match a.d with
 | [(.fn (.func k) cap,dargs)]=>(defI P g F T N k (dargs++cap) m H1).bind fun H2=>(Xc6 i.res a H2).map fun v=>(.ret (Xao keep H0 v H2).1,(Xao keep H0 v H2).2)
 | _=>none
end
def Xaw (P:Program) (g:Cfg) (T:FuncId→Option IF) (N:Nat):Nat→Xc5
 | 0=>fun _ _ _=>none
 | n+1=>fun f args H=>match g.lib f with
  | some s=>(s args H).map fun p=>(.ret p.1,p.2)
  | none=>match T f with
   | none=>none
   | some i=>match evI P g (Xaw P g T N n) N i.c ⟨max args.length i.n,idx 0 args,[]⟩ H with
    | some (.normal,a,H1)=>if a.d.isEmpty then (Xc6 i.res a H1).map fun v=>(.ret (Xao (g.keep f) H v H1).1,(Xao (g.keep f) H v H1).2) else Xp7 P g (Xaw P g T N n) T N i (g.keep f) H a none H1
    | some (.ret,a,H1)=>if a.d.isEmpty then (Xc6 i.res a H1).map fun v=>(.ret (Xao (g.keep f) H v H1).1,(Xao (g.keep f) H v H1).2) else Xp7 P g (Xaw P g T N n) T N i (g.keep f) H a none H1
    | some (.pan v,a,H1)=>if a.d.isEmpty then some (.pan (Xao false H v H1).1,(Xao false H v H1).2) else Xp7 P g (Xaw P g T N n) T N i (g.keep f) H a (some v) H1
    | _=>none
def Xt7:Code→List Oper
 | .region _ ops _=>ops.toList
 | .seq x y=>Xt7 x++Xt7 y
 | .cond _ x y=>Xt7 x++Xt7 y
 | .block _ c=>Xt7 c
 | .loop c=>Xt7 c
 | _=>[]
def Xlh (fn:Func) (k:Nat):Oper:=match fn.body with
 | some c=>(Xt7 c).getD k default
 | none=>default
/- What stands for an operation. -/
section
variable (P:Program) (g:Cfg)
def loadR (t:TypeId) (a:Operand) (o:Oper):IOp:=match aggT P t with
 | some true=>match szT P t with
  | some n=>.loadN n (Xb4 a)
  | none=>.raw o
 | some false=>.load1 (Xb4 a)
 | none=>.raw o
def Xoi (place:Nat→Option (Nat × Nat)):List (Nat × Operand)→Option (List (Nat × Nat × IArg))
 | []=>some []
 | (i,x)::rest=>match place i,Xoi place rest with
  | some (off,size),some l=>some ((off,size,Xb4 x)::l)
  | _,_=>none
def bldR (t:TypeId) (parts:List (Nat × Operand)) (o:Oper):IOp:=match Xfz P t with
 | none=>.raw o
 | some z=>if Xev z=false then .raw o else match P.underlying t with
  | some (.struct fields)=>if fields.all (fun f=>(szT P f.type).isSome) then (match Xoi (Xr0 P fields) parts with
    | some l=>.bld z.cells l
    | none=>.raw o) else .raw o
  | _=>.raw o
def bldSR (t:TypeId) (len:Nat) (parts:List (Nat × Operand)) (o:Oper):IOp:=match P.underlying t with
 | some (.slice elem)=>match szT P elem,Xfz P elem with
  | some s,some z=>if z.cells.length=s∧Xev z=true∧len*s≤2 ^ 24 then (match Xoi (Xjg s) parts with
    | some l=>.bldS elem s len (Xe0 z.cells len) l
    | none=>.raw o) else .raw o
  | _,_=>.raw o
 | _=>.raw o
def faddrR (s:TypeId) (x:Operand) (i:Nat) (o:Oper):IOp:=match P.underlying s with
 | some (.struct fields)=>match fields[i]? with
  | some f=>match szT P f.type with
   | some (_+1)=>.faddr f.offset (Xb4 x)
   | _=>.raw o
  | none=>.raw o
 | _=>.raw o
def fldR (t:TypeId) (x:Operand) (i:Nat) (o:Oper):IOp:=match P.underlying t with
 | some (.struct fields)=>match fields[i]? with
  | some f=>match aggT P f.type,szT P f.type with
   | some true,some n=>.fldN f.offset n (Xb4 x)
   | some false,_=>.fld1 f.offset (Xb4 x)
   | _,_=>.raw o
  | none=>.raw o
 | _=>.raw o
def iaddrR (t:TypeId) (x i:Operand) (o:Oper):IOp:=match P.underlying t with
 | some (.array len e)=>match szT P e with
  | some s=>.iaddrA len s (Xb4 x) (Xb4 i)
  | none=>.raw o
 | some (.slice e)=>match szT P e with
  | some s=>.iaddr s (Xb4 x) (Xb4 i)
  | none=>.raw o
 | _=>.raw o
def ixR (t:TypeId) (x i:Operand) (o:Oper):IOp:=match P.underlying t with
 | some .string=>.ixs (Xb4 x) (Xb4 i)
 | _=>.raw o
def nilR (d:TypeDesc):Operand→Option Nat
 | .const v=>match d,ofV v with
  | .pointer _,.nilP=>some 0
  | .slice _,.nilS=>some 1
  | .map _ _,.nilM=>some 2
  | .func _ _ _,.nilF=>some 3
  | .interface _,.nilI=>some 4
  | _,_=>none
 | _=>none
def Xny:List Field→Option (List (Nat × Nat))
 | []=>some []
 | f::fs=>if f.name = "_" then Xny fs else match aggT P f.type,P.underlying f.type,Xny fs with
  | some false,some .bool,some r=>some ((f.offset,0)::r)
  | some false,some (.int _),some r=>some ((f.offset,1)::r)
  | some false,some .string,some r=>some ((f.offset,2)::r)
  | _,_,_=>none
def eqSR (neg:Bool) (t:TypeId) (x y:Operand) (o:Oper):IOp:=match P.underlying t with
 | some (.struct fields)=>match Xny P fields.toList with
  | some pl=>if P.eqGuardType P.depth t=false∧P.stoodInHeld t=false∧fields.size≤50 then .eqS neg pl (Xb4 x) (Xb4 y) else .raw o
  | none=>.raw o
 | _=>.raw o
def eqPR (neg:Bool) (t:TypeId) (x y:Operand) (o:Oper):IOp:=match P.underlying t with
 | some (.pointer e)=>if (szT P e).isSome then .ptq (neg) (Xb4 x) (Xb4 y) else .raw o
 | _=>eqSR P neg t x y o
def binR (op:BinOp) (t:TypeId) (x y:Operand) (o:Oper):IOp:=match P.underlying t with
 | some (.int _)=>.bin op (Xb4 x) (Xb4 y)
 | some .string=>.bin op (Xb4 x) (Xb4 y)
 | some .bool=>match op with
  | .eql=>.eqb false (Xb4 x) (Xb4 y)
  | .neq=>.eqb true (Xb4 x) (Xb4 y)
  | _=>.raw o
 | some d=>match op,nilR d y with
  | .eql,some w=>.nilT false w (Xb4 x)
  | .neq,some w=>.nilT true w (Xb4 x)
  | .eql,none=>eqPR P false t x y o
  | .neq,none=>eqPR P true t x y o
  | _,_=>.raw o
 | none=>.raw o
def lenR (ts:Array TypeId) (x:Operand) (o:Oper):IOp:=match ts[0]? with
 | some t=>match P.underlying t with
  | some .string=>.lenS (Xb4 x)
  | some (.slice _)=>.lenL (Xb4 x)
  | some (.map _ _)=>.lenM (Xb4 x)
  | _=>.raw o
 | none=>.raw o
def appR (ts:Array TypeId) (s x:Operand) (o:Oper):IOp:=match ts[0]? with
 | some t=>match P.underlying t with
  | some (.slice elem)=>match P.info? elem with
   | some i=>if srcT P ts[1]? = true∧i.bytes≤2 ^ 10∧Xso P elem i.size=true then .app elem i.size (Xb4 s) (Xb4 x) else .raw o
   | none=>.raw o
  | _=>.raw o
 | none=>.raw o
def cpyR (ts:Array TypeId) (d x:Operand) (o:Oper):IOp:=match ts[0]? with
 | some t=>match P.underlying t with
  | some (.slice elem)=>match szT P elem with
   | some s=>.cpy s (Xb4 d) (Xb4 x)
   | none=>.raw o
  | _=>.raw o
 | none=>.raw o
def callR (c:Call) (o:Oper):IOp:=match c.callee with
 | .value (.func k)=>if Xa1 P k then .call k (c.args.toList.map Xb4) else if noEsc P k then (match c.args.toList with
  | [x]=>.mov (Xb4 x)
  | _=>.raw o) else .raw o
 | .value (.tmp t)=>.callv (.tmp t) (c.args.toList.map Xb4)
 | .builtin .len=>match c.args.toList with
  | [x]=>lenR P c.argTypes x o
  | _=>.raw o
 | .builtin .append=>match c.args.toList with
  | [s,x]=>appR P c.argTypes s x o
  | _=>.raw o
 | .builtin .copy=>match c.args.toList with
  | [d,x]=>cpyR P c.argTypes d x o
  | _=>.raw o
 | .builtin .min=>.mm false (c.args.toList.map Xb4)
 | .builtin .max=>.mm true (c.args.toList.map Xb4)
 | _=>.raw o
def convR (s d:TypeId) (x:Operand) (o:Oper):IOp:=match P.underlying s,P.underlying d with
 | some (.int _),some (.int k)=>.conv k (Xb4 x)
 | some (.int _),some .string=>.i2s (Xb4 x)
 | some .string,some (.slice e)=>match P.underlying e with
  | some (.int .u8)=>.s2b e (Xb4 x)
  | _=>.raw o
 | some (.slice e),some .string=>match P.underlying e with
  | some (.int .u8)=>.b2s (Xb4 x)
  | _=>.raw o
 | _,_=>.raw o
def mkifR (t:TypeId) (x:Operand) (o:Oper):IOp:=match P.underlying t with
 | some (.interface _)=>.raw o
 | some _=>.mkif t (Xb4 x)
 | none=>.raw o
def newR (elem:TypeId) (o:Oper):IOp:=match Xfz P elem with
 | some z=>if Xev z then .new elem z.cells else .raw o
 | none=>.raw o
def storeR (t:TypeId) (a x:Operand) (o:Oper):IOp:=match szT P t with
 | some n=>.store n (Xb4 a) (Xb4 x)
 | none=>.raw o
def lkpR (t:TypeId) (m k:Operand) (ok:Bool) (o:Oper):IOp:=match P.underlying t with
 | some (.map key elem)=>match P.underlying key,Xfz P elem with
  | some d,some z=>.lkp d z (Xb4 m) (Xb4 k) ok
  | _,_=>.raw o
 | _=>.raw o
def updR (t:TypeId) (m k v:Operand) (o:Oper):IOp:=match P.underlying t with
 | some (.map key _)=>match P.underlying key with
  | some d=>.upd d (Xb4 m) (Xb4 k) (Xb4 v)
  | none=>.raw o
 | _=>.raw o
def rngR (t:TypeId) (x:Operand) (o:Oper):IOp:=match P.underlying t with
 | some .string=>.rngS (Xb4 x)
 | _=>.raw o
def mksR (t:TypeId) (l c:Operand) (o:Oper):IOp:=match P.underlying t with
 | some (.slice elem)=>match P.info? elem,Xfz P elem with
  | some i,some z=>if i.bytes≤2 ^ 10∧Xev z=true∧z.cells.length=i.size then .mks elem i.size z.cells (Xb4 l) (Xb4 c) else .raw o
  | _,_=>.raw o
 | _=>.raw o
def asrtR (x:Operand) (a:TypeId) (ok:Bool) (o:Oper):IOp:=match P.underlying a with
 | some (.interface _)=>.raw o
 | some _=>match Xfz P a with
  | some z=>.asrt a (.lit z) (Xb4 x) ok
  | none=>.raw o
 | none=>.raw o
def cut3R (t:TypeId) (x:Operand) (lo:Option Operand) (hi mx:Operand) (o:Oper):IOp:=match P.underlying t with
 | some (.slice e)=>match szT P e with
  | some s=>.cut3 s (Xb4 x) (lo.map Xb4) (Xb4 hi) (Xb4 mx)
  | none=>.raw o
 | _=>.raw o
def cutR (t:TypeId) (x:Operand) (lo hi:Option Operand) (o:Oper):IOp:=match P.underlying t with
 | some .string=>.cut (Xb4 x) (lo.map Xb4) (hi.map Xb4)
 | some (.slice e)=>match szT P e with
  | some s=>.cutS s (Xb4 x) (lo.map Xb4) (hi.map Xb4)
  | none=>.raw o
 | some (.array n e)=>match szT P e with
  | some s=>.cutA n s (Xb4 x) (lo.map Xb4) (hi.map Xb4)
  | none=>.raw o
 | _=>.raw o
def Xhk (o:Oper):IOp :=
 match o.op with
 | .move x=>.mov (Xb4 x)
 | .assign x=>.mov (Xb4 x)
 | .pick c a b=>.pick (Xb4 c) (Xb4 a) (Xb4 b)
 | .alloc elem=>newR P elem o
 | .box T x=>.box T (Xb4 x)
 | .build t parts=>bldR P t parts.toList o
 | .buildSlice t n parts=>bldSR P t n parts.toList o
 | .load t a=>loadR P t a o
 | .store t a x=>storeR P t a x o
 | .binOp op t x y _=>binR P op t x y o
 | .unOp op _ x=>.un op (Xb4 x)
 | .convert s d x=>convR P s d x o
 | .makeInterface t x=>mkifR P t x o
 | .slice t x lo hi none=>cutR P t x lo hi o
 | .fieldAddr s x i=>faddrR P s x i o
 | .field t x i=>fldR P t x i o
 | .indexAddr t x i=>iaddrR P t x i o
 | .index t x i=>ixR P t x i o
 | .call c=>callR P c o
 | .extract t i=>.ext (Xb4 t) i
 | .nilCheck x=>.nchk (Xb4 x)
 | .makeFunc f first cap=>if first.size=0 then .mkfn f (cap.toList.map Xb4) else .raw o
 | .slice t x lo (some hi) (some mx)=>cut3R P t x lo hi mx o
 | .lookup t x i ok=>lkpR P t x i ok o
 | .mapUpdate t m k v=>updR P t m k v o
 | .insert t m k v=>updR P t m k v o
 | .makeMap _ none=>.mkm
 | .range t x=>rngR P t x o
 | .next it s=>.nxt (Xb4 it) s
 | .entry it=>.ent (Xb4 it)
 | .makeSlice t l c=>mksR P t l c o
 | .panic x=>.pan (Xb4 x)
 | .typeAssert x _ a ok=>asrtR P x a ok o
 | _=>.raw o
def guardR (ops:Array Oper) (o:Oper):Option (Option (Tmp × Bool)):=match o.guard with
 | none=>some none
 | some (j,want)=>match (ops[j]?).bind (·.dst) with
  | some d=>some (some (d,want))
  | none=>none
def Xx3 (ops:Array Oper) (o:Oper):Option IS:=(guardR ops o).map fun gd=>⟨gd,o.dst,Xhk P o⟩
def Xr1 (ops:Array Oper):List Oper→Option (List IS)
 | []=>some []
 | o::l=>match Xx3 P ops o,Xr1 ops l with
  | some s,some r=>some (s::r)
  | _,_=>none
def Xkp:IOp→Bool
 | .mov _ | .pick _ _ _ | .load1 _ | .loadN _ _ | .faddr _ _ | .fld1 _ _ | .fldN _ _ _ | .iaddr _ _ _ | .ixs _ _ | .bin _ _ _ | .un _ _ | .ext _ _ | .lenS _ | .lenL _ | .conv _ _ | .mkif _ _ | .cut _ _ _ | .bld _ _ | .nilT _ _ _ | .eqb _ _ _ | .eqS _ _ _ _ | .nchk _ | .iaddrA _ _ _ _ | .mkfn _ _ | .lkp _ _ _ _ _ | .lenM _ | .i2s _ | .cutS _ _ _ _ | .cutA _ _ _ _ _ | .cut3 _ _ _ _ _ | .b2s _ | .asrt _ _ _ _ | .mm _ _ | .ent _ | .ptq _ _ _=>true
 | _=>false
def Xg5 (tab:List (Nat × Oper × Nat)) (i b:Nat):List Nat:=(tab.filter fun q=>!(Xbp q.2.1 || q.1 == i || b.testBit q.1 || q.2.2.testBit i)).map (·.1)
def latR (tab:List (Nat × Oper × Nat)) (i:Nat):List Nat:=(tab.filter fun q=>decide (i<q.1) && !q.2.2.testBit i).map (·.1)
def Xf8 (ops:Array Oper) (tab:List (Nat × Oper × Nat)):Nat→List (Nat × Oper × Nat)→Option (List ID)
 | _,[]=>some []
 | k,(i,o,b)::l=>if Xaz o then (match o.guard,resv P o,Xf8 ops tab (k+1) l with
   | none,some q,some r=>some (⟨⟨none,o.dst,.mov (.lit .bad)⟩,some (k,q.2.1,q.1,q.2.2),true,[],[]⟩::r)
   | _,_,_=>none)
  else match Xx3 P ops o,Xf8 ops tab k l with
   | some s,some r=>some (⟨s,none,(Xg5 tab i b).isEmpty || Xkp s.op,if Xkp s.op then [] else Xg5 tab i b,if mayPan s.op then latR tab i else []⟩::r)
   | _,_=>none
def Xbn (fid:FuncId):Code→Option IC
 | .skip=>some .skip
 | .label _=>some .skip
 | .region _ ops draw=>if draw then (if Xif ops then (Xcg P ops.toList).bind fun rows=>(Xf8 P ops (Xa2 ops) 0 (Xa2 ops)).map fun l=>match twoW ops with
  | some (x,y)=>if twoT ops x y then .draw2 x y rows l else .draw rows l
  | none=>.draw rows l else none) else (Xr1 P ops ops.toList).map .ops
 | .seq x y=>match Xbn fid x,Xbn fid y with
  | some a,some b=>some (.seq a b)
  | _,_=>none
 | .cond c x y=>match Xbn fid x,Xbn fid y with
  | some a,some b=>some (.cond (Xb4 c) a b)
  | _,_=>none
 | .block id c=>(Xbn fid c).map (.block id)
 | .loop c=>(Xbn fid c).map (.loop (g.live fid (Xue c)))
 | .exit id=>some (.exit id)
 | .ret=>some .ret
 | _=>some .bad
def resR:List ResultVar→Option (List IRes)
 | []=>some []
 | .tmp t::l=>(resR l).map fun r=>.tmp t::r
 | .cell t ty::l=>match aggT P ty,szT P ty,resR l with
  | some true,some n,some r=>some (.cellN n t::r)
  | some false,_,some r=>some (.cell1 t::r)
  | _,_,_=>none
def dfrR (fid:FuncId):Code→Option (Option Tmp × IC)
 | .seq (.region _ ops false) rest=>match ops.toList with
  | [o]=>if Xhm o then (Xbn P g fid rest).map fun c=>(o.dst,c) else none
  | _=>none
 | _=>none
def Xag (f:FuncId):Option IF:=match P.funcs[f]? with
 | none=>none
 | some fn=>match fn.body with
  | none=>none
  | some c=>if Xa1 P f then match Xbn P g f c,resR P fn.results.toList with
   | some ic,some rs=>some ⟨fn.ntmps,ic,rs,dfrR P g f c⟩
   | _,_=>none
   else none
end
end Go.Proofs.YtmhhddhbdbcmbaaGreatDoor.Ev
