/- Parts of one proof. -/
import Derived.Test.YtmhhddhbdbcmbaaGreatDoorMbd
set_option linter.all false
namespace Go.Proofs.YtmhhddhbdbcmbaaGreatDoor.Ev
variable {P:Program} {g:Cfg} {η:Nat→Option Nat} {H:Mem} {w:World}
theorem Xlr {d:TypeDesc} {k:AV} {kv:Value} (hk:VR η H w k kv) (h:Xtn d k=true):MapKept.IsKey d kv:=by
 cases hk <;> cases d <;> simp [Xtn] at h <;> simp [MapKept.IsKey]
 exact h.symm
theorem Xuz {d:TypeDesc} {k j:AV} {kv jv:Value} {b:Bool} (hk:VR η H w k kv) (hj:VR η H w j jv) (h:Xt2 d k j=some b):Instr.sameNow d kv jv=some b∧(b=true→jv=kv):=by
 cases hk <;> cases hj <;> cases d <;> simp [Xt2] at h
 ·subst h; simp [Instr.sameNow]; exact fun e=>e.symm
 ·obtain ⟨rfl,rfl⟩:=h; simp [Instr.sameNow]; exact fun e=>e.symm
 ·rename_i l s hs l' s' hs'
  subst hs hs' h
  rw [Instr.sameNow]
  refine ⟨by rw [beq_toListBytes,Xkf,Xkf],fun e=>?_⟩
  congr 1
  have e':s.data.toList=s'.data.toList:=by simpa using e
  obtain ⟨⟨x⟩⟩:=s
  obtain ⟨⟨y⟩⟩:=s'
  simp at e'
  rw [e']
def EntR (η:Nat→Option Nat) (H:Mem) (w:World) (es:List (AV × AV)) (ents:List MapEntry):Prop :=
 ents.length=es.length∧∀ (j:Nat) k v e,es[j]? = some (k,v)→ents[j]? = some e→VR η H w k e.key∧VR η H w v e.val
theorem Xis {d:TypeDesc} {k:AV} {kv:Value} (hk:VR η H w k kv):∀ (es:List (AV × AV)) (ents:List MapEntry) (i:Nat) (r:Option (Nat × AV)),EntR η H w es ents→Xnt d k es i=some r →
  (r=none∧Instr.findNow d kv ents i=some none)∨∃ n v e,r=some (i+n,v)∧es.length>n∧ents[n]? = some e∧e.key=kv∧VR η H w v e.val∧Instr.findNow d kv ents i=some (some (i+n,e.val))
 | [],ents,i,r,he,h=>by
  have:ents=[]:=List.eq_nil_of_length_eq_zero he.1
  subst this
  simp [Xnt] at h
  exact .inl ⟨h.symm,rfl⟩
 | (k',v')::es,[],i,r,he,h=>by simp [EntR] at he
 | (k',v')::es,e::ents,i,r,he,h=>by
  obtain ⟨h1,h2⟩:=he.2 0 k' v' e rfl rfl
  have he':EntR η H w es ents:=⟨by simpa using he.1,fun j a b c ha hb=>he.2 (j+1) a b c (by simpa using ha) (by simpa using hb)⟩
  simp only [Xnt] at h
  cases hq:Xt2 d k k' with
  | none=>simp [hq] at h
  | some b =>
   obtain ⟨h3,h4⟩:=Xuz hk h1 hq
   cases b with
   | true =>
    simp [hq] at h
    exact .inr ⟨0,v',e,h.symm,by simp,rfl,h4 rfl,h2,by simp [Instr.findNow,h3]⟩
   | false =>
    simp [hq] at h
    rcases Xis hk es ents (i+1) r he' h with ⟨h5,h6⟩ | ⟨n,v,e2,h5,h6,h7,h8,h9,h10⟩
    ·exact .inl ⟨h5,by simp [Instr.findNow,h3,h6]⟩
    ·refine .inr ⟨n+1,v,e2,by rw [h5]; congr 2; omega,by simpa using h6,by simpa using h7,h8,h9,?_⟩
     simp [Instr.findNow,h3,h10]; omega
theorem Xpo (r:Rel g η H w) {t:TypeId} {m k y:AV} {mv kv:Value} {ok:Bool} (hm:VR η H w m mv) (hk:VR η H w k kv) (h:Xqu P H t m k ok=some y):∃ u,(Instr.lookup t mv kv ok).run P w=.ok u w∧VR η H w y u:=by
 unfold Xqu at h
 split at h
 ·rename_i key elem hu
  obtain ⟨d,hd,h'⟩:=Option.bind_eq_some_iff.1 h
  obtain ⟨es,hes,h'⟩:=Option.bind_eq_some_iff.1 h'
  clear h
  have hents:∃ ents:Array MapEntry,EntR η H w es ents.toList∧((mv=.map none∧ents = #[])∨∃ b clk,mv=.map (some b)∧w.heap[b]? = some (.map ents clk)):=by
   split at hes
   ·injection hes with hes; subst hes
    cases hm
    exact ⟨#[],⟨rfl,fun j k v e h=>by simp at h⟩,.inl ⟨rfl,rfl⟩⟩
   ·rename_i id
    cases hm with
    | map _ b hid hl =>
     cases hb:H[id]? with
     | none=>simp [hb] at hes
     | some blk =>
      cases blk with
      | map es' =>
       simp [hb] at hes
       subst hes
       have hη:=hl ⟨_,hb,rfl⟩
       obtain ⟨ents,clk,h1,h2,h3,_⟩:=r.blk id _ b hb hη
       exact ⟨ents,⟨by simpa using h2,fun j k v e hj he=>h3 j k v e hj (by simpa using he)⟩,.inr ⟨b,clk,rfl,h1⟩⟩
      | row c s ty=>simp [hb] at hes
      | siter s p=>simp [hb] at hes
      | miter s p=>simp [hb] at hes
   ·cases hes
  obtain ⟨ents,he,hrun⟩:=hents
  split at h'
  ·rename_i hkey
   have hik:=Xlr hk hkey
   have hck:=MapKept.run_checkKey (P:=P) (w:=w) hd hik ents.isEmpty 9999
   obtain ⟨q,hq,h⟩:=Option.bind_eq_some_iff.1 h'
   clear h'
   rcases Xis hk es ents.toList 0 q he hq with ⟨rfl,hf⟩ | ⟨n,v,e,rfl,_,h1,h2,h3,hf⟩
   ·obtain ⟨z,hz,hy⟩:=Option.map_eq_some_iff.1 h
    obtain ⟨zv,hzr,rfl⟩:=Xeq (w:=w) hz
    have hfk:=MapKept.run_findKey (P:=P) (w:=w) hd hf
    refine ⟨if ok then .tuple #[zv,.bool false] else zv,?_,?_⟩
    ·rcases hrun with ⟨rfl,rfl⟩ | ⟨b,clk,rfl,hh⟩
     ·simp only [Instr.lookup,Sem.run_bind,Xas hu,Result.andThen_ok,Sem.run_pure,hck,hfk,hzr]
     ·simp only [Instr.lookup,Sem.run_bind,Xas hu,Result.andThen_ok,MapKept.run_getObj_map hh,Sem.run_pure,hck,hfk,hzr]
    ·subst hy
     cases ok
     ·exact Xf7 zv
     ·refine .tup _ _ rfl fun j c u hc hu=>?_
      match j with
      | 0=>simp at hc hu; subst hc hu; exact Xf7 _
      | 1=>simp at hc hu; subst hc hu; exact .bool _
      | j+2=>simp at hc
   ·simp only [Option.some.injEq] at h
    have hfk:=MapKept.run_findKey (P:=P) (w:=w) hd hf
    refine ⟨if ok then .tuple #[e.val,.bool true] else e.val,?_,?_⟩
    ·rcases hrun with ⟨rfl,rfl⟩ | ⟨b,clk,rfl,hh⟩
     ·simp only [Instr.lookup,Sem.run_bind,Xas hu,Result.andThen_ok,Sem.run_pure,hck,hfk]
     ·simp only [Instr.lookup,Sem.run_bind,Xas hu,Result.andThen_ok,MapKept.run_getObj_map hh,Sem.run_pure,hck,hfk]
    ·subst h
     cases ok
     ·exact h3
     ·refine .tup _ _ rfl fun j c u hc hu=>?_
      match j with
      | 0=>simp at hc hu; subst hc hu; exact h3
      | 1=>simp at hc hu; subst hc hu; exact .bool _
      | j+2=>simp at hc
  ·cases h'
 ·cases h
theorem Xje (r:Rel g η H w) {t:TypeId} {m k v:AV} {mv kv vv:Value} {H':Mem} (hm:VR η H w m mv) (hk:VR η H w k kv) (hv:VR η H w v vv) (h:Xj0 P H t m k v=some H'):∃ w',(Instr.mapUpdate t mv kv vv).run P w=.ok () w'∧Ext η H w η H' w'∧Rel g η H' w':=by
 unfold Xj0 at h
 split at h
 ·rename_i key elem id hu
  obtain ⟨d,hd,h'⟩:=Option.bind_eq_some_iff.1 h
  clear h
  cases hm with
  | map _ b hid hl =>
   cases hb:H[id]? with
   | none=>simp [hb] at h'
   | some blk =>
    cases blk with
    | row c s ty=>simp [hb] at h'
    | siter s p=>simp [hb] at h'
    | miter s p=>simp [hb] at h'
    | map es =>
     simp only [hb] at h'
     split at h'
     ·rename_i hkey
      have hη:=hl ⟨_,hb,rfl⟩
      obtain ⟨ents,clk,h1,h2,h3,hclk,hcz⟩:=r.blk id _ b hb hη
      have he:EntR η H w es ents.toList:=⟨by simpa using h2,fun j k v e hj he=>h3 j k v e hj (by simpa using he)⟩
      have hik:=Xlr hk hkey
      have hck:=MapKept.run_checkKey (P:=P) (w:=w) hd hik false 9999
      have hlt:b<w.heap.size:=(Array.getElem?_eq_some_iff.1 h1).1
      have hlowE:∀ (j:Nat) k v,es[j]? = some (k,v)→low H.length k=true∧low H.length v=true:=fun j k v hj=>by
       have hj':j<ents.size:=by rw [h2]; exact (List.getElem?_eq_some_iff.1 hj).1
       obtain ⟨h4,h5⟩:=h3 j k v ents[j] hj (Array.getElem?_eq_getElem hj')
       exact ⟨h4.low,h5.low⟩
      obtain ⟨q,hq,h⟩:=Option.map_eq_some_iff.1 h'
      clear h'
      rcases Xis hk es ents.toList 0 q he hq with ⟨rfl,hf⟩ | ⟨n,v0,e,rfl,hn,h4,h5,h6,hf⟩
      ·subst h
       have hfk:=MapKept.run_findKey (P:=P) (w:=w) hd hf
       have e1:Ext η H w η (H.set id (.map (es++[(k,v)]))) (Xbi w b (.map (ents.push { key:=kv,val:=vv,born:=clk }) (clk+1))):=Ext.put r hb hη (Nat.le_refl _) fun _ s hs=>by
        rw [Xet h1] at hs
        rw [Xet (Xcy hlt)]
        cases h0:ents[0]? with
        | none=>rw [h0] at hs; cases hs
        | some e0 =>
         have h00:=(Array.getElem?_eq_some_iff.1 h0).1
         rw [Array.getElem?_push,if_neg (by omega),h0]; rw [h0] at hs; exact hs
       refine ⟨_,?_,e1,r.put hb hη e1 ?_ ⟨_,_,Xcy hlt,by simp [h2],fun j k' v' e' hj he'=>?_,fun j e' he'=>?_,by simp [hcz]⟩⟩
       ·simp [Instr.mapUpdate,Xas hu,MapKept.run_getObj_map h1,hck,hfk,MapKept.run_setObj_map _ h1,Xbi]
       ·simp only [Xcn,lowE,List.all_eq_true,Bool.and_eq_true]
        intro p hp
        rcases List.mem_append.1 hp with hp | hp
        ·obtain ⟨j,hj,e2⟩:=List.getElem_of_mem hp
         exact hlowE j p.1 p.2 (by rw [← e2]; exact List.getElem?_eq_getElem hj)
        ·simp at hp; subst hp; exact ⟨hk.low,hv.low⟩
       ·rw [Array.getElem?_push] at he'
        by_cases hjl:j<es.length
        ·rw [List.getElem?_append_left hjl] at hj
         rw [if_neg (by omega)] at he'
         exact ⟨(h3 j k' v' e' hj he').1.ext e1,(h3 j k' v' e' hj he').2.ext e1⟩
        ·rw [List.getElem?_append_right (by omega)] at hj
         have hj0:j-es.length=0:=by
          have:=(List.getElem?_eq_some_iff.1 hj).1
          simp at this; omega
         rw [hj0] at hj
         simp at hj
         obtain ⟨rfl,rfl⟩:=hj
         rw [if_pos (by omega)] at he'
         injection he' with he'
         subst he'
         exact ⟨hk.ext e1,hv.ext e1⟩
       ·rw [Array.getElem?_push] at he'
        split at he'
        ·injection he' with he'; subst he'; exact Nat.lt_succ_self _
        ·exact Nat.lt_succ_of_lt (hclk j e' he')
      ·simp only [ZL] at h hf
       subst h
       have hfk:=MapKept.run_findKey (P:=P) (w:=w) hd hf
       have h4':ents[n]? = some e:=by simpa using h4
       have hkt:=MapKept.run_keyThatStays (P:=P) (w:=w) hik
       have e1:Ext η H w η (H.set id (.map (es.set n (k,v)))) (Xbi w b (.map (ents.modify n fun e=>{ e with key:=kv,val:=vv }) clk)):=Ext.put r hb hη (Nat.le_refl _) fun _ s hs=>by
        rw [Xet h1] at hs
        rw [Xet (Xcy hlt)]
        rw [Array.getElem?_modify]
        cases h0:ents[0]? with
        | none=>rw [h0] at hs; cases hs
        | some e0 =>
         rw [h0] at hs
         split <;> simpa using hs
       refine ⟨_,?_,e1,r.put hb hη e1 ?_ ⟨_,_,Xcy hlt,by simp [h2],fun j k' v' e' hj he'=>?_,fun j e' he'=>?_,by simp [hcz]⟩⟩
       ·simp [Instr.mapUpdate,Xas hu,MapKept.run_getObj_map h1,hck,hfk,h4',h5,hkt,MapKept.run_setObj_map _ h1,Xbi]
       ·simp only [Xcn,lowE,List.all_eq_true,Bool.and_eq_true]
        intro p hp
        rcases List.mem_or_eq_of_mem_set hp with hp | hp
        ·obtain ⟨j,hj,e2⟩:=List.getElem_of_mem hp
         exact hlowE j p.1 p.2 (by rw [← e2]; exact List.getElem?_eq_getElem hj)
        ·subst hp; exact ⟨hk.low,hv.low⟩
       ·rw [Array.getElem?_modify] at he'
        by_cases hjn:n=j
        ·subst hjn
         simp [hn] at hj
         obtain ⟨rfl,rfl⟩:=hj
         simp [h4'] at he'
         subst he'
         exact ⟨hk.ext e1,hv.ext e1⟩
        ·rw [List.getElem?_set_ne hjn] at hj
         rw [if_neg hjn] at he'
         exact ⟨(h3 j k' v' e' hj he').1.ext e1,(h3 j k' v' e' hj he').2.ext e1⟩
       ·rw [Array.getElem?_modify] at he'
        split at he'
        ·obtain ⟨e0,h0,rfl⟩:=Option.map_eq_some_iff.1 he'
         exact hclk j e0 h0
        ·exact hclk j e' he'
     ·cases h'
 ·cases h
theorem Xp4 (r:Rel g η H w) (t:TypeId):Xe8 P g η H w (Instr.makeMap t none) (.map H.length,H++[.map []]):=by
 have e:=Ext.alloc r (.map []) (.map #[] 0)
 refine ⟨_,_,.map (some w.heap.size),by simp [Instr.makeMap],e,r.alloc _ _ rfl fun η' H' w' e hw=>⟨#[],0,hw,rfl,fun j k v en h=>by simp at h,fun j e h=>by simp at h,rfl⟩,.map _ _ (by simp) fun _=>Xkk⟩
theorem Xx5 (r:Rel g η H w) {t ty:TypeId} {ts:Array TypeId} {x y:AV} {v:Value} (hv:VR η H w x v) (ht:ts[0]? = some t) (h:lenA P H t x=some y):∃ u,(Builtin.len_ ts ty #[v]).run P w=.ok u w∧VR η H w y u:=by
 unfold lenA at h
 split at h
 ·rename_i s hu
  injection h with h; subst h
  cases hv with
  | str _ s' hs =>
   refine ⟨goInt s'.size,by simp [Builtin.len_,ht,Xas hu],?_⟩
   have:s'.size=s.length:=by rw [← hs]; exact (Array.length_toList ..).symm
   rw [this]; exact .int _ _
 ·rename_i hu
  injection h with h; subst h
  cases hv
  exact ⟨_,by simp [Builtin.len_,ht,Xas hu]; rfl,.int _ _⟩
 ·rename_i hu
  injection h with h; subst h
  cases hv
  exact ⟨_,by simp [Builtin.len_,ht,Xas hu]; rfl,.int _ _⟩
 ·rename_i hu
  injection h with h; subst h
  cases hv
  exact ⟨_,by simp [Builtin.len_,ht,Xas hu]; rfl,.int _ _⟩
 ·rename_i hu
  injection h with h; subst h
  exact ⟨_,by simp [Builtin.len_,ht,Xas hu]; rfl,.int _ _⟩
 ·rename_i hu
  injection h with h; subst h
  cases hv
  exact ⟨_,by simp [Builtin.len_,ht,Xas hu]; rfl,.int _ _⟩
 ·rename_i id hu
  cases hv with
  | map _ b hid hl =>
   split at h
   ·rename_i es hb
    injection h with h; subst h
    obtain ⟨ents,clk,h1,h2,h3⟩:=r.blk id _ b hb (hl ⟨_,hb,rfl⟩)
    refine ⟨goInt ents.size,by simp [Builtin.len_,ht,Xas hu,MapKept.run_getObj_map h1],?_⟩
    rw [h2]; exact .int _ _
   ·cases h
 ·cases h
end Go.Proofs.YtmhhddhbdbcmbaaGreatDoor.Ev
