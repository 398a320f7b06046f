/- Parts of one proof. -/
import Derived.Shelf.Strings.Builder1
import Derived.Shelf.Strings.Builder2
import Derived.Shelf.Strings.Trim
import Derived.Shelf.Small.Utf8
import Derived.Shelf.Small.Strs
import Derived.Shelf.Strings.Search1
import Derived.Shelf.Strings.Search2
import Derived.Shelf.Strings.Search3
import Derived.Shelf.Strings.Count
import Derived.Shelf.LaysM
import Derived.Shelf.Strings.Shaped
import Derived.Shelf.Strings.Prefix
import Derived.Shelf.Strings.Split
import Derived.Shelf.Strings.Replace
import Derived.Shelf.Strings.Fold
import Derived.Shelf.Strings.Runes
import Derived.Shelf.Strings.AsciiSet
import Derived.Shelf.Unicode.DecodeSlow
import Derived.Shelf.Unicode.CaseLookup
import Derived.Shelf.Unicode.CaseConvert
import Derived.Test.YtmnajffpmbidiaaGreatDoorProg
import Derived.Test.YtmnajffpmbidiaaGreatDoorMdi
import Derived.Test.YtmnajffpmbidiaaGreatDoorMch
import Derived.ChangeArms
import Derived.ChangeSame
import Derived.WideLaws
set_option linter.all false
namespace Go.Proofs
open Go.Shelf
def Tryz.lays137_ren : Go.Shelf.Ren := ⟨fun | 137 => 87 | 217 => 111 | 266 => 123 | n => n, fun | 9 => 9 | 5 => 5 | 3 => 3 | n => n, fun | n => n⟩
theorem Tryz.lays137 : Go.Proofs.Lays.n137 Tryz.prog Tryz.lays137_ren := {
  mixed := by kernel_rfl
  f137 := Tryz.func87.trans (congrArg some (by kernel_rfl))
  f217 := Tryz.func111.trans (congrArg some (by kernel_rfl))
  f266 := Tryz.func123.trans (congrArg some (by kernel_rfl))
  t3 := Tryz.underlying3
  a3 := Tryz.isAgg3
  z3 := Tryz.sizeOf3
  v3 := Tryz.zeroValue3
  t5 := Tryz.underlying5
  a5 := Tryz.isAgg5
  z5 := Tryz.sizeOf5
  v5 := Tryz.zeroValue5
  t9 := Tryz.underlying9
  a9 := Tryz.isAgg9
  z9 := Tryz.sizeOf9
  v9 := Tryz.zeroValue9 }
open Go.RowKit in
theorem Tryz.strings_IndexByte (s : ByteArray) (c : Int) (w : World) :
    Calls Tryz.prog 87 #[.string s, .int .u8 c] w fun e w' => e = .returned (.int .i64 (Lib.indexByte s.data.toList c.toNat.toUInt8)) ∧ w' = w := Any.strings_IndexByte Tryz.lays137 s c w
def Tryz.lays143_ren : Go.Shelf.Ren := ⟨fun | 143 => 82 | 219 => 107 | 217 => 111 | 225 => 120 | 224 => 121 | 267 => 122 | 266 => 123 | 314 => 133 | n => n, fun | 9 => 9 | 3 => 3 | 4 => 4 | 5 => 5 | 46 => 100 | 146 => 164 | 51 => 151 | n => n, fun | 1 => 5 | n => n⟩
theorem Tryz.lays143 : Go.Proofs.Lays.n143 Tryz.prog Tryz.lays143_ren := {
  mixed := by kernel_rfl
  f143 := Tryz.func82.trans (congrArg some (by kernel_rfl))
  f217 := Tryz.func111.trans (congrArg some (by kernel_rfl))
  f219 := Tryz.func107.trans (congrArg some (by kernel_rfl))
  f224 := Tryz.func121.trans (congrArg some (by kernel_rfl))
  f225 := Tryz.func120.trans (congrArg some (by kernel_rfl))
  f266 := Tryz.func123.trans (congrArg some (by kernel_rfl))
  f267 := Tryz.func122.trans (congrArg some (by kernel_rfl))
  f314 := Tryz.func133.trans (congrArg some (by kernel_rfl))
  t3 := Tryz.underlying3
  a3 := Tryz.isAgg3
  z3 := Tryz.sizeOf3
  v3 := Tryz.zeroValue3
  t4 := Tryz.underlying4
  a4 := Tryz.isAgg4
  z4 := Tryz.sizeOf4
  v4 := Tryz.zeroValue4
  t5 := Tryz.underlying5
  a5 := Tryz.isAgg5
  z5 := Tryz.sizeOf5
  v5 := Tryz.zeroValue5
  t9 := Tryz.underlying9
  a9 := Tryz.isAgg9
  z9 := Tryz.sizeOf9
  v9 := Tryz.zeroValue9
  t46 := Tryz.underlying100
  a46 := Tryz.isAgg100
  z46 := Tryz.sizeOf100
  v46 := Tryz.zeroValue100
  t51 := Tryz.underlying151
  a51 := Tryz.isAgg151
  z51 := Tryz.sizeOf151
  v51 := Tryz.zeroValue151
  t146 := Tryz.underlying164
  a146 := Tryz.isAgg164
  z146 := Tryz.sizeOf164
  v146 := Tryz.zeroValue164
  g1 := by kernel_rfl }
open Go.RowKit Go.Lib in
theorem Tryz.strings_Index (s sub : ByteArray) (m : Int) (w : World) (hs : s.size < 4294967281) (hm : w.cell? ⟨5, 0, none⟩ = some (.int .i64 m)) :
    Calls Tryz.prog 82 #[.string s, .string sub] w fun e w' => e = .returned (.int .i64 (Lib.index s.data.toList sub.data.toList)) ∧ w' = w := Any.strings_Index Tryz.lays143 s sub m w hs hm
def Tryz.lays155_ren : Go.Shelf.Ren := ⟨fun | 155 => 32 | 154 => 54 | 138 => 80 | 165 => 81 | 143 => 82 | 166 => 83 | 197 => 84 | 169 => 85 | 195 => 103 | 218 => 104 | 240 => 105 | 241 => 106 | 219 => 107 | 260 => 108 | 276 => 118 | 277 => 119 | 217 => 111 | 225 => 120 | 224 => 121 | 267 => 122 | 266 => 123 | 314 => 133 | n => n, fun | 9 => 9 | 3 => 3 | 4 => 4 | 72 => 104 | 0 => 0 | 76 => 107 | 105 => 109 | 21 => 21 | 5 => 5 | 70 => 102 | 20 => 20 | 37 => 22 | 75 => 106 | 127 => 128 | 164 => 147 | 46 => 100 | 119 => 123 | 139 => 126 | 138 => 125 | 146 => 164 | 51 => 151 | 80 => 82 | n => n, fun | 1 => 5 | 3 => 0 | 4 => 1 | n => n⟩
theorem Tryz.lays155 : Go.Proofs.Lays.n155 Tryz.prog Tryz.lays155_ren := {
  mixed := by kernel_rfl
  f138 := Tryz.func80.trans (congrArg some (by kernel_rfl))
  f143 := Tryz.func82.trans (congrArg some (by kernel_rfl))
  f154 := Tryz.func54.trans (congrArg some (by kernel_rfl))
  f155 := Tryz.func32.trans (congrArg some (by kernel_rfl))
  f165 := Tryz.func81.trans (congrArg some (by kernel_rfl))
  f166 := Tryz.func83.trans (congrArg some (by kernel_rfl))
  f169 := Tryz.func85.trans (congrArg some (by kernel_rfl))
  f195 := Tryz.func103.trans (congrArg some (by kernel_rfl))
  f197 := Tryz.func84.trans (congrArg some (by kernel_rfl))
  f217 := Tryz.func111.trans (congrArg some (by kernel_rfl))
  f218 := Tryz.func104.trans (congrArg some (by kernel_rfl))
  f219 := Tryz.func107.trans (congrArg some (by kernel_rfl))
  f224 := Tryz.func121.trans (congrArg some (by kernel_rfl))
  f225 := Tryz.func120.trans (congrArg some (by kernel_rfl))
  f240 := Tryz.func105.trans (congrArg some (by kernel_rfl))
  f241 := Tryz.func106.trans (congrArg some (by kernel_rfl))
  f260 := Tryz.func108.trans (congrArg some (by kernel_rfl))
  f266 := Tryz.func123.trans (congrArg some (by kernel_rfl))
  f267 := Tryz.func122.trans (congrArg some (by kernel_rfl))
  f276 := Tryz.func118.trans (congrArg some (by kernel_rfl))
  f277 := Tryz.func119.trans (congrArg some (by kernel_rfl))
  f314 := Tryz.func133.trans (congrArg some (by kernel_rfl))
  t0 := Tryz.underlying0
  a0 := Tryz.isAgg0
  z0 := Tryz.sizeOf0
  v0 := Tryz.zeroValue0
  t3 := Tryz.underlying3
  a3 := Tryz.isAgg3
  z3 := Tryz.sizeOf3
  v3 := Tryz.zeroValue3
  t4 := Tryz.underlying4
  a4 := Tryz.isAgg4
  z4 := Tryz.sizeOf4
  v4 := Tryz.zeroValue4
  t5 := Tryz.underlying5
  a5 := Tryz.isAgg5
  z5 := Tryz.sizeOf5
  v5 := Tryz.zeroValue5
  t9 := Tryz.underlying9
  a9 := Tryz.isAgg9
  z9 := Tryz.sizeOf9
  v9 := Tryz.zeroValue9
  t20 := Tryz.underlying20
  a20 := Tryz.isAgg20
  z20 := Tryz.sizeOf20
  v20 := Tryz.zeroValue20
  t21 := Tryz.underlying21
  a21 := Tryz.isAgg21
  z21 := Tryz.sizeOf21
  v21 := Tryz.zeroValue21
  t37 := Tryz.underlying22
  a37 := Tryz.isAgg22
  z37 := Tryz.sizeOf22
  v37 := Tryz.zeroValue22
  t46 := Tryz.underlying100
  a46 := Tryz.isAgg100
  z46 := Tryz.sizeOf100
  v46 := Tryz.zeroValue100
  t51 := Tryz.underlying151
  a51 := Tryz.isAgg151
  z51 := Tryz.sizeOf151
  v51 := Tryz.zeroValue151
  t70 := Tryz.underlying102
  a70 := Tryz.isAgg102
  z70 := Tryz.sizeOf102
  v70 := Tryz.zeroValue102
  t72 := Tryz.underlying104
  a72 := Tryz.isAgg104
  z72 := Tryz.sizeOf104
  v72 := Tryz.zeroValue104
  t75 := Tryz.underlying106
  a75 := Tryz.isAgg106
  z75 := Tryz.sizeOf106
  v75 := Tryz.zeroValue106
  t76 := Tryz.underlying107
  a76 := Tryz.isAgg107
  z76 := Tryz.sizeOf107
  v76 := Tryz.zeroValue107
  t105 := Tryz.underlying109
  a105 := Tryz.isAgg109
  z105 := Tryz.sizeOf109
  v105 := Tryz.zeroValue109
  t119 := Tryz.underlying123
  a119 := Tryz.isAgg123
  z119 := Tryz.sizeOf123
  t127 := Tryz.underlying128
  a127 := Tryz.isAgg128
  z127 := Tryz.sizeOf128
  v127 := Tryz.zeroValue128
  t138 := Tryz.underlying125
  a138 := Tryz.isAgg125
  z138 := Tryz.sizeOf125
  v138 := Tryz.zeroValue125
  t139 := Tryz.underlying126
  a139 := Tryz.isAgg126
  z139 := Tryz.sizeOf126
  v139 := Tryz.zeroValue126
  t146 := Tryz.underlying164
  a146 := Tryz.isAgg164
  z146 := Tryz.sizeOf164
  v146 := Tryz.zeroValue164
  t164 := Tryz.underlying147
  a164 := Tryz.isAgg147
  z164 := Tryz.sizeOf147
  v164 := Tryz.zeroValue147
  g1 := by kernel_rfl
  g3 := by kernel_rfl
  g4 := by kernel_rfl }
theorem Tryz.Builder_Extra_155 : Builder.Extra Tryz.prog Tryz.lays155_ren := {
  sizeBuilder := by kernel_rfl
  liesBuilder := by kernel_rfl
  t5 := Tryz.underlying5
  a5 := Tryz.isAgg5
  z5 := Tryz.sizeOf5
  v5 := Tryz.zeroValue5
  infoByte := by kernel_rfl
  cellsByte := by kernel_rfl
  sizeByte := by kernel_rfl
  neB5 := by decide }
open Go.RowKit Go.Lib in
theorem Tryz.strings_ReplaceAll (s old new : ByteArray) (m : Int) (w : World) (hs : s.size < 4294967281) (hm : w.cell? ⟨5, 0, none⟩ = some (.int .i64 m)) (h1 : 1 ≤ old.size) (hlen : s.size + Lib.countB s old * new.size ≤ 140737488355328) :
    Calls Tryz.prog 32 #[.string s, .string old, .string new] w fun e w' =>
      e = .returned (.string ⟨(Lib.replaceAll s.data.toList old.data.toList new.data.toList).toArray⟩) ∧ Below w.heap.size w w' := Any.strings_ReplaceAll Tryz.lays155 Tryz.Builder_Extra_155 s old new m w hs hm h1 hlen
def Tryz.lays164_ren : Go.Shelf.Ren := ⟨fun | 164 => 58 | 197 => 84 | 239 => 86 | 260 => 108 | 274 => 109 | 275 => 110 | n => n, fun | 9 => 9 | 4 => 4 | 3 => 3 | 5 => 5 | 0 => 0 | 21 => 21 | 105 => 109 | 156 => 130 | 49 => 129 | 157 => 131 | 46 => 100 | 159 => 133 | 162 => 136 | 160 => 134 | 119 => 123 | 139 => 126 | 138 => 125 | 208 => 155 | 51 => 151 | 206 => 153 | n => n, fun | 11 => 2 | 12 => 3 | 13 => 4 | 3 => 0 | 4 => 1 | n => n⟩
theorem Tryz.lays164 : Go.Proofs.Lays.n164 Tryz.prog Tryz.lays164_ren := {
  mixed := by kernel_rfl
  f164 := Tryz.func58.trans (congrArg some (by kernel_rfl))
  f197 := Tryz.func84.trans (congrArg some (by kernel_rfl))
  f239 := Tryz.func86.trans (congrArg some (by kernel_rfl))
  f260 := Tryz.func108.trans (congrArg some (by kernel_rfl))
  f274 := Tryz.func109.trans (congrArg some (by kernel_rfl))
  f275 := Tryz.func110.trans (congrArg some (by kernel_rfl))
  t0 := Tryz.underlying0
  a0 := Tryz.isAgg0
  z0 := Tryz.sizeOf0
  v0 := Tryz.zeroValue0
  t3 := Tryz.underlying3
  a3 := Tryz.isAgg3
  z3 := Tryz.sizeOf3
  v3 := Tryz.zeroValue3
  t4 := Tryz.underlying4
  a4 := Tryz.isAgg4
  z4 := Tryz.sizeOf4
  v4 := Tryz.zeroValue4
  t5 := Tryz.underlying5
  a5 := Tryz.isAgg5
  z5 := Tryz.sizeOf5
  v5 := Tryz.zeroValue5
  t9 := Tryz.underlying9
  a9 := Tryz.isAgg9
  z9 := Tryz.sizeOf9
  v9 := Tryz.zeroValue9
  t21 := Tryz.underlying21
  a21 := Tryz.isAgg21
  z21 := Tryz.sizeOf21
  v21 := Tryz.zeroValue21
  t46 := Tryz.underlying100
  a46 := Tryz.isAgg100
  z46 := Tryz.sizeOf100
  v46 := Tryz.zeroValue100
  t49 := Tryz.underlying129
  a49 := Tryz.isAgg129
  z49 := Tryz.sizeOf129
  v49 := Tryz.zeroValue129
  t51 := Tryz.underlying151
  a51 := Tryz.isAgg151
  z51 := Tryz.sizeOf151
  v51 := Tryz.zeroValue151
  t105 := Tryz.underlying109
  a105 := Tryz.isAgg109
  z105 := Tryz.sizeOf109
  v105 := Tryz.zeroValue109
  t119 := Tryz.underlying123
  a119 := Tryz.isAgg123
  z119 := Tryz.sizeOf123
  t138 := Tryz.underlying125
  a138 := Tryz.isAgg125
  z138 := Tryz.sizeOf125
  v138 := Tryz.zeroValue125
  t139 := Tryz.underlying126
  a139 := Tryz.isAgg126
  z139 := Tryz.sizeOf126
  v139 := Tryz.zeroValue126
  t156 := Tryz.underlying130
  a156 := Tryz.isAgg130
  z156 := Tryz.sizeOf130
  t157 := Tryz.underlying131
  a157 := Tryz.isAgg131
  z157 := Tryz.sizeOf131
  v157 := Tryz.zeroValue131
  t159 := Tryz.underlying133
  a159 := Tryz.isAgg133
  z159 := Tryz.sizeOf133
  v159 := Tryz.zeroValue133
  t160 := Tryz.underlying134
  a160 := Tryz.isAgg134
  z160 := Tryz.sizeOf134
  v160 := Tryz.zeroValue134
  t162 := Tryz.underlying136
  a162 := Tryz.isAgg136
  z162 := Tryz.sizeOf136
  v162 := Tryz.zeroValue136
  t206 := Tryz.underlying153
  a206 := Tryz.isAgg153
  z206 := Tryz.sizeOf153
  v206 := Tryz.zeroValue153
  t208 := Tryz.underlying155
  a208 := Tryz.isAgg155
  z208 := Tryz.sizeOf155
  v208 := Tryz.zeroValue155
  g3 := by kernel_rfl
  g4 := by kernel_rfl
  g11 := by kernel_rfl
  g12 := by kernel_rfl
  g13 := by kernel_rfl }
open Go.RowKit Go.Lib in
theorem Tryz.strings_EqualFold (s t : ByteArray) (w : World) (hs : s.size < 4294967281) (has : ∀ (j : Nat) b, s.data.toList[j]? = some b → b.toNat < 128) (hat : ∀ (j : Nat) b, t.data.toList[j]? = some b → b.toNat < 128) :
    Calls Tryz.prog 58 #[.string s, .string t] w fun e w' => e = .returned (.bool (Lib.equalFold s.data.toList t.data.toList)) ∧ w' = w := Any.strings_EqualFold Tryz.lays164 s t w hs has hat
end Go.Proofs
namespace Go.Proofs.YtmnajffpmbidiaaGreatDoor.Ev
open Go.RowKit
def klib (f : FuncId) : Option (List AV → Mem → Option (AV × Mem)) := if f = 87 then some idxByteLib else if f = 82 then some idxLib else if f = 32 then some replLib else none
def cfgK (m : Int) : Cfg := ⟨fun k => if k = 5 then some [.int .i64 m] else none, klib, fun _ _ => none, fun _ => true⟩
def isT : Option (End × Mem) → Bool
  | some (.ret (.bool true), []) => true
  | _ => false
theorem isT_eq {x : Option (End × Mem)} (h : isT x = true) : x = some (.ret (.bool true), []) := by
  unfold isT at h; split at h <;> first | rfl | cases h
set_option maxRecDepth 1000000 in
theorem known_runs (m : Int) : isT (evF Tryz.prog (cfgK m) 200 100 17 [] []) = true := by kernel_rfl
theorem args2 {η : Nat → Option Nat} {H : Mem} {w : World} {x y : AV} {us : Array Value} (hv : VRs η H w [x, y] us) : ∃ u v, us = #[u, v] ∧ VR η H w x u ∧ VR η H w y v := by
  obtain ⟨hsz, hj⟩ := hv
  obtain ⟨l⟩ := us
  match l, hsz with
  | [u, v], _ => exact ⟨u, v, rfl, hj 0 _ u rfl rfl, hj 1 _ v rfl rfl⟩
theorem args3 {η : Nat → Option Nat} {H : Mem} {w : World} {x y z : AV} {us : Array Value} (hv : VRs η H w [x, y, z] us) : ∃ u v t, us = #[u, v, t] ∧ VR η H w x u ∧ VR η H w y v ∧ VR η H w z t := by
  obtain ⟨hsz, hj⟩ := hv
  obtain ⟨l⟩ := us
  match l, hsz with
  | [u, v, t], _ => exact ⟨u, v, t, rfl, hj 0 _ u rfl rfl, hj 1 _ v rfl rfl, hj 2 _ t rfl rfl⟩
theorem data_len (s : ByteArray) : s.data.toList.length = s.size := by rw [Array.length_toList]; rfl
theorem klib_ok {g : Cfg} {m : Int} (hg : g.glob 5 = some [.int .i64 m]) {f : FuncId} {s : List AV → Mem → Option (AV × Mem)} (hf : klib f = some s) {args : List AV} {H : Mem} {v : AV} {H' : Mem} (hs : s args H = some (v, H')) {η : Nat → Option Nat} {w : World} {us : Array Value} (r : Rel g η H w) (hv : VRs η H w args us) :
    Calls Tryz.prog f us w fun e w' => ∃ η', Ext η H w η' H' w' ∧ Rel g η' H' w' ∧ EndR η' H' w' (.ret v) e := by
  obtain ⟨u0, hc0, hv0⟩ := glob_cell r hg
  cases hv0
  unfold klib at hf
  split at hf
  · rename_i h; subst h
    injection hf with hf; subst hf
    unfold idxByteLib at hs
    split at hs
    · injection hs with hs; injection hs with h1 h2; subst h1 h2
      obtain ⟨a, b, rfl, ha, hb⟩ := args2 hv
      cases ha with
      | str _ s' h =>
        subst h
        cases hb
        refine lib_of r ((Tryz.strings_IndexByte s' _ w).mono ?_) fun w' => .int _ _
        rintro e w' ⟨rfl, rfl⟩
        exact ⟨rfl, Below.refl _ _⟩
    · cases hs
  split at hf
  · rename_i h; subst h
    injection hf with hf; subst hf
    unfold idxLib at hs
    split at hs
    · split at hs
      · rename_i hl
        injection hs with hs; injection hs with h1 h2; subst h1 h2
        obtain ⟨a, b, rfl, ha, hb⟩ := args2 hv
        cases ha with
        | str _ s' h =>
          subst h
          cases hb with
          | str _ t' h =>
            subst h
            refine lib_of r ((Tryz.strings_Index s' t' m w (by rw [← data_len]; exact hl) hc0).mono ?_) fun w' => .int _ _
            rintro e w' ⟨rfl, rfl⟩
            exact ⟨rfl, Below.refl _ _⟩
      · cases hs
    · cases hs
  split at hf
  · rename_i h; subst h
    injection hf with hf; subst hf
    unfold replLib at hs
    split at hs
    · split at hs
      · rename_i hl
        injection hs with hs; injection hs with h1 h2; subst h1 h2
        obtain ⟨a, b, c, rfl, ha, hb, hcc⟩ := args3 hv
        cases ha with
        | str _ s' h =>
          subst h
          cases hb with
          | str _ t' h =>
            subst h
            cases hcc with
            | str _ u' h =>
              subst h
              have e1 : (⟨s'.data.toList.toArray⟩ : ByteArray) = s' := by simp
              have e2 : (⟨t'.data.toList.toArray⟩ : ByteArray) = t' := by simp
              rw [e1, e2] at hl
              simp only [data_len] at hl
              exact lib_of r (Tryz.strings_ReplaceAll s' t' u' m w hl.1 hc0 hl.2.1 hl.2.2) fun w' => .str _ _ (by simp)
      · cases hs
    · cases hs
  cases hf
theorem known_calls (m : Int) (w : World) (hc : w.cell? ⟨5, 0, none⟩ = some (.int .i64 m)) : Calls Tryz.prog 17 #[] w fun e w' => e = .returned (.bool true) ∧ Below w.heap.size w w' := by
  have hm : Tryz.prog.follows .mixedOrders = true := by kernel_rfl
  have hL : LibOk Tryz.prog (cfgK m) := fun f s hf args H v H' hs η w us r hv => klib_ok (g := cfgK m) (m := m) rfl hf hs r hv
  have hr : Rel (cfgK m) (fun _ => none) [] w := relGlob fun k cs h => by
    simp only [cfgK] at h
    split at h
    · rename_i hk; subst hk
      injection h with h; subst h
      exact glob_one hc (.int _ _)
    · cases h
  refine (ev_sound hm hL 200 100 _ [] [] _ _ (isT_eq (known_runs m)) _ w #[] hr ⟨rfl, fun j c u h => by simp at h⟩).mono ?_
  rintro e w' ⟨η', h1, h2, h3⟩
  cases e with
  | returned u =>
    cases h3
    exact ⟨rfl, h1.below⟩
  | panicked ch => exact h3.elim
  | outgrown => exact h3.elim
end Go.Proofs.YtmnajffpmbidiaaGreatDoor.Ev
namespace Go.Proofs.YtmnajffpmbidiaaGreatDoor.Ev
open Go.RowKit
variable {P : Program} {H : Type} {enc : TypeId × Value → H} {w : World} {base : Nat} {spare : Nat → Bool} {held : Bool}
def CR (w : World) (xs : List AV) (cs : List Value) : Prop := xs.length = cs.length ∧ ∀ (j : Nat) c u, xs[j]? = some c → cs[j]? = some u → VR (fun _ => none) [] w c u
theorem CR.one {x : AV} {u : Value} (h : VR (fun _ => none) [] w x u) : CR w [x] [u] := by
  refine ⟨rfl, fun j c v h1 h2 => ?_⟩
  cases j with
  | zero => simp at h1 h2; subst h1 h2; exact h
  | succ j => simp at h1
theorem CR.app {xs ys : List AV} {cs ds : List Value} (h : CR w xs cs) (k : CR w ys ds) : CR w (xs ++ ys) (cs ++ ds) := by
  refine ⟨by simp [h.1, k.1], fun j c u h1 h2 => ?_⟩
  rcases Nat.lt_or_ge j xs.length with hj | hj
  · rw [List.getElem?_append_left hj] at h1
    rw [List.getElem?_append_left (by rw [← h.1]; exact hj)] at h2
    exact h.2 j c u h1 h2
  · rw [List.getElem?_append_right hj] at h1
    rw [List.getElem?_append_right (by rw [← h.1]; exact hj)] at h2
    rw [← h.1] at h2
    exact k.2 _ c u h1 h2
theorem CR.nil : CR w [] [] := ⟨rfl, fun j c u h => by simp at h⟩
theorem CR.cons {x : AV} {u : Value} {xs : List AV} {cs : List Value} (h : VR (fun _ => none) [] w x u) (k : CR w xs cs) : CR w (x :: xs) (u :: cs) := (CR.one h).app k
theorem CR.agg {xs : List AV} {cs : Array Value} (h : CR w xs cs.toList) : VR (fun _ => none) [] w (.agg xs) (.agg cs) :=
  .agg xs cs (by rw [h.1]; simp) fun j c u h1 h2 => h.2 j c u h1 (by simpa using h2)
def Slim (P : Program) (B : Nat) (t : TypeId) (d : DataW H) : Prop := ∀ x ∈ d.weights P t, x ≤ B
theorem Slim.lit {B t : Nat} {l : List UInt8} (h : Slim P B t (.lit (.string l) : DataW H)) : l.length ≤ B := h _ (by simp [DataW.weights])
theorem slim_each : ∀ {ts : List TypeId} {ds : List (DataW H)} {B : Nat}, (∀ x ∈ DataW.weightsEach P ts ds, x ≤ B) → ∀ (j : Nat) t d, ts[j]? = some t → ds[j]? = some d → Slim P B t d
  | [], _, _, _, j, t, d, h, _ => by simp at h
  | _ :: _, [], _, _, j, t, d, _, h => by simp at h
  | t0 :: ts, d0 :: ds, B, hB, j, t, d, h1, h2 => by
    simp only [DataW.weightsEach,List.mem_append] at hB
    cases j with
    | zero =>
      simp at h1 h2
      subst h1 h2
      exact fun x hx => hB x (.inl hx)
    | succ j => exact slim_each (fun x hx => hB x (.inr hx)) j t d (by simpa using h1) (by simpa using h2)
theorem slim_all : ∀ {e : TypeId} {ds : List (DataW H)} {B : Nat}, (∀ x ∈ DataW.weightsAll P e ds, x ≤ B) → ∀ d ∈ ds, Slim P B e d
  | _, [], _, _, d, h => by simp at h
  | e, d0 :: ds, B, hB, d, h => by
    simp only [DataW.weightsAll,List.mem_append] at hB
    rcases List.mem_cons.1 h with rfl | h
    · exact fun x hx => hB x (.inl hx)
    · exact slim_all (fun x hx => hB x (.inr hx)) d h
theorem Slim.agg {B : Nat} {t : TypeId} {fs : Array Field} {ps : List (DataW H)} (ht : P.underlying t = some (.struct fs)) (h : Slim P B t (.agg ps)) (j : Nat) (f : Field) (d : DataW H) (h1 : fs[j]? = some f) (h2 : ps[j]? = some d) : Slim P B f.type d := by
  unfold Slim at h
  simp only [DataW.weights,ht] at h
  exact slim_each h j _ d (by simp [h1]) h2
theorem Slim.slice {B : Nat} {t e : TypeId} {xs ys : List (DataW H)} (ht : P.underlying t = some (.slice e)) (h : Slim P B t (.slice xs ys)) : (xs.length + ys.length) * P.bytesOf e ≤ B ∧ ∀ d ∈ xs, Slim P B e d := by
  unfold Slim at h
  simp only [DataW.weights,ht,List.mem_cons,List.mem_append] at h
  exact ⟨h _ (.inl rfl), fun d hd => slim_all (fun x hx => h x (.inr (.inl hx))) d hd⟩
theorem open_str {B : Nat} {t : TypeId} (ht : P.underlying t = some .string) {fuel : Nat} {cs : List Value} {x : DataW H × List MemPlace} (hB : Slim P B t x.1) (h : DataW.trod enc P w base spare held fuel t cs = some x) :
    ∃ s : List UInt8, CR w [.str s] cs ∧ s.length ≤ B := by
  obtain ⟨s, rfl, rfl, _⟩ := DataW.trod_string ht h
  exact ⟨s.data.toList, .one (.str _ _ rfl), hB.lit⟩
end Go.Proofs.YtmnajffpmbidiaaGreatDoor.Ev
