/- Parts of one proof. -/
import Derived.Test.YtlimneghgioeaaaGreatDoorMch
import Derived.Test.YtlimneghgioeaaaGreatDoorShelf
import Derived.Lib.SlTrimSet
import Derived.Lib.Atoi
import Derived.Shelf.Strings.SlTrimAscii
import Derived.WalkKit
import Derived.WalkSpells
import Derived.WalkLawsBesides
import Derived.Lib.Hide
import Derived.Handy
import Derived.Outline
import Derived.Deep.QuietTactic
import Derived.BigQuiet
import Derived.Test.YtlimneghgioeaaaGreatDoorMcg
import Derived.Below
set_option linter.all false
namespace Go.Proofs.YtlimneghgioeaaaGreatDoor.Ev
open Go.RowKit
theorem data_len (s : ByteArray) : s.data.toList.length = s.size := by rw [Array.length_toList]; rfl
theorem below_drewN {B : Nat} {w W : World} (h : Below B w W) (n : Nat) : Below B w (W.drewN n) := ⟨h.os, h.tape, h.output, h.size, h.block⟩
theorem dropW_nil {α : Type} (p : α → Bool) : ∀ l : List α, l.dropWhile p = [] ↔ l.all p = true
  | [] => by simp
  | a :: l => by
    have := dropW_nil p l
    cases h : p a <;> simp [h, this]
theorem takeW_all {α : Type} (p : α → Bool) : ∀ l : List α, (l.takeWhile p).all p = true
  | [] => rfl
  | a :: l => by
    have := takeW_all p l
    cases h : p a <;> simp [h, this]
theorem trimS_all (l cs : List UInt8) (h : l.all (cs.contains ·) = true) : Lib.trimS l cs = [] := by
  have : Lib.trimRightS l cs = [] := by
    unfold Lib.trimRightS
    rw [(dropW_nil _ _).2 (by simpa using h)]
    rfl
  rw [Lib.trimS, this]
  rfl
theorem trimS_not (l cs : List UInt8) (h : l.all (cs.contains ·) = false) : Lib.trimS l cs ≠ [] := by
  intro e
  rw [Lib.trimS, Lib.trimLeftS, dropW_nil] at e
  have hr : (Lib.trimRightS l cs).reverse = l.reverse.dropWhile (cs.contains ·) := by rw [Lib.trimRightS, List.reverse_reverse]
  have e2 : (l.reverse.dropWhile (cs.contains ·)).all (cs.contains ·) = true := by rw [← hr, List.all_reverse]; exact e
  have e3 : l.reverse.all (cs.contains ·) = true := by
    rw [← List.takeWhile_append_dropWhile (p := (cs.contains ·)) (l := l.reverse), List.all_append, e2, Bool.and_true]
    exact takeW_all _ _
  rw [List.all_reverse] at e3
  rw [e3] at h
  cases h
def digitsS : List UInt8 := [48, 49, 50, 51, 52, 53, 54, 55, 56, 57]
theorem mem_digits (c : UInt8) : digitsS.contains c = digL c := by
  have h : ∀ n : Fin 256, digitsS.contains (UInt8.ofNat n.val) = digL (UInt8.ofNat n.val) := by decide +kernel
  have := h ⟨c.toNat, c.toNat_lt⟩
  simpa using this
theorem decFrom_digs : ∀ (l : List UInt8) (acc : Nat), l.all digL = true → ∃ n : Nat, Lib.decFrom acc l = some n ∧ (n : Int) = l.foldl (fun n c => n * 10 + (c.toNat : Int) - 48) (acc : Int)
  | [], acc, _ => ⟨acc, rfl, rfl⟩
  | c :: l, acc, h => by
    rw [List.all_cons, Bool.and_eq_true] at h
    obtain ⟨h1, h2⟩ := h
    simp only [digL,Bool.and_eq_true,decide_eq_true_eq] at h1
    have hd : Lib.digitVal c = some (c.toNat - 48) := by rw [Lib.digitVal, if_pos ⟨by omega, by omega⟩]
    obtain ⟨n, e1, e2⟩ := decFrom_digs l (acc * 10 + (c.toNat - 48)) h2
    refine ⟨n, by rw [Lib.decFrom, hd]; exact e1, ?_⟩
    rw [e2, List.foldl_cons]
    congr 1
    omega
theorem atoi_digs : ∀ (l : List UInt8), 1 ≤ l.length → l.all digL = true → Lib.atoi l = some (digs l)
  | [], hl, _ => by simp at hl
  | c :: r, _, ha => by
    obtain ⟨n, e1, e2⟩ := decFrom_digs (c :: r) 0 ha
    rw [List.all_cons, Bool.and_eq_true] at ha
    have h3 := ha.1
    simp only [digL,Bool.and_eq_true,decide_eq_true_eq] at h3
    have n1 : (c == 45) = false := by
      rw [beq_eq_false_iff_ne]; intro e; subst e; revert h3; decide
    have n2 : (c == 43) = false := by
      rw [beq_eq_false_iff_ne]; intro e; subst e; revert h3; decide
    rw [Lib.atoi, n1, n2]
    simp only [Ze,if_false]
    rw [Lib.decNat, if_neg (by simp), e1]
    simp only [Zh]
    rw [e2]
    rfl
theorem all_digits (l : List UInt8) : l.all (digitsS.contains ·) = l.all digL := by
  congr 1
  funext c
  exact mem_digits c
def digitsB : ByteArray := ⟨#[48, 49, 50, 51, 52, 53, 54, 55, 56, 57]⟩
theorem trim_digits (s : ByteArray) (hs : s.size ≤ 9223372036854775807) (W : World) : Calls Tryz.prog 31 #[.string s, .string digitsB] W fun e w' => e = .returned (.string ⟨(Lib.trimS s.data.toList digitsS).toArray⟩) ∧ Below W.heap.size W w' :=
  Go.Proofs.Any.strings_Trim_laid Tryz.lays160 (by kernel_rfl) s digitsB W hs (by decide) (Go.Proofs.ascii_of_all (by decide))
theorem atoi_digits (s : ByteArray) (n : Int) (hl : s.size ≤ 18) (h : Lib.atoi s.data.toList = some n) (W : World) : Calls Tryz.prog 32 #[.string s] W fun e w' => e = .returned (.tuple #[.int .i64 n, .nilIface]) ∧ Below W.heap.size W w' := by
  refine (Tryz.strconv_Atoi s n hl h W).mono ?_
  rintro e w' ⟨rfl, t, rfl⟩
  exact ⟨rfl, ⟨rfl, rfl, rfl, by rw [Lib.bytesWorld_size]; omega, fun i hi => Lib.bytesWorld_at_old W _ t i (by omega)⟩⟩
set_option maxRecDepth 100000 in
set_option maxHeartbeats 2000000 in
theorem number_any (s : ByteArray) (hs : s.size ≤ 9223372036854775807) (W : World) : Calls Tryz.prog 14 #[.string s] W fun e w' => e = .returned (.tuple #[.int .i64 (numZ s.data.toList), .bool (isNum s.data.toList)]) ∧ Below W.heap.size W w' := by
  have hsz := data_len s
  by_cases h0 : s.size < 1
  · have HN := Lib.hid (show numL s.data.toList = -1 by rw [numL, if_neg (by omega)])
    have he : s.toList = [] := by
      rw [ByteArray.toList_eq]
      exact List.eq_nil_of_length_eq_zero (by omega)
    have he2 : s.toList.isEmpty = true := by rw [he]; rfl
    clear hsz
    go_enter Tryz.func14, Tryz.ntmps14
    go_wp2_with fail
    go_ret2
    exact ⟨by rw [numZ, isNum, HN.out]; rfl, Below.refl _ _⟩
  · have he2 : s.toList.isEmpty = false := by
      rw [ByteArray.toList_eq]
      cases e : s.data.toList with
      | nil => rw [e] at hsz; exact absurd (show s.size < 1 by rw [← hsz]; decide) h0
      | cons a l => rfl
    by_cases h9 : 9 < s.size
    · have HN := Lib.hid (show numL s.data.toList = -1 by rw [numL, if_neg (by omega)])
      have h9i : (9 : Int) < (s.size : Int) := by omega
      clear hsz
      go_enter Tryz.func14, Tryz.ntmps14
      go_wp2_with fail
      go_ret2
      exact ⟨by rw [numZ, isNum, HN.out]; rfl, Below.refl _ _⟩
    · have h9i : (s.size : Int) ≤ 9 := by omega
      have HT := Lib.hid (trim_digits s hs W)
      by_cases ha : s.data.toList.all digL = true
      · have HN := Lib.hid (show numL s.data.toList = digs s.data.toList by rw [numL, if_pos ⟨by omega, by omega, ha⟩])
        have hr := digs_range s.size s.data.toList hsz ha
        have HA := Lib.hid (atoi_digits s (digs s.data.toList) (by omega) (atoi_digs s.data.toList (by omega) ha))
        have HE := Lib.hid (trimS_all s.data.toList digitsS (by rw [all_digits]; exact ha))
        have HR := Lib.hid hr
        rw [HE.out] at HT
        clear ha hr hsz
        go_enter Tryz.func14, Tryz.ntmps14
        unfold digitsB at HT
        go_wp2_with (first | (go_at_call 31; refine HT.out.mono ?_; rintro e w1 ⟨rfl, hb1⟩) | (go_at_call 32; refine (HA.out _).mono ?_; rintro e w2 ⟨rfl, hb2⟩))
        go_quiet (fail)
        go_wp2_with fail
        have HB := Lib.hid (hb1.trans (hb2.mono hb1.size))
        have HZ := Lib.hid (show numZ s.data.toList = digs s.data.toList ∧ isNum s.data.toList = true by
          have h := HR.out.1
          rw [numZ, isNum, HN.out, if_neg (by omega)]
          exact ⟨rfl, by rw [bne_iff_ne]; omega⟩)
        clear hb1 hb2
        generalize digs s.data.toList = d at HZ ⊢
        go_ret2
        refine ⟨by rw [HZ.out.1, HZ.out.2]; rfl, ?_⟩
        exact below_drewN HB.out _
      · have ha2 : s.data.toList.all digL = false := by simpa using ha
        have HN := Lib.hid (show numL s.data.toList = -1 by rw [numL, if_neg (by rintro ⟨_, _, h⟩; exact ha h)])
        have hne := trimS_not s.data.toList digitsS (by rw [all_digits]; exact ha2)
        generalize Lib.trimS s.data.toList digitsS = r at HT hne
        have he3 : (⟨r.toArray⟩ : ByteArray).toList.isEmpty = false := by
          rw [ByteArray.toList_eq]
          cases r with
          | nil => exact absurd rfl hne
          | cons a l => rfl
        clear ha ha2 hne hsz
        generalize (⟨r.toArray⟩ : ByteArray) = q at HT he3
        go_enter Tryz.func14, Tryz.ntmps14
        unfold digitsB at HT
        go_wp2_with (go_at_call 31; refine HT.out.mono ?_; rintro e w1 ⟨rfl, hb1⟩)
        go_ret2
        exact ⟨by rw [numZ, isNum, HN.out]; rfl, hb1⟩
end Go.Proofs.YtlimneghgioeaaaGreatDoor.Ev
namespace Go.Proofs.YtlimneghgioeaaaGreatDoor.Ev
open Go.RowKit
variable {P : Program} {g : Cfg} {w : World}
theorem relNil (hg : ∀ k, g.glob k = none) : Rel g (fun _ => none) [] w :=
  ⟨fun _ _ h => (by cases h), fun _ _ _ h => (by cases h), fun x hx => (by simp at hx), fun _ _ _ _ h => (by cases h), fun k cs h => (by rw [hg] at h; cases h)⟩
theorem Ext.below {η' : Nat → Option Nat} {H' : Mem} {w' : World} (e : Ext (fun _ => none) [] w η' H' w') : Below w.heap.size w w' :=
  ⟨e.os, e.tape, e.output, e.size, fun k hk => (e.imm k ⟨hk, fun _ h => by cases h⟩).1⟩
theorem use (hm : P.follows .mixedOrders = true) (hL : LibOk P g) {T : FuncId → Option IF} (hT : TOk P g T) (hg : ∀ k, g.glob k = none) {N n f : Nat} {args : List AV} {v : AV} {H' : Mem} (h : evFI P g T N n f args [] = some (.ret v, H')) {us : Array Value} (hv : VRs (fun _ => none) [] w args us) :
    Calls P f us w fun e w' => ∃ u, e = .returned u ∧ Below w.heap.size w w' ∧ ∃ η', VR η' H' w' v u := by
  refine (evI_ok hm hL hT N n f args [] (.ret v) H' h _ w us (relNil hg) hv).mono ?_
  rintro e w' ⟨η', h1, h2, h3⟩
  cases e with
  | returned u => exact ⟨u, rfl, h1.below, η', h3⟩
  | panicked ch => exact h3.elim
  | outgrown => exact h3.elim
theorem lib_of {f : FuncId} {η : Nat → Option Nat} {H : Mem} {us : Array Value} {u : Value} {v : AV} (r : Rel g η H w) (hc : Calls P f us w fun e w' => e = .returned u ∧ Below w.heap.size w w') (hv : ∀ w', VR η H w' v u) :
    Calls P f us w fun e w' => ∃ η', Ext η H w η' H w' ∧ Rel g η' H w' ∧ EndR η' H w' (.ret v) e := by
  refine hc.mono ?_
  rintro e w' ⟨rfl, hb⟩
  have e1 : Ext η H w η H w' := ⟨⟨Nat.le_refl _, fun id x hx => ⟨x, hx, Nat.le_refl _, fun _ b hη => ⟨hη, fun s hs => by
    rw [stab_heap (hb.block b (r.dom id b hη).2)]; exact hs⟩⟩, hb.size, fun b hi => ⟨hb.block b hi.1, hi.2⟩, hb.os, hb.tape, hb.output⟩, fun _ _ h => h⟩
  exact ⟨η, e1, r.step e1.toExtW (fun id b h => ⟨(r.dom id b h).1, Nat.lt_of_lt_of_le (r.dom id b h).2 hb.size⟩) r.inj r.low (fun id x b h1 h2 => .inl ⟨h1, h2, hb.block b (r.dom id b h2).2⟩), hv w'⟩
end Go.Proofs.YtlimneghgioeaaaGreatDoor.Ev
