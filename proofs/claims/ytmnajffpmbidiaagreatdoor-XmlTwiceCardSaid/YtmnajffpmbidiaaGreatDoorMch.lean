/- Parts of one proof. -/
import Derived.Test.YtmnajffpmbidiaaGreatDoorMaa
import Derived.Lib.Index
import Derived.Lib.Replace
import Derived.Lib.DecodeN
import Derived.Lib.Fold
set_option linter.all false
namespace Go.Proofs.YtmnajffpmbidiaaGreatDoor.Ev
def idxByteLib : List AV → Mem → Option (AV × Mem)
  | [.str s, .int .u8 c], H => some (.int .i64 (Lib.indexByte s c.toNat.toUInt8), H)
  | _, _ => none
def idxLib : List AV → Mem → Option (AV × Mem)
  | [.str s, .str t], H => if s.length < 4294967281 then some (.int .i64 (Lib.index s t), H) else none
  | _, _ => none
def replLib : List AV → Mem → Option (AV × Mem)
  | [.str s, .str t, .str u], H => if s.length < 4294967281 ∧ 1 ≤ t.length ∧ s.length + Lib.countB ⟨s.toArray⟩ ⟨t.toArray⟩ * u.length ≤ 140737488355328 then some (.str (Lib.replaceAll s t u), H) else none
  | _, _ => none
def foldLib : List AV → Mem → Option (AV × Mem)
  | [.str s, .str t], H => if s.length < 4294967281 ∧ (s.all fun b => decide (b.toNat < 128)) = true ∧ (t.all fun b => decide (b.toNat < 128)) = true then some (.bool (Lib.equalFold s t), H) else none
  | _, _ => none
def trueLib : List AV → Mem → Option (AV × Mem)
  | [], H => some (.bool true, H)
  | _, _ => none
def firstRow : List AV := (List.range 256).map fun n => .int .u8 (Lib.firstT n)
def accRow : List AV := (List.range 16).flatMap fun n => [.int .u8 (Lib.accLo n), .int .u8 (Lib.accHi n)]
theorem firstRow_at {n : Nat} (h : n < 256) : firstRow[n]? = some (.int .u8 (Lib.firstT n)) := by
  unfold firstRow
  rw [List.getElem?_map, List.getElem?_range h]; rfl
end Go.Proofs.YtmnajffpmbidiaaGreatDoor.Ev
