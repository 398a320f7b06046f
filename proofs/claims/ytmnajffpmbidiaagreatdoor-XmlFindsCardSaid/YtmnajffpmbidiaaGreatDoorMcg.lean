/- Parts of one proof, one behind the other: What some functions of the library say, by contracts of their own (law 10). -/
import Derived.Test.YtmnajffpmbidiaaGreatDoorEvDef
import Derived.Lib.Index
import Derived.Lib.Replace
/- What some functions of the library say, by contracts of their own (law 10). -/
namespace Go.Proofs.YtmnajffpmbidiaaGreatDoor.Ev
set_option linter.all false
def idxByteLib : List AV → Mem → Option (AV × Mem)
  | [.str s, .int .u8 c], H => some (.int .i64 (Lib.indexByte s c.toNat.toUInt8), H)
  | _, _ => none
def idxLib : List AV → Mem → Option (AV × Mem)
  | [.str s, .str t], H => if s.length < 4294967281 then some (.int .i64 (Lib.index s t), H) else none
  | _, _ => none
def replLib : List AV → Mem → Option (AV × Mem)
  | [.str s, .str t, .str u], H => if s.length < 4294967281 ∧ 1 ≤ t.length ∧ s.length + Lib.countB ⟨s.toArray⟩ ⟨t.toArray⟩ * u.length ≤ 140737488355328 then some (.str (Lib.replaceAll s t u), H) else none
  | _, _ => none
def trueLib : List AV → Mem → Option (AV × Mem)
  | [], H => some (.bool true, H)
  | _, _ => none
end Go.Proofs.YtmnajffpmbidiaaGreatDoor.Ev
