/- Plain laws: a text whose bytes are changed one by one: what stands between its strokes; small and great letters; what opc and the reference say of such a name. -/
import Derived.Test.YtfdfkhpoblembaaDoorPieces
namespace Go.Proofs.YtfdfkhpoblembaaDoor
open Go.RowKit Go.Proofs.YtfdfkhpoblembaaDoorW.PrintWords

/-- A text whose bytes are changed one by one. -/
def mapS (f : Int → Int) (s : ByteArray) : ByteArray := strOfNums ((bytesOf s).map f)
def byteF (f : Int → Int) (c : UInt8) : UInt8 := UInt8.ofNat (f (c.toNat : Int)).toNat
theorem mapS_data (f : Int → Int) (s : ByteArray) : (mapS f s).data.toList = s.data.toList.map (byteF f) := by
  simp [mapS, strOfNums_data, bytesOf, byteF]
theorem mapS_size (f : Int → Int) (s : ByteArray) : (mapS f s).size = s.size := by
  rw [← data_length, mapS_data, List.length_map, data_length]
/-- A change of bytes that leaves strokes strokes and makes none. -/
def Strokes (f : Int → Int) : Prop := ∀ c : UInt8, byteF f c = 47 ↔ c = 47
theorem pieces_map (f : Int → Int) (h : Strokes f) : ∀ l : List UInt8, pieces (l.map (byteF f)) = (pieces l).map (List.map (byteF f))
  | [] => rfl
  | c :: r => by
    rw [List.map_cons, pieces, pieces, pieces_map f h r]
    by_cases hc : c = 47
    · rw [if_pos hc, if_pos ((h c).2 hc)]; rfl
    · rw [if_neg hc, if_neg (fun e => hc ((h c).1 e))]
      cases pieces r <;> simp [headTo]
theorem cutB_map (f : Int → Int) (h : Strokes f) (s : ByteArray) : cutB (mapS f s) = (cutB s).map (mapS f) := by
  refine cutB_of ?_
  rw [mapS_data, pieces_map f h, ← cutB_pieces, List.map_map, List.map_map]
  exact List.map_congr_left fun p _ => mapS_data f p
theorem all_bytes {p : UInt8 → Prop} (h : ∀ n : Nat, n < 256 → p (UInt8.ofNat n)) (c : UInt8) : p c := by
  have := h c.toNat c.toNat_lt
  rwa [UInt8.ofNat_toNat] at this
theorem strokes_of (f : Int → Int) (h : ∀ n : Nat, n < 256 → (decide (byteF f (UInt8.ofNat n) = 47) = decide (UInt8.ofNat n = 47))) : Strokes f :=
  all_bytes (p := fun c => byteF f c = 47 ↔ c = 47) fun n hn => by
    have := h n hn
    rwa [decide_eq_decide] at this
theorem strokes_low : Strokes lowI := strokes_of _ (by decide +kernel)
def upI (c : Int) : Int := if 97 ≤ c ∧ c ≤ 122 then c - 32 else c
def upS (s : ByteArray) : ByteArray := mapS upI s
theorem strokes_up : Strokes upI := strokes_of _ (by decide +kernel)
theorem lowS_mapS (s : ByteArray) : lowS s = mapS lowI s := rfl
theorem low_up_byte : ∀ c : UInt8, byteF lowI (byteF upI c) = byteF lowI c := all_bytes (by decide +kernel)
theorem data_eq {a b : ByteArray} (h : a.data.toList = b.data.toList) : a = b := data_inj h
theorem lowS_upS (s : ByteArray) : lowS (upS s) = lowS s := data_eq (by
  rw [lowS_mapS, lowS_mapS, mapS_data, upS, mapS_data, mapS_data, List.map_map]
  exact List.map_congr_left fun c _ => low_up_byte c)

/-- The folder of a name: the last piece but one. -/
def dirB (s : ByteArray) : ByteArray := (doneTo s s.size).1.getLastD ByteArray.empty
def relsL : List UInt8 := [95, 114, 101, 108, 115]
theorem inRels_dir (s : ByteArray) : inRelsB (lowS s) = ((lowS (dirB s)).data.toList == relsL) := by
  rw [inRelsB, lowS_mapS, cutB_map lowI strokes_low, cutB_done, dirB]
  generalize (doneTo s s.size).1 = D
  rcases List.eq_nil_or_concat D with rfl | ⟨D0, d, rfl⟩
  · simp [lowS_mapS, relsL, mapS_data]
  · simp [relsL, lowS_mapS]
theorem partByte_up : ∀ c : UInt8, partByte (c.toNat : Int) = true → partByte ((byteF upI c).toNat : Int) = true :=
  all_bytes (by decide +kernel)
theorem bytes_all (p : Int → Bool) (s : ByteArray) : (bytesOf s).all p = s.data.toList.all fun c => p (c.toNat : Int) := by
  simp [bytesOf, List.all_map, Function.comp_def]
theorem allPart_up (s : ByteArray) (h : (bytesOf s).all partByte = true) : (bytesOf (upS s)).all partByte = true := by
  rw [bytes_all, List.all_eq_true] at h ⊢
  intro c hc
  rw [upS, mapS_data, List.mem_map] at hc
  obtain ⟨d, hd, rfl⟩ := hc
  exact partByte_up d (h d hd)
theorem bt_map (f : Int → Int) (s : ByteArray) (k : Nat) (h : k < s.size) : bt (mapS f s) k = ((byteF f (s.data.toList[k]'(by rw [data_length]; exact h))).toNat : Int) := by
  rw [bt_nat _ k (by rw [mapS_size]; exact h)]
  simp only [mapS_data, List.getElem_map]
theorem up46 : ∀ c : UInt8, byteF upI c = 46 → c = 46 := all_bytes (p := fun c => byteF upI c = 46 → c = 46) (by decide +kernel)
theorem good_up (p : ByteArray) (h : goodPart p = true) : goodPart (upS p) = true := by
  unfold goodPart at h ⊢
  rw [upS, mapS_size]
  rw [Bool.and_eq_true] at h ⊢
  refine ⟨h.1, ?_⟩
  have h0 : p.size ≠ 0 := of_decide_eq_true h.1
  obtain ⟨m, hm⟩ : ∃ m, p.size = m + 1 := ⟨p.size - 1, by omega⟩
  have h2 := h.2
  have e : ((p.size : Int) - 1) = ((m : Nat) : Int) := by omega
  rw [e] at h2 ⊢
  rw [bt_map _ _ m (by omega)]
  rw [bt_nat _ m (by omega)] at h2
  generalize p.data.toList[m]'(by rw [data_length]; omega) = c at h2 ⊢
  rw [Bool.not_eq_true', beq_eq_false_iff_ne] at h2 ⊢
  intro h3
  apply h2
  have h4 : byteF upI c = 46 := UInt8.toNat_inj.1 (by have : (byteF upI c).toNat = 46 := by omega
                                                      rw [this]; rfl)
  rw [up46 c h4]; rfl
theorem extract_map (f : Int → Int) (s : ByteArray) (a b : Nat) : (mapS f s).extract a b = mapS f (s.extract a b) := data_eq (by
  rw [Lib.extract_data, mapS_data, mapS_data, Lib.extract_data, List.map_take, List.map_drop])
theorem partIs_up (s : ByteArray) (h : partIsB s = true) : partIsB (upS s) = true := by
  unfold partIsB at h ⊢
  simp only [Bool.and_eq_true] at h ⊢
  obtain ⟨⟨⟨⟨h1, h2⟩, h3⟩, h4⟩, h5⟩ := h
  have hz : 0 < s.size := by have := of_decide_eq_true h1; omega
  refine ⟨⟨⟨⟨by rw [upS, mapS_size]; exact h1, by rw [upS, mapS_size]; exact h2⟩, ?_⟩, ?_⟩, allPart_up s h5⟩
  · have e := bt_map upI s 0 hz
    have e2 := bt_nat s 0 hz
    rw [show ((0 : Nat) : Int) = 0 from rfl] at e e2
    rw [upS, e]
    rw [e2] at h3
    generalize s.data.toList[0]'(by rw [data_length]; exact hz) = c at h3 ⊢
    have h6 : c.toNat = 47 := by have := eq_of_beq h3; omega
    have : c = 47 := UInt8.toNat_inj.1 (by rw [h6]; rfl)
    rw [this]; rfl
  · rw [upS, mapS_size, extract_map, cutB_map upI strokes_up, List.all_map]
    rw [List.all_eq_true] at h4 ⊢
    exact fun p hp => good_up p (h4 p hp)
theorem isName_up (s : ByteArray) (h : isNameB s = true) : isNameB (upS s) = true := by
  unfold isNameB at h ⊢
  rw [lowS_upS]
  simp only [Bool.and_eq_true] at h ⊢
  exact ⟨⟨partIs_up s h.1.1, h.1.2⟩, h.2⟩
end Go.Proofs.YtfdfkhpoblembaaDoor
