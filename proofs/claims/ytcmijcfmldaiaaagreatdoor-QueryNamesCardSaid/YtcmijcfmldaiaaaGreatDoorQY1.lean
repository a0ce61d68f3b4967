/- Plain laws of names: what the document finds. -/
import Derived.Test.YtcmijcfmldaiaaaGreatDoorQY0
set_option autoImplicit false
set_option linter.unusedVariables false
set_option linter.unusedSimpArgs false
namespace Go.Q
open Go Go.AL Go.RowKit

def lowAt (b : ByteArray) (j : Nat) : UInt8 := Tags.lowB (bAt b j)
theorem nameEq_iff (i : Nat) (x : ByteArray) : nameEq i x = true ↔ (nameQ i).size = x.size ∧ ∀ j, j < x.size → lowAt x j = lowAt (nameQ i) j := by
  unfold nameEq
  rw [decide_eq_true_iff]
  have hn : (lowL (nameQ i)).length = (nameQ i).size := by unfold lowL; rw [List.length_map]; exact Array.length_toList
  have hx : (lowL x).length = x.size := by unfold lowL; rw [List.length_map]; exact Array.length_toList
  have hget : ∀ (b : ByteArray) (j : Nat) (hj : j < b.size), (lowL b)[j]? = some (lowAt b j) := fun b j hj => by
    unfold lowL lowAt bAt
    have hj' : j < b.data.toList.length := by rw [Array.length_toList]; exact hj
    rw [List.getElem?_map, List.getD_eq_getElem?_getD, List.getElem?_eq_getElem hj']; rfl
  constructor
  · intro e
    have hs : (nameQ i).size = x.size := by rw [← hn, ← hx, e]
    refine ⟨hs, fun j hj => ?_⟩
    have h1 := hget x j hj
    rw [← e, hget (nameQ i) j (by omega)] at h1
    exact (Option.some.inj h1).symm
  · rintro ⟨hs, h⟩
    apply List.ext_getElem?
    intro j
    by_cases hj : j < x.size
    · rw [hget x j hj, hget (nameQ i) j (by omega), h j hj]
    · rw [List.getElem?_eq_none (by omega), List.getElem?_eq_none (by omega)]
theorem name_ne_size {i : Nat} {x : ByteArray} (h : ¬ ((nameQ i).size : Int) = x.size) : nameEq i x = false := by
  rw [Bool.eq_false_iff]; intro e; exact h (by rw [((nameEq_iff i x).1 e).1])
theorem name_ne_at {i j : Nat} {x : ByteArray} (hj : j < x.size) (h : ¬ lowAt x j = lowAt (nameQ i) j) : nameEq i x = false := by
  rw [Bool.eq_false_iff]; intro e; exact h (((nameEq_iff i x).1 e).2 j hj)
theorem any_yes {xs : List ByteArray} {i : Nat} (hi : i < xs.length) (h : 10000 < ((xs.getD i eS).size : Int)) : (xs.any fun b => decide (10000 < b.size)) = true := by
  rw [List.any_eq_true]
  exact ⟨_, getD_mem eS hi, decide_eq_true (by omega)⟩
theorem any_no {xs : List ByteArray} {i : Nat} (hi : xs.length ≤ i) (h : ∀ j, j < i → ¬ 10000 < ((xs.getD j eS).size : Int)) : (xs.any fun b => decide (10000 < b.size)) = false := by
  rw [List.any_eq_false]
  intro b hb
  obtain ⟨j, hj, rfl⟩ := List.mem_iff_getElem.1 hb
  have := h j (by omega)
  rw [List.getD_eq_getElem?_getD, List.getElem?_eq_getElem hj] at this
  simp only [Option.getD_some] at this
  simpa using (show ¬ 10000 < (xs[j]).size by omega)
theorem long2_no {a b : ByteArray} (h : ([a, b].any fun b => decide (10000 < b.size)) = false) : a.size ≤ 10000 ∧ b.size ≤ 10000 := by
  simp at h; exact h
/-- What is known of a name, so far gone through. -/
def EqSo (i : Nat) (x : ByteArray) (k : Nat) (b : Bool) : Prop := k ≤ x.size ∧ (b = true → (nameQ i).size = x.size ∧ ∀ j, j < k → lowAt x j = lowAt (nameQ i) j) ∧ (b = false → nameEq i x = false)
theorem eqSo_zero (i : Nat) (x : ByteArray) : EqSo i x 0 (decide (((nameQ i).size : Int) = x.size)) :=
  ⟨Nat.zero_le _, fun h => ⟨by have := of_decide_eq_true h; omega, fun j hj => absurd hj (Nat.not_lt_zero j)⟩, fun h => name_ne_size (of_decide_eq_false h)⟩
theorem eqSo_next {i k : Nat} {x : ByteArray} (h : EqSo i x k true) (hk : k < x.size) : EqSo i x (k + 1) (decide (((lowAt x k).toNat : Int) = ((lowAt (nameQ i) k).toNat : Int))) := by
  obtain ⟨_, h2, _⟩ := h
  obtain ⟨hs, hj⟩ := h2 rfl
  refine ⟨by omega, fun e => ⟨hs, fun j hj' => ?_⟩, fun e => ?_⟩
  · have e := of_decide_eq_true e
    rcases Nat.lt_or_ge j k with h | h
    · exact hj j h
    · rw [show j = k by omega]; exact UInt8.toNat_inj.1 (by omega)
  · exact name_ne_at hk fun e' => of_decide_eq_false e (by rw [e'])
theorem eqSo_end {i k : Nat} {x : ByteArray} {b : Bool} (h : EqSo i x k b) (hc : b = false ∨ ¬ k < x.size) : b = nameEq i x := by
  obtain ⟨h1, h2, h3⟩ := h
  cases b with
  | false => exact (h3 rfl).symm
  | true =>
    obtain ⟨hs, hj⟩ := h2 rfl
    rcases hc with hc | hc
    · cases hc
    · exact ((nameEq_iff i x).2 ⟨hs, fun j hj' => hj j (by omega)⟩).symm
theorem find_is {x : ByteArray} {i : Nat} (hi : i < 17) (h : nameEq i x = true) (hn : ∀ j, j < i → nameEq j x = false) : idxQ x = (i : Int) := by
  have hg : ∀ j, j < 17 → (List.range 17).getD j 0 = j := fun j hj => by rw [List.getD_eq_getElem?_getD, List.getElem?_range hj]; rfl
  exact idxI_some (p := fun i => nameEq i x) (l := List.range 17) (d := 0) (by simpa using hi) (by rw [hg i hi]; exact h) fun j hj => by rw [hg j (by omega)]; exact hn j hj
theorem find_no {x : ByteArray} (hn : ∀ j, j < 17 → nameEq j x = false) : idxQ x = -1 := by
  have hg : ∀ j, j < 17 → (List.range 17).getD j 0 = j := fun j hj => by rw [List.getD_eq_getElem?_getD, List.getElem?_range hj]; rfl
  exact idxI_none (p := fun i => nameEq i x) (l := List.range 17) (d := 0) (i := 17) (by simp) fun j hj => by rw [hg j hj]; exact hn j hj
theorem dataQ_iff (k : Nat) (h : k < 17) : dataQ k = 1 ↔ k = 0 ∨ k = 9 ∨ k = 12 := by
  have : ((List.range 17).all fun k => decide ((dataQ k = 1) = (k = 0 ∨ k = 9 ∨ k = 12))) = true := by decide
  have := of_decide_eq_true (List.all_eq_true.1 this k (by simpa using h))
  rw [this]
theorem data_ry {name arg : ByteArray} (h : 0 ≤ idxQ name ∧ ((max (idxQ name) 0 = 0 ∨ max (idxQ name) 0 = 9) ∨ max (idxQ name) 0 = 12)) : dataR name arg = (arg, true) := by
  have hl := idxQ_lt name
  exact if_pos ⟨h.1, (dataQ_iff _ (by omega)).2 (by omega)⟩
theorem data_rn {name arg : ByteArray} (h : ¬ 0 ≤ idxQ name ∨ (¬ max (idxQ name) 0 = 0 ∧ ¬ max (idxQ name) 0 = 9) ∧ ¬ max (idxQ name) 0 = 12) : dataR name arg = (eS, decide (0 ≤ idxQ name)) := by
  have hl := idxQ_lt name
  refine if_neg fun h' => ?_
  have := (dataQ_iff _ (by omega)).1 h'.2
  omega
end Go.Q
