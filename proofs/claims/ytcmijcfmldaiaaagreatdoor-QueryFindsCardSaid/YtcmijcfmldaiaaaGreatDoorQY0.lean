/- The chapter's examples; names with great letters. -/
import Derived.Test.YtcmijcfmldaiaaaGreatDoorQV
import Derived.Test.YtcmijcfmldaiaaaGreatDoorTLp
set_option autoImplicit false
set_option linter.unusedVariables false
set_option linter.unusedSimpArgs false
namespace Go.Q
open Go Go.AL Go.RowKit

def bS : ByteArray := ⟨#[66, 111, 108, 100]⟩
def s1b : St := ⟨[⟨0, [], 0, [⟨97, 1, eS⟩, ⟨98, 1, eS⟩]⟩], p0, ⟨0, 2⟩, 0, 0⟩
def s1h : St := ⟨[⟨0, [], 2, [⟨97, 0, eS⟩, ⟨98, 1, eS⟩]⟩], p0, ⟨0, 2⟩, 0, 0⟩
theorem ex_bold : toggleS s1 1 = (s1b, 0) := by kernel_rfl
theorem ex_h2 : formatsS s1 ⟨#[60, 72, 50, 62]⟩ = (s1h, 0) := by kernel_rfl
theorem ex_li : formatsS s1 ⟨#[108, 105]⟩ = (s0, 1) := by kernel_rfl
theorem ex_mixed : mixedS s1 1 = true := by kernel_rfl
theorem ex_kind : kindS s1 = (0, true) := by kernel_rfl
theorem ex_open : s1.a ≠ s1.f := by decide
def dataR (name arg : ByteArray) : ByteArray × Bool := if 0 ≤ idxQ name ∧ dataQ (idxQ name).toNat = 1 then (arg, true) else (eS, decide (0 ≤ idxQ name))

theorem data_yes {name arg : ByteArray} (h : 0 ≤ idxQ name ∧ dataQ (max (idxQ name) 0).toNat = 1) : dataR name arg = (arg, true) := if_pos ⟨h.1, by rw [show (idxQ name).toNat = (max (idxQ name) 0).toNat by omega]; exact h.2⟩
theorem data_no {name arg : ByteArray} (h : ¬ 0 ≤ idxQ name ∨ ¬ dataQ (max (idxQ name) 0).toNat = 1) : dataR name arg = (eS, decide (0 ≤ idxQ name)) := if_neg (fun h' => by
  rcases h with h | h
  · exact h h'.1
  · exact h (by rw [show (max (idxQ name) 0).toNat = (idxQ name).toNat by omega]; exact h'.2))
theorem lowL_great (x : ByteArray) (q : Nat → Bool) : lowL (Tags.greatS x q) = lowL x := by
  have e1 : (Tags.greatS x q).data.toList = Tags.greatL x q x.size := rfl
  unfold lowL
  rw [e1]
  apply List.ext_getElem
  · simp [Tags.greatL_len]
  · intro i h1 h2
    rw [List.getElem_map, List.getElem_map]
    have hi : i < x.size := by simpa using h2
    have hg := Tags.greatL_get x q x.size i hi
    rw [List.getD_eq_getElem?_getD, List.getElem?_eq_getElem (by rw [Tags.greatL_len]; exact hi)] at hg
    simp only [Option.getD_some] at hg
    rw [hg]
    have e3 : bAt x i = x.data.toList[i]'(by simpa using h2) := by
      unfold bAt; rw [List.getD_eq_getElem?_getD, List.getElem?_eq_getElem (by simpa using h2)]; rfl
    rw [← e3]
    have h3 := Tags.lowB_toNat (Tags.upB (bAt x i) (q i))
    have h4 := Tags.lowB_toNat (bAt x i)
    rw [Tags.upB_low] at h3
    exact UInt8.toNat_inj.1 (by omega)
theorem idx_great (x : ByteArray) (q : Nat → Bool) : idxQ (Tags.greatS x q) = idxQ x := by
  unfold idxQ nameEq; rw [lowL_great]
theorem idx_name (k : Nat) (h : k < 17) : idxQ (nameQ k) = (k : Int) := by
  match k, h with
  | 0, _ => exact (by kernel_rfl : idxQ (nameQ 0) = ((0 : Nat) : Int))
  | 1, _ => exact (by kernel_rfl : idxQ (nameQ 1) = ((1 : Nat) : Int))
  | 2, _ => exact (by kernel_rfl : idxQ (nameQ 2) = ((2 : Nat) : Int))
  | 3, _ => exact (by kernel_rfl : idxQ (nameQ 3) = ((3 : Nat) : Int))
  | 4, _ => exact (by kernel_rfl : idxQ (nameQ 4) = ((4 : Nat) : Int))
  | 5, _ => exact (by kernel_rfl : idxQ (nameQ 5) = ((5 : Nat) : Int))
  | 6, _ => exact (by kernel_rfl : idxQ (nameQ 6) = ((6 : Nat) : Int))
  | 7, _ => exact (by kernel_rfl : idxQ (nameQ 7) = ((7 : Nat) : Int))
  | 8, _ => exact (by kernel_rfl : idxQ (nameQ 8) = ((8 : Nat) : Int))
  | 9, _ => exact (by kernel_rfl : idxQ (nameQ 9) = ((9 : Nat) : Int))
  | 10, _ => exact (by kernel_rfl : idxQ (nameQ 10) = ((10 : Nat) : Int))
  | 11, _ => exact (by kernel_rfl : idxQ (nameQ 11) = ((11 : Nat) : Int))
  | 12, _ => exact (by kernel_rfl : idxQ (nameQ 12) = ((12 : Nat) : Int))
  | 13, _ => exact (by kernel_rfl : idxQ (nameQ 13) = ((13 : Nat) : Int))
  | 14, _ => exact (by kernel_rfl : idxQ (nameQ 14) = ((14 : Nat) : Int))
  | 15, _ => exact (by kernel_rfl : idxQ (nameQ 15) = ((15 : Nat) : Int))
  | 16, _ => exact (by kernel_rfl : idxQ (nameQ 16) = ((16 : Nat) : Int))
  | n + 17, h => exact absurd h (by omega)
theorem names_ne : ∀ i, i < 17 → ∀ k, k < 17 → i ≠ k → nameQ i ≠ nameQ k ∧ inputQ i ≠ inputQ k := by
  have h : ((List.range 17).all fun i => (List.range 17).all fun k => decide (i = k) || (decide (nameQ i ≠ nameQ k) && decide (inputQ i ≠ inputQ k))) = true := by kernel_rfl
  intro i hi k hk hne
  have h1 := List.all_eq_true.1 (List.all_eq_true.1 h i (by simpa using hi)) k (by simpa using hk)
  simp only [Bool.or_eq_true, decide_eq_true_eq, Bool.and_eq_true] at h1
  rcases h1 with h1 | h1
  · exact absurd h1 hne
  · exact h1
theorem and_ffff (x : Int) : 0 ≤ intB .and .i64 x 65535 ∧ intB .and .i64 x 65535 ≤ 65535 := by
  have e0 : intB .and .i64 x 65535 = IntKind.i64.wrap ((BitVec.ofInt 64 x &&& BitVec.ofInt 64 65535).toNat : Int) := rfl
  have h : (BitVec.ofInt 64 x &&& BitVec.ofInt 64 65535).toNat ≤ 65535 := by
    rw [BitVec.toNat_and]
    exact Nat.and_le_right
  rw [e0, IntKind.wrap_i64]; omega
theorem rem17 (x : Int) : ∃ k : Nat, (intB .and .i64 x 65535).tmod 17 = (k : Int) ∧ k < 17 := by
  obtain ⟨h1, h2⟩ := and_ffff x
  refine ⟨((intB .and .i64 x 65535).tmod 17).toNat, ?_, ?_⟩
  · rw [Int.tmod_eq_emod_of_nonneg h1]; omega
  · rw [Int.tmod_eq_emod_of_nonneg h1]; omega
theorem range_next (i : Nat) : (List.range i).map cmdAV ++ [cmdAV i] = (List.range (i + 1)).map cmdAV := by rw [List.range_succ, List.map_append]; rfl
theorem cmd_at {i : Nat} (h : i < 17) : ((List.range 17).map cmdAV)[i]? = some (cmdAV i) := by rw [List.getElem?_map, List.getElem?_range h]; rfl
theorem eqcase (i k : Nat) : (i = k ∧ decide ((i : Int) ≠ (k : Int)) = false) ∨ (i ≠ k ∧ decide ((i : Int) ≠ (k : Int)) = true) := by
  by_cases h : i = k
  · exact .inl ⟨h, decide_eq_false (by omega)⟩
  · exact .inr ⟨h, decide_eq_true (by omega)⟩
theorem nameQ_small (i : Nat) : (nameQ i).size ≤ 100 := by unfold nameQ; split <;> decide
end Go.Q
