/- Names with letters made great: the plain law. -/
import Derived.Test.YtcnjcjhdcloniaaDoorTL
import Derived.Test.YtcnjcjhdcloniaaDoorAL16
set_option autoImplicit false
set_option linter.unusedVariables false
namespace Go.Tags
open Go Go.AL Go.RowKit Go.Proofs

def upB (b : UInt8) (c : Bool) : UInt8 := if (97 ≤ b.toNat ∧ b.toNat ≤ 122) ∧ c = true then b - 32 else b
def greatL (s : ByteArray) (q : Nat → Bool) : Nat → List UInt8
  | 0 => []
  | i + 1 => greatL s q i ++ [upB (bAt s i) (q i)]
def greatS (s : ByteArray) (q : Nat → Bool) : ByteArray := ⟨(greatL s q s.size).toArray⟩
def bt (m : Int) (i : Nat) : Bool := decide (intB .and .u32 (m.fdiv (2 ^ min ((i : Int).tmod 32).toNat IntKind.u32.bits)) 1 = 1)
theorem greatL_len (s : ByteArray) (q : Nat → Bool) : ∀ i, (greatL s q i).length = i
  | 0 => rfl
  | i + 1 => by rw [greatL, List.length_append, greatL_len s q i]; rfl
theorem greatS_size (s : ByteArray) (q : Nat → Bool) : (greatS s q).size = s.size := by
  show (greatL s q s.size).toArray.size = _
  rw [List.size_toArray, greatL_len]
theorem greatL_get (s : ByteArray) (q : Nat → Bool) : ∀ n i, i < n → (greatL s q n).getD i 0 = upB (bAt s i) (q i)
  | n + 1, i, h => by
    rw [greatL, List.getD_eq_getElem?_getD]
    rcases Nat.lt_or_ge i n with h' | h'
    · rw [List.getElem?_append_left (by rw [greatL_len]; exact h'), ← List.getD_eq_getElem?_getD, greatL_get s q n i h']
    · obtain rfl : i = n := by omega
      rw [List.getElem?_append_right (by rw [greatL_len]; exact Nat.le_refl _), greatL_len, Nat.sub_self]; rfl
theorem upB_low (b : UInt8) (c : Bool) : lowR ((upB b c).toNat : Int) = lowR (b.toNat : Int) := by
  unfold upB
  split
  · rename_i h
    have e : (b - 32).toNat = b.toNat - 32 := UInt8.toNat_sub_of_le _ _ (by show 32 ≤ b.toNat; omega)
    rw [e]
    unfold lowR
    rw [if_pos (by omega), if_neg (by omega)]
    omega
  · rfl
theorem upB_up {b : UInt8} {c : Bool} (h : (97 ≤ (b.toNat : Int) ∧ (b.toNat : Int) ≤ 122) ∧ c = true) : ((upB b c).toNat : Int) = (b.toNat : Int) - 32 := by
  unfold upB
  rw [if_pos ⟨by omega, h.2⟩]
  have e : (b - 32).toNat = b.toNat - 32 := UInt8.toNat_sub_of_le _ _ (by show 32 ≤ b.toNat; omega)
  rw [e]; omega
theorem upB_no {b : UInt8} {c : Bool} (h : (¬ 97 ≤ (b.toNat : Int) ∨ ¬ (b.toNat : Int) ≤ 122) ∨ c = false) : upB b c = b := by
  unfold upB
  rw [if_neg]
  intro ⟨h1, h2⟩
  rcases h with h | h
  · omega
  · rw [h] at h2; cases h2
theorem greatL_next {s : ByteArray} {q : Nat → Bool} {i : Nat} : (greatL s q i).map byteAV ++ [.v (.int .u8 ((upB (bAt s i) (q i)).toNat : Int))] = (greatL s q (i + 1)).map byteAV := by
  rw [greatL, List.map_append]; rfl
theorem great_same (x n : ByteArray) (q : Nat → Bool) : sameB (greatS x q) n = sameB x n := by
  have h : SameP (greatS x q) n ↔ SameP x n := by
    unfold SameP
    rw [greatS_size]
    refine and_congr_right fun _ => forall_congr' fun i => imp_congr_right fun hi => ?_
    have e : bAt (greatS x q) i = upB (bAt x i) (q i) := greatL_get x q x.size i hi
    rw [e, upB_low]
  unfold sameB
  exact decide_eq_decide.2 h
theorem great_find (x : ByteArray) (q : Nat → Bool) : refFind (greatS x q) = refFind x := by
  unfold refFind
  refine find_congr _ fun k _ => ?_
  unfold hits
  have : sameB (greatS x q) = sameB x := funext fun n => great_same x n q
  rw [this]
theorem range_facts {k : Int} {p : Int → Prop} (h0 : ∀ k, (k < 0 ∨ 16 < k) → p k) (h : ∀ n : Nat, n < 17 → p (n : Int)) : p k := by
  by_cases hk : k < 0 ∨ 16 < k
  · exact h0 k hk
  · obtain ⟨n, rfl⟩ : ∃ n : Nat, k = n := ⟨k.toNat, by omega⟩
    exact h n (by omega)
theorem name_class (k : Int) : decide (nameOf k = ⟨#[]⟩) = (decide (cl k = 0) || decide (cl k = 1)) := by
  refine range_facts (p := fun k => decide (nameOf k = ⟨#[]⟩) = (decide (cl k = 0) || decide (cl k = 1))) (fun k h => ?_) (nat17 ?_ ?_ ?_ ?_ ?_ ?_ ?_ ?_ ?_ ?_ ?_ ?_ ?_ ?_ ?_ ?_ ?_)
  · rw [nameOf, nm_out h, cl_out h]; rfl
  all_goals decide
theorem name_find (k : Int) : nameOf k = ⟨#[]⟩ ∨ (refFind (nameOf k) = some k.toNat ∧ 0 ≤ k) := by
  refine range_facts (p := fun k => nameOf k = ⟨#[]⟩ ∨ (refFind (nameOf k) = some k.toNat ∧ 0 ≤ k)) (fun k h => ?_) (nat17 ?_ ?_ ?_ ?_ ?_ ?_ ?_ ?_ ?_ ?_ ?_ ?_ ?_ ?_ ?_ ?_ ?_)
  · exact .inl (by rw [nameOf, nm_out h]; rfl)
  · exact .inl rfl
  all_goals exact .inr ⟨by decide, by decide⟩
theorem find_class {x : ByteArray} {j : Nat} (h : refFind x = some j) : 2 ≤ cl (j : Int) := by
  have hm := List.mem_of_find?_eq_some h
  rw [List.mem_range'_1] at hm
  have key : ∀ n : Nat, n < 17 → 1 ≤ n → 2 ≤ cl (n : Int) := nat17 (by decide) (by decide) (by decide) (by decide) (by decide) (by decide) (by decide) (by decide) (by decide) (by decide) (by decide) (by decide) (by decide) (by decide) (by decide) (by decide) (by decide)
  exact key j (by omega) hm.1
theorem name_size (k : Int) : (nameOf k).size ≤ 10 := by
  refine range_facts (p := fun k => (nameOf k).size ≤ 10) (fun k h => ?_) (nat17 ?_ ?_ ?_ ?_ ?_ ?_ ?_ ?_ ?_ ?_ ?_ ?_ ?_ ?_ ?_ ?_ ?_)
  · rw [nameOf, nm_out h]; decide
  all_goals decide
theorem names_no {k : Int} {q : Nat → Bool} (h : (refFind (greatS (nameOf k) q)).isSome = false ∨ ¬ (((refFind (greatS (nameOf k) q)).getD 0 : Nat) : Int) = k) (hn : ¬ nameOf k = ⟨#[]⟩) : False := by
  rcases name_find k with e | ⟨e, h0⟩
  · exact hn e
  · rw [great_find, e] at h
    rcases h with h | h
    · cases h
    · exact h (by show ((k.toNat : Nat) : Int) = k; omega)
theorem names_none {x : ByteArray} (h : (refFind x).isSome = false) : (decide ((((refFind x).getD 0 : Nat) : Int) = 0) && true) = true := by
  cases e : refFind x with
  | none => rfl
  | some j => rw [e] at h; cases h
theorem names_all {x : ByteArray} {q : Nat → Bool} (h : (refFind x).isSome = true) :
    (((refFind (greatS x q)).isSome && decide ((((refFind (greatS x q)).getD 0 : Nat) : Int) = (((refFind x).getD 0 : Nat) : Int)) && decide (2 ≤ cl (((refFind x).getD 0 : Nat) : Int))) && true) = true := by
  rw [great_find]
  cases e : refFind x with
  | none => rw [e] at h; cases h
  | some j => have := find_class e; simp [this]
end Go.Tags
