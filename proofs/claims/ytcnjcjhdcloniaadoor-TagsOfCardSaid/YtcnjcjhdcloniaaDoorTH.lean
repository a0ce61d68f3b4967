/- The tags of classes: the plain law. -/
import Derived.Test.YtcnjcjhdcloniaaDoorTG
import Derived.Test.YtcnjcjhdcloniaaDoorAL17
set_option autoImplicit false
set_option linter.unusedVariables false
namespace Go.Tags
open Go Go.AL Go.RowKit

def intAV (z : Int) : AV := .v (.int .i64 z)
def tz (zs : List Int) : Nat → List Int
  | 0 => []
  | j + 1 => if cl (j : Int) ∈ zs then tz zs j ++ [(j : Int)] else tz zs j
theorem tz_len (zs : List Int) : ∀ j, (tz zs j).length ≤ j
  | 0 => Nat.le_refl _
  | j + 1 => by
    have := tz_len zs j
    rw [tz]; split
    · rw [List.length_append]; simp; omega
    · omega
theorem tz_yes {zs : List Int} {j : Nat} (h : cl (j : Int) ∈ zs) : (tz zs j).map intAV ++ [.v (.int .i64 (j : Int))] = (tz zs (j + 1)).map intAV := by
  rw [tz, if_pos h, List.map_append]; rfl
theorem tz_yes' {zs : List Int} {j : Nat} (h : cl (j : Int) ∈ zs) : (tz zs (j + 1)).length = (tz zs j).length + 1 := by rw [tz, if_pos h, List.length_append]; rfl
theorem tz_no {zs : List Int} {j : Nat} (h : ¬ cl (j : Int) ∈ zs) : tz zs (j + 1) = tz zs j := by rw [tz, if_neg h]
theorem int_at {l : List Int} {n : Nat} (h : n < l.length) : (l.map intAV)[n]? = some (intAV (l.getD n 0)) := by
  rw [List.getElem?_map, List.getElem?_eq_getElem h]; simp [List.getD_eq_getElem?_getD, h]
theorem mem_at {l : List Int} {n : Nat} {v : Int} (h : n < l.length) (e : v = l.getD n 0) : v ∈ l := by
  rw [e, List.getD_eq_getElem?_getD, List.getElem?_eq_getElem h]; exact List.getElem_mem h
theorem mem_not {l : List Int} {n : Nat} {v : Int} (h : ¬ n < l.length) (e : ∀ j, j < n → ¬ v = l.getD j 0) : ¬ v ∈ l := fun hm => by
  obtain ⟨j, hj, rfl⟩ := List.mem_iff_getElem.1 hm
  refine e j (by omega) ?_
  rw [List.getD_eq_getElem?_getD, List.getElem?_eq_getElem hj]; rfl
theorem take_mem {l : List Int} {n : Nat} {v : Int} (h : n < l.length) : (decide (v ∈ l.take n) || decide (l.getD n 0 = v)) = decide (v ∈ l.take (n + 1)) := by
  have e : v ∈ l.take (n + 1) ↔ (v ∈ l.take n ∨ l.getD n 0 = v) := by
    rw [List.take_add_one, List.getElem?_eq_getElem h, List.getD_eq_getElem?_getD, List.getElem?_eq_getElem h, List.mem_append]
    simp only [Option.toList_some, List.mem_singleton, Option.getD_some]
    constructor
    · rintro (a | a)
      · exact .inl a
      · exact .inr a.symm
    · rintro (a | a)
      · exact .inl a
      · exact .inr a.symm
  rw [Bool.eq_iff_iff, Bool.or_eq_true, decide_eq_true_iff, decide_eq_true_iff, decide_eq_true_iff, e]
theorem take_yes {l : List Int} {i : Nat} {v : Int} (h : ¬ i < l.length) (e : decide (v ∈ l.take i) = true) : v ∈ l := by
  rw [List.take_of_length_le (by omega)] at e; exact of_decide_eq_true e
theorem take_no {l : List Int} {i : Nat} {v : Int} (h : ¬ i < l.length) (e : decide (v ∈ l.take i) = false) : ¬ v ∈ l := by
  rw [List.take_of_length_le (by omega)] at e; exact of_decide_eq_false e
theorem take_all {l : List Int} {n : Nat} (h : ¬ n < l.length) : l.take n = l := List.take_of_length_le (by omega)
theorem eq_of_get {l r : List Int} (hl : l.length = r.length) (h : ∀ j, j < l.length → l.getD j 0 = r.getD j 0) : l = r := by
  refine List.ext_getElem hl fun i h1 h2 => ?_
  have := h i h1
  rwa [List.getD_eq_getElem?_getD, List.getD_eq_getElem?_getD, List.getElem?_eq_getElem h1, List.getElem?_eq_getElem h2] at this
theorem ints_mem (zs : List Int) : ∀ y ∈ zs.map intAV, y.mem = true := by
  intro y hy
  obtain ⟨z, _, rfl⟩ := List.mem_map.1 hy
  rfl
end Go.Tags
namespace Go.AL
open Go Go.RowKit
section
variable {P : Program} {H : AH}
/-- A row of its own that a function hands back is read from then on. -/
theorem AC_frz {f : FuncId} {args : List AV} {K : AV → AH → Prop} (e : TypeId) (xs : List AV) (h : AC P f args H fun x H' => ∃ A c, Fresh H A c xs ∧ x = .own A c xs.length ∧ H' = H.put A e c xs ∧ K (.sl e xs) H) : AC P f args H K := fun w vs hl hv hh => by
  refine (h w vs hl hv hh).mono ?_
  rintro e' w' ⟨v, x, H', rfl, hx, hr, hst, A, c, hF, rfl, rfl, hk⟩
  cases A with
  | none =>
    obtain ⟨rfl, rfl⟩ := hF
    exact ⟨v, .sl e [], H, rfl, hx.nilsl, hr, hst, hk⟩
  | some b =>
    have hb : (H.upd b (some (.row e c xs))) b = some (.row e c xs) := AH.upd_same _ _ _
    have e1 : (H.upd b (some (.row e c xs))).upd b none = H := AH.upd_none_eq hF
    have hs : SubH H (H.put (some b) e c xs) := (SubH.refl _).upd hF
    obtain ⟨hu, _⟩ := hx.own_inv
    refine ⟨v, .sl e xs, H, rfl, ?_, hr.sub hs, Step.sub hs hst, hk⟩
    have hfz : VR P w' ((H.upd b (some (.row e c xs))).upd b none) (.sl e xs) (.slice (some ⟨b, 0, none⟩) xs.length c) := VR.frozen (P := P) hr hb
    rw [e1] at hfz
    rw [hu]; exact hfz
end
end Go.AL
