/- The tables of tags, as plain values. -/
import Derived.Test.YtcmijcfmldaiaaaGreatDoorALb
set_option autoImplicit false
set_option linter.unusedVariables false
set_option linter.unusedSimpArgs false
namespace Go.Tags
open Go Go.AL

def strAV (b : ByteArray) : AV := .v (.string b)
def NT : List (List ByteArray) := [[], [⟨#[100, 105, 118]⟩], [⟨#[112]⟩], [⟨#[104, 49]⟩], [⟨#[104, 50]⟩], [⟨#[104, 51]⟩], [⟨#[98, 108, 111, 99, 107, 113, 117, 111, 116, 101]⟩], [⟨#[117, 108]⟩], [⟨#[111, 108]⟩], [⟨#[108, 105]⟩], [⟨#[97]⟩],
  [⟨#[98]⟩, ⟨#[115, 116, 114, 111, 110, 103]⟩], [⟨#[105]⟩, ⟨#[101, 109]⟩], [⟨#[117]⟩, ⟨#[105, 110, 115]⟩], [⟨#[115]⟩, ⟨#[115, 116, 114, 105, 107, 101]⟩, ⟨#[100, 101, 108]⟩], [⟨#[115, 112, 97, 110]⟩], [⟨#[98, 114]⟩]]
def CT : List Int := [1, 2, 3, 3, 3, 3, 2, 2, 2, 3, 4, 4, 4, 4, 4, 4, 5]
def nm (k : Int) : List ByteArray := if 0 ≤ k ∧ k ≤ 16 then NT.getD k.toNat [] else []
def cl (k : Int) : Int := if 0 ≤ k ∧ k ≤ 16 then CT.getD k.toNat 0 else 0
def rowAV (n : List ByteArray) (c : Int) : AV := .ag [.sl 9 (n.map strAV), .v (.int .i64 c)]
def tagRow (k : Int) : AV := rowAV (nm k) (cl k)
def tagTable : AV := .ag ((NT.zip CT).flatMap fun p => [.sl 9 (p.1.map strAV), .v (.int .i64 p.2)])
def nameOf (k : Int) : ByteArray := (nm k).headD ⟨#[]⟩
def headOf (k : Int) : Int := if 3 ≤ k ∧ k ≤ 5 then k - 2 else 0
def lineOf (k : Int) : Int := if 0 ≤ k ∧ k ≤ 3 then k + 2 else 0
def lineB (k : Int) : Bool := decide (0 ≤ k ∧ k ≤ 3)

theorem line_no {k : Int} (h : ¬ (0 ≤ k ∧ k ≤ 3)) : AV.tup [.v (.int .i64 (lineOf k)), .v (.bool (lineB k))] = .tup [.v (.int .i64 0), .v (.bool false)] := by rw [lineOf, lineB, if_neg h, decide_eq_false h]
theorem line_yes {k : Int} (h : 0 ≤ k ∧ k ≤ 3) : AV.tup [.v (.int .i64 (lineOf k)), .v (.bool (lineB k))] = .tup [.v (.int .i64 (k + 2)), .v (.bool true)] := by rw [lineOf, lineB, if_pos h, decide_eq_true h]
theorem nm_out {k : Int} (h : k < 0 ∨ 16 < k) : nm k = [] := if_neg (by omega)
theorem cl_out {k : Int} (h : k < 0 ∨ 16 < k) : cl k = 0 := if_neg (by omega)
theorem row_out {k : Int} (h : k < 0 ∨ 16 < k) : tagRow k = rowAV [] 0 := by unfold tagRow; rw [nm_out h, cl_out h]
theorem nat17 {P : Nat → Prop} (h0 : P 0) (h1 : P 1) (h2 : P 2) (h3 : P 3) (h4 : P 4) (h5 : P 5) (h6 : P 6) (h7 : P 7) (h8 : P 8) (h9 : P 9) (h10 : P 10) (h11 : P 11) (h12 : P 12) (h13 : P 13) (h14 : P 14) (h15 : P 15) (h16 : P 16) : ∀ n, n < 17 → P n := by
  intro n hn
  match n with
  | 0 => exact h0
  | 1 => exact h1
  | 2 => exact h2
  | 3 => exact h3
  | 4 => exact h4
  | 5 => exact h5
  | 6 => exact h6
  | 7 => exact h7
  | 8 => exact h8
  | 9 => exact h9
  | 10 => exact h10
  | 11 => exact h11
  | 12 => exact h12
  | 13 => exact h13
  | 14 => exact h14
  | 15 => exact h15
  | 16 => exact h16
  | n + 17 => exact absurd hn (by omega)
theorem row_at {k : Int} (h0 : 0 ≤ k) (h1 : k < 17) : subAV true 2 tagTable (k.toNat * 2) = some (tagRow k) := by
  obtain ⟨n, rfl⟩ : ∃ n : Nat, k = n := ⟨k.toNat, by omega⟩
  have key : ∀ n : Nat, n < 17 → subAV true 2 tagTable ((n : Int).toNat * 2) = some (tagRow (n : Int)) :=
    nat17 rfl rfl rfl rfl rfl rfl rfl rfl rfl rfl rfl rfl rfl rfl rfl rfl rfl
  exact key n (by omega)
theorem cl_cases (k : Int) : ((k < 0 ∨ 16 < k) ∧ cl k = 0) ∨ (k = 0 ∧ cl k = 1) ∨ (k = 1 ∧ cl k = 2) ∨ (2 ≤ k ∧ k ≤ 5 ∧ cl k = 3) ∨ (6 ≤ k ∧ k ≤ 8 ∧ cl k = 2) ∨ (k = 9 ∧ cl k = 3) ∨ (10 ≤ k ∧ k ≤ 15 ∧ cl k = 4) ∨ (k = 16 ∧ cl k = 5) := by
  by_cases h : k < 0 ∨ 16 < k
  · exact .inl ⟨h, cl_out h⟩
  · obtain ⟨n, rfl⟩ : ∃ n : Nat, k = n := ⟨k.toNat, by omega⟩
    have key : ∀ n : Nat, n < 17 → (cl (n : Int) = CT.getD n 0) := nat17 rfl rfl rfl rfl rfl rfl rfl rfl rfl rfl rfl rfl rfl rfl rfl rfl rfl
    have e := key n (by omega)
    have key2 : ∀ n : Nat, n < 17 → (n = 0 ∧ CT.getD n 0 = 1) ∨ (n = 1 ∧ CT.getD n 0 = 2) ∨ (2 ≤ n ∧ n ≤ 5 ∧ CT.getD n 0 = 3) ∨ (6 ≤ n ∧ n ≤ 8 ∧ CT.getD n 0 = 2) ∨ (n = 9 ∧ CT.getD n 0 = 3) ∨ (10 ≤ n ∧ n ≤ 15 ∧ CT.getD n 0 = 4) ∨ (n = 16 ∧ CT.getD n 0 = 5) := by decide
    rw [e]
    rcases key2 n (by omega) with ⟨a, b⟩ | ⟨a, b⟩ | ⟨a, a', b⟩ | ⟨a, a', b⟩ | ⟨a, b⟩ | ⟨a, a', b⟩ | ⟨a, b⟩
    · exact .inr (.inl ⟨by omega, b⟩)
    · exact .inr (.inr (.inl ⟨by omega, b⟩))
    · exact .inr (.inr (.inr (.inl ⟨by omega, by omega, b⟩)))
    · exact .inr (.inr (.inr (.inr (.inl ⟨by omega, by omega, b⟩))))
    · exact .inr (.inr (.inr (.inr (.inr (.inl ⟨by omega, b⟩)))))
    · exact .inr (.inr (.inr (.inr (.inr (.inr (.inl ⟨by omega, by omega, b⟩))))))
    · exact .inr (.inr (.inr (.inr (.inr (.inr (.inr ⟨by omega, b⟩))))))
theorem nm_len (k : Int) : (nm k).length ≤ 3 := by
  by_cases h : k < 0 ∨ 16 < k
  · rw [nm_out h]; simp
  · obtain ⟨n, rfl⟩ : ∃ n : Nat, k = n := ⟨k.toNat, by omega⟩
    have key : ∀ n : Nat, n < 17 → (nm (n : Int)).length ≤ 3 := nat17 (by decide) (by decide) (by decide) (by decide) (by decide) (by decide) (by decide) (by decide) (by decide) (by decide) (by decide) (by decide) (by decide) (by decide) (by decide) (by decide) (by decide)
    exact key n (by omega)
theorem names_at {k : Int} (h0 : 0 ≤ k) (h1 : k < 17) : (NT.map fun n => AV.sl 9 (n.map strAV))[k.toNat]? = some (.sl 9 ((nm k).map strAV)) := by
  obtain ⟨n, rfl⟩ : ∃ n : Nat, k = n := ⟨k.toNat, by omega⟩
  have key : ∀ n : Nat, n < 17 → (NT.map fun n => AV.sl 9 (n.map strAV))[(n : Int).toNat]? = some (.sl 9 ((nm (n : Int)).map strAV)) :=
    nat17 rfl rfl rfl rfl rfl rfl rfl rfl rfl rfl rfl rfl rfl rfl rfl rfl rfl
  exact key n (by omega)
theorem map_at {l : List ByteArray} {n : Nat} (h : n < l.length) : (l.map strAV)[n]? = some (strAV (l.getD n ⟨#[]⟩)) := by
  rw [List.getElem?_map, List.getElem?_eq_getElem h]; simp [List.getD_eq_getElem?_getD, h]
theorem headD_get (l : List ByteArray) : l.getD 0 ⟨#[]⟩ = l.headD ⟨#[]⟩ := by cases l <;> rfl

/-- Which may stand in which. -/
def MayP (p c : Int) : Prop :=
  (cl p = 2 ∧ (((p = 7 ∨ p = 8) ∧ (c = 7 ∨ c = 8 ∨ c = 9)) ∨ (¬ (p = 7 ∨ p = 8) ∧ ¬ (c = 1 ∨ c = 9) ∧ (cl c = 2 ∨ cl c = 3)))) ∨ (cl p = 3 ∧ (cl c = 4 ∨ cl c = 5 ∨ cl c = 1)) ∨ (cl p = 4 ∧ ¬ (p = 10 ∧ c = 10) ∧ (cl c = 4 ∨ cl c = 5 ∨ cl c = 1))
instance (p c : Int) : Decidable (MayP p c) := by unfold MayP; exact inferInstance
def mayB (p c : Int) : Bool := decide (MayP p c)
theorem may_eq {p c : Int} {b : Bool} (h : b = true ↔ (cl p = 2 ∧ (((p = 7 ∨ p = 8) ∧ (c = 7 ∨ c = 8 ∨ c = 9)) ∨ (¬ (p = 7 ∨ p = 8) ∧ ¬ (c = 1 ∨ c = 9) ∧ (cl c = 2 ∨ cl c = 3)))) ∨ (cl p = 3 ∧ (cl c = 4 ∨ cl c = 5 ∨ cl c = 1)) ∨ (cl p = 4 ∧ ¬ (p = 10 ∧ c = 10) ∧ (cl c = 4 ∨ cl c = 5 ∨ cl c = 1))) :
    AV.v (.bool b) = .v (.bool (mayB p c)) := by
  have e : b = mayB p c := by
    rw [Bool.eq_iff_iff, h, mayB, decide_eq_true_iff]; rfl
  rw [e]

theorem may_iff {p c : Int} : mayB p c = true ↔ (cl p = 2 ∧ (((p = 7 ∨ p = 8) ∧ (c = 7 ∨ c = 8 ∨ c = 9)) ∨ (¬ (p = 7 ∨ p = 8) ∧ ¬ (c = 1 ∨ c = 9) ∧ (cl c = 2 ∨ cl c = 3)))) ∨ (cl p = 3 ∧ (cl c = 4 ∨ cl c = 5 ∨ cl c = 1)) ∨ (cl p = 4 ∧ ¬ (p = 10 ∧ c = 10) ∧ (cl c = 4 ∨ cl c = 5 ∨ cl c = 1)) := by
  rw [mayB, decide_eq_true_iff]; rfl
theorem may_same {p q : Int} (c : Int) (h : (cl p = 3 ∧ cl q = 3) ∨ (p = 1 ∧ q = 6) ∨ (p = 7 ∧ q = 8)) : (mayB p c == mayB q c) = true := by
  rw [beq_iff_eq, Bool.eq_iff_iff, may_iff, may_iff]
  rcases h with ⟨h1, h2⟩ | ⟨rfl, rfl⟩ | ⟨rfl, rfl⟩
  · rw [h1, h2]; omega
  · rw [show cl 1 = 2 from rfl, show cl 6 = 2 from rfl]; omega
  · rw [show cl 7 = 2 from rfl, show cl 8 = 2 from rfl]; omega
theorem may_no1 {p c : Int} (h : mayB p c = true) (h' : ((cl p < 2 ∨ cl p = 5) ∨ cl c = 0) ∨ c = 1) : False := by
  have := may_iff.1 h
  rcases cl_cases c with ⟨h, e⟩ | ⟨h, e⟩ | ⟨h, e⟩ | ⟨h, i, e⟩ | ⟨h, i, e⟩ | ⟨h, e⟩ | ⟨h, i, e⟩ | ⟨h, e⟩ <;> omega
theorem may_no2 {p c : Int} (h : mayB p c = true) (h1 : cl p = 3 ∨ cl p = 4) (h2 : cl c = 3 ∨ cl c = 2) : False := by
  have := may_iff.1 h
  omega
theorem may_no3 {p c : Int} (h : mayB p c = true) (h1 : cl p = 2) (h2 : ¬ cl c = 2) (h3 : ¬ cl c = 3) : False := by
  have := may_iff.1 h
  rcases cl_cases c with ⟨h, e⟩ | ⟨h, e⟩ | ⟨h, e⟩ | ⟨h, i, e⟩ | ⟨h, i, e⟩ | ⟨h, e⟩ | ⟨h, i, e⟩ | ⟨h, e⟩ <;> omega
def lowR (r : Int) : Int := if 65 ≤ r ∧ r ≤ 90 then r + 32 else r
/-- The names' map. -/
def addNames (l : List (ByteArray × Value)) (ns : List ByteArray) (k : Int) : List (ByteArray × Value) := ns.foldl (fun l n => mapSet l n (.int .i64 k)) l
def upto : Nat → List (ByteArray × Value)
  | 0 => []
  | n + 1 => addNames (upto n) (nm n) n
def namesMap : List (ByteArray × Value) := upto 17
theorem addNames_next {l : List (ByteArray × Value)} {ns : List ByteArray} {k : Int} {i : Nat} (h : i < ns.length) : mapSet (addNames l (ns.take i) k) (ns.getD i ⟨#[]⟩) (.int .i64 k) = addNames l (ns.take (i + 1)) k := by
  unfold addNames
  rw [List.take_add_one, List.foldl_append, List.getElem?_eq_getElem h, List.getD_eq_getElem?_getD, List.getElem?_eq_getElem h]; rfl
theorem addNames_all {n : Nat} {i : Nat} (h : ¬ i < (nm n).length) : addNames (upto n) ((nm n).take i) n = upto (n + 1) := by
  rw [List.take_of_length_le (by omega)]; rfl

/-- Two words, but for the case of the first one's letters. -/
def SameP (s n : ByteArray) : Prop := s.size = n.size ∧ ∀ i, i < s.size → lowR ((bAt s i).toNat : Int) = ((bAt n i).toNat : Int)
instance (s n : ByteArray) : Decidable (SameP s n) := by unfold SameP; exact inferInstance
def sameB (s n : ByteArray) : Bool := decide (SameP s n)
theorem same_size {s n : ByteArray} (h : ¬ (s.size : Int) = n.size) : sameB s n = false := decide_eq_false fun h' => h (by rw [h'.1])
theorem same_byte {s n : ByteArray} {i : Nat} (hi : i < s.size) (h : ¬ lowR ((bAt s i).toNat : Int) = ((bAt n i).toNat : Int)) : sameB s n = false := decide_eq_false fun h' => h (h'.2 i hi)
theorem same_all {s n : ByteArray} (h : (s.size : Int) = n.size) (ha : ∀ i, i < s.size → lowR ((bAt s i).toNat : Int) = ((bAt n i).toNat : Int)) : sameB s n = true := decide_eq_true ⟨by omega, ha⟩
theorem low_not {r : Int} (h : ¬ (65 ≤ r ∧ r ≤ 90)) : lowR r = r := if_neg h

/-- The document's finding. -/
def hits (x : ByteArray) (k : Nat) : Bool := (nm k).any (sameB x)
def refFind (x : ByteArray) : Option Nat := (List.range' 1 16).find? (hits x)
def findAV (o : Option Nat) : AV := .tup [.v (.int .i64 ((o.getD 0 : Nat) : Int)), .v (.bool o.isSome)]
theorem range16 {k : Nat} (h1 : 1 ≤ k) (h2 : k ≤ 16) : List.range' 1 16 = List.range' 1 (k - 1) ++ (k :: List.range' (k + 1) (16 - k)) := by
  have : List.range' k (16 - k + 1) = k :: List.range' (k + 1) (16 - k) := List.range'_succ ..
  rw [← this, show (16 : Nat) = (k - 1) + (16 - k + 1) by omega]
  conv => lhs; rw [← List.range'_append_1]
  rw [show 1 + (k - 1) = k by omega, show (k - 1) + (16 - k + 1) - k + 1 = 16 - k + 1 by omega]
theorem refFind_some {x : ByteArray} {k i : Nat} (h1 : 1 ≤ k) (h2 : k ≤ 16) (hno : ∀ j, 1 ≤ j → j < k → hits x j = false) (hi : i < (nm k).length) (hy : sameB x ((nm k).getD i ⟨#[]⟩) = true) : refFind x = some k := by
  unfold refFind
  rw [range16 h1 h2, List.find?_append]
  have e1 : (List.range' 1 (k - 1)).find? (hits x) = none := by
    rw [List.find?_eq_none]
    intro j hj
    rw [List.mem_range'_1] at hj
    simp [hno j hj.1 (by omega)]
  have e2 : hits x k = true := by
    unfold hits
    rw [List.any_eq_true]
    refine ⟨_, ?_, hy⟩
    rw [List.getD_eq_getElem?_getD, List.getElem?_eq_getElem hi]; exact List.getElem_mem hi
  rw [e1, List.find?_cons, e2]; rfl
theorem refFind_none {x : ByteArray} (hno : ∀ j, 1 ≤ j → j < 17 → hits x j = false) : refFind x = none := by
  unfold refFind
  rw [List.find?_eq_none]
  intro j hj
  rw [List.mem_range'_1] at hj
  simp [hno j hj.1 (by omega)]
theorem hits_no {x : ByteArray} {k i : Nat} (h : ¬ i < (nm k).length) (hno : ∀ j, j < i → sameB x ((nm k).getD j ⟨#[]⟩) = false) : hits x k = false := by
  unfold hits
  rw [List.any_eq_false]
  intro n hn
  obtain ⟨j, hj, rfl⟩ := List.mem_iff_getElem.1 hn
  have := hno j (by omega)
  rw [List.getD_eq_getElem?_getD, List.getElem?_eq_getElem hj] at this
  simpa using this
theorem upto_no {f : Nat → Bool} {i : Nat} (h : ∀ j, j < i → f j = false) (hi : f i = false) : ∀ j, j < i + 1 → f j = false := fun j hj => by
  rcases Nat.lt_or_ge j i with h' | h'
  · exact h j h'
  · rw [show j = i by omega]; exact hi
end Go.Tags
