/- What the library computes for a link's target. -/
import Derived.Test.YtcmijcfmldaiaaaGreatDoorQMa
import Derived.Test.YtcmijcfmldaiaaaGreatDoorTLp
import Derived.Lib.IndexMore
import Derived.Test.YtcmijcfmldaiaaaGreatDoorALc
set_option autoImplicit false
set_option linter.unusedVariables false
set_option linter.unusedSimpArgs false
namespace Go.Q
open Go Go.AL Go.RowKit
theorem index_one : ∀ (l : List UInt8) (c : UInt8), (Lib.index l [c] = -1 ∧ c ∉ l) ∨ ∃ a r, l = a ++ c :: r ∧ c ∉ a ∧ Lib.index l [c] = (a.length : Int)
  | [], c => .inl ⟨rfl, by simp⟩
  | b :: l, c => by
    have e : ([c] : List UInt8).isPrefixOf (b :: l) = (c == b) := by simp [List.isPrefixOf]
    by_cases hb : c = b
    · subst hb
      exact .inr ⟨[], l, rfl, by simp, by unfold Lib.index; rw [e]; simp⟩
    · have e2 : (c == b) = false := by simpa using hb
      rcases index_one l c with ⟨h1, h2⟩ | ⟨a, r, rfl, h2, h3⟩
      · refine .inl ⟨by unfold Lib.index; rw [e, e2, h1]; rfl, ?_⟩
        simp [hb, h2]
      · refine .inr ⟨b :: a, r, rfl, by simp [hb, h2], ?_⟩
        unfold Lib.index
        rw [e, e2, h3]
        have : (((a.length : Nat) : Int) == -1) = false := by rw [beq_eq_false_iff_ne]; omega
        simp [this]
theorem cut_miss {s : List UInt8} {c : UInt8} (h : c ∉ s) : Lib.cut s [c] = (s, [], false) := by
  rcases index_one s c with ⟨h1, _⟩ | ⟨a, r, rfl, _, _⟩
  · unfold Lib.cut; rw [h1, if_neg (by decide)]
  · exact absurd (by simp) h
theorem cut_hit {a r : List UInt8} {c : UInt8} (h : c ∉ a) : Lib.cut (a ++ c :: r) [c] = (a, r, true) := by
  rcases index_one (a ++ c :: r) c with ⟨_, h2⟩ | ⟨a', r', e, h2, h3⟩
  · exact absurd (by simp) h2
  · have hl : a'.length = a.length := by
      have key : ∀ (a a' r r' : List UInt8), a ++ c :: r = a' ++ c :: r' → c ∉ a → c ∉ a' → a'.length = a.length := by
        intro a
        induction a with
        | nil =>
          intro a' r r' e h h'
          cases a' with
          | nil => rfl
          | cons x a' => simp at e; exact absurd (by simp [e.1]) h'
        | cons x a ih =>
          intro a' r r' e h h'
          cases a' with
          | nil => simp at e; exact absurd (by simp [e.1]) h
          | cons y a' =>
            simp at e
            simp [ih a' r r' e.2 (fun hm => h (by simp [hm])) (fun hm => h' (by simp [hm]))]
      exact key a a' r r' e h h2
    unfold Lib.cut
    rw [h3, if_pos (by omega), hl]
    simp


theorem head_split : ∀ (l : List UInt8), (headL l = l ∧ (58 : UInt8) ∉ l) ∨ ∃ r, l = headL l ++ 58 :: r ∧ (58 : UInt8) ∉ headL l
  | [] => .inl ⟨rfl, by simp⟩
  | b :: l => by
    unfold headL
    rw [List.takeWhile_cons]
    by_cases h : b = 58
    · subst h; exact .inr ⟨l, by simp, by simp⟩
    · have e : (b != 58) = true := by simpa using h
      rw [if_pos e]
      rcases head_split l with ⟨h1, h2⟩ | ⟨r, h1, h2⟩
      · unfold headL at h1
        exact .inl ⟨by rw [h1], by rw [List.mem_cons, not_or]; exact ⟨fun e => h e.symm, h2⟩⟩
      · unfold headL at h1 h2
        exact .inr ⟨r, by rw [List.cons_append, ← h1], by rw [List.mem_cons, not_or]; exact ⟨fun e => h e.symm, h2⟩⟩
theorem cut_head (l : List UInt8) : (Lib.cut l [58]).1 = headL l := by
  rcases head_split l with ⟨h1, h2⟩ | ⟨r, h1, h2⟩
  · rw [cut_miss h2, h1]
  · conv => lhs; rw [h1]
    rw [cut_hit h2]
theorem head_len (l : List UInt8) : (headL l).length ≤ l.length := by
  unfold headL; exact (List.takeWhile_prefix _).length_le
theorem lowU_eq : lowU = Go.Tags.lowB := rfl
def headS (s : ByteArray) : ByteArray := ⟨(headL s.data.toList).toArray⟩
theorem headS_size (s : ByteArray) : (headS s).size ≤ s.size := by
  have := head_len s.data.toList
  have e : (headS s).size = (headL s.data.toList).length := List.size_toArray
  have e2 : s.data.toList.length = s.size := Array.length_toList
  omega
def jsB : ByteArray := ⟨#[106, 97, 118, 97, 115, 99, 114, 105, 112, 116]⟩
theorem js_iff (s : ByteArray) : Go.Tags.lowStr (headS s) = jsB ↔ (headL s.data.toList).map lowU = jsL := by
  have h := Go.Tags.map_low jsL (headL s.data.toList) (by decide)
  rw [lowU_eq, ← h]
  unfold Go.Tags.lowStr jsB headS
  constructor
  · intro e
    have := congrArg (fun b : ByteArray => b.data.toList) e
    simpa [jsL] using this
  · intro e
    simp only [List.toList_toArray] at e ⊢
    rw [e]; rfl
/-- A text's parts, as they are gone through. -/
theorem value_mk {s : ByteArray} (h : (runesOf s).all charOK = true) : valueOK s = (decide (s.size ≤ 200) && Lib.validD s.data.toList) := by
  unfold valueOK; rw [h]; simp
theorem value_no {s : ByteArray} (h : (runesOf s).all charOK = false) : valueOK s = false := by
  unfold valueOK; rw [h]; simp
end Go.Q

/- Plain laws of what may be. -/
set_option autoImplicit false
set_option linter.unusedVariables false
set_option linter.unusedSimpArgs false
namespace Go.Q
open Go Go.AL Go.RowKit

/-! sizes of what comes in -/
def CS (l : List Cell) : Prop := l.length ≤ 20000 ∧ ∀ c ∈ l, c.href.size ≤ 200000
def LS (l : Line) : Prop := l.lists.length ≤ 20000 ∧ CS l.cells
def DS (d : List Line) : Prop := d.length ≤ 300 ∧ ∀ l ∈ d, LS l
def W64 (x : Int) : Prop := -9223372036854775808 ≤ x ∧ x ≤ 9223372036854775807
theorem DS.at {d : List Line} (h : DS d) {i : Nat} (hi : i < d.length) : LS (d.getD i l0) := h.2 _ (getD_mem l0 hi)

theorem lineOK_iff (l : Line) : lineOK l = true ↔ (0 ≤ l.quote ∧ l.quote ≤ 6) ∧ l.lists.length ≤ 6 ∧ (0 ≤ l.kind ∧ l.kind ≤ 3) ∧ (l.lists = [] ∨ l.kind = 0) ∧ (l.lists.all fun k => decide (k = 0 ∨ k = 1)) = true ∧ l.cells.all cellOK = true := by
  unfold lineOK; simp only [Bool.and_eq_true, decide_eq_true_eq]; constructor
  · rintro ⟨⟨⟨⟨⟨a, b⟩, c⟩, d⟩, e⟩, f⟩; exact ⟨a, b, c, d, e, f⟩
  · rintro ⟨a, b, c, d, e, f⟩; exact ⟨⟨⟨⟨⟨a, b⟩, c⟩, d⟩, e⟩, f⟩
theorem lineOK_no1 {l : Line} (h : ¬ ((0 ≤ l.quote ∧ l.quote ≤ 6) ∧ l.lists.length ≤ 6 ∧ (0 ≤ l.kind ∧ l.kind ≤ 3))) : lineOK l = false := by
  rw [Bool.eq_false_iff]; intro e; have := (lineOK_iff l).1 e; exact h ⟨this.1, this.2.1, this.2.2.1⟩
theorem lineOK_no2 {l : Line} (h : 0 < l.lists.length) (h2 : ¬ l.kind = 0) : lineOK l = false := by
  rw [Bool.eq_false_iff]; intro e; have := ((lineOK_iff l).1 e).2.2.2.1
  rcases this with h3 | h3
  · rw [h3] at h; exact absurd h (by simp)
  · exact h2 h3
def offK (k : Int) : Bool := decide (k ≠ 0 ∧ k ≠ 1)
theorem any_offK (l : List Int) : (!l.any offK) = l.all fun k => decide (k = 0 ∨ k = 1) := by
  induction l with
  | nil => rfl
  | cons k l ih =>
    rw [List.any_cons, List.all_cons, Bool.not_or, ih]
    congr 1
    unfold offK
    by_cases h0 : k = 0 <;> by_cases h1 : k = 1 <;> simp [h0, h1]
theorem lineOK_yes {l : Line} (h : (0 ≤ l.quote ∧ l.quote ≤ 6) ∧ l.lists.length ≤ 6 ∧ (0 ≤ l.kind ∧ l.kind ≤ 3)) (h2 : ¬ (0 < l.lists.length ∧ ¬ l.kind = 0)) : (!l.lists.any offK && l.cells.all cellOK) = lineOK l := by
  rw [any_offK]
  have h3 : l.lists = [] ∨ l.kind = 0 := by
    cases hl : l.lists with
    | nil => exact .inl rfl
    | cons a b => exact .inr (Decidable.byContradiction fun h => h2 ⟨by rw [hl]; simp, h⟩)
  unfold lineOK
  simp [h.1, h.2.1, h.2.2, h3]
def offC (c : Cell) : Bool := !cellOK c
theorem any_not {α : Type} (p : α → Bool) (l : List α) : (!l.any fun x => !p x) = l.all p := by
  induction l with
  | nil => rfl
  | cons a l ih => rw [List.any_cons, List.all_cons, Bool.not_or, ih, Bool.not_not]
theorem any_offC (l : List Cell) : (!l.any offC) = l.all cellOK := any_not cellOK l
def offL (l : Line) : Bool := !lineOK l
theorem any_offL (l : List Line) : (!l.any offL) = l.all lineOK := any_not lineOK l

theorem docOK_mk (d : List Line) : (((decide ((1 : Int) ≤ (d.length : Int)) && decide ((d.length : Int) ≤ 200)) && decide ((sizeD d : Int) ≤ 4000)) && !d.any offL) = docOK d := by
  rw [any_offL]
  unfold docOK
  congr 2
  · rw [← Bool.decide_and]; exact decide_eq_decide.2 (by omega)
  · exact decide_eq_decide.2 (by omega)
/-! sizes -/
theorem take_succ_getD {α : Type} (l : List α) (d : α) {i : Nat} (h : i < l.length) : l.take (i + 1) = l.take i ++ [l.getD i d] := by
  rw [List.take_add_one, List.getElem?_eq_getElem h, List.getD_eq_getElem?_getD, List.getElem?_eq_getElem h]; rfl
theorem sizeD_append (a b : List Line) : sizeD (a ++ b) = sizeD a + sizeD b := by unfold sizeD; simp
theorem sizeD_next (d : List Line) {i : Nat} (h : i < d.length) : sizeD (d.take (i + 1)) = sizeD (d.take i) + (d.getD i l0).cells.length := by
  rw [take_succ_getD d l0 h, sizeD_append]; simp [sizeD]
theorem sizeD_le {d : List Line} (n : Nat) (h : ∀ l ∈ d, l.cells.length ≤ n) : sizeD d ≤ d.length * n := by
  induction d with
  | nil => simp [sizeD]
  | cons l d ih =>
    have h1 := h l (by simp)
    have h2 := ih fun l hl => h l (by simp [hl])
    unfold sizeD at h2 ⊢
    rw [List.map_cons, List.sum_cons, List.length_cons, Nat.succ_mul]; omega
theorem DS.size {d : List Line} (h : DS d) (i : Nat) : sizeD (d.take i) ≤ 6000000 := by
  have := sizeD_le (d := d.take i) 20000 fun l hl => (h.2 l (List.mem_of_mem_take hl)).2.1
  have h2 : (d.take i).length ≤ 300 := by rw [List.length_take]; have := h.1; omega
  have := Nat.mul_le_mul_right 20000 h2
  omega
theorem sizeD_all {d : List Line} {i : Nat} (h : ¬ i < d.length) : sizeD (d.take i) = sizeD d := by rw [List.take_of_length_le (by omega)]

theorem size_pos {s : ByteArray} (h : s ≠ ⟨#[]⟩) : 0 < s.size := by
  rcases Nat.eq_zero_or_pos s.size with e | e
  · exact absurd (ByteArray.ext (Array.eq_empty_of_size_eq_zero e)) h
  · exact e
theorem sub64 {n : Nat} (h : 1 ≤ n) (h2 : n < 9000000000000000000) : IntKind.i64.wrap ((n : Int) - 1) = ((n - 1 : Nat) : Int) := by
  rw [IntKind.wrap_i64]; omega
theorem byte_ne (b c : UInt8) {n : Int} (h : (c.toNat : Int) = n) : decide (((b.toNat : Nat) : Int) ≠ n) = decide (b ≠ c) := by
  subst h
  refine decide_eq_decide.2 (not_congr ⟨fun e => UInt8.toNat_inj.1 (by omega), fun e => by rw [e]⟩)
theorem target_mk (s : ByteArray) : ((((valueOK s && decide (s ≠ ⟨#[]⟩)) && decide (((bAt s 0).toNat : Int) ≠ 32)) && decide (((bAt s (((s.size - 1 : Nat) : Int)).toNat).toNat : Int) ≠ 32)) && !(decide (Tags.lowStr (headS s) = jsB))) = targetOK s := by
  unfold targetOK
  rw [byte_ne (n := 32) (bAt s 0) 32 rfl, byte_ne (n := 32) (bAt s (((s.size - 1 : Nat) : Int)).toNat) 32 rfl]
  rw [show (((s.size - 1 : Nat) : Int)).toNat = s.size - 1 by omega]
  congr 1
  rw [← decide_not]
  exact decide_eq_decide.2 (not_congr (js_iff s))
theorem offC_mk (c : Cell) : ((((!charOK c.r && decide (c.r ≠ 10)) || decide (c.bits < 0)) || decide (15 < c.bits)) || !linkOK c.href) = offC c := by
  unfold offC cellOK
  cases charOK c.r <;> cases linkOK c.href <;> simp [decide_not] <;> (try (by_cases h1 : c.r = 10 <;> by_cases h2 : c.bits < 0 <;> by_cases h3 : 15 < c.bits <;> simp [h1, h2, h3] <;> omega))
theorem offK_mk (k : Int) : (decide (k ≠ 0) && decide (k ≠ 1)) = offK k := by unfold offK; rw [Bool.decide_and]
/-! places -/
def orI (l : List Int) : Int := (l.find? fun x => decide (x ≠ 0)).getD 0
theorem orI_some {l : List Int} {i : Nat} (hi : i < l.length) (h : ¬ l.getD i 0 = 0) (hn : ∀ j, j < i → l.getD j 0 = 0) : orI l = l.getD i 0 := by
  induction l generalizing i with
  | nil => simp at hi
  | cons a l ih =>
    unfold orI
    rw [List.find?_cons]
    cases i with
    | zero =>
      have h' : ¬ a = 0 := by simpa using h
      simp [h']
    | succ i =>
      have h0 : a = 0 := by simpa using hn 0 (by omega)
      have := ih (i := i) (by simpa using hi) (by simpa using h) fun j hj => by simpa using hn (j + 1) (by omega)
      unfold orI at this
      simpa [h0] using this
theorem orI_none {l : List Int} {i : Nat} (hi : l.length ≤ i) (hn : ∀ j, j < i → l.getD j 0 = 0) : orI l = 0 := by
  induction l generalizing i with
  | nil => rfl
  | cons a l ih =>
    unfold orI
    rw [List.find?_cons]
    have h0 : a = 0 := by simpa using hn 0 (by simp at hi; omega)
    have := ih (i := i - 1) (by simp at hi; omega) fun j hj => by simpa using hn (j + 1) (by omega)
    unfold orI at this
    simpa [h0] using this
theorem cmpP_or (a b : Pos) : orI [cmpI a.line b.line, cmpI a.col b.col] = cmpP a b := by
  unfold orI cmpP cmpI
  by_cases h : a.line = b.line
  · rw [h]
    simp only [Int.lt_irrefl, if_false, if_true]
    by_cases h1 : a.col < b.col
    · simp [h1]
    · by_cases h2 : b.col < a.col <;> simp [h1, h2]
  · by_cases h1 : a.line < b.line
    · simp [h1, h]
    · have h2 : b.line < a.line := by omega
      simp [h1, h2, h]
theorem isPos_no {d : List Line} {p : Pos} (h : ¬ (0 ≤ p.line ∧ p.line < (d.length : Int) ∧ 0 ≤ p.col)) : isPos d p = false := by
  rw [Bool.eq_false_iff]; intro e; unfold isPos at e; simp only [Bool.and_eq_true, decide_eq_true_eq] at e; exact h ⟨e.1.1, e.1.2, e.2.1⟩
theorem isPos_yes {d : List Line} {p : Pos} (h : 0 ≤ p.line ∧ p.line < (d.length : Int) ∧ 0 ≤ p.col) : isPos d p = decide (p.col ≤ ((lineAt d p.line).cells.length : Int)) := by
  unfold isPos; simp [h.1, h.2.1, h.2.2]

/-! characters of a text, gone through -/
theorem runes_all {s : ByteArray} {i : Nat} (p : Int → Bool) (h : i < s.size) (hp : p ((Utf8.decode s i).1 : Int) = true) : (runesR s i).all p = (runesR s (i + (Utf8.decode s i).2)).all p := by
  rw [runesR_step h, List.all_cons, hp, Bool.true_and]
theorem runes_no {s : ByteArray} {i : Nat} (p : Int → Bool) (h : i < s.size) (hp : p ((Utf8.decode s i).1 : Int) = false) : (runesR s i).all p = false := by
  rw [runesR_step h, List.all_cons, hp, Bool.false_and]
end Go.Q

/- Plain laws of rows of cells that are changed, and of lines between two places. -/
set_option autoImplicit false
set_option linter.unusedVariables false
set_option linter.unusedSimpArgs false
namespace Go.Q
open Go Go.AL Go.RowKit

def spanC (l : List Cell) (i j : Int) : Bool := decide (0 ≤ i ∧ i ≤ j ∧ j ≤ (l.length : Int))
abbrev RC := List Cell × Er
def eachC (g : Cell → Cell) (l : List Cell) (i j : Int) : RC := if spanC l i j then (mapC g l i j, 0) else ([], 1)
def partC (l : List Cell) (i j : Int) : RC := if spanC l i j then (cut l i j, 0) else ([], 1)
def rcAV (r : RC) : AV := .tup [cellsAV r.1, .v (.int .i64 r.2)]
def rdAV (r : RD) : AV := .tup [linesAV r.1, .v (.int .i64 r.2)]
theorem spanC_mk (l : List Cell) (i j : Int) : ((decide (0 ≤ i) && decide (i ≤ j)) && decide (j ≤ (l.length : Int))) = spanC l i j := by
  unfold spanC; rw [← Bool.decide_and, ← Bool.decide_and]; exact decide_eq_decide.2 (by omega)
theorem cut_get {α : Type} (l : List α) (i j : Int) (k : Nat) : (cut l i j)[k]? = if i.toNat + k < j.toNat then l[i.toNat + k]? else none := by
  unfold cut
  rw [List.getElem?_drop, List.getElem?_take]
theorem cut_len {α : Type} (l : List α) (i j : Int) (h0 : 0 ≤ i) (h1 : i ≤ j) (h2 : j ≤ (l.length : Int)) : (cut l i j).length = (j - i).toNat := by
  unfold cut; rw [List.length_drop, List.length_take]; omega
theorem cut_eq {α : Type} (l : List α) (i j : Nat) (h : i ≤ j) : (l.drop i).take (j - i) = cut l (i : Int) (j : Int) := by
  unfold cut; rw [List.drop_take]; simp
theorem mapC_get (g : Cell → Cell) (l : List Cell) (i j : Int) (h0 : 0 ≤ i) (h1 : i ≤ j) (h2 : j ≤ (l.length : Int)) (k : Nat) :
    (mapC g l i j)[k]? = if i ≤ (k : Int) ∧ (k : Int) < j then (l[k]?).map g else l[k]? := by
  have e1 : (l.take i.toNat).length = i.toNat := by rw [List.length_take]; omega
  have e2 : ((cut l i j).map g).length = (j - i).toNat := by rw [List.length_map, cut_len l i j h0 h1 h2]
  unfold mapC
  rw [List.append_assoc]
  by_cases hk : (k : Int) < i
  · rw [if_neg (by omega), List.getElem?_append_left (by omega), List.getElem?_take, if_pos (by omega)]
  · rw [List.getElem?_append_right (by omega), e1]
    by_cases hk2 : (k : Int) < j
    · rw [if_pos ⟨by omega, hk2⟩, List.getElem?_append_left (by omega), List.getElem?_map, cut_get, if_pos (by omega), show i.toNat + (k - i.toNat) = k by omega]
    · rw [if_neg (by omega), List.getElem?_append_right (by omega), e2, List.getElem?_drop, show j.toNat + (k - i.toNat - (j - i).toNat) = k by omega]
theorem mapC_len (g : Cell → Cell) (l : List Cell) (i j : Int) (h0 : 0 ≤ i) (h1 : i ≤ j) (h2 : j ≤ (l.length : Int)) : (mapC g l i j).length = l.length := by
  unfold mapC; simp only [List.length_append, List.length_take, List.length_map, List.length_drop, cut_len l i j h0 h1 h2]; omega
theorem mapC_zero (g : Cell → Cell) (l : List Cell) (i : Int) (h0 : 0 ≤ i) (h1 : i ≤ (l.length : Int)) : mapC g l i i = l := by
  apply List.ext_getElem?
  intro k
  rw [mapC_get g l i i h0 (Int.le_refl _) h1, if_neg (by omega)]
theorem mapC_next (g : Cell → Cell) (l : List Cell) (f i : Nat) (h : f ≤ i) (h1 : i < l.length) : (mapC g l f i).set i (g (l.getD i c0)) = mapC g l (f : Int) ((i + 1 : Nat) : Int) := by
  apply List.ext_getElem?
  intro k
  have hl := mapC_len g l f i (by omega) (by omega) (by omega)
  rw [List.getElem?_set, hl, mapC_get g l f i (by omega) (by omega) (by omega), mapC_get g l f ((i + 1 : Nat) : Int) (by omega) (by omega) (by omega)]
  by_cases e : i = k
  · subst e
    rw [if_pos rfl, if_pos h1, if_pos (by omega), List.getD_eq_getElem?_getD, List.getElem?_eq_getElem h1]; rfl
  · rw [if_neg e]
    by_cases h2 : (f : Int) ≤ (k : Int) ∧ (k : Int) < (i : Int)
    · rw [if_pos h2, if_pos (by omega)]
    · rw [if_neg h2, if_neg (by omega)]
theorem mapC_at (g : Cell → Cell) (l : List Cell) (f i : Nat) (h : f ≤ i) (h1 : i < l.length) : ((mapC g l f i).map cellAV)[i]? = some (cellAV (l.getD i c0)) := by
  rw [List.getElem?_map, mapC_get g l f i (by omega) (by omega) (by omega), if_neg (by omega), List.getD_eq_getElem?_getD, List.getElem?_eq_getElem h1]; rfl
theorem mapC_nextA (g : Cell → Cell) (l : List Cell) (f i : Nat) (h : f ≤ i) (h1 : i < l.length) : ((mapC g l f i).map cellAV).set i (cellAV (g (l.getD i c0))) = (mapC g l (f : Int) ((i + 1 : Nat) : Int)).map cellAV := by
  rw [← mapC_next g l f i h h1, List.map_set]
theorem eachC_yes {g : Cell → Cell} {l : List Cell} {i j : Int} (h : spanC l i j = true) : eachC g l i j = (mapC g l i j, 0) := if_pos h
theorem eachC_no {g : Cell → Cell} {l : List Cell} {i j : Int} (h : spanC l i j = false) : eachC g l i j = ([], 1) := if_neg (by rw [h]; exact Bool.false_ne_true)
theorem partC_yes {l : List Cell} {i j : Int} (h : spanC l i j = true) : partC l i j = (cut l i j, 0) := if_pos h
theorem partC_no {l : List Cell} {i j : Int} (h : spanC l i j = false) : partC l i j = ([], 1) := if_neg (by rw [h]; exact Bool.false_ne_true)

theorem spanC_ok {l : List Cell} {i j : Int} (h : spanC l i j = true) : 0 ≤ i ∧ i ≤ j ∧ j ≤ (l.length : Int) := of_decide_eq_true h
theorem cut_map {α : Type} (g : α → AV) (l : List α) (i j : Int) : ((l.map g).drop i.toNat).take (j.toNat - i.toNat) = (cut l i j).map g := by
  unfold cut; rw [← List.map_drop, ← List.map_take, List.drop_take]
/-! lines between two places -/
theorem upto_len (i j : Int) : (upto i j).length = (j + 1 - i).toNat := by unfold upto; simp
theorem upto_get (i j : Int) (k : Nat) : (upto i j)[k]? = if k < (j + 1 - i).toNat then some (i + (k : Int)) else none := by
  unfold upto
  rw [List.getElem?_map]
  by_cases h : k < (j + 1 - i).toNat
  · rw [if_pos h, List.getElem?_range h]; rfl
  · rw [if_neg h, List.getElem?_eq_none (by simpa using h)]; rfl
def betL (d : List Line) (a b : Pos) : List (List AV) := (upto a.line b.line).map fun i => [.v (.int .i64 i), .ag [.v (.int .i64 (fromTo d a b i).1), .v (.int .i64 (fromTo d a b i).2)]]
theorem betL_len (d : List Line) (a b : Pos) : (betL d a b).length = (b.line + 1 - a.line).toNat := by unfold betL; rw [List.length_map, upto_len]
theorem betL_mk {d : List Line} {a b : Pos} {i f t : Int} (h1 : a.line ≤ i) (h2 : i ≤ b.line) (hf : (fromTo d a b i).1 = f) (ht : (fromTo d a b i).2 = t) :
    (betL d a b)[(i - a.line).toNat]? = some [.v (.int .i64 i), .ag [.v (.int .i64 f), .v (.int .i64 t)]] := by
  unfold betL
  rw [List.getElem?_map, upto_get, if_pos (by omega), show a.line + (((i - a.line).toNat : Nat) : Int) = i by omega, ← hf, ← ht]; rfl
theorem betL_at {d : List Line} {a b : Pos} {k : Nat} {y : List AV} (h : (betL d a b)[k]? = some y) : a.line + (k : Int) ≤ b.line ∧ y = [.v (.int .i64 (a.line + (k : Int))), .ag [.v (.int .i64 (fromTo d a b (a.line + (k : Int))).1), .v (.int .i64 (fromTo d a b (a.line + (k : Int))).2)]] := by
  unfold betL at h
  rw [List.getElem?_map, upto_get] at h
  by_cases hk : k < (b.line + 1 - a.line).toNat
  · rw [if_pos hk] at h
    simp only [Option.map_some, Option.some.injEq] at h
    exact ⟨by omega, h.symm⟩
  · rw [if_neg hk] at h; simp at h
theorem betL_two (d : List Line) (a b : Pos) : ∀ y ∈ betL d a b, y.length = 2 := fun y hy => by
  unfold betL at hy
  obtain ⟨i, _, rfl⟩ := List.mem_map.1 hy
  rfl

/-! places that may be -/
theorem spanD_iff (d : List Line) (a b : Pos) : spanD d a b = true ↔ docOK d = true ∧ isPos d a = true ∧ isPos d b = true ∧ cmpP a b ≤ 0 := by
  unfold spanD; simp only [Bool.and_eq_true, decide_eq_true_eq]
  constructor
  · rintro ⟨⟨⟨h1, h2⟩, h3⟩, h4⟩; exact ⟨h1, h2, h3, h4⟩
  · rintro ⟨h1, h2, h3, h4⟩; exact ⟨⟨⟨h1, h2⟩, h3⟩, h4⟩
theorem isPos_iff (d : List Line) (p : Pos) : isPos d p = true ↔ 0 ≤ p.line ∧ p.line < (d.length : Int) ∧ 0 ≤ p.col ∧ p.col ≤ ((lineAt d p.line).cells.length : Int) := by
  unfold isPos; simp only [Bool.and_eq_true, decide_eq_true_eq]
  constructor
  · rintro ⟨⟨h1, h2⟩, h3, h4⟩; exact ⟨h1, h2, h3, h4⟩
  · rintro ⟨h1, h2, h3, h4⟩; exact ⟨⟨h1, h2⟩, h3, h4⟩
theorem cmpP_le {a b : Pos} (h : cmpP a b ≤ 0) : a.line ≤ b.line ∧ (a.line = b.line → a.col ≤ b.col) := by
  unfold cmpP cmpI at h
  by_cases e : a.line = b.line
  · rw [if_pos e] at h
    refine ⟨by omega, fun _ => ?_⟩
    by_cases h1 : a.col < b.col
    · omega
    · rw [if_neg h1] at h
      by_cases h2 : b.col < a.col
      · rw [if_pos h2] at h; omega
      · omega
  · rw [if_neg e] at h
    refine ⟨?_, fun h' => absurd h' e⟩
    by_cases h1 : a.line < b.line
    · omega
    · rw [if_neg h1] at h
      by_cases h2 : b.line < a.line
      · rw [if_pos h2] at h; omega
      · omega
/-- Of a line between two places: where its cells stand. -/
theorem fromTo_ok {d : List Line} {a b : Pos} (h : spanD d a b = true) {i : Int} (h1 : a.line ≤ i) (h2 : i ≤ b.line) :
    0 ≤ i ∧ i < (d.length : Int) ∧ 0 ≤ (fromTo d a b i).1 ∧ (fromTo d a b i).1 ≤ (fromTo d a b i).2 ∧ (fromTo d a b i).2 ≤ ((lineAt d i).cells.length : Int) := by
  obtain ⟨_, ha, hb, hc⟩ := (spanD_iff d a b).1 h
  obtain ⟨a1, a2, a3, a4⟩ := (isPos_iff d a).1 ha
  obtain ⟨b1, b2, b3, b4⟩ := (isPos_iff d b).1 hb
  obtain ⟨c1, c2⟩ := cmpP_le hc
  unfold fromTo
  refine ⟨by omega, by omega, ?_⟩
  by_cases e1 : i = a.line
  · by_cases e2 : i = b.line
    · simp only [if_pos e1, if_pos e2]; subst e1; rw [e2]; have := c2 e2; exact ⟨a3, this, b4⟩
    · simp only [if_pos e1, if_neg e2]; subst e1; exact ⟨a3, a4, Int.le_refl _⟩
  · by_cases e2 : i = b.line
    · simp only [if_neg e1, if_pos e2]; subst e2; exact ⟨Int.le_refl _, b3, b4⟩
    · simp only [if_neg e1, if_neg e2]; exact ⟨Int.le_refl _, by omega, Int.le_refl _⟩
theorem spanD_mk (d : List Line) (a b : Pos) : (((docOK d && isPos d a) && isPos d b) && decide (cmpP a b ≤ 0)) = spanD d a b := rfl
theorem own_mk (l : Line) : AV.ag [.v (.int .i64 l.quote), intsAV l.lists, .v (.int .i64 l.kind), cellsAV l.cells] = lineAV l := rfl
theorem take_map_next {α : Type} {g : α → AV} {l : List α} (d : α) {i : Nat} (h : i < l.length) : (l.take i).map g ++ [g (l.getD i d)] = (l.take (i + 1)).map g := by
  rw [take_succ_getD l d h, List.map_append]; rfl
/-- A state whose lines are a row of our own. -/
def stOwn (s : St) (A : Option Nat) (c : Nat) : AV := .ag [.own A c s.lines.length, .v (.int .i64 s.a.line), .v (.int .i64 s.a.col), .v (.int .i64 s.f.line), .v (.int .i64 s.f.col), .v (.int .i64 s.on), .v (.int .i64 s.off)]
theorem own_sub2 {H : AH} {b1 b2 : Nat} {o1 o2 o1' o2' : AO} {A : Option Nat} {e : TypeId} {c : Nat} {xs : List AV} (h1 : H b1 = none) (h2 : H b2 = none) (hF : Fresh ((H.upd b1 (some o1)).upd b2 (some o2)) A c xs) :
    SubH (H.put A e c xs) (((((H.upd b1 (some o1)).upd b2 (some o2)).put A e c xs).upd b1 (some o1')).upd b2 (some o2')) := by
  intro k o hk
  cases A with
  | none =>
    simp only [AH.put, AH.upd] at hk ⊢
    (repeat' split) <;> simp_all
  | some a =>
    have hF' : ((H.upd b1 (some o1)).upd b2 (some o2)) a = none := hF
    simp only [AH.put, AH.upd] at hk hF' ⊢
    (repeat' split) <;> simp_all
end Go.Q

/- Plain laws of the cells between two places. -/
set_option autoImplicit false
set_option linter.unusedVariables false
set_option linter.unusedSimpArgs false
namespace Go.Q
open Go Go.AL Go.RowKit

def cellsK (d : List Line) (a b : Pos) (k : Nat) : List Cell := ((partD d a b).take k).flatMap (·.cells)
theorem partD_get (d : List Line) (a b : Pos) (k : Nat) (h : a.line + (k : Int) ≤ b.line) : (partD d a b)[k]? = some (partL d a b (a.line + (k : Int))) := by
  unfold partD; rw [List.getElem?_map, upto_get, if_pos (by omega)]; rfl
theorem partD_len (d : List Line) (a b : Pos) : (partD d a b).length = (b.line + 1 - a.line).toNat := by unfold partD; rw [List.length_map, upto_len]
def cutK (d : List Line) (a b : Pos) (k : Nat) : List Cell := cut (lineAt d (a.line + (k : Int))).cells (fromTo d a b (a.line + (k : Int))).1 (fromTo d a b (a.line + (k : Int))).2
theorem cutK_fold (d : List Line) (a b : Pos) (k : Nat) : cut (lineAt d (a.line + (k : Int))).cells (fromTo d a b (a.line + (k : Int))).1 (fromTo d a b (a.line + (k : Int))).2 = cutK d a b k := rfl
theorem cellsK_next (d : List Line) (a b : Pos) (k : Nat) (h : a.line + (k : Int) ≤ b.line) : cellsK d a b (k + 1) = cellsK d a b k ++ cutK d a b k := by
  unfold cellsK
  rw [List.take_add_one, partD_get d a b k h, List.flatMap_append]; simp [partL, cutK]
theorem cellsK_all (d : List Line) (a b : Pos) : cellsK d a b (betL d a b).length = cellsD d a b := by
  unfold cellsK cellsD
  rw [betL_len, ← partD_len d a b, List.take_length]
theorem cutK_len (d : List Line) (a b : Pos) (k : Nat) (n : Nat) (h : ∀ i, (lineAt d i).cells.length ≤ n) : (cutK d a b k).length ≤ n := by
  unfold cutK cut
  have := h (a.line + (k : Int))
  simp only [List.length_drop, List.length_take]; omega
theorem DS.line {d : List Line} (h : DS d) (i : Int) : LS (lineAt d i) := by
  unfold lineAt
  by_cases hi : i.toNat < d.length
  · exact h.at hi
  · rw [List.getD_eq_getElem?_getD, List.getElem?_eq_none (by omega)]
    exact ⟨by decide, by decide, fun c hc => by cases hc⟩
theorem cellsK_len (d : List Line) (a b : Pos) (hd : DS d) : ∀ k : Nat, a.line + (k : Int) ≤ b.line + 1 → (cellsK d a b k).length ≤ k * 20000
  | 0, _ => by simp [cellsK]
  | k + 1, h => by
    have ih := cellsK_len d a b hd k (by omega)
    have h2 := cutK_len d a b k 20000 fun i => (hd.line i).2.1
    rw [cellsK_next d a b k (by omega), List.length_append, Nat.succ_mul]; omega
theorem countP_next (p : Cell → Bool) (l : List Cell) {j : Nat} (h : j < l.length) : (l.take (j + 1)).countP p = (l.take j).countP p + (if p (l.getD j c0) = true then 1 else 0) := by
  rw [take_succ_getD l c0 h, List.countP_append]; simp [List.countP_cons]
def tellN (d : List Line) (a b : Pos) : Nat := if spanD d a b = true then (cellsD d a b).length else 0
def tellM (p : Cell → Bool) (d : List Line) (a b : Pos) : Nat := if spanD d a b = true then (cellsD d a b).countP p else 0
def isAll (x : Int) (c : Cell) : Bool := decide (bitAnd c.bits x = x)
def isSome (x : Int) (c : Cell) : Bool := decide (bitAnd c.bits x ≠ 0)
theorem all_mk (d : List Line) (a b : Pos) (x : Int) : (decide ((0 : Int) < (tellN d a b : Int)) && decide ((tellM (isAll x) d a b : Int) = (tellN d a b : Int))) = allD d a b x := by
  unfold tellN tellM allD
  by_cases h : spanD d a b = true
  · rw [if_pos h, if_pos h, h]
    simp only [Bool.true_and]
    congr 1
    · refine decide_eq_decide.2 ?_
      rw [← List.length_pos_iff]; omega
    · rw [Bool.eq_iff_iff, decide_eq_true_eq, List.all_eq_true]
      constructor
      · intro e c hc
        have := List.countP_eq_length.1 (show (cellsD d a b).countP (isAll x) = (cellsD d a b).length by omega) c hc
        exact this
      · intro e
        have := List.countP_eq_length (p := isAll x) |>.2 (fun c hc => e c hc)
        omega
  · rw [if_neg h, if_neg h, show spanD d a b = false by simpa using h]; simp
theorem some_mk (d : List Line) (a b : Pos) (x : Int) : decide ((0 : Int) < (tellM (isSome x) d a b : Int)) = someD d a b x := by
  unfold tellM someD
  by_cases h : spanD d a b = true
  · rw [if_pos h, h, Bool.true_and, Bool.eq_iff_iff, decide_eq_true_eq, List.any_eq_true]
    constructor
    · intro e
      obtain ⟨c, hc, hp⟩ := List.countP_pos_iff.1 (show 0 < (cellsD d a b).countP (isSome x) by omega)
      exact ⟨c, hc, hp⟩
    · rintro ⟨c, hc, hp⟩
      have := (List.countP_pos_iff (p := isSome x)).2 ⟨c, hc, hp⟩
      omega
  · rw [if_neg h, show spanD d a b = false by simpa using h]; simp

/-! lines changed, one behind the other -/
def mapDk (f : Cell → Cell) (d : List Line) (a b : Pos) (k : Nat) : List Line :=
  d.mapIdx fun n l => if a.line ≤ (n : Int) ∧ (n : Int) < a.line + (k : Int) then { l with cells := mapC f l.cells (fromTo d a b n).1 (fromTo d a b n).2 } else l
theorem mapDk_len (f : Cell → Cell) (d : List Line) (a b : Pos) (k : Nat) : (mapDk f d a b k).length = d.length := by unfold mapDk; rw [List.length_mapIdx]
theorem mapDk_zero (f : Cell → Cell) (d : List Line) (a b : Pos) : mapDk f d a b 0 = d := by
  apply List.ext_getElem?
  intro n
  unfold mapDk
  rw [List.getElem?_mapIdx]
  cases d[n]? with
  | none => rfl
  | some l => simp only [Option.map_some]; rw [if_neg (by omega)]
theorem mapDk_all (f : Cell → Cell) (d : List Line) (a b : Pos) (h : a.line ≤ b.line) : mapDk f d a b (betL d a b).length = mapD f d a b := by
  apply List.ext_getElem?
  intro n
  unfold mapDk mapD
  rw [List.getElem?_mapIdx, List.getElem?_mapIdx, betL_len]
  cases d[n]? with
  | none => rfl
  | some l =>
    simp only [Option.map_some]
    by_cases h1 : a.line ≤ (n : Int) ∧ (n : Int) ≤ b.line
    · rw [if_pos h1, if_pos (by omega)]
    · rw [if_neg h1, if_neg (by omega)]
theorem mapDk_at (f : Cell → Cell) (d : List Line) (a b : Pos) (k : Nat) (h0 : 0 ≤ a.line) (h1 : a.line + (k : Int) < (d.length : Int)) : ((mapDk f d a b k).map lineAV)[(a.line + (k : Int)).toNat]? = some (lineAV (lineAt d (a.line + (k : Int)))) := by
  unfold mapDk lineAt
  have hl : (a.line + (k : Int)).toNat < d.length := by omega
  rw [List.getElem?_map, List.getElem?_mapIdx, List.getElem?_eq_getElem hl, List.getD_eq_getElem?_getD, List.getElem?_eq_getElem hl]
  simp only [Option.map_some]
  rw [if_neg (by omega)]; rfl
theorem mapDk_next (f : Cell → Cell) (d : List Line) (a b : Pos) (k : Nat) (h0 : 0 ≤ a.line) (h1 : a.line + (k : Int) < (d.length : Int)) :
    (mapDk f d a b k).set (a.line + (k : Int)).toNat { lineAt d (a.line + (k : Int)) with cells := mapC f (lineAt d (a.line + (k : Int))).cells (fromTo d a b (a.line + (k : Int))).1 (fromTo d a b (a.line + (k : Int))).2 } = mapDk f d a b (k + 1) := by
  apply List.ext_getElem?
  intro n
  have hl : (a.line + (k : Int)).toNat < d.length := by omega
  rw [List.getElem?_set, mapDk_len]
  unfold mapDk
  rw [List.getElem?_mapIdx, List.getElem?_mapIdx]
  by_cases e : (a.line + (k : Int)).toNat = n
  · subst e
    rw [if_pos rfl, if_pos hl, List.getElem?_eq_getElem hl]
    simp only [Option.map_some]
    rw [if_pos (by omega)]
    have e2 : ((((a.line + (k : Int)).toNat : Nat)) : Int) = a.line + (k : Int) := by omega
    rw [e2]
    unfold lineAt
    rw [List.getD_eq_getElem?_getD, List.getElem?_eq_getElem hl]; rfl
  · rw [if_neg e]
    cases d[n]? with
    | none => rfl
    | some l =>
      simp only [Option.map_some]
      by_cases h2 : a.line ≤ (n : Int) ∧ (n : Int) < a.line + (k : Int)
      · rw [if_pos h2, if_pos (by omega)]
      · rw [if_neg h2, if_neg (by omega)]
theorem eachR_no1 {d : List Line} {a b : Pos} {g : Cell → Cell} (h : spanD d a b = false) : eachR d a b g = ([], 1) := if_pos (by rw [h]; exact Bool.false_ne_true)
theorem tellN_eq {d : List Line} {a b : Pos} (h : spanD d a b = true) : tellN d a b = (cellsD d a b).length := if_pos h
theorem eachR_no2 {d : List Line} {a b : Pos} {g : Cell → Cell} (h : spanD d a b = true) (h2 : (tellN d a b : Int) = 0) : eachR d a b g = ([], 7) := by
  rw [tellN_eq h] at h2
  unfold eachR; rw [if_neg (fun h' => h' h), if_pos (List.length_eq_zero_iff.1 (by omega))]
theorem eachR_yes {d : List Line} {a b : Pos} {g : Cell → Cell} (h : spanD d a b = true) (h2 : ¬ (tellN d a b : Int) = 0) : eachR d a b g = (mapD g d a b, 0) := by
  rw [tellN_eq h] at h2
  unfold eachR; rw [if_neg (fun h' => h' h), if_neg (fun h' => h2 (by rw [h']; rfl))]
theorem link_yes {h : ByteArray} (hc : h = eS ∨ targetOK h = true) : linkOK h = true := by
  unfold linkOK
  rcases hc with e | e
  · simp [e]
  · simp [e]
theorem linkR_no {d : List Line} {a b : Pos} {h : ByteArray} (hc : ¬ h = eS ∧ targetOK h = false) : linkR d a b h = ([], 1) := by
  have : linkOK h = false := by unfold linkOK; rw [hc.2, decide_eq_false hc.1]; rfl
  exact if_pos (by rw [this]; exact Bool.false_ne_true)
theorem linkR_yes {d : List Line} {a b : Pos} {h : ByteArray} (hc : h = eS ∨ targetOK h = true) : linkR d a b h = eachR d a b (linkF h) := if_neg (fun h' => h' (link_yes hc))
end Go.Q

/- Plain laws of states: flags, what turns a line, what a command hands back. -/
set_option autoImplicit false
set_option linter.unusedVariables false
set_option linter.unusedSimpArgs false
namespace Go.Q
open Go Go.AL Go.RowKit

/-! flags -/
theorem and_hi (n : Nat) (h : n < 2 ^ 64) : n &&& (2 ^ 64 - 16) = n / 16 * 16 := by
  have e1 : (2 ^ 64 - 16 : Nat) = (2 ^ 60 - 1) <<< 4 := by decide
  have e2 : n / 16 * 16 = (n >>> 4) <<< 4 := by rw [Nat.shiftLeft_eq, Nat.shiftRight_eq_div_pow]
  rw [e1, e2]
  apply Nat.eq_of_testBit_eq
  intro i
  rw [Nat.testBit_and, Nat.testBit_shiftLeft, Nat.testBit_shiftLeft, Nat.testBit_two_pow_sub_one, Nat.testBit_shiftRight]
  by_cases h4 : 4 ≤ i
  · rw [show 4 + (i - 4) = i by omega]
    by_cases h64 : i - 4 < 60
    · simp [h4, h64]
    · have : n.testBit i = false := Nat.testBit_lt_two_pow (Nat.lt_of_lt_of_le h (Nat.pow_le_pow_right (by decide) (by omega)))
      simp [this]
  · simp [h4]
theorem wrap_zero (n : Nat) (h : n < 2 ^ 64) : IntKind.i64.wrap (n : Int) = 0 ↔ n = 0 := by
  rw [IntKind.wrap_i64]; omega
theorem low4 {x : Int} (h : W64 x) : bitNot x 15 = 0 ↔ 0 ≤ x ∧ x ≤ 15 := by
  obtain ⟨h1, h2⟩ := h
  have e0 : bitNot x 15 = IntKind.i64.wrap ((BitVec.ofInt 64 x &&& ~~~(BitVec.ofInt 64 15)).toNat : Int) := rfl
  rw [e0]
  have e1 : (~~~(BitVec.ofInt 64 15)).toNat = 2 ^ 64 - 16 := by decide
  have hv := (BitVec.ofInt 64 x).isLt
  rw [BitVec.toNat_and, e1, and_hi _ hv, wrap_zero _ (by omega)]
  rw [BitVec.toNat_ofInt] at hv ⊢
  omega
def SS (s : St) : Prop := DS s.lines ∧ W64 s.on ∧ W64 s.off
theorem stOK_mk (s : St) (h : SS s) : (((((docOK s.lines && isPos s.lines s.a) && isPos s.lines s.f) && decide (bitNot s.on 15 = 0)) && decide (bitNot s.off 15 = 0)) && decide (bitAnd s.on s.off = 0)) = stOK s := by
  unfold stOK
  rw [decide_eq_decide.2 (low4 h.2.1), decide_eq_decide.2 (low4 h.2.2)]
def rsAV (r : RS) : AV := .tup [stAV r.1, .v (.int .i64 r.2)]
def lrAV (r : Line × Er) : AV := .tup [lineAV r.1, .v (.int .i64 r.2)]

/-! what turns a line -/
def TurnK (K : AV → AH → Prop) (H : AH) (b : Nat) : Option Line → Prop
  | some x => K (.v (.bool true)) (H.upd b (some (.row 60 1 [lineAV x])))
  | none => ∀ y, K (.v (.bool false)) (H.upd b (some (.row 60 1 [y])))
def TurnC (P : Program) (f : FuncId) (caps : List AV) (l : Line) (r : Option Line) : Prop :=
  ∀ (H : AH) (K : AV → AH → Prop) (b : Nat), H b = some (.row 60 1 [lineAV l]) → TurnK K H b r → AC P f (.pt b 0 4 0 :: caps) H K
theorem turnK_mk {K : AV → AH → Prop} {H : AH} {b : Nat} {r : Option Line} {B : Bool} {x : Line} (hK : TurnK K H b r) (hB : B = r.isSome) (hx : ∀ x', r = some x' → x' = x) : K (.v (.bool B)) (H.upd b (some (.row 60 1 [lineAV x]))) := by
  subst hB
  cases r with
  | none => exact hK _
  | some x' => obtain rfl := hx x' rfl; exact hK
theorem TurnC.ac {P : Program} {f : FuncId} {caps : List AV} {l : Line} {r : Option Line} (h : TurnC P f caps l r) {H : AH} {b : Nat} (hb : H b = some (.row 60 1 [lineAV l])) :
    AC P f (.pt b 0 4 0 :: caps) H fun x H1 => ∃ y : AV, x = .v (.bool r.isSome) ∧ (∀ x', r = some x' → y = lineAV x') ∧ H1 = H.upd b (some (.row 60 1 [y])) := by
  refine h H _ b hb ?_
  cases r with
  | none => exact fun y => ⟨y, rfl, fun _ h => (by cases h), rfl⟩
  | some x => exact ⟨lineAV x, rfl, fun x' h => by cases h; rfl, rfl⟩
theorem turned_no {l : Line} {r : Option Line} (h : lineOK l = false) : turned l r = (l0, 1) := if_neg (by rw [h]; exact Bool.false_ne_true)
theorem turned_off {l : Line} {r : Option Line} (h : lineOK l = true) (h2 : r.isSome = false) : turned l r = (l0, 7) := by
  unfold turned; rw [if_pos h]
  cases r with | none => rfl | some x => cases h2
theorem turned_yes {l x : Line} {r : Option Line} (h : lineOK l = true) (h2 : r = some x) : turned l r = (x, 0) := by
  unfold turned; rw [if_pos h, h2]
theorem some_of {α : Type} {r : Option α} (h : r.isSome = true) : ∃ x, r = some x := Option.isSome_iff_exists.1 h
theorem formatR_some (k : Int) (l : Line) : (decide (((l.lists.length : Nat) : Int) = 0) && decide (l.kind ≠ k)) = (formatR k l).isSome := by
  unfold formatR
  by_cases h : l.lists = [] ∧ l.kind ≠ k
  · rw [if_pos h, h.1]; simp [h.2]
  · rw [if_neg h]
    rw [← Bool.decide_and]
    refine decide_eq_false fun h' => h ⟨List.length_eq_zero_iff.1 (by omega), h'.2⟩
theorem formatR_eq {k : Int} {l x : Line} (h : formatR k l = some x) : x = { l with kind := k } := by
  unfold formatR at h
  split at h
  · injection h with h; exact h.symm
  · cases h
theorem formatL_no {k : Int} {l : Line} (h : k < 0 ∨ 3 < k) : formatL k l = (l0, 1) := if_pos h
theorem formatL_yes {k : Int} {l : Line} (h : ¬ (k < 0 ∨ 3 < k)) : formatL k l = turned l (formatR k l) := if_neg h

/-! states changed -/
theorem changed_no {s : St} {ch : List Line → Pos → Pos → RD} (h : stOK s = false) : changedS s ch = (s0, 1) := if_pos (by rw [h]; exact Bool.false_ne_true)
theorem changed_err {s : St} {ch : List Line → Pos → Pos → RD} (h : stOK s = true) (h2 : ¬ (ch s.lines (spanS s).1 (spanS s).2).2 = 0) : changedS s ch = (s0, (ch s.lines (spanS s).1 (spanS s).2).2) := by
  unfold changedS; rw [if_neg (fun h' => h' h)]; simp only; rw [if_neg h2]
theorem changed_yes {s : St} {ch : List Line → Pos → Pos → RD} (h : stOK s = true) (h2 : (ch s.lines (spanS s).1 (spanS s).2).2 = 0) : changedS s ch = (⟨(ch s.lines (spanS s).1 (spanS s).2).1, s.a, s.f, 0, 0⟩, 0) := by
  unfold changedS; rw [if_neg (fun h' => h' h)]; simp only; rw [if_pos h2]
theorem isBit_mem (b : Int) : decide (b ∈ [1, 2, 4, 8]) = isBit b := by unfold isBit; exact decide_eq_decide.2 (by simp)
theorem open_mk (s : St) : (!decide (s.a = s.f)) = decide (s.a ≠ s.f) := (decide_not).symm
theorem pos_ext {a b : Pos} : a = b ↔ a.line = b.line ∧ a.col = b.col := by
  cases a; cases b; simp
end Go.Q

/- Plain laws of lines that are selected. -/
set_option autoImplicit false
set_option linter.unusedVariables false
set_option linter.unusedSimpArgs false
namespace Go.Q
open Go Go.AL Go.RowKit

def selA (s : St) : List (List AV) := (upto (spanS s).1.line (spanS s).2.line).map fun i => [.v (.int .i64 i), lineAV (lineAt s.lines i)]
theorem selA_len (s : St) : (selA s).length = ((spanS s).2.line + 1 - (spanS s).1.line).toNat := by unfold selA; rw [List.length_map, upto_len]
theorem selA_mk {s : St} {i : Int} (h1 : (spanS s).1.line ≤ i) (h2 : i ≤ (spanS s).2.line) : (selA s)[(i - (spanS s).1.line).toNat]? = some [.v (.int .i64 i), lineAV (lineAt s.lines i)] := by
  unfold selA
  rw [List.getElem?_map, upto_get, if_pos (by omega), show (spanS s).1.line + (((i - (spanS s).1.line).toNat : Nat) : Int) = i by omega]; rfl
theorem selA_at {s : St} {k : Nat} {y : List AV} (h : (selA s)[k]? = some y) : (spanS s).1.line + (k : Int) ≤ (spanS s).2.line ∧ y = [.v (.int .i64 ((spanS s).1.line + (k : Int))), lineAV (lineAt s.lines ((spanS s).1.line + (k : Int)))] := by
  unfold selA at h
  rw [List.getElem?_map, upto_get] at h
  by_cases hk : k < ((spanS s).2.line + 1 - (spanS s).1.line).toNat
  · rw [if_pos hk] at h
    simp only [Option.map_some, Option.some.injEq] at h
    exact ⟨by omega, h.symm⟩
  · rw [if_neg hk] at h; simp at h
theorem selA_two (s : St) : ∀ y ∈ selA s, y.length = 2 := fun y hy => by
  unfold selA at hy
  obtain ⟨i, _, rfl⟩ := List.mem_map.1 hy
  rfl
theorem span_ok {s : St} (h : stOK s = true) : docOK s.lines = true ∧ isPos s.lines (spanS s).1 = true ∧ isPos s.lines (spanS s).2 = true ∧ cmpP (spanS s).1 (spanS s).2 ≤ 0 := by
  unfold stOK at h
  simp only [Bool.and_eq_true] at h
  obtain ⟨⟨⟨⟨⟨h1, h2⟩, h3⟩, _⟩, _⟩, _⟩ := h
  unfold spanS
  by_cases hc : 0 < cmpP s.a s.f
  · rw [if_pos hc]
    refine ⟨h1, h3, h2, ?_⟩
    have anti : ∀ a b : Pos, 0 < cmpP a b → cmpP b a ≤ 0 := fun a b h => by
      unfold cmpP cmpI at h ⊢
      by_cases e : a.line = b.line
      · rw [if_pos e] at h; rw [if_pos e.symm]
        repeat' split at h
        all_goals (repeat' split) <;> omega
      · rw [if_neg e] at h; rw [if_neg (fun e' => e e'.symm)]
        repeat' split at h
        all_goals (repeat' split) <;> omega
    exact anti _ _ hc
  · rw [if_neg hc]; exact ⟨h1, h2, h3, by (show cmpP s.a s.f ≤ 0); omega⟩
theorem span_ok2 {s : St} (h : stOK s = true) : 0 ≤ (spanS s).1.line ∧ (spanS s).1.line ≤ (spanS s).2.line ∧ (spanS s).2.line < (s.lines.length : Int) := by
  obtain ⟨_, h1, h2, h3⟩ := span_ok h
  have a := (isPos_iff _ _).1 h1
  have b := (isPos_iff _ _).1 h2
  exact ⟨a.1, (cmpP_le h3).1, b.2.1⟩

/-! lines turned, one behind the other -/
def turnDk (t : Line → Line × Er) (s : St) (k : Nat) : List Line :=
  s.lines.mapIdx fun n l => if (spanS s).1.line ≤ (n : Int) ∧ (n : Int) < (spanS s).1.line + (k : Int) then turnL t l else l
def selK (s : St) (k : Nat) : List Line := (selL s).take k
def someE (t : Line → Line × Er) (s : St) (k : Nat) : Int := if (selK s k).any (fun l => decide ((t l).2 = 0)) = true then 0 else 7
theorem turnDk_len (t : Line → Line × Er) (s : St) (k : Nat) : (turnDk t s k).length = s.lines.length := by unfold turnDk; rw [List.length_mapIdx]
theorem turnDk_zero (t : Line → Line × Er) (s : St) : turnDk t s 0 = s.lines := by
  apply List.ext_getElem?
  intro n
  unfold turnDk
  rw [List.getElem?_mapIdx]
  cases s.lines[n]? with
  | none => rfl
  | some l => simp only [Option.map_some]; rw [if_neg (by omega)]
theorem turnDk_at (t : Line → Line × Er) (s : St) (k : Nat) (h0 : 0 ≤ (spanS s).1.line) (h1 : (spanS s).1.line + (k : Int) < (s.lines.length : Int)) : ((turnDk t s k).map lineAV)[((spanS s).1.line + (k : Int)).toNat]? = some (lineAV (lineAt s.lines ((spanS s).1.line + (k : Int)))) := by
  unfold turnDk lineAt
  have hl : ((spanS s).1.line + (k : Int)).toNat < s.lines.length := by omega
  rw [List.getElem?_map, List.getElem?_mapIdx, List.getElem?_eq_getElem hl, List.getD_eq_getElem?_getD, List.getElem?_eq_getElem hl]
  simp only [Option.map_some]
  rw [if_neg (by omega)]; rfl
theorem turnDk_next (t : Line → Line × Er) (s : St) (k : Nat) (h0 : 0 ≤ (spanS s).1.line) (h1 : (spanS s).1.line + (k : Int) < (s.lines.length : Int)) :
    (turnDk t s k).set ((spanS s).1.line + (k : Int)).toNat (turnL t (lineAt s.lines ((spanS s).1.line + (k : Int)))) = turnDk t s (k + 1) := by
  apply List.ext_getElem?
  intro n
  have hl : ((spanS s).1.line + (k : Int)).toNat < s.lines.length := by omega
  rw [List.getElem?_set, turnDk_len]
  unfold turnDk
  rw [List.getElem?_mapIdx, List.getElem?_mapIdx]
  by_cases e : ((spanS s).1.line + (k : Int)).toNat = n
  · subst e
    rw [if_pos rfl, if_pos hl, List.getElem?_eq_getElem hl]
    simp only [Option.map_some]
    rw [if_pos (by omega)]
    unfold lineAt
    rw [List.getD_eq_getElem?_getD, List.getElem?_eq_getElem hl]; rfl
  · rw [if_neg e]
    cases s.lines[n]? with
    | none => rfl
    | some l =>
      simp only [Option.map_some]
      by_cases h2 : (spanS s).1.line ≤ (n : Int) ∧ (n : Int) < (spanS s).1.line + (k : Int)
      · rw [if_pos h2, if_pos (by omega)]
      · rw [if_neg h2, if_neg (by omega)]
theorem turnDk_same (t : Line → Line × Er) (s : St) (k : Nat) (h0 : 0 ≤ (spanS s).1.line) (h1 : (spanS s).1.line + (k : Int) < (s.lines.length : Int)) (h : ¬ (t (lineAt s.lines ((spanS s).1.line + (k : Int)))).2 = 0) : turnDk t s (k + 1) = turnDk t s k := by
  rw [← turnDk_next t s k h0 h1]
  apply List.ext_getElem?
  intro n
  rw [List.getElem?_set, turnDk_len]
  have hl : ((spanS s).1.line + (k : Int)).toNat < s.lines.length := by omega
  by_cases e : ((spanS s).1.line + (k : Int)).toNat = n
  · subst e
    rw [if_pos rfl, if_pos hl]
    unfold turnL
    rw [if_neg h]
    unfold turnDk lineAt
    rw [List.getElem?_mapIdx, List.getElem?_eq_getElem hl, List.getD_eq_getElem?_getD, List.getElem?_eq_getElem hl]
    simp only [Option.map_some]
    rw [if_neg (by omega)]; rfl
  · rw [if_neg e]
theorem turnDk_all (t : Line → Line × Er) (s : St) (h : (spanS s).1.line ≤ (spanS s).2.line) : turnDk t s (selA s).length = s.lines.mapIdx fun k l => if selI s k then turnL t l else l := by
  apply List.ext_getElem?
  intro n
  unfold turnDk
  rw [List.getElem?_mapIdx, List.getElem?_mapIdx, selA_len]
  cases s.lines[n]? with
  | none => rfl
  | some l =>
    simp only [Option.map_some]
    unfold selI
    by_cases h1 : (spanS s).1.line ≤ (n : Int) ∧ (n : Int) ≤ (spanS s).2.line
    · rw [if_pos (by omega), if_pos (decide_eq_true h1)]
    · rw [if_neg (by omega), if_neg (by simpa using h1)]
theorem selL_len (s : St) : (selL s).length = (selA s).length := by unfold selL selA; rw [List.length_map, List.length_map]
theorem selL_get {s : St} {k : Nat} (h : (spanS s).1.line + (k : Int) ≤ (spanS s).2.line) : (selL s)[k]? = some (lineAt s.lines ((spanS s).1.line + (k : Int))) := by
  unfold selL; rw [List.getElem?_map, upto_get, if_pos (by omega)]; rfl
theorem selK_next {s : St} {k : Nat} (h : (spanS s).1.line + (k : Int) ≤ (spanS s).2.line) : selK s (k + 1) = selK s k ++ [lineAt s.lines ((spanS s).1.line + (k : Int))] := by
  unfold selK; rw [List.take_add_one, selL_get h]; rfl
theorem selK_all (s : St) : selK s (selA s).length = selL s := by unfold selK; rw [← selL_len, List.take_length]
theorem someE_yes {t : Line → Line × Er} {s : St} {k : Nat} (h : (spanS s).1.line + (k : Int) ≤ (spanS s).2.line) (h2 : (t (lineAt s.lines ((spanS s).1.line + (k : Int)))).2 = 0) : someE t s (k + 1) = 0 := by
  unfold someE; rw [selK_next h, List.any_append]; simp [h2]
theorem someE_no {t : Line → Line × Er} {s : St} {k : Nat} (h : (spanS s).1.line + (k : Int) ≤ (spanS s).2.line) (h2 : ¬ (t (lineAt s.lines ((spanS s).1.line + (k : Int)))).2 = 0) : someE t s (k + 1) = someE t s k := by
  unfold someE; rw [selK_next h, List.any_append]; simp [h2]
theorem eachS_no {t : Line → Line × Er} {s : St} (h : stOK s = false) : eachS s t = (s0, 1) := if_pos (by rw [h]; exact Bool.false_ne_true)
theorem eachS_off {t : Line → Line × Er} {s : St} (h : stOK s = true) (h2 : ¬ someE t s (selA s).length = 0) : eachS s t = (s0, someE t s (selA s).length) := by
  unfold someE at h2 ⊢
  rw [selK_all] at h2 ⊢
  have h3 : ¬ ((selL s).any (fun l => decide ((t l).2 = 0)) = true) := fun h' => h2 (if_pos h')
  rw [if_neg h3]
  unfold eachS
  rw [if_neg (fun h' => h' h), if_neg h3]
theorem eachS_yes {t : Line → Line × Er} {s : St} (h : stOK s = true) (h2 : someE t s (selA s).length = 0) : eachS s t = (⟨turnDk t s (selA s).length, s.a, s.f, 0, 0⟩, 0) := by
  unfold someE at h2
  rw [selK_all] at h2
  have h3 : (selL s).any (fun l => decide ((t l).2 = 0)) = true := Decidable.byContradiction fun h' => by rw [if_neg h'] at h2; cases h2
  unfold eachS
  rw [if_neg (fun h' => h' h), if_pos h3, turnDk_all t s (span_ok2 h).2.1]
theorem formatS_no {s : St} {k : Int} (h : k < 0 ∨ 3 < k) : formatS s k = (s0, 1) := if_pos h
theorem formatS_yes {s : St} {k : Int} (h : ¬ (k < 0 ∨ 3 < k)) : formatS s k = eachS s (formatL k) := if_neg h

/-! the kind of what is selected -/
def firstK (s : St) : Int := (lineAt s.lines (spanS s).1.line).kind
def kindOK (s : St) (l : Line) : Bool := decide (l.lists = []) && decide (l.kind = firstK s)
theorem kind_no {s : St} (h : stOK s = false) : kindS s = (0, false) := if_pos (by rw [h]; exact Bool.false_ne_true)
theorem kind_off {s : St} {k : Nat} (h : stOK s = true) (hk : (spanS s).1.line + (k : Int) ≤ (spanS s).2.line) (h2 : kindOK s (lineAt s.lines ((spanS s).1.line + (k : Int))) = false) : kindS s = (0, false) := by
  unfold kindS
  rw [if_neg (fun h' => h' h), if_neg]
  intro h3
  rw [List.all_eq_true] at h3
  have := h3 _ (List.mem_of_getElem? (selL_get hk))
  have e : kindOK s (lineAt s.lines ((spanS s).1.line + (k : Int))) = true := this
  rw [h2] at e; cases e
theorem kind_yes {s : St} (h : stOK s = true) (h2 : (selK s (selA s).length).all (kindOK s) = true) : kindS s = (firstK s, true) := by
  rw [selK_all] at h2
  unfold kindS
  rw [if_neg (fun h' => h' h)]
  exact if_pos h2
end Go.Q

/- Plain laws: toggles of what is open; the kind of what is selected, gone through. -/
set_option autoImplicit false
set_option linter.unusedVariables false
set_option linter.unusedSimpArgs false
namespace Go.Q
open Go Go.AL Go.RowKit

theorem any_bit (b : Int) : ([1, 2, 4, 8].any fun x => decide (b = x)) = isBit b := by
  unfold isBit
  rw [Bool.eq_iff_iff]; simp
theorem toggleS_no {s : St} {b : Int} (h : stOK s = false ∨ isBit b = false) : toggleS s b = (s0, 1) := by
  refine if_pos ?_
  rcases h with h | h
  · exact .inl (by rw [h]; exact Bool.false_ne_true)
  · exact .inr (by rw [h]; exact Bool.false_ne_true)
theorem toggleS_open {s : St} {b : Int} (h : stOK s = true) (h2 : isBit b = true) (ho : s.a ≠ s.f) : toggleS s b = changedS s fun d p q => if allD d p q b = true then setR d p q 0 b else setR d p q b 0 := by
  unfold toggleS
  rw [if_neg (by rintro (h' | h'); exact h' h; exact h' h2), if_neg ho]
theorem firstK_ge {s : St} (h : stOK s = true) : 0 ≤ firstK s := by
  obtain ⟨h1, h2, _, _⟩ := span_ok h
  unfold docOK at h1
  simp only [Bool.and_eq_true, List.all_eq_true] at h1
  have hp := (isPos_iff _ _).1 h2
  have hl : (spanS s).1.line.toNat < s.lines.length := by omega
  have := (lineOK_iff _).1 (h1.2 _ (getD_mem l0 hl))
  exact this.2.2.1.1
def kv (s : St) (k : Nat) : Int := if k = 0 then -1 else firstK s
theorem kind_step {s : St} {k : Nat} (h : stOK s = true) (hc : ¬ 0 < ((lineAt s.lines ((spanS s).1.line + (k : Int))).lists.length : Int) ∧ (¬ 0 ≤ kv s k ∨ (lineAt s.lines ((spanS s).1.line + (k : Int))).kind = kv s k)) : kindOK s (lineAt s.lines ((spanS s).1.line + (k : Int))) = true := by
  unfold kindOK
  have h0 := firstK_ge h
  have h1 : (lineAt s.lines ((spanS s).1.line + (k : Int))).lists = [] := List.length_eq_zero_iff.1 (by omega)
  have h2 : (lineAt s.lines ((spanS s).1.line + (k : Int))).kind = firstK s := by
    unfold kv at hc
    by_cases hk : k = 0
    · subst hk; unfold firstK; simp
    · rw [if_neg hk] at hc; omega
  simp [h1, h2]
theorem kind_stop {s : St} {k : Nat} (hc : 0 < ((lineAt s.lines ((spanS s).1.line + (k : Int))).lists.length : Int) ∨ (0 ≤ kv s k ∧ ¬ (lineAt s.lines ((spanS s).1.line + (k : Int))).kind = kv s k)) : kindOK s (lineAt s.lines ((spanS s).1.line + (k : Int))) = false := by
  unfold kindOK
  rcases hc with h | ⟨h, h2⟩
  · have : (lineAt s.lines ((spanS s).1.line + (k : Int))).lists ≠ [] := fun e => by rw [e] at h; simp at h
    simp [this]
  · unfold kv at h h2
    by_cases hk : k = 0
    · rw [if_pos hk] at h; omega
    · rw [if_neg hk] at h2; simp [h2]
theorem kind_of {s : St} {l : Line} (h : kindOK s l = true) : l.kind = firstK s := by
  unfold kindOK at h; simp only [Bool.and_eq_true, decide_eq_true_eq] at h; exact h.2
theorem kv_succ (s : St) (k : Nat) : kv s (k + 1) = firstK s := rfl
end Go.Q
