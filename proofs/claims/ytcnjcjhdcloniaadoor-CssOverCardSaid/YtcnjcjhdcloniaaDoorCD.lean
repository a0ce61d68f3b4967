/- Styles, as plain values: the plain law. -/
import Derived.Test.YtcnjcjhdcloniaaDoorAL22
import Derived.Lib.Split
import Derived.Lib.TrimByte
import Derived.Lib.Join
set_option autoImplicit false
set_option linter.unusedVariables false
set_option linter.unusedSimpArgs false
namespace Go.Css
open Go Go.AL

def toL (s : ByteArray) : List UInt8 := s.data.toList
def ofL (l : List UInt8) : ByteArray := ⟨l.toArray⟩
theorem toL_ofL (l : List UInt8) : toL (ofL l) = l := by simp [toL, ofL]
theorem ofL_toL (s : ByteArray) : ofL (toL s) = s := by simp [toL, ofL]
theorem ofL_inj {a b : List UInt8} (h : ofL a = ofL b) : a = b := by have := congrArg toL h; rwa [toL_ofL, toL_ofL] at this
theorem toL_inj {a b : ByteArray} (h : toL a = toL b) : a = b := by have := congrArg ofL h; rwa [ofL_toL, ofL_toL] at this
theorem toL_len (s : ByteArray) : (toL s).length = s.size := by simp [toL]
theorem toL_append (a b : ByteArray) : toL (a ++ b) = toL a ++ toL b := by simp [toL]
theorem ofL_append (a b : List UInt8) : ofL (a ++ b) = ofL a ++ ofL b := by apply toL_inj; rw [toL_append, toL_ofL, toL_ofL, toL_ofL]
theorem ofL_size (l : List UInt8) : (ofL l).size = l.length := by rw [← toL_len, toL_ofL]

/-- Cut at a byte. -/
def cutAt (c : UInt8) : List UInt8 → List (List UInt8)
  | [] => [[]]
  | b :: l => if b = c then [] :: cutAt c l else match cutAt c l with
    | [] => [[b]]
    | x :: xs => (b :: x) :: xs
theorem cutAt_cons (c b : UInt8) (l : List UInt8) : cutAt c (b :: l) = if b = c then [] :: cutAt c l else match cutAt c l with
    | [] => [[b]]
    | x :: xs => (b :: x) :: xs := rfl
theorem cutAt_ne (c : UInt8) : ∀ l, cutAt c l ≠ []
  | [] => by simp [cutAt]
  | b :: l => by
    unfold cutAt
    split
    · simp
    · split <;> simp
theorem cutAt_miss {c : UInt8} : ∀ {l : List UInt8}, c ∉ l → cutAt c l = [l]
  | [], _ => rfl
  | b :: l, h => by
    have h1 : ¬ b = c := fun e => h (by simp [e])
    unfold cutAt
    rw [if_neg h1, cutAt_miss (fun hm => h (by simp [hm]))]
theorem cutAt_hit {c : UInt8} : ∀ {l : List UInt8} (r : List UInt8), c ∉ l → cutAt c (l ++ c :: r) = l :: cutAt c r
  | [], r, _ => by simp [cutAt]
  | b :: l, r, h => by
    have h1 : ¬ b = c := fun e => h (by simp [e])
    rw [List.cons_append, cutAt_cons, if_neg h1, cutAt_hit r (fun hm => h (by simp [hm]))]
theorem cutAt_append (c : UInt8) : ∀ (l r : List UInt8), cutAt c (l ++ c :: r) = cutAt c l ++ cutAt c r
  | [], r => by simp [cutAt]
  | b :: l, r => by
    rw [List.cons_append, cutAt_cons, cutAt_cons c b l]
    have ih := cutAt_append c l r
    split
    · rw [ih]; rfl
    · rw [ih]
      have hne := cutAt_ne c l
      cases hc : cutAt c l with
      | nil => exact absurd hc hne
      | cons x xs => rfl
theorem cutAt_snoc_yes (c : UInt8) (l : List UInt8) : cutAt c (l ++ [c]) = cutAt c l ++ [[]] := cutAt_append c l []
theorem cutAt_snoc_no {c b : UInt8} (h : ¬ b = c) : ∀ (l : List UInt8), cutAt c (l ++ [b]) = (cutAt c l).set ((cutAt c l).length - 1) ((cutAt c l).getD ((cutAt c l).length - 1) [] ++ [b])
  | [] => by simp [cutAt, h]
  | a :: l => by
    have ih := cutAt_snoc_no h l
    rw [List.cons_append]
    unfold cutAt
    have hne := cutAt_ne c l
    obtain ⟨x, xs, hx⟩ : ∃ x xs, cutAt c l = x :: xs := by cases e : cutAt c l with | nil => exact absurd e hne | cons x xs => exact ⟨x, xs, rfl⟩
    rw [ih, hx]
    split
    · simp
    · cases xs with
      | nil => simp
      | cons y ys => simp
theorem cutAt_piece (c : UInt8) : ∀ (l x : List UInt8), x ∈ cutAt c l → x.length ≤ l.length
  | [], x, h => by simp [cutAt] at h; simp [h]
  | b :: l, x, h => by
    unfold cutAt at h
    split at h
    · rcases List.mem_cons.1 h with rfl | h
      · simp
      · have := cutAt_piece c l x h; simp; omega
    · split at h
      · simp at h; simp [h]
      · rename_i y ys hy
        rcases List.mem_cons.1 h with rfl | h
        · have := cutAt_piece c l y (by rw [hy]; simp); simp; omega
        · have := cutAt_piece c l x (by rw [hy]; simp [h]); simp; omega
theorem cutAt_len (c : UInt8) : ∀ l, (cutAt c l).length ≤ l.length + 1
  | [] => by simp [cutAt]
  | b :: l => by
    have ih := cutAt_len c l
    unfold cutAt
    split
    · simp; omega
    · split
      · simp
      · rename_i y ys hy; rw [hy] at ih; simp at ih ⊢; omega

/-! what the library's Split, Cut do, at one byte -/
theorem index_one : ∀ (l : List UInt8) (c : UInt8), (Lib.index l [c] = -1 ∧ c ∉ l) ∨ ∃ a r, l = a ++ c :: r ∧ c ∉ a ∧ Lib.index l [c] = (a.length : Int)
  | [], c => .inl ⟨rfl, by simp⟩
  | b :: l, c => by
    have e : ([c] : List UInt8).isPrefixOf (b :: l) = (c == b) := by simp [List.isPrefixOf]
    by_cases hb : c = b
    · subst hb
      exact .inr ⟨[], l, rfl, by simp, by unfold Lib.index; rw [e]; simp⟩
    · have e2 : (c == b) = false := by simpa using hb
      rcases index_one l c with ⟨h1, h2⟩ | ⟨a, r, rfl, h2, h3⟩
      · refine .inl ⟨by unfold Lib.index; rw [e, e2, h1]; rfl, ?_⟩
        simp [hb, h2]
      · refine .inr ⟨b :: a, r, rfl, by simp [hb, h2], ?_⟩
        unfold Lib.index
        rw [e, e2, h3]
        have : (((a.length : Nat) : Int) == -1) = false := by rw [beq_eq_false_iff_ne]; omega
        simp [this]
theorem splitK_cut (c : UInt8) : ∀ (k : Nat) (l : List UInt8), l.count c ≤ k → Lib.splitK [c] 0 k l = cutAt c l
  | 0, l, h => by
    have : c ∉ l := List.count_eq_zero.1 (by omega)
    rw [cutAt_miss this]; rfl
  | k + 1, l, h => by
    unfold Lib.splitK
    rcases index_one l c with ⟨h1, h2⟩ | ⟨a, r, rfl, h2, h3⟩
    · rw [h1, if_pos (by decide), cutAt_miss h2]
    · have e1 : ((a.length : Int) == -1) = false := by rw [beq_eq_false_iff_ne]; omega
      rw [h3, e1, if_neg (by decide), cutAt_hit r h2]
      have hc : r.count c ≤ k := by
        have ha : a.count c = 0 := List.count_eq_zero.2 h2
        rw [List.count_append, List.count_cons_self, ha] at h; omega
      rw [← splitK_cut c k r hc]
      simp
theorem count_eq (c : UInt8) (l : List UInt8) : Lib.count l [c] = l.count c := by
  have key : ∀ (fuel : Nat) (l : List UInt8), l.length < fuel → Lib.countFrom [c] fuel l = l.count c := by
    intro fuel
    induction fuel with
    | zero => intro l h; omega
    | succ fuel ih =>
      intro l hl
      unfold Lib.countFrom
      rcases index_one l c with ⟨h1, h2⟩ | ⟨a, r, rfl, h2, h3⟩
      · rw [h1, if_pos (by decide), List.count_eq_zero.2 h2]
      · have e1 : ((a.length : Int) == -1) = false := by rw [beq_eq_false_iff_ne]; omega
        rw [h3, e1, if_neg (by decide), List.count_append, List.count_cons_self, List.count_eq_zero.2 h2]
        have := ih r (by simp at hl; omega)
        simp; omega
  exact key _ _ (by omega)
theorem count_one (c : UInt8) (l : List UInt8) : l.count c ≤ Lib.count l [c] := Nat.le_of_eq (count_eq c l).symm
theorem cutAt_count (c : UInt8) : ∀ l, (cutAt c l).length = l.count c + 1
  | [] => rfl
  | b :: l => by
    have ih := cutAt_count c l
    rw [cutAt_cons]
    by_cases h : b = c
    · subst h; rw [if_pos rfl, List.count_cons_self, List.length_cons, ih]
    · rw [if_neg h, List.count_cons_of_ne (fun e => h e)]
      cases hc : cutAt c l with
      | nil => exact absurd hc (cutAt_ne c l)
      | cons x xs => rw [hc] at ih; exact ih
def splitS (s : ByteArray) (c : UInt8) : List ByteArray := (cutAt c (toL s)).map ofL
theorem splitB_eq (s : ByteArray) (c : UInt8) : Lib.splitB ⟨#[c]⟩ 0 (Lib.countB s ⟨#[c]⟩) s = splitS s c := by
  have h := Lib.splitB_data ⟨#[c]⟩ 0 (Lib.countB s ⟨#[c]⟩) s
  have e : (⟨#[c]⟩ : ByteArray).data.toList = [c] := rfl
  rw [e, splitK_cut c _ _ (count_one c _)] at h
  have h2 : (Lib.splitB ⟨#[c]⟩ 0 (Lib.countB s ⟨#[c]⟩) s).map toL = cutAt c (toL s) := h
  rw [splitS, ← h2, List.map_map]
  have : ofL ∘ toL = id := funext ofL_toL
  rw [this, List.map_id]
theorem cut_miss {s : List UInt8} {c : UInt8} (h : c ∉ s) : Lib.cut s [c] = (s, [], false) := by
  rcases index_one s c with ⟨h1, _⟩ | ⟨a, r, rfl, _, _⟩
  · unfold Lib.cut; rw [h1, if_neg (by decide)]
  · exact absurd (by simp) h
theorem cut_hit {a r : List UInt8} {c : UInt8} (h : c ∉ a) : Lib.cut (a ++ c :: r) [c] = (a, r, true) := by
  rcases index_one (a ++ c :: r) c with ⟨_, h2⟩ | ⟨a', r', e, h2, h3⟩
  · exact absurd (by simp) h2
  · have hl : a'.length = a.length := by
      have key : ∀ (a a' r r' : List UInt8), a ++ c :: r = a' ++ c :: r' → c ∉ a → c ∉ a' → a'.length = a.length := by
        intro a
        induction a with
        | nil =>
          intro a' r r' e h h'
          cases a' with
          | nil => rfl
          | cons x a' => simp at e; exact absurd (by simp [e.1]) h'
        | cons x a ih =>
          intro a' r r' e h h'
          cases a' with
          | nil => simp at e; exact absurd (by simp [e.1]) h
          | cons y a' =>
            simp at e
            simp [ih a' r r' e.2 (fun hm => h (by simp [hm])) (fun hm => h' (by simp [hm]))]
      exact key a a' r r' e h h2
    unfold Lib.cut
    rw [h3, if_pos (by omega), hl]
    simp

/-! blanks and letters -/
def lowB (b : UInt8) : UInt8 := if 65 ≤ b.toNat ∧ b.toNat ≤ 90 then b + 32 else b
def lowL (l : List UInt8) : List UInt8 := l.map lowB
theorem lowB_up {b : UInt8} (h : 65 ≤ (b.toNat : Int) ∧ (b.toNat : Int) ≤ 90) : ((lowB b).toNat : Int) = (b.toNat : Int) + 32 := by
  unfold lowB
  rw [if_pos ⟨by omega, by omega⟩]
  have e : (b + 32).toNat = b.toNat + 32 := by
    rw [UInt8.toNat_add]
    show (b.toNat + 32) % 256 = _
    omega
  rw [e]; omega
theorem lowB_no {b : UInt8} (h : ¬ 65 ≤ (b.toNat : Int) ∨ ¬ (b.toNat : Int) ≤ 90) : lowB b = b := by
  unfold lowB
  rw [if_neg (by omega)]
def lowS (s : ByteArray) : ByteArray := ofL (lowL (toL s))
def trimS (s : ByteArray) : ByteArray := ofL (Lib.trimB (toL s) 32)
def lt (l : List UInt8) : ByteArray := ofL (lowL (Lib.trimB l 32))
theorem lowS_trim (l : List UInt8) : lowS (ofL (Lib.trimB l 32)) = lt l := by rw [lowS, toL_ofL]; rfl
theorem tr_cons (b c : UInt8) (l : List UInt8) : Lib.trimRightB (b :: l) c = if Lib.trimRightB l c = [] ∧ b = c then [] else b :: Lib.trimRightB l c := by
  unfold Lib.trimRightB
  rw [List.reverse_cons, List.dropWhile_append]
  by_cases h : l.reverse.dropWhile (· == c) = []
  · rw [h]
    by_cases hb : b = c
    · subst hb; simp
    · have : (b == c) = false := by simpa using hb
      simp [List.dropWhile, this, hb]
  · have h2 : (l.reverse.dropWhile (· == c)).isEmpty = false := by simpa [List.isEmpty_iff] using h
    rw [h2]
    simp [h]
theorem tl_cons (b c : UInt8) (l : List UInt8) : Lib.trimLeftB (b :: l) c = if b = c then Lib.trimLeftB l c else b :: l := by
  unfold Lib.trimLeftB
  rw [List.dropWhile_cons]
  by_cases hb : b = c
  · subst hb; simp
  · have : (b == c) = false := by simpa using hb
    simp [this, hb]
theorem trim_comm (c : UInt8) : ∀ l : List UInt8, Lib.trimLeftB (Lib.trimRightB l c) c = Lib.trimRightB (Lib.trimLeftB l c) c
  | [] => rfl
  | b :: l => by
    have ih := trim_comm c l
    rw [tr_cons, tl_cons]
    by_cases hb : b = c
    · subst hb
      rw [if_pos rfl, ← ih]
      by_cases h : Lib.trimRightB l b = []
      · rw [if_pos ⟨h, rfl⟩, h]
      · rw [if_neg (fun e => h e.1), tl_cons, if_pos rfl]
    · rw [if_neg (fun e => hb e.2), if_neg hb, tl_cons, if_neg hb, tr_cons, if_neg (fun e => hb e.2)]
theorem trimB_len (l : List UInt8) (c : UInt8) : (Lib.trimB l c).length ≤ l.length := by
  have h1 : (Lib.trimB l c).length ≤ (Lib.trimRightB l c).length := (List.dropWhile_suffix _).length_le
  have h2 : (Lib.trimRightB l c).length ≤ l.length := by
    unfold Lib.trimRightB
    rw [List.length_reverse]
    have : (l.reverse.dropWhile (· == c)).length ≤ l.reverse.length := (List.dropWhile_suffix _).length_le
    simpa using this
  omega
theorem lt_size (l : List UInt8) : (lt l).size ≤ l.length := by rw [lt, ofL_size, lowL, List.length_map]; exact trimB_len l 32
end Go.Css
