/- Styles: the laws, plain. -/
import Derived.Test.YtcnjcjhdcloniaaDoorCG
set_option autoImplicit false
set_option linter.unusedVariables false
set_option linter.unusedSimpArgs false
namespace Go.Css
open Go Go.AL

/-! styles behind one another -/
def comb (p q : B4 × B4) : B4 × B4 := (p.1 &&& ~~~q.2 ||| q.1, p.2 &&& ~~~q.1 ||| q.2)
theorem comb_zero (p : B4 × B4) : comb p (0, 0) = p := by
  obtain ⟨a, b⟩ := p
  have key : ∀ i : Fin 16, (BitVec.ofFin i : B4) &&& ~~~0 ||| 0 = BitVec.ofFin i := by decide
  exact Prod.ext (key a.toFin) (key b.toFin)
theorem bv_ext {n : Nat} {x y : BitVec n} (h : ∀ i, i < n → x.getLsbD i = y.getLsbD i) : x = y := BitVec.eq_of_getLsbD_eq h
theorem ap_comb (p q : B4 × B4) (r : B4 × B4 × Bool) : ap (comb p q) r = comb p (ap q r) := by
  obtain ⟨a, b⟩ := p
  obtain ⟨c, d⟩ := q
  obtain ⟨on, off, ok⟩ := r
  cases ok with
  | false => rfl
  | true =>
    show ((a &&& ~~~d ||| c) &&& ~~~off ||| on, (b &&& ~~~c ||| d) &&& ~~~on ||| off) = (a &&& ~~~(d &&& ~~~on ||| off) ||| (c &&& ~~~off ||| on), b &&& ~~~(c &&& ~~~off ||| on) ||| (d &&& ~~~on ||| off))
    refine Prod.ext ?_ ?_
    · refine bv_ext fun i hi => ?_
      simp only [BitVec.getLsbD_or, BitVec.getLsbD_and, BitVec.getLsbD_not, hi, decide_true, Bool.true_and]
      cases a.getLsbD i <;> cases c.getLsbD i <;> cases d.getLsbD i <;> cases on.getLsbD i <;> cases off.getLsbD i <;> rfl
    · refine bv_ext fun i hi => ?_
      simp only [BitVec.getLsbD_or, BitVec.getLsbD_and, BitVec.getLsbD_not, hi, decide_true, Bool.true_and]
      cases b.getLsbD i <;> cases c.getLsbD i <;> cases d.getLsbD i <;> cases on.getLsbD i <;> cases off.getLsbD i <;> rfl
theorem foldl_comb (p : B4 × B4) : ∀ (l : List (ByteArray × ByteArray)) (q : B4 × B4), l.foldl apR (comb p q) = comb p (l.foldl apR q)
  | [], q => rfl
  | d :: l, q => by
    rw [List.foldl_cons, List.foldl_cons]
    have : apR (comb p q) d = comb p (apR q d) := ap_comb p q _
    rw [this, foldl_comb p l]
theorem parseT_append (a b : List (List UInt8)) : parseT (a ++ b) (0, 0) = comb (parseT a (0, 0)) (parseT b (0, 0)) := by
  unfold parseT
  rw [List.filterMap_append, List.foldl_append]
  have := foldl_comb ((a.filterMap declOf).foldl apR (0, 0)) (b.filterMap declOf) (0, 0)
  rw [comb_zero] at this
  exact this
theorem parse_later (s t : ByteArray) : parseS (s ++ sSemi ++ t) = comb (parseS s) (parseS t) := by
  unfold parseS
  have e : toL (s ++ sSemi ++ t) = toL s ++ 59 :: toL t := by
    rw [toL_append, toL_append, List.append_assoc]; rfl
  rw [e, cutAt_append, parseT_append]

/-! no bit both set and cleared -/
def Dis (p : B4 × B4) : Prop := p.1 &&& p.2 = 0
theorem dis_say (n v : ByteArray) : (sayR n v).2.2 = true → (sayR n v).1 &&& (sayR n v).2.1 = 0 := by
  have hn : ∀ b : B4, b &&& (12 &&& ~~~b) = 0 := by
    intro b
    refine bv_ext fun i hi => ?_
    simp only [BitVec.getLsbD_and, BitVec.getLsbD_not, hi, decide_true, Bool.true_and]
    cases b.getLsbD i <;> simp
  intro _
  unfold sayR
  split
  · split
    · decide
    · show (0 : B4) &&& 1 = 0; decide
  · split
    · split
      · decide
      · show (0 : B4) &&& 2 = 0; decide
    · split
      · split
        · decide
        · unfold tdR
          cases wordsR (splitS v 32) 0 with
          | none => decide
          | some b => exact hn b
      · decide
theorem dis_ap {p : B4 × B4} {r : B4 × B4 × Bool} (hp : Dis p) (hr : r.2.2 = true → r.1 &&& r.2.1 = 0) : Dis (ap p r) := by
  obtain ⟨a, b⟩ := p
  obtain ⟨on, off, ok⟩ := r
  cases ok with
  | false => exact hp
  | true =>
    have h2 : on &&& off = 0 := hr rfl
    have h1 : a &&& b = 0 := hp
    show (a &&& ~~~off ||| on) &&& (b &&& ~~~on ||| off) = 0
    refine bv_ext fun i hi => ?_
    have e1 := congrArg (fun x : B4 => x.getLsbD i) h1
    have e2 := congrArg (fun x : B4 => x.getLsbD i) h2
    simp only [BitVec.getLsbD_or, BitVec.getLsbD_and, BitVec.getLsbD_not, hi, decide_true, Bool.true_and] at e1 e2 ⊢
    have z : (0 : B4).getLsbD i = false := by simp
    rw [z] at e1 e2 ⊢
    revert e1 e2
    cases a.getLsbD i <;> cases b.getLsbD i <;> cases on.getLsbD i <;> cases off.getLsbD i <;> decide
theorem dis_fold : ∀ (l : List (ByteArray × ByteArray)) (p : B4 × B4), Dis p → Dis (l.foldl apR p)
  | [], p, h => h
  | d :: l, p, h => dis_fold l _ (dis_ap h (dis_say _ _))
theorem dis_parse (s : ByteArray) : Dis (parseS s) := dis_fold _ _ (show (0 : B4) &&& 0 = 0 by decide)

/-! what says nothing -/
theorem declOf_front (x : List UInt8) : declOf (32 :: x) = declOf x := by
  rcases index_one x 58 with ⟨_, h⟩ | ⟨a, r, rfl, h, _⟩
  · rw [declOf_none h, declOf_none (by simp [h])]
  · rw [declOf_some h, show (32 : UInt8) :: (a ++ 58 :: r) = (32 :: a) ++ 58 :: r from rfl, declOf_some (by simp [h])]
    have : lt (32 :: a) = lt a := by
      unfold lt
      rw [Lib.trimB, trim_comm, tl_cons, if_pos rfl, ← trim_comm, ← Lib.trimB]
    rw [this]
theorem declOf_back (x : List UInt8) : declOf (x ++ [32]) = declOf x := by
  rcases index_one x 58 with ⟨_, h⟩ | ⟨a, r, rfl, h, _⟩
  · rw [declOf_none h, declOf_none (by simp [h])]
  · rw [declOf_some h, List.append_assoc, List.cons_append, declOf_some h]
    have : lt (r ++ [32]) = lt r := by
      unfold lt Lib.trimB
      rw [trr_snoc, if_pos rfl]
    rw [this]
theorem front_cut (l : List UInt8) : (cutAt 59 (32 :: l)).filterMap declOf = (cutAt 59 l).filterMap declOf := by
  rw [cutAt_cons, if_neg (by decide)]
  cases h : cutAt 59 l with
  | nil => exact absurd h (cutAt_ne 59 l)
  | cons x xs =>
    show ((32 :: x) :: xs).filterMap declOf = (x :: xs).filterMap declOf
    rw [List.filterMap_cons, List.filterMap_cons, declOf_front]
theorem set_last {α : Type} : ∀ (l : List α) (d y : α), l ≠ [] → ∃ i, l = i ++ [l.getD (l.length - 1) d] ∧ l.set (l.length - 1) y = i ++ [y]
  | [], _, _, h => absurd rfl h
  | [x], _, _, _ => ⟨[], rfl, rfl⟩
  | x :: x' :: l, d, y, _ => by
    obtain ⟨i, h1, h2⟩ := set_last (x' :: l) d y (by simp)
    refine ⟨x :: i, ?_, ?_⟩
    · rw [List.cons_append]
      have : (x :: x' :: l).getD ((x :: x' :: l).length - 1) d = (x' :: l).getD ((x' :: l).length - 1) d := by simp
      rw [this, ← h1]
    · have : (x :: x' :: l).set ((x :: x' :: l).length - 1) y = x :: (x' :: l).set ((x' :: l).length - 1) y := by simp
      rw [this, h2]; rfl
theorem back_cut (l : List UInt8) : (cutAt 59 (l ++ [32])).filterMap declOf = (cutAt 59 l).filterMap declOf := by
  rw [cutAt_snoc_no (by decide)]
  obtain ⟨i, h1, h2⟩ := set_last (cutAt 59 l) [] ((cutAt 59 l).getD ((cutAt 59 l).length - 1) [] ++ [32]) (cutAt_ne 59 l)
  rw [h2, List.filterMap_append, List.filterMap_cons, declOf_back]
  conv => rhs; rw [h1]
  rw [List.filterMap_append, List.filterMap_cons]
theorem parse_blank (s : ByteArray) : parseS (sL1 ++ s ++ sL2) = parseS s := by
  unfold parseS parseT
  have e : toL (sL1 ++ s ++ sL2) = [32] ++ 59 :: ([120] ++ 59 :: ([58, 32] ++ 59 :: ((32 :: (toL s ++ [32])) ++ 59 :: ([32, 99, 111, 108, 111, 114, 58, 32, 114, 101, 100] ++ 59 :: [])))) := by
    rw [toL_append, toL_append]
    have e1 : toL sL1 = [32, 59, 120, 59, 58, 32, 59, 32] := rfl
    have e2 : toL sL2 = [32, 59, 32, 99, 111, 108, 111, 114, 58, 32, 114, 101, 100, 59] := rfl
    rw [e1, e2]; simp
  rw [e, cutAt_append, cutAt_append, cutAt_append, cutAt_append, cutAt_append]
  simp only [List.filterMap_append]
  have c1 : (cutAt 59 [32]).filterMap declOf = [] := by decide
  have c2 : (cutAt 59 [120]).filterMap declOf = [] := by decide
  have c3 : (cutAt 59 [58, 32]).filterMap declOf = [(sEmp, sEmp)] := by decide
  have c4 : (cutAt 59 (32 :: (toL s ++ [32]))).filterMap declOf = (cutAt 59 (toL s)).filterMap declOf := by
    rw [front_cut, back_cut]
  have c5 : (cutAt 59 [32, 99, 111, 108, 111, 114, 58, 32, 114, 101, 100]).filterMap declOf = [(⟨#[99, 111, 108, 111, 114]⟩, ⟨#[114, 101, 100]⟩)] := by decide
  have c6 : (cutAt 59 []).filterMap declOf = [] := by decide
  rw [c1, c2, c3, c4, c5, c6, List.nil_append, List.nil_append, List.append_nil, List.foldl_append, List.foldl_append]
  have d1 : [(sEmp, sEmp)].foldl apR (0, 0) = (0, 0) := by decide
  rw [d1, List.foldl_cons, List.foldl_nil]
  have d2 : ∀ p : B4 × B4, apR p (⟨#[99, 111, 108, 111, 114]⟩, ⟨#[114, 101, 100]⟩) = p := fun p => by
    unfold apR
    rw [show sayR ⟨#[99, 111, 108, 111, 114]⟩ ⟨#[114, 101, 100]⟩ = (0, 0, false) by decide]; rfl
  rw [d2]

/-! bits of any number under styles -/
def N64 (X : BitVec 64) : Int := IntKind.i64.wrap (X.toNat : Int)
theorem ofInt_N64 (X : BitVec 64) : BitVec.ofInt 64 (N64 X) = X := by
  unfold N64
  apply BitVec.eq_of_toNat_eq
  rw [BitVec.toNat_ofInt]
  have hX := X.isLt
  rw [IntKind.wrap_i64]
  omega
def W64 (v : B4) : BitVec 64 := v.setWidth 64
theorem ofInt_W64 (v : B4) : BitVec.ofInt 64 (v.toNat : Int) = W64 v := by
  apply BitVec.eq_of_toNat_eq
  unfold W64
  rw [BitVec.toNat_ofInt, BitVec.toNat_setWidth]
  have := v.isLt
  omega
theorem or64 (x y : Int) : intB .or .i64 x y = N64 (BitVec.ofInt 64 x ||| BitVec.ofInt 64 y) := rfl
theorem andNot64 (x y : Int) : intB .andNot .i64 x y = N64 (BitVec.ofInt 64 x &&& ~~~(BitVec.ofInt 64 y)) := rfl
theorem over_N (b : Int) (s c : B4) : overI b (s.toNat : Int) (c.toNat : Int) = N64 (BitVec.ofInt 64 b &&& ~~~(W64 c) ||| W64 s) := by
  unfold overI
  rw [or64, andNot64, ofInt_N64, ofInt_W64, ofInt_W64]
theorem over_law (b : Int) (p q : B4 × B4) : overI b ((comb p q).1.toNat : Int) ((comb p q).2.toNat : Int) = overI (overI b (p.1.toNat : Int) (p.2.toNat : Int)) (q.1.toNat : Int) (q.2.toNat : Int) := by
  obtain ⟨a, b'⟩ := p
  obtain ⟨c, d⟩ := q
  rw [over_N, over_N, over_N, ofInt_N64]
  congr 1
  refine bv_ext fun i hi => ?_
  simp only [comb, W64, BitVec.getLsbD_or, BitVec.getLsbD_and, BitVec.getLsbD_not, BitVec.getLsbD_setWidth, hi, decide_true, Bool.true_and]
  by_cases h4 : i < 4
  · simp only [h4, decide_true, Bool.true_and]
    cases (BitVec.ofInt 64 b).getLsbD i <;> cases a.getLsbD i <;> cases b'.getLsbD i <;> cases c.getLsbD i <;> cases d.getLsbD i <;> rfl
  · rw [BitVec.getLsbD_of_ge a i (by omega), BitVec.getLsbD_of_ge b' i (by omega), BitVec.getLsbD_of_ge c i (by omega), BitVec.getLsbD_of_ge d i (by omega)]
    simp [h4]
theorem over_stays (b : Int) (p q : B4 × B4) : intB .andNot .i64 (overI b ((comb p q).1.toNat : Int) ((comb p q).2.toNat : Int)) (((p.1 ||| p.2 ||| q.1 ||| q.2 : B4)).toNat : Int) = intB .andNot .i64 b (((p.1 ||| p.2 ||| q.1 ||| q.2 : B4)).toNat : Int) := by
  obtain ⟨a, b'⟩ := p
  obtain ⟨c, d⟩ := q
  rw [over_N, andNot64, andNot64, ofInt_N64, ofInt_W64]
  congr 1
  refine bv_ext fun i hi => ?_
  simp only [comb, W64, BitVec.getLsbD_or, BitVec.getLsbD_and, BitVec.getLsbD_not, BitVec.getLsbD_setWidth, hi, decide_true, Bool.true_and]
  by_cases h4 : i < 4
  · simp only [h4, decide_true, Bool.true_and]
    cases (BitVec.ofInt 64 b).getLsbD i <;> cases a.getLsbD i <;> cases b'.getLsbD i <;> cases c.getLsbD i <;> cases d.getLsbD i <;> rfl
  · rw [BitVec.getLsbD_of_ge a i (by omega), BitVec.getLsbD_of_ge b' i (by omega), BitVec.getLsbD_of_ge c i (by omega), BitVec.getLsbD_of_ge d i (by omega)]
    simp [h4]

/-! what was printed is parsed again -/
def lo4 (x : Int) : B4 := BitVec.ofInt 4 x
theorem and15 (x : Int) : intB .and .i64 x 15 = ((lo4 x).toNat : Int) := by
  have e : intB .and .i64 x 15 = N64 (BitVec.ofInt 64 x &&& 15#64) := rfl
  have e2 : BitVec.ofInt 64 x &&& 15#64 = W64 (lo4 x) := by
    apply BitVec.eq_of_toNat_eq
    unfold W64 lo4
    rw [BitVec.toNat_and, BitVec.toNat_setWidth, BitVec.toNat_ofInt, BitVec.toNat_ofInt]
    have : (15#64 : BitVec 64).toNat = 2 ^ 4 - 1 := rfl
    rw [this, Nat.and_two_pow_sub_one_eq_mod]
    omega
  rw [e, e2]
  unfold N64 W64
  rw [BitVec.toNat_setWidth]
  have := (lo4 x).isLt
  rw [Nat.mod_eq_of_lt (by omega), IntWalk.i64_in _ (by omega)]
def backC (x y : B4) : B4 := if (x ||| y) &&& 12 = 0 then y else y ||| (12 &&& ~~~x)
theorem back_law (x y : B4) : parseS (printI (x.toNat : Int) ((y &&& ~~~x).toNat : Int)) = (x, backC x (y &&& ~~~x)) := by
  have key : ∀ i j : Fin 16, parseS (printI ((BitVec.ofFin i : B4).toNat : Int) (((BitVec.ofFin j : B4) &&& ~~~(BitVec.ofFin i : B4)).toNat : Int)) = ((BitVec.ofFin i : B4), backC (BitVec.ofFin i) ((BitVec.ofFin j : B4) &&& ~~~(BitVec.ofFin i : B4))) := by decide +kernel
  exact key x.toFin y.toFin
theorem printI_size (s c : Int) : (printI s c).size ≤ 1000 := by
  unfold printI printP joinB; rw [ofL_size]; exact print_bound _ _ _ _ _ _ _ _
theorem b4_eq (x y : B4) : decide ((x.toNat : Int) = (y.toNat : Int)) = decide (x = y) := decide_eq_decide.2 ⟨fun h => b4_inj h, fun h => by rw [h]⟩
theorem later_mask (x y : B4) : (x ||| y) &&& ~~~15 = 0 := by
  refine bv_ext fun i hi => ?_
  have : (15 : B4).getLsbD i = true := by
    have key : ∀ i : Fin 4, (15 : B4).getLsbD i = true := by decide
    exact key ⟨i, hi⟩
  simp only [BitVec.getLsbD_and, BitVec.getLsbD_not, hi, decide_true, Bool.true_and, this]
  simp
end Go.Css
