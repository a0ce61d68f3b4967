/- Statements whose order is open. -/
import Derived.Test.YtcnjcjhdcloniaaDoorAL11
set_option autoImplicit false
set_option linter.unusedVariables false
set_option linter.unusedSimpArgs false
namespace Go.AL
open Go Go.RowKit

def tmpsOf : List Operand → List Nat
  | [] => []
  | .tmp t :: l => t :: tmpsOf l
  | _ :: l => tmpsOf l
def dstOf (ops : Array Oper) (i : Nat) : Option Nat := (ops[i]?).bind (·.dst)
def readsOf (ops : Array Oper) (i : Nat) : List Nat :=
  match ops[i]? with
  | some o => tmpsOf o.op.operands.toList ++ (match o.guard with | some (j, _) => (dstOf ops j).toList | none => [])
  | none => []
/-- a direct edge that always binds -/
def depOf (ops : Array Oper) (i j : Nat) : Bool :=
  match ops[i]? with
  | some o => o.after.toList.any fun e => Nat.beq e.on j && Region.binds .any e
  | none => false
def downOk (ops : Array Oper) : Bool := (List.range ops.size).all fun i => match ops[i]? with
  | some o => o.after.toList.all fun e => !Region.binds .any e || Nat.ble (e.on + 1) i
  | none => true
def quietOk (ops : Array Oper) : Bool :=
  downOk ops && !Region.departs ops &&
  (List.range ops.size).all fun i =>
    (List.range ops.size).all fun j =>
      (Nat.beq i j || (match dstOf ops i, dstOf ops j with | some a, some b => !Nat.beq a b | _, _ => true)) &&
      (match dstOf ops j with
        | some d => !(readsOf ops i).contains d || (bif Nat.ble (j + 1) i then depOf ops i j else (!Nat.beq i j && depOf ops j i))
        | none => true)

/-- The state when the operations of S have been carried out. -/
def TS (ops : Array Oper) (X : Nat → AV) (T0 : List AV) (S : List Nat) : List AV :=
  T0.mapIdx fun k x => match S.find? (fun i => dstOf ops i == some k) with | some i => X i | none => x

theorem TS_nil (ops : Array Oper) (X : Nat → AV) (T0 : List AV) : TS ops X T0 [] = T0 := by
  unfold TS; apply List.ext_getElem? ; intro k; simp
theorem TS_length (ops : Array Oper) (X : Nat → AV) (T0 : List AV) (S : List Nat) : (TS ops X T0 S).length = T0.length := by simp [TS]
theorem TS_get (ops : Array Oper) (X : Nat → AV) (T0 : List AV) (S : List Nat) (k : Nat) : (TS ops X T0 S)[k]? = (T0[k]?).map fun x => match S.find? (fun i => dstOf ops i == some k) with | some i => X i | none => x := by
  simp [TS]

theorem TS_cons {ops : Array Oper} {X : Nat → AV} {T0 : List AV} {S : List Nat} {i : Nat} : TS ops X T0 (i :: S) = tput (TS ops X T0 S) (dstOf ops i) (X i) := by
  apply List.ext_getElem?
  intro k
  rw [TS_get]
  simp only [List.find?_cons]
  cases hd : dstOf ops i with
  | none => simp only [tput]; rw [TS_get]; rfl
  | some d =>
    simp only [tput]
    rw [List.getElem?_set, TS_length, TS_get]
    by_cases hk : d = k
    · subst hk
      simp only [beq_self_eq_true, if_true]
      by_cases hlt : d < T0.length
      · simp [hlt]
      · simp [hlt, List.getElem?_eq_none (Nat.le_of_not_lt hlt)]
    · have : (some d == some k) = false := by simpa using hk
      simp only [this, hk, if_false]

section
variable {P : Program} {ro : Option Nat} {ds : List Deferred} {T0 : List AV} {H : AH} {Q : Post} {ops : Array Oper}

def qpost (ds : List Deferred) (H : AH) (R : List AV) : Post := fun e ds' T' H' => e = .normal ∧ ds' = ds ∧ H' = H ∧ Weak T' R
theorem qpost_mk {T R : List AV} (h : Weak T R) : qpost ds H R .normal ds T H := ⟨rfl, rfl, rfl, h⟩

/-- What each operation owes: at any state that is as the text's order has it where the operation looks. -/
def Hops (P : Program) (ro : Option Nat) (ops : Array Oper) (ds : List Deferred) (H : AH) (n : Nat) : Nat → List AV → List Oper → List AV → Prop
  | _, _, [], [] => True
  | k, Tk, o :: l, x :: xs => (∀ T : List AV, T.length = n → (∀ s, (readsOf ops k).contains s = true → T[s]? = Tk[s]?) → AL P ro ops [o] ds T H (qpost ds H (tput T o.dst x))) ∧ Hops P ro ops ds H n (k + 1) (tput Tk o.dst x) l xs
  | _, _, _, _ => False

def Tfin (Tk : List AV) : List Oper → List AV → List AV
  | o :: l, x :: xs => Tfin (tput Tk o.dst x) l xs
  | _, _ => Tk

theorem Hops_get : ∀ (l : List Oper) (xs : List AV) (k : Nat) (Tk : List AV) (n : Nat), Hops P ro ops ds H n k Tk l xs → l.length = xs.length ∧
    ∀ i o, l[i]? = some o → ∃ x, xs[i]? = some x ∧ ∀ T : List AV, T.length = n → (∀ s, (readsOf ops (k + i)).contains s = true → T[s]? = (Tfin Tk (l.take i) (xs.take i))[s]?) → AL P ro ops [o] ds T H (qpost ds H (tput T o.dst x)) := by
  intro l
  induction l with
  | nil => intro xs k Tk n h; cases xs with | nil => exact ⟨rfl, fun i o h => by simp at h⟩ | cons x xs => exact h.elim
  | cons o l ih =>
    intro xs k Tk n h
    cases xs with
    | nil => exact h.elim
    | cons x xs =>
      obtain ⟨h1, h2⟩ := h
      obtain ⟨e, g⟩ := ih xs (k + 1) _ n h2
      refine ⟨by simp [e], fun i o' hi => ?_⟩
      cases i with
      | zero => simp at hi; subst hi; exact ⟨x, rfl, fun T hT hr => h1 T hT (by simpa [Tfin] using hr)⟩
      | succ i =>
        obtain ⟨y, hy, hg⟩ := g i o' (by simpa using hi)
        refine ⟨y, by simpa using hy, fun T hT hr => hg T hT fun s hs => ?_⟩
        have := hr s (by rw [show k + (i + 1) = k + 1 + i by omega]; exact hs)
        simpa [Tfin] using this

/-- The text's order, as a set. -/
theorem Tfin_TS {xs : List AV} (hl : ops.toList.length = xs.length) : ∀ i, i ≤ ops.size → Tfin T0 (ops.toList.take i) (xs.take i) = TS ops (fun i => xs.getD i .any) T0 (List.range i).reverse := by
  intro i
  induction i with
  | zero => intro _; simp [Tfin, TS_nil]
  | succ i ih =>
    intro hi
    have hi2 : i < ops.size := hi
    have hi' : i < ops.toList.length := by simpa using hi2
    have hx : i < xs.length := by omega
    have step : ∀ (l : List Oper) (xs : List AV) (Tk : List AV) (i : Nat) (o : Oper) (x : AV), l[i]? = some o → xs[i]? = some x → Tfin Tk (l.take (i + 1)) (xs.take (i + 1)) = tput (Tfin Tk (l.take i) (xs.take i)) o.dst x := by
      intro l
      induction l with
      | nil => intro xs Tk i o x h; simp at h
      | cons p l ihl =>
        intro xs Tk i o x ho hx
        cases xs with
        | nil => simp at hx
        | cons q xs =>
          cases i with
          | zero => simp at ho hx; subst ho; subst hx; simp [Tfin]
          | succ i => simpa [Tfin] using ihl xs (tput Tk p.dst q) i o x (by simpa using ho) (by simpa using hx)
    rw [step _ _ _ i _ _ (List.getElem?_eq_getElem hi') (List.getElem?_eq_getElem hx), ih (by omega), List.range_succ, List.reverse_append]
    simp only [List.reverse_cons, List.reverse_nil, List.nil_append, List.cons_append]
    rw [TS_cons]
    congr 1
    · simp [dstOf, hi2]
    · simp [List.getD_eq_getElem?_getD, hx]

theorem wpOpsIn_cons {F : Fence} {n i : Nat} {l : List Nat} {R : Exit → Act → World → Prop} {o : Oper} (ho : ops[i]? = some o) (a : Act) (w : World)
    (h : wpListIn F n P ops (Exit.then (wpOpsIn F n P ops R l) R) [o] a w) : wpOpsIn F n P ops R (i :: l) a w := by
  simp only [wpOpsIn, ho]
  simp only [wpListIn] at h
  split at h
  · rename_i hw; rw [if_pos hw]
    obtain ⟨h1, h2⟩ := h
    refine ⟨h1, ?_⟩
    revert h2
    cases (Oper.semAt F.round a.eval o).run P w with
    | halt x w' => cases x <;> exact fun h => h
    | ok nx w' =>
      have lo : LetsOut (Exit.then (wpOpsIn F n P ops R l) R) → LetsOut R := fun ⟨a0, w0, h0⟩ => ⟨a0, w0, h0⟩
      cases nx with
      | value v => exact fun h => h
      | skip => exact fun h => h
      | enter f args => exact fun h => ⟨h.1, h.2.mono fun e w'' r => by cases e <;> first | exact r | exact lo r⟩
      | row row args => exact fun h => h
      | round l f tmps assign body => exact fun h => ⟨h.1, h.2.mono fun e w'' r => by cases e <;> first | exact r | exact lo r⟩
      | _ => first | exact fun h => h | exact fun h => h
  · rename_i hw; rw [if_neg hw]; exact h

theorem wpOpsIn_back {H1 : AH} {w w1 : World} (k1 : Step H w H1 w1) : ∀ (l : List Nat) (a : Act) (w' : World), wpOpsIn (fen ro) 0 P ops (post P Q H1 w1) l a w' → wpOpsIn (fen ro) 0 P ops (post P Q H w) l a w' := by
  intro l
  induction l with
  | nil => intro a w' h; exact post.back k1 h
  | cons i l ihl =>
    intro a w' h
    cases ho' : ops[i]? with
    | none => simp only [wpOpsIn, ho'] at h ⊢; exact ihl a w' h
    | some o' =>
      refine wpOpsIn_cons ho' a w' ?_
      have h' : wpListIn (fen ro) 0 P ops (Exit.then (wpOpsIn (fen ro) 0 P ops (post P Q H1 w1) l) (post P Q H1 w1)) [o'] a w' := by
        simp only [wpOpsIn, ho'] at h
        simp only [wpListIn]
        split at h
        · rename_i hw; rw [if_pos hw]
          obtain ⟨h1, h2⟩ := h
          refine ⟨h1, ?_⟩
          revert h2
          cases (Oper.semAt (fen ro).round a.eval o').run P w' with
          | halt x w' => cases x <;> exact fun h => h
          | ok nx w' =>
            have lo : LetsOut (post P Q H1 w1) → LetsOut (Exit.then (wpOpsIn (fen ro) 0 P ops (post P Q H1 w1) l) (post P Q H1 w1)) := fun ⟨a0, w0, h0⟩ => ⟨a0, w0, h0⟩
            cases nx with
            | enter f args => exact fun h => ⟨h.1, h.2.mono fun e w'' r => by cases e <;> first | exact r | exact lo r⟩
            | round l f tmps assign body => exact fun h => ⟨h.1, h.2.mono fun e w'' r => by cases e <;> first | exact r | exact lo r⟩
            | _ => exact fun h => h
        · rename_i hw; rw [if_neg hw]; exact h
      refine wpListIn_mono (fun e a w h => ?_) (fun _ => trivial) _ _ _ h'
      cases e with
      | normal => exact ihl a w h
      | _ => exact post.back k1 h

theorem pig : ∀ (n : Nat) (S : List Nat), S.Nodup → (∀ i ∈ S, i < n) → S.length ≤ n := by
  intro n
  induction n with
  | zero => intro S _ h; cases S with | nil => simp | cons a S => exact absurd (h a (by simp)) (Nat.not_lt_zero _)
  | succ n ih =>
    intro S hn h
    have h1 := ih (S.erase n) (hn.erase n) (fun i hi => by
      have h2 := h i (List.mem_of_mem_erase hi)
      have h3 : i ≠ n := fun e => by subst e; exact (hn.mem_erase_iff.1 hi).1 rfl
      omega)
    rw [List.length_erase] at h1
    split at h1 <;> omega

theorem find_mem {S : List Nat} {k j : Nat} (hd : ∀ i j, dstOf ops i = some k → dstOf ops j = some k → i ∈ S → i = j) (hj : dstOf ops j = some k) : S.find? (fun i => dstOf ops i == some k) = if j ∈ S then some j else none := by
  by_cases h : j ∈ S
  · rw [if_pos h]
    cases hf : S.find? (fun i => dstOf ops i == some k) with
    | none => rw [List.find?_eq_none] at hf; exact absurd (by simpa using hj) (hf j h)
    | some i =>
      have h1 := List.find?_some hf
      have h2 := List.mem_of_find?_eq_some hf
      rw [hd i j (by simpa using h1) hj h2]
  · rw [if_neg h, List.find?_eq_none]
    intro i hi h1
    rw [hd i j (by simpa using h1) hj hi] at hi
    exact h hi

/-- What a schedule is made of. -/
theorem go_append (m : Region.Mode) : ∀ (fuel t : Nat) (listed : Array Bool) (acc : List Nat), Region.linearise.go m ops fuel t listed acc = acc.reverse ++ Region.linearise.go m ops fuel t listed [] := by
  intro fuel
  induction fuel with
  | zero => intro t listed acc; simp [Region.linearise.go]
  | succ fuel ih =>
    intro t listed acc
    simp only [Region.linearise.go]
    split
    · rename_i i hi
      rw [ih _ _ (i :: acc), ih _ _ [i]]
      simp
    · simp

theorem AW_draw {id : Nat} {xs : List AV} (hq : quietOk ops = true) (hop : Hops P ro ops ds H T0.length 0 T0 ops.toList xs) (h : Q .normal ds (Tfin T0 ops.toList xs) H) : AW P ro (.region id ops true) ds T0 H Q := by
  obtain ⟨hlen, hg⟩ := Hops_get _ _ _ _ _ hop
  simp only [Nat.zero_add] at hg
  simp only [quietOk, Bool.and_eq_true, Bool.not_eq_true', List.all_eq_true] at hq
  obtain ⟨⟨hdown, hdep⟩, hq⟩ := hq
  have hq1 : ∀ i j k, i < ops.size → j < ops.size → dstOf ops i = some k → dstOf ops j = some k → i = j := by
    intro i j k hi hj h1 h2
    have := (hq i (by simpa using hi) j (by simpa using hj)).1
    rw [h1, h2] at this
    simp only [Bool.or_eq_true, Bool.not_eq_true'] at this
    rcases this with h | h
    · exact Nat.eq_of_beq_eq_true h
    · simp at h
  have hq2 : ∀ i j d, i < ops.size → j < ops.size → dstOf ops j = some d → (readsOf ops i).contains d = true → (j < i → depOf ops i j = true) ∧ (¬ j < i → i ≠ j ∧ depOf ops j i = true) := by
    intro i j d hi hj h1 h2
    have := (hq i (by simpa using hi) j (by simpa using hj)).2
    rw [h1] at this
    simp only [h2, Bool.not_true, Bool.false_or] at this
    by_cases hlt : j < i
    · have hb : Nat.ble (j + 1) i = true := Nat.ble_eq_true_of_le hlt
      rw [hb] at this
      exact ⟨fun _ => this, fun h => absurd hlt h⟩
    · have hb : Nat.ble (j + 1) i = false := by
        cases hbb : Nat.ble (j + 1) i with
        | false => rfl
        | true => exact absurd (Nat.le_of_ble_eq_true hbb) hlt
      rw [hb] at this
      simp only [cond_false, Bool.and_eq_true, Bool.not_eq_true'] at this
      refine ⟨fun h => absurd h hlt, fun _ => ⟨fun e => ?_, this.2⟩⟩
      subst e
      have := this.1
      simp at this
  have hdst : ∀ i k, dstOf ops i = some k → i < ops.size := by
    intro i k hi
    unfold dstOf at hi
    rcases Nat.lt_or_ge i ops.size with h | h
    · exact h
    · simp [Array.getElem?_eq_none h] at hi
  have fin : ∀ (S : List Nat) (a : Act) (w : World), (∀ i ∈ S, i < ops.size) → (∀ i, i < ops.size → i ∈ S) → St P ds (TS ops (fun i => xs.getD i .any) T0 S) H a w → post P Q H w .normal a w := by
    intro S a w hS hall hst
    refine ⟨ds, _, H, hst, .refl _ _, ?_⟩
    have e1 : TS ops (fun i => xs.getD i .any) T0 S = Tfin T0 ops.toList xs := by
      have e2 := Tfin_TS (T0 := T0) hlen ops.size (Nat.le_refl _)
      rw [show ops.toList.take ops.size = ops.toList from List.take_of_length_le (by simp), show xs.take ops.size = xs from List.take_of_length_le (by rw [← hlen]; simp)] at e2
      rw [e2]
      apply List.ext_getElem?
      intro k
      rw [TS_get, TS_get]
      congr 1
      funext x
      by_cases hk : ∃ j, dstOf ops j = some k
      · obtain ⟨j, hj⟩ := hk
        rw [find_mem (fun i j h1 h2 _ => hq1 i j k (hdst _ _ h1) (hdst _ _ h2) h1 h2) hj, find_mem (fun i j h1 h2 _ => hq1 i j k (hdst _ _ h1) (hdst _ _ h2) h1 h2) hj, if_pos (hall j (hdst _ _ hj)), if_pos (by simpa using hdst _ _ hj)]
      · have hno : ∀ S : List Nat, S.find? (fun i => dstOf ops i == some k) = none := fun S => by
          rw [List.find?_eq_none]; intro i _ hi; exact hk ⟨i, by simpa using hi⟩
        rw [hno, hno]
    rw [e1]; exact h
  -- the walk over a schedule
  have key : ∀ (fuel t : Nat) (listed : Array Bool) (S : List Nat) (a : Act) (w : World), listed.size = ops.size → (∀ i, i < ops.size → (listed.getD i true = true ↔ i ∈ S)) → (∀ i ∈ S, i < ops.size) →
      (∀ i ∈ S, ∀ j, depOf ops i j = true → j ∈ S) → ops.size ≤ fuel + S.length → S.Nodup → St P ds (TS ops (fun i => xs.getD i .any) T0 S) H a w →
      wpOpsIn (fen ro) 0 P ops (post P Q H w) (Region.linearise.go .any ops fuel t listed []) a w := by
    intro fuel
    induction fuel with
    | zero =>
      intro t listed S a w hsz hls hS hcl hfuel hnd hst
      simp only [Region.linearise.go, List.reverse_nil, wpOpsIn]
      refine fin S a w hS (fun i hi => ?_) hst
      by_cases hm : i ∈ S
      · exact hm
      · exfalso
        have := pig ops.size (i :: S) (List.nodup_cons.2 ⟨hm, hnd⟩) (fun j hj => by simp only [List.mem_cons] at hj; rcases hj with rfl | hj; exact hi; exact hS j hj)
        simp at this; omega
    | succ fuel ih =>
      intro t listed S a w hsz hls hS hcl hfuel hnd hst
      simp only [Region.linearise.go]
      split
      · rename_i i hi
        rw [go_append]
        simp only [List.reverse_cons, List.reverse_nil, List.nil_append, List.cons_append]
        have hmem := List.mem_of_getElem? hi
        simp only [List.mem_filter, List.mem_range, Bool.and_eq_true, Bool.not_eq_true'] at hmem
        obtain ⟨hin, hnl, hdeps⟩ := hmem
        have hiS : i ∉ S := fun hm => by rw [(hls i hin).2 hm] at hnl; cases hnl
        obtain ⟨o, ho⟩ : ∃ o, ops[i]? = some o := ⟨ops[i], Array.getElem?_eq_getElem hin⟩
        rw [ho] at hdeps
        simp only [Option.map_some, Option.getD_some] at hdeps
        have hpre : ∀ j, depOf ops i j = true → j ∈ S := by
          intro j hj
          unfold depOf at hj
          rw [ho] at hj
          simp only [List.any_eq_true, Bool.and_eq_true] at hj
          obtain ⟨e, he, h1, h2⟩ := hj
          replace h1 : e.on = j := Nat.eq_of_beq_eq_true h1
          rw [Array.all_eq_true_iff_forall_mem] at hdeps
          have := hdeps e (by simpa using he)
          rw [h2] at this
          simp only [Bool.not_true, Bool.false_or] at this
          rw [h1] at this
          have hjlt : j < ops.size := by
            rcases Nat.lt_or_ge j ops.size with h | h
            · exact h
            · rw [Array.getD_eq_getD_getElem?, Array.getElem?_eq_none (by omega)] at this; simp at this
          have h3 : listed.getD j true = true := by
            rw [Array.getD_eq_getD_getElem?] at this ⊢
            rw [Array.getElem?_eq_getElem (by omega)] at this ⊢
            simpa using this
          exact (hls j hjlt).1 h3
        obtain ⟨x, hx, hop⟩ := hg i o (by simpa using ho)
        have hal := hop (TS ops (fun i => xs.getD i .any) T0 S) (TS_length _ _ _ _) (fun s hs => by
          rw [Tfin_TS hlen i (by omega), TS_get, TS_get]
          congr 1
          funext y
          by_cases hk : ∃ j, dstOf ops j = some s
          · obtain ⟨j, hj⟩ := hk
            have hjn := hdst _ _ hj
            rw [find_mem (fun i j h1 h2 _ => hq1 i j s (hdst _ _ h1) (hdst _ _ h2) h1 h2) hj, find_mem (fun i j h1 h2 _ => hq1 i j s (hdst _ _ h1) (hdst _ _ h2) h1 h2) hj]
            obtain ⟨q1, q2⟩ := hq2 i j s hin hjn hj hs
            by_cases hlt : j < i
            · rw [if_pos (hpre j (q1 hlt)), if_pos (by simpa using hlt)]
            · have := q2 hlt
              rw [if_neg (fun hm => hiS (hcl j hm i this.2)), if_neg (by simpa using hlt)]
          · have hno : ∀ S : List Nat, S.find? (fun i => dstOf ops i == some s) = none := fun S => by
              rw [List.find?_eq_none]; intro i _ hi; exact hk ⟨i, by simpa using hi⟩
            rw [hno, hno])
        refine wpOpsIn_cons ho a w ?_
        refine wpListIn_mono ?_ (fun _ => trivial) _ _ _ (hal a w hst)
        rintro e a1 w1 ⟨ds1, T1, H1, s1, k1, rfl, rfl, rfl, hw1⟩
        have s2 := s1.weak hw1
        have hd : o.dst = dstOf ops i := by simp [dstOf, ho]
        have hxe : x = xs.getD i .any := by simp [List.getD_eq_getElem?_getD, hx]
        rw [hd, hxe] at s2
        rw [← TS_cons (ops := ops) (X := fun i => xs.getD i .any)] at s2
        have hrun := fun t' => ih t' (listed.setIfInBounds i true) (i :: S) a1 w1 (by simpa using hsz) (fun j hj => by
            rw [Array.getD_eq_getD_getElem?, Array.getElem?_setIfInBounds]
            by_cases e : i = j
            · subst e; rw [if_pos rfl, if_pos (by omega)]; simp
            · rw [if_neg e]
              have := hls j hj
              rw [Array.getD_eq_getD_getElem?] at this
              rw [this]; simp [Ne.symm e])
          (fun j hj => by simp only [List.mem_cons] at hj; rcases hj with rfl | hj; exact hin; exact hS j hj)
          (fun j hj q hq => by
            simp only [List.mem_cons] at hj ⊢
            rcases hj with rfl | hj
            · exact .inr (hpre q hq)
            · exact .inr (hcl j hj q hq))
          (by simp; omega) (List.nodup_cons.2 ⟨hiS, hnd⟩) s2
        exact wpOpsIn_back k1 _ _ _ (hrun _)
      · -- nothing is ready: all has been carried out
        rename_i hnone
        simp only [List.reverse_nil, wpOpsIn]
        have hempty : ∀ i, i < ops.size → i ∈ S := by
          intro i
          induction i using Nat.strongRecOn with
          | _ i ihi =>
            intro hi
            by_cases hm : i ∈ S
            · exact hm
            · exfalso
              have hin : i ∈ (List.range ops.size).filter fun i => !listed.getD i true && ((ops[i]?).map (·.after.all fun e => !Region.binds .any e || listed.getD e.on false)).getD false := by
                simp only [List.mem_filter, List.mem_range, Bool.and_eq_true, Bool.not_eq_true']
                refine ⟨hi, ?_, ?_⟩
                · cases hb : listed.getD i true with
                  | false => rfl
                  | true => exact absurd ((hls i hi).1 hb) hm
                · have ho : ops[i]? = some ops[i] := Array.getElem?_eq_getElem hi
                  rw [ho]
                  simp only [Option.map_some, Option.getD_some]
                  rw [Array.all_eq_true_iff_forall_mem]
                  intro e he
                  cases hb : Region.binds .any e with
                  | false => rfl
                  | true =>
                    unfold downOk at hdown
                    rw [List.all_eq_true] at hdown
                    have hd := hdown i (by simpa using hi)
                    rw [ho] at hd
                    simp only [List.all_eq_true] at hd
                    have hd2 := hd e (by simpa using he)
                    rw [hb] at hd2
                    simp only [Bool.not_true, Bool.false_or] at hd2
                    have hlt : e.on < i := Nat.le_of_ble_eq_true hd2
                    have hmem := ihi e.on hlt (by omega)
                    have h3 := (hls e.on (by omega)).2 hmem
                    rw [Array.getD_eq_getD_getElem?, Array.getElem?_eq_getElem (by omega)] at h3 ⊢
                    simpa using h3
              rw [List.getElem?_eq_none_iff] at hnone
              have hpos := List.length_pos_of_mem hin
              have := Nat.mod_lt t hpos
              omega
        exact fin S a w hS hempty hst
  intro a w hst
  refine wpIn_region_draw fun t => ?_
  have hst1 : St P ds (TS ops (fun i => xs.getD i .any) T0 []) H a w.drew := by
    rw [TS_nil]
    exact ⟨hst.defers, hst.size, fun k x hx => let ⟨u, h1, h2⟩ := hst.vals k x hx; ⟨u, h1, h2.step (Step.drew' H w)⟩, fun b o hb => (hst.heap b o hb).keep (Step.drew' H w) rfl⟩
  have hsch : Region.schedule (P.follows .mixedOrders) ops t = Region.linearise .any ops t := by
    unfold Region.schedule
    rw [hdep]
    simp
  rw [hsch]
  have hrun := key ops.size t (Array.replicate ops.size false) [] a w.drew (by simp) (fun i hi => by simp [Array.getD_eq_getD_getElem?, hi]) (fun i hi => by simp at hi) (fun i hi => by simp at hi) (by simp) List.nodup_nil hst1
  have hback : ∀ (l : List Nat) a w', wpOpsIn (fen ro) 0 P ops (post P Q H w.drew) l a w' → wpOpsIn (fen ro) 0 P ops (post P Q H w) l a w' := fun l a w' h => wpOpsIn_back (Step.drew' H w) l a w' h
  exact hback _ _ _ hrun
end
end Go.AL
