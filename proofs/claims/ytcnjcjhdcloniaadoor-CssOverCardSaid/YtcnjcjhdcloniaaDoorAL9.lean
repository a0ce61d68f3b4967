/- Guards without a parting of ways; operands in a row; pure functions. -/
import Derived.Test.YtcnjcjhdcloniaaDoorAL8
set_option autoImplicit false
set_option linter.unusedVariables false
set_option linter.unusedSimpArgs false
namespace Go.AL
open Go Go.RowKit

/-- A function that gives r and leaves all as it is. -/
def PF (P : Program) (f : FuncId) (xs : List AV) (r : AV) : Prop := ∀ (H : AH) (K : AV → AH → Prop), K r H → AC P f xs H K

def anyAt (T : List AV) (D : List Nat) : List AV := D.foldl (fun T d => T.set d .any) T
theorem anyAt_get : ∀ (D : List Nat) (T : List AV), (anyAt T D).length = T.length ∧ ∀ (k : Nat) (x : AV), (anyAt T D)[k]? = some x → x = .any ∨ (k ∉ D ∧ T[k]? = some x) := by
  intro D
  induction D with
  | nil => exact fun T => ⟨rfl, fun k x h => .inr ⟨by simp, h⟩⟩
  | cons d D ih =>
    intro T
    obtain ⟨h1, h2⟩ := ih (T.set d .any)
    refine ⟨by simpa [anyAt] using h1, fun k x hx => ?_⟩
    rcases h2 k x hx with h | ⟨h, hs⟩
    · exact .inl h
    · rw [List.getElem?_set] at hs
      split at hs
      · split at hs
        · injection hs with hs; exact .inl hs.symm
        · cases hs
      · rename_i hne
        exact .inr ⟨by simp only [List.mem_cons, not_or]; exact ⟨fun e => hne e.symm, h⟩, hs⟩

/-- Operations that are left out where a choice fell the other way. -/
def skips (ops : Array Oper) (c : Nat) (w : Bool) (D : List Nat) : List Nat → List Oper → Bool
  | _, [] => true
  | done, o :: l =>
    (match o.guard with
      | some (j, w') => match (ops[j]?).bind (·.dst) with
        | some dj => (dj == c && w' == w) || done.contains dj
        | none => false
      | none => false) &&
    (match o.dst with
      | some d => D.contains d && d != c && skips ops c w D (d :: done) l
      | none => skips ops c w D done l)

section ops
variable {P : Program} {ro : Option Nat} {ds : List Deferred} {T : List AV} {H : AH} {Q : Post} {ops : Array Oper} {rest : List Oper}
variable {d : Option Tmp} {ty : TypeId} {pos : String} {af : Array Edge} {s s' : Operand} {x y : AV}

theorem skips_run {F : Fence} {n : Nat} (hF : ∀ f, F.fn f) {c : Nat} {w0 : Bool} {D : List Nat} {R : Exit → Act → World → Prop} {w : World} : ∀ (l : List Oper) (done : List Nat) (a : Act), skips ops c w0 D done l = true →
    a.tmps[c]? = some (.bool (!w0)) → (∀ k ∈ done, a.tmps[k]? = some undef ∨ a.tmps[k]? = none) →
    (∀ a' : Act, a'.defers = a.defers → a'.tmps.size = a.tmps.size → (∀ k, k ∉ D → a'.tmps[k]? = a.tmps[k]?) → R .normal a' w) → wpListIn F n P ops R l a w := by
  intro l
  induction l with
  | nil => intro done a _ _ _ h; exact h a rfl rfl (fun _ _ => rfl)
  | cons o l ih =>
    intro done a hs hc hd h
    simp only [skips, Bool.and_eq_true] at hs
    obtain ⟨h1, h2⟩ := hs
    have hw : Region.wanted o (yielded ops a.tmps) = false := by
      unfold Region.wanted
      split at h1
      · rename_i j w' hg
        rw [hg]
        split at h1
        · rename_i dj hdj
          simp only [Bool.or_eq_true, Bool.and_eq_true, beq_iff_eq] at h1
          have hy : yielded ops a.tmps j = (match a.tmps[dj]? with | some (.bool b) => some b | _ => none) := by
            unfold yielded
            rw [hdj]; simp
            rfl
          simp only [hy]
          rcases h1 with ⟨rfl, rfl⟩ | h1
          · rw [hc]; cases w' <;> rfl
          · rcases hd dj (by simpa using h1) with h | h
            · rw [h]; rfl
            · rw [h]; rfl
        · simp at h1
      · simp at h1
    have hput : ∀ d, o.dst = some d → d ∈ D ∧ d ≠ c ∧ skips ops c w0 D (d :: done) l = true := by
      intro d hd
      rw [hd] at h2
      simp only [Bool.and_eq_true] at h2
      exact ⟨by simpa using h2.1.1, by simpa using h2.1.2, h2.2⟩
    simp only [wpListIn, hw, Bool.false_eq_true, if_false]
    refine ⟨fun f _ => hF f, ?_⟩
    cases hdst : o.dst with
    | none =>
      rw [hdst] at h2
      exact ih done a h2 hc hd h
    | some d =>
      obtain ⟨m1, m2, m3⟩ := hput d hdst
      refine ih (d :: done) (a.put (some d) undef) m3 ?_ ?_ ?_
      · simp only [Act.put]; rw [Array.getElem?_setIfInBounds, if_neg m2]; exact hc
      · intro k hk
        simp only [Act.put]
        rw [Array.getElem?_setIfInBounds]
        by_cases e : d = k
        · rw [if_pos e]; split <;> simp
        · rw [if_neg e]; exact hd k (by simpa [Ne.symm e] using hk)
      · intro a' e1 e2 e3
        refine h a' e1 (by rw [e2]; simp [Act.put]) (fun k hk => ?_)
        rw [e3 k hk]; simp only [Act.put]
        rw [Array.getElem?_setIfInBounds, if_neg (fun e : d = k => hk (e ▸ m1))]

/-- Walking on to where the two ways meet. -/
theorem wpListIn_append {F : Fence} {n : Nat} {R : Exit → Act → World → Prop} {l' : List Oper} : ∀ (l : List Oper) (a : Act) (w : World),
    wpListIn F n P ops (Exit.then (wpListIn F n P ops R l') R) l a w → wpListIn F n P ops R (l ++ l') a w := by
  intro l
  induction l with
  | nil => intro a w h; exact h
  | cons o l ih =>
    intro a w h
    simp only [List.cons_append, wpListIn] at h ⊢
    split at h
    · rename_i hw
      rw [if_pos hw]
      obtain ⟨h1, h2⟩ := h
      refine ⟨h1, ?_⟩
      revert h2
      cases (Oper.semAt F.round a.eval o).run P w with
      | halt x w' => cases x <;> exact fun h => h
      | ok nx w' =>
        have lo : LetsOut (Exit.then (wpListIn F n P ops R l') R) → LetsOut R := fun ⟨a0, w0, h0⟩ => ⟨a0, w0, h0⟩
        cases nx with
        | value v => exact fun h => ih _ _ h
        | skip => exact fun h => ih _ _ h
        | enter f args => exact fun h => ⟨h.1, h.2.mono fun e w'' r => by cases e <;> first | exact ih _ _ r | exact lo r | exact r⟩
        | row row args => exact fun h => ⟨h.1, h.2.mono fun v w'' r => ih _ _ r⟩
        | round l f tmps assign body => exact fun h => ⟨h.1, h.2.mono fun e w'' r => by cases e <;> first | exact ih _ _ r | exact lo r | exact r⟩
        | _ => first | exact fun h => h | exact fun h => ih _ _ h
    · rename_i hw
      rw [if_neg hw]
      exact ⟨h.1, ih _ _ h.2⟩

theorem Weak.trans {T1 T2 T3 : List AV} (h : Weak T1 T2) (k : Weak T2 T3) : Weak T1 T3 :=
  ⟨k.1.trans h.1, fun i x hx => (k.2 i x hx).elim .inl fun hx' => h.2 i x hx'⟩
theorem Weak.set {T1 T2 : List AV} (h : Weak T1 T2) (i : Nat) (x : AV) : Weak (T1.set i x) (T2.set i x) :=
  ⟨by simp [h.1], fun k y hy => by
    rw [List.getElem?_set] at hy ⊢
    split at hy
    · rename_i hk; rw [if_pos hk]; rw [h.1] at hy; exact .inr hy
    · rename_i hk; rw [if_neg hk]; exact h.2 k y hy⟩

/-- The guard is met: it falls away. -/
def strip (j : Nat) (w : Bool) : Oper → Oper
  | ⟨d, op, ty, pos, af, none⟩ => ⟨d, op, ty, pos, af, none⟩
  | ⟨d, op, ty, pos, af, some (j', w')⟩ => ⟨d, op, ty, pos, af, bif (j' == j && (w' == w)) then none else some (j', w')⟩
theorem strip_dst (j : Nat) (w : Bool) (o : Oper) : (strip j w o).dst = o.dst ∧ (strip j w o).op = o.op ∧ (strip j w o).type = o.type := by
  obtain ⟨d, op, ty, pos, af, g⟩ := o
  cases g with
  | none => exact ⟨rfl, rfl, rfl⟩
  | some p => obtain ⟨a, b⟩ := p; exact ⟨rfl, rfl, rfl⟩

theorem strip_run {F : Fence} {n j c : Nat} {w0 : Bool} {R : Exit → Act → World → Prop} (hj : (ops[j]?).bind (·.dst) = some c) : ∀ (l : List Oper) (a : Act) (w : World), (∀ o ∈ l, o.dst ≠ some c) → a.tmps[c]? = some (.bool w0) →
    wpListIn F n P ops R (l.map (strip j w0)) a w → wpListIn F n P ops R l a w := by
  intro l
  induction l with
  | nil => exact fun a w _ _ h => h
  | cons o l ih =>
    intro a w hd hc h
    have hd' : ∀ o ∈ l, o.dst ≠ some c := fun o ho => hd o (by simp [ho])
    have hput : ∀ v, (a.put o.dst v).tmps[c]? = some (.bool w0) := by
      intro v
      cases hdst : o.dst with
      | none => exact hc
      | some d =>
        have : d ≠ c := fun e => hd o (by simp) (by rw [hdst, e])
        simp only [Act.put]; rw [Array.getElem?_setIfInBounds, if_neg this]; exact hc
    have hwant : Region.wanted (strip j w0 o) (yielded ops a.tmps) = true → Region.wanted o (yielded ops a.tmps) = true := by
      obtain ⟨d, op, ty, pos, af, g⟩ := o
      cases g with
      | none => exact fun h => h
      | some p =>
        obtain ⟨j', w'⟩ := p
        simp only [strip]
        cases hb : (j' == j && (w' == w0)) with
        | false => exact fun h => h
        | true =>
          intro _
          simp only [Bool.and_eq_true, beq_iff_eq] at hb
          obtain ⟨h1, h2⟩ := hb
          subst h1; subst h2
          have : yielded ops a.tmps j' = some w' := by unfold yielded; rw [hj]; simp [hc]
          simp [Region.wanted, this]
    have hnot : ¬ Region.wanted (strip j w0 o) (yielded ops a.tmps) = true → ¬ Region.wanted o (yielded ops a.tmps) = true := by
      obtain ⟨d, op, ty, pos, af, g⟩ := o
      cases g with
      | none => exact fun h => h
      | some p =>
        obtain ⟨j', w'⟩ := p
        simp only [strip]
        cases hb : (j' == j && (w' == w0)) with
        | false => exact fun h => h
        | true => intro h; exact absurd (by simp [Region.wanted]) h
    have hsame : ∀ next R, (strip j w0 o).wpIn F n P a w next R = o.wpIn F n P a w next R := by
      intro next R
      obtain ⟨d, op, ty, pos, af, g⟩ := o
      cases g with
      | none => rfl
      | some p => obtain ⟨j', w'⟩ := p; rfl
    have hab : (strip j w0 o).about P w a.eval = o.about P w a.eval := by
      obtain ⟨d, op, ty, pos, af, g⟩ := o
      cases g with
      | none => rfl
      | some p => obtain ⟨j', w'⟩ := p; rfl
    simp only [List.map_cons, wpListIn] at h ⊢
    split at h
    · rename_i hw
      rw [if_pos (hwant hw)]
      rw [hsame] at h
      obtain ⟨h1, h2⟩ := h
      refine ⟨h1, ?_⟩
      revert h2
      cases (Oper.semAt F.round a.eval o).run P w with
      | halt x w' => cases x <;> exact fun h => h
      | ok nx w' =>
        cases nx with
        | value v => exact fun h => ih _ _ hd' (hput v) h
        | skip => exact fun h => ih _ _ hd' (hput _) h
        | enter f args => exact fun h => ⟨h.1, h.2.mono fun e w'' r => by cases e <;> first | exact ih _ _ hd' (hput _) r | exact r⟩
        | row row args => exact fun h => ⟨h.1, h.2.mono fun v w'' r => ih _ _ hd' (hput _) r⟩
        | round l f tmps assign body => exact fun h => ⟨h.1, h.2.mono fun e w'' r => by cases e <;> first | exact ih _ _ hd' (hput _) r | exact r⟩
        | _ => first | exact fun h => h | exact fun h => ih _ _ hd' (by cases hdst : o.dst with
            | none => exact hc
            | some e => have := hput undef; rw [hdst] at this; exact this) h
    · rename_i hw
      rw [if_neg (hnot hw)]
      rw [hab, (strip_dst j w0 o).1] at h
      exact ⟨h.1, ih _ _ hd' (hput _) h.2⟩

theorem skips_nodst {c : Nat} {w : Bool} {D : List Nat} : ∀ (l : List Oper) (done : List Nat), skips ops c w D done l = true → ∀ o ∈ l, o.dst ≠ some c := by
  intro l
  induction l with
  | nil => intro done _ o ho; simp at ho
  | cons p l ih =>
    intro done h o ho hdst
    simp only [skips, Bool.and_eq_true] at h
    obtain ⟨_, h⟩ := h
    simp only [List.mem_cons] at ho
    rcases ho with rfl | ho
    · rw [hdst] at h; simp at h
    · cases hp : p.dst with
      | none => rw [hp] at h; exact ih _ h o ho hdst
      | some d => rw [hp] at h; simp only [Bool.and_eq_true] at h; exact ih _ h.2 o ho hdst

/-- What the walk of a guarded group owes. -/
def grpQ (ds : List Deferred) (H : AH) (R : List AV) : Post := fun e ds' T' H' => e = .normal ∧ ds' = ds ∧ H' = H ∧ Weak T' R
theorem grpQ_mk {R : List AV} (h : Weak T R) : grpQ ds H R .normal ds T H := ⟨rfl, rfl, rfl, h⟩

theorem AL_group {n c t r j : Nat} {b w0 v : Bool} {l R : List Oper} {o : Oper} (D : List Nat) (hj : (ops[j]?).bind (·.dst) = some c) (hsk : skips ops c w0 D [] (l.take n) = true) (htD : D.contains t = true) (hc : T[c]? = some (.v (.bool b))) (hpk : l.drop n = o :: R)
    (hcD : D.contains c = false)
    (h1 : b = w0 → AL P ro ops ((l.take n).map (strip j w0)) ds T H (grpQ ds H ((anyAt T D).set t (.v (.bool v)))))
    (h : b = w0 → AL P ro ops (o :: R) ds ((anyAt T D).set t (.v (.bool v))) H Q) (h' : b = !w0 → AL P ro ops (o :: R) ds (anyAt T D) H Q) : AL P ro ops l ds T H Q := fun a w hst => by
  rw [← List.take_append_drop n l, hpk]
  refine wpListIn_append _ _ _ ?_
  by_cases hb : b = w0
  · refine strip_run hj _ _ _ (skips_nodst _ _ hsk) (by obtain ⟨u, hu, hv⟩ := hst.vals c _ hc; cases hv; rw [hu, hb]) ?_
    refine wpListIn_mono ?_ (fun _ => trivial) _ _ _ (h1 hb a w hst)
    rintro e a1 w1 ⟨ds1, T1, H1, s1, k1, rfl, rfl, rfl, hw⟩
    exact wpListIn_mono (fun _ _ _ p => post.back k1 p) (fun _ => trivial) _ _ _ (h hb a1 w1 (s1.weak hw))
  · have hb' : b = !w0 := by cases b <;> cases w0 <;> simp_all
    obtain ⟨u, hu, hv⟩ := hst.vals c _ hc
    cases hv
    refine skips_run (fun _ => trivial) _ [] a hsk (by rw [hu, hb']) (fun k hk => by simp at hk) ?_
    intro a' e1 e2 e3
    refine h' hb' a' w ⟨e1.trans hst.defers, by rw [e2, hst.size, (anyAt_get D T).1], fun k x hx => ?_, hst.heap⟩
    rcases (anyAt_get D T).2 k x hx with rfl | ⟨hk, hx'⟩
    · have hlt : k < a'.tmps.size := by
        have := (List.getElem?_eq_some_iff.1 hx).1
        rw [e2, hst.size, ← (anyAt_get D T).1]; exact this
      exact ⟨a'.tmps[k], Array.getElem?_eq_getElem hlt, .any _⟩
    · rw [e3 k hk]; exact hst.vals k x hx'

theorem anyAt_keep {D : List Nat} {k : Nat} (h : k ∉ D) : ∀ T : List AV, (anyAt T D)[k]? = T[k]? := by
  induction D with
  | nil => intro T; rfl
  | cons d D ih =>
    intro T
    simp only [List.mem_cons, not_or] at h
    have := ih h.2 (T.set d .any)
    simp only [anyAt, List.foldl_cons] at this ⊢
    rw [this, List.getElem?_set, if_neg (Ne.symm h.1)]

/-- 'a || b' -/
theorem AL_or {n c t r j : Nat} {b v : Bool} {l R : List Oper} (D : List Nat) (hj : (ops[j]?).bind (·.dst) = some c) (hsk : skips ops c false D [] (l.take n) = true) (htD : D.contains t = true) (hcD : D.contains c = false) (hrc : Nat.blt t T.length = true) (hc : T[c]? = some (.v (.bool b)))
    (hpk : l.drop n = ⟨some r, .pick (.tmp c) (.const (.bool true)) (.tmp t), ty, pos, af, none⟩ :: R)
    (h1 : b = false → AL P ro ops ((l.take n).map (strip j false)) ds T H (grpQ ds H ((anyAt T D).set t (.v (.bool v)))))
    (h : AL P ro ops R ds ((anyAt T D).set r (.v (.bool (b || v)))) H Q) : AL P ro ops l ds T H Q := by
  have hcn : c ∉ D := by simpa using hcD
  have htm : t ∈ D := by simpa using htD
  have hct : t ≠ c := fun e => hcn (e ▸ htm)
  have hc' : (anyAt T D)[c]? = some (.v (.bool b)) := by rw [anyAt_keep hcn]; exact hc
  refine AL_group (r := r) D hj hsk htD hc hpk hcD h1 (fun hb => ?_) (fun hb => ?_)
  · subst hb
    refine AL_pick_f (x := .v (.bool v)) ?_ ?_ ?_
    · show ((anyAt T D).set t _)[c]? = _; rw [List.getElem?_set, if_neg hct]; exact hc'
    · show ((anyAt T D).set t _)[t]? = _; rw [List.getElem?_set, if_pos rfl, if_pos (by rw [(anyAt_get D T).1]; have := Nat.le_of_ble_eq_true hrc; omega)]
    · refine fun a w hst => h a w (hst.weak ?_)
      refine Weak.set (T1 := (anyAt T D).set t (.v (.bool v))) (T2 := anyAt T D) ⟨by simp, fun k x hx => ?_⟩ r _
      rw [List.getElem?_set]
      split
      · rename_i e; subst e
        rcases (anyAt_get D T).2 _ x hx with rfl | ⟨h, _⟩
        · exact .inl rfl
        · exact absurd htm h
      · exact .inr hx
  · have hb' : b = true := by simpa using hb
    subst hb'
    exact AL_pick_t hc' rfl h

/-- 'a && b' -/
theorem AL_and {n c t r j : Nat} {b v : Bool} {l R : List Oper} (D : List Nat) (hj : (ops[j]?).bind (·.dst) = some c) (hsk : skips ops c true D [] (l.take n) = true) (htD : D.contains t = true) (hcD : D.contains c = false) (hrc : Nat.blt t T.length = true) (hc : T[c]? = some (.v (.bool b)))
    (hpk : l.drop n = ⟨some r, .pick (.tmp c) (.tmp t) (.const (.bool false)), ty, pos, af, none⟩ :: R)
    (h1 : b = true → AL P ro ops ((l.take n).map (strip j true)) ds T H (grpQ ds H ((anyAt T D).set t (.v (.bool v)))))
    (h : AL P ro ops R ds ((anyAt T D).set r (.v (.bool (b && v)))) H Q) : AL P ro ops l ds T H Q := by
  have hcn : c ∉ D := by simpa using hcD
  have htm : t ∈ D := by simpa using htD
  have hct : t ≠ c := fun e => hcn (e ▸ htm)
  have hc' : (anyAt T D)[c]? = some (.v (.bool b)) := by rw [anyAt_keep hcn]; exact hc
  refine AL_group (r := r) D hj hsk htD hc hpk hcD h1 (fun hb => ?_) (fun hb => ?_)
  · subst hb
    refine AL_pick_t (x := .v (.bool v)) ?_ ?_ ?_
    · show ((anyAt T D).set t _)[c]? = _; rw [List.getElem?_set, if_neg hct]; exact hc'
    · show ((anyAt T D).set t _)[t]? = _; rw [List.getElem?_set, if_pos rfl, if_pos (by rw [(anyAt_get D T).1]; have := Nat.le_of_ble_eq_true hrc; omega)]
    · refine fun a w hst => h a w (hst.weak ?_)
      refine Weak.set (T1 := (anyAt T D).set t (.v (.bool v))) (T2 := anyAt T D) ⟨by simp, fun k x hx => ?_⟩ r _
      rw [List.getElem?_set]
      split
      · rename_i e; subst e
        rcases (anyAt_get D T).2 _ x hx with rfl | ⟨h, _⟩
        · exact .inl rfl
        · exact absurd htm h
      · exact .inr hx
  · have hb' : b = false := by simpa using hb
    subst hb'
    exact AL_pick_f hc' rfl h

theorem AL_take' {op : Op} {j dj : Nat} {b c : Bool} (hc : b = c) (hj : (ops[j]?).bind (·.dst) = some dj) (hb : T[dj]? = some (.v (.bool b))) (h : AL P ro ops (⟨d, op, ty, pos, af, none⟩ :: rest) ds T H Q) :
    AL P ro ops (⟨d, op, ty, pos, af, some (j, c)⟩ :: rest) ds T H Q := by subst hc; exact AL_take hj hb h

/-- Calls of pure functions. -/
theorem AL_callp {f : FuncId} {args : Array Operand} {ats : Array TypeId} {xs : List AV} {r : AV} (hf : entersOf P f = true) (hx : EvL T args.toList xs) (hc : PF P f xs r)
    (h : AL P ro ops rest ds (tput T d r) H Q) : AL P ro ops (⟨d, .call ⟨.value (.func f), args, ats⟩, ty, pos, af, none⟩ :: rest) ds T H Q :=
  AL_call (K := fun x H' => x = r ∧ H' = H) hf hx (hc H _ ⟨rfl, rfl⟩) (fun x H' ⟨e1, e2⟩ => by subst e1; subst e2; exact h)
theorem AL_callk {f : FuncId} {args : Array Operand} {ats : Array TypeId} {xs : List AV} {K : AV → AH → Prop} (hf : entersOf P f = true) (hx : EvL T args.toList xs) (hc : AC P f xs H K)
    (h : ∀ x H', K x H' → AL P ro ops rest ds (tput T d x) H' Q) : AL P ro ops (⟨d, .call ⟨.value (.func f), args, ats⟩, ty, pos, af, none⟩ :: rest) ds T H Q :=
  AL_call hf hx hc h
theorem AL_callvp {f : FuncId} {args : Array Operand} {ats : Array TypeId} {xs cs : List AV} {r : AV} (hf : entersOf P f = true) (hv : ev T s = some (.fn (.func f) [] cs)) (hx : EvL T args.toList xs) (hc : PF P f (xs ++ cs) r)
    (h : AL P ro ops rest ds (tput T d r) H Q) : AL P ro ops (⟨d, .call ⟨.value s, args, ats⟩, ty, pos, af, none⟩ :: rest) ds T H Q :=
  AL_callv (K := fun x H' => x = r ∧ H' = H) hv hf hx (hc H _ ⟨rfl, rfl⟩) (fun x H' ⟨e1, e2⟩ => by subst e1; subst e2; exact h)
end ops
end Go.AL
