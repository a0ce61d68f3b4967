/- A function as a whole; what is owned, handed on as read; append; regions with guards. -/
import Derived.Test.YtcnjcjhdcloniaaDoorAL5
set_option autoImplicit false
set_option linter.unusedVariables false
set_option linter.unusedSimpArgs false
namespace Go.AL
open Go Go.RowKit

/-- Fewer blocks are said to be ours. -/
def SubH (H H' : AH) : Prop := ∀ b o, H b = some o → H' b = some o
theorem SubH.refl (H : AH) : SubH H H := fun _ _ h => h
theorem SubH.trans {A B C : AH} (h : SubH A B) (k : SubH B C) : SubH A C := fun b o x => k b o (h b o x)
theorem SubH.upd {A B : AH} {b : Nat} {o : Option AO} (h : SubH A B) (hb : A b = none) : SubH A (B.upd b o) := fun k q hk => by
  rw [AH.upd_ne _ _ (fun e => by rw [e, hb] at hk; cases hk)]; exact h k q hk
theorem SubH.none {A B : AH} (h : SubH A B) {b : Nat} (hb : B b = none) : A b = none := by
  cases ha : A b with
  | none => rfl
  | some o => rw [h b o ha] at hb; cases hb

theorem VR.sub {P : Program} {w : World} {H H' : AH} (hs : SubH H H') {x : AV} {u : Value} (h : VR P w H' x u) : VR P w H x u := by
  induction h with
  | v x => exact .v x
  | any x => exact .any x
  | sl U a b hcell hv ih => exact .sl U a b (fun k y hy => let ⟨a, hA, h1, h2⟩ := hcell k y hy; ⟨a, hA, hs.none h1, h2⟩) ih
  | ag hl hv ih => exact .ag hl ih
  | tup hl hv ih => exact .tup hl ih
  | own b c n => exact .own b c n
  | ownNil => exact .ownNil
  | pt b i s o => exact .pt b i s o
  | rp U a hcell hv ih => exact .rp U a (fun k y hy => let ⟨h1, h2⟩ := hcell k y hy; ⟨hs.none h1, h2⟩) ih
  | fn hl hl' hf hc ihf ihc => exact .fn hl hl' ihf ihc
theorem OR.sub {P : Program} {w : World} {H H' : AH} (hs : SubH H H') {b : Nat} {o : AO} (h : OR P H' w b o) : OR P H w b o := by
  cases o with
  | row e c xs => obtain ⟨cs, fr, h1, h2, h3, h4, h5, h6⟩ := h; exact ⟨cs, fr, h1, h2, h3, h4, h5, fun k y hy => let ⟨u, a, b⟩ := h6 k y hy; ⟨u, a, b.sub hs⟩⟩
  | raw o => exact h
  | loop r T => obtain ⟨ts, h1, h2, h3⟩ := h; exact ⟨ts, h1, h2, fun k x hx => let ⟨u, a, b⟩ := h3 k x hx; ⟨u, a, b.sub hs⟩⟩
theorem HR.sub {P : Program} {w : World} {H H' : AH} (hs : SubH H H') (h : HR P H' w) : HR P H w := fun b o hb => (h b o (hs b o hb)).sub hs
theorem Step.sub {H0 H H' : AH} {w w' : World} (hs : SubH H H') (h : Step H0 w H' w') : Step H0 w H w' :=
  ⟨h.os, h.tape, h.output, h.size, fun b hb hn => ⟨(h.keep b hb hn).1, hs.none (h.keep b hb hn).2⟩⟩
theorem St.sub {P : Program} {ds : List Deferred} {T : List AV} {H H' : AH} {a : Act} {w : World} (hs : SubH H H') (h : St P ds T H' a w) : St P ds T H a w :=
  ⟨h.defers, h.size, fun k x hx => let ⟨u, h1, h2⟩ := h.vals k x hx; ⟨u, h1, h2.sub hs⟩, h.heap.sub hs⟩

/-- What a result variable gives. -/
inductive RV (P : Program) (T : List AV) (H : AH) : ResultVar → AV → Prop
  | tmp {t : Tmp} {x : AV} (h : T[t]? = some x) : RV P T H (.tmp t) x
  | cell {a : Tmp} {t e : TypeId} {b i sz o n c : Nat} {bg : Bool} {xs : List AV} {x y : AV} (hx : T[a]? = some (.pt b i sz o)) (hH : H b = some (.row e c xs)) (he : szOf P e = some sz) (hi : xs[i]? = some x) (ha : aggOf P t = some bg) (hs : szOf P t = some n)
      (hy : subAV bg n x o = some y) (hb : y.isAg = bg) (hn : bg = false → n = 1) : RV P T H (.cell a t) y

inductive RVL (P : Program) (T : List AV) (H : AH) : List ResultVar → List AV → Prop
  | nil : RVL P T H [] []
  | cons {r : ResultVar} {x : AV} {rs : List ResultVar} {xs : List AV} (h : RV P T H r x) (hs : RVL P T H rs xs) : RVL P T H (r :: rs) (x :: xs)

def pack : List AV → AV
  | [x] => x
  | xs => .tup xs

def retQ (P : Program) (rs : List ResultVar) (K : AV → AH → Prop) : Post := fun e ds T H =>
  (e = .normal ∨ e = .ret) ∧ ds = [] ∧ ∃ xs H', RVL P T H rs xs ∧ SubH H' H ∧ K (pack xs) H'

section
variable {P : Program} {ds : List Deferred} {T : List AV} {H : AH} {K : AV → AH → Prop}

def resOf (tmps : Array Value) : ResultVar → Sem Value
  | .tmp t => pure (tmps.getD t undef)
  | .cell c t => do loadVar t (← asAddr (tmps.getD c undef))

theorem RV.run {a : Act} {w : World} (hst : St P ds T H a w) {r : ResultVar} {x : AV} (h : RV P T H r x) :
    ∃ v, (resOf a.tmps r).run P w = .ok v w ∧ VR P w H x v := by
  cases h with
  | tmp h => exact ⟨_, rfl, hst.eval h⟩
  | cell hx hH he hi ha hs hy hb hn =>
    rename_i c t e b i sz o n cc bg xs x
    obtain ⟨v, hr, hv⟩ := PV_load_pt (d := none) (ty := 0) (pos := "") (af := #[]) (s := .tmp c) hx hH he hi ha hs hy hb hn ds a w hst
    have hpv := hst.eval hx
    generalize hu : a.eval (.tmp c) = u at hpv
    cases hpv
    have hu' : a.tmps.getD c undef = .pointer (some ⟨b, i * sz + o, none⟩) := hu
    refine ⟨v, ?_, hv⟩
    have hr' : (loadVar t ⟨b, i * sz + o, none⟩).run P w = .ok v w := by
      have e1 : (execOp a.eval { dst := none, op := Op.load t (.tmp c), type := 0, pos := "", after := #[], guard := none }).run P w = ((loadVar t ⟨b, i * sz + o, none⟩).run P w).andThen fun v w => .ok (.value v) w := by
        simp [execOp, Instr.loadAt, hu, Instr.sureAddr]
      rw [e1] at hr
      cases h : (loadVar t ⟨b, i * sz + o, none⟩).run P w with
      | ok v' w' => rw [h] at hr; simp at hr; rw [hr.1, hr.2]
      | halt x w' => rw [h] at hr; simp [Result.andThen] at hr
    simp [resOf, hu', asAddr, hr']

theorem RVL.run {a : Act} {w : World} (hst : St P ds T H a w) : ∀ {rs : List ResultVar} {xs : List AV}, RVL P T H rs xs →
    ∃ vs : List Value, (rs.mapM (resOf a.tmps)).run P w = .ok vs w ∧ xs.length = vs.length ∧ ∀ (k : Nat) (x : AV) (u : Value), xs[k]? = some x → vs[k]? = some u → VR P w H x u := by
  intro rs xs h
  induction h with
  | nil => exact ⟨[], by simp, rfl, fun k x u h => by simp at h⟩
  | cons h hs ih =>
    obtain ⟨v, hr, hv⟩ := RV.run hst h
    obtain ⟨vs, hrs, hl, hvs⟩ := ih
    refine ⟨v :: vs, ?_, by simp [hl], fun k x u hx hu => ?_⟩
    · simp only [List.mapM_cons, Sem.run_bind, hr, Result.andThen_ok, hrs, Sem.run_pure]
    · cases k with
      | zero => simp at hx hu; subst hx; subst hu; exact hv
      | succ k => exact hvs k x u (by simpa using hx) (by simpa using hu)

/-- A FUNCTION, OUT OF ITS BODY's WALK. -/
theorem AC_of {f : FuncId} {fn : Func} {c : Code} {args T0 : List AV} (hf : P.funcs[f]? = some fn) (hb : fn.body = some c) {rs : List ResultVar} (hrs : fn.results = rs.toArray) {n : Nat} (hn : fn.ntmps = n)
    (hT : args ++ List.replicate (n - args.length) (.v undef) = T0) (h : AW P none c [] T0 H (retQ P rs K)) : AC P f args H K := fun w vs hl hv hh => by
  refine callsIn_of_wp hf hb trivial ?_ rfl
  have hst : St P [] T0 H { tmps := vs ++ Array.replicate (fn.ntmps - vs.size) undef, defers := [] } w := by
    refine ⟨rfl, by rw [← hT, hn]; simp [hl], fun k x hx => ?_, hh⟩
    rw [← hT, List.getElem?_append] at hx
    simp only [Array.getElem?_append]
    rw [hl] at hx
    split at hx
    · rename_i hlt
      rw [if_pos hlt]
      exact ⟨vs[k], Array.getElem?_eq_getElem hlt, hv k x _ hx (Array.getElem?_eq_getElem hlt)⟩
    · rename_i hlt
      rw [if_neg hlt, hn]
      rw [List.getElem?_replicate] at hx
      split at hx
      · rename_i h2
        injection hx with hx
        subst hx
        exact ⟨undef, by rw [Array.getElem?_replicate, if_pos h2], .v _⟩
      · cases hx
  refine wpIn_mono (h _ _ hst) ?_
  rintro e a1 w1 ⟨ds1, T1, H1, s1, k1, he, rfl, xs, H2, hr, hsub, hK⟩
  obtain ⟨us, hrun, hlen, hus⟩ := RVL.run s1 hr
  have hres : (results fn a1.tmps).run P w1 = .ok (if h : us.length = 1 then us[0] else .tuple us.toArray) w1 := by
    have e0 : results fn a1.tmps = (do let vs ← fn.results.mapM (resOf a1.tmps); pure (if h : vs.size = 1 then vs[0] else .tuple vs)) := rfl
    rw [e0, hrs]
    simp only [Sem.run_bind]
    have e1 : ∀ g : ResultVar → Sem Value, (rs.toArray.mapM g) = (List.toArray <$> rs.mapM g) := fun g => by simp
    rw [e1]
    have e2 : ∀ (m : Sem (List Value)) (w : World), (List.toArray <$> m).run P w = (m.run P w).andThen fun l w => .ok l.toArray w := by
      intro m w
      have := Sem.run_bind P w m (fun l : List Value => (pure l.toArray : Sem (Array Value)))
      simp only [Sem.run_pure] at this
      exact this
    rw [e2, hrun]
    simp
  have hR : ∃ v x H', Ending.returned (if h : us.length = 1 then us[0] else .tuple us.toArray) = .returned v ∧ VR P w1 H' x v ∧ HR P H' w1 ∧ Step H w H' w1 ∧ K x H' := by
    refine ⟨_, _, H2, rfl, ?_, s1.heap.sub hsub, k1.sub hsub, hK⟩
    refine VR.sub hsub ?_
    match xs, us, hlen, hus with
    | [], [], _, _ => exact .tup rfl (fun k y u h => by simp at h)
    | [x], [u], _, hus => exact hus 0 x u rfl rfl
    | x :: x' :: xs, u :: u' :: us, hlen, hus =>
      rw [dif_neg (by simp)]
      exact .tup (by simpa using hlen) (fun k y u hy hu => hus k y u hy (by simpa using hu))
  rcases he with rfl | rfl
  · exact ⟨s1.defers, _, hres, hR⟩
  · exact ⟨s1.defers, _, hres, hR⟩

theorem retQ_1 {e : Exit} {t : Tmp} {x : AV} {H' : AH} (he : e = .normal ∨ e = .ret) (hx : T[t]? = some x) (hs : SubH H' H) (k : K x H') : retQ P [.tmp t] K e [] T H :=
  ⟨he, rfl, [x], H', .cons (.tmp hx) .nil, hs, k⟩
theorem retQ_2 {e : Exit} {t u : Tmp} {x y : AV} {H' : AH} (he : e = .normal ∨ e = .ret) (hx : T[t]? = some x) (hy : T[u]? = some y) (hs : SubH H' H) (k : K (.tup [x, y]) H') : retQ P [.tmp t, .tmp u] K e [] T H :=
  ⟨he, rfl, [x, y], H', .cons (.tmp hx) (.cons (.tmp hy) .nil), hs, k⟩
theorem retQ_3 {e : Exit} {t u v : Tmp} {x y z : AV} {H' : AH} (he : e = .normal ∨ e = .ret) (hx : T[t]? = some x) (hy : T[u]? = some y) (hz : T[v]? = some z) (hs : SubH H' H) (k : K (.tup [x, y, z]) H') : retQ P [.tmp t, .tmp u, .tmp v] K e [] T H :=
  ⟨he, rfl, [x, y, z], H', .cons (.tmp hx) (.cons (.tmp hy) (.cons (.tmp hz) .nil)), hs, k⟩
theorem retQ_0 {e : Exit} {H' : AH} (he : e = .normal ∨ e = .ret) (hs : SubH H' H) (k : K (.tup []) H') : retQ P [] K e [] T H :=
  ⟨he, rfl, [], H', .nil, hs, k⟩
end
end Go.AL
