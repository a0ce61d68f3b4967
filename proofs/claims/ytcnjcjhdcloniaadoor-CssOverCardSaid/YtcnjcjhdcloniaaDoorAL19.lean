/- A range over a function, said of abstract values: the caller's loop, the iterator's contract, a function that bears a mark. -/
import Derived.Test.YtcnjcjhdcloniaaDoorAL17
import Derived.Test.YtcnjcjhdcloniaaDoorAL14
import Derived.RangeFuncRecord
import Derived.RangeFuncSeq
set_option autoImplicit false
set_option linter.unusedVariables false
set_option linter.unusedSimpArgs false
namespace Go.AL
open Go Go.RowKit

theorem AH.upd_sub {A B : AH} {l : Nat} {o : Option AO} (h : SubH A B) : SubH (A.upd l o) (B.upd l o) := fun b q hb => by
  by_cases e : b = l
  · subst e; rw [AH.upd_same] at hb ⊢; exact hb
  · rw [AH.upd_ne _ _ e] at hb ⊢; exact h b q hb

section
variable {P : Program}

/-- What goes on but for one block. -/
structure StepX (l : Nat) (H : AH) (w : World) (H' : AH) (w' : World) : Prop where
  os : w'.os = w.os
  tape : w'.tape = w.tape
  output : w'.output = w.output
  size : w.heap.size ≤ w'.heap.size
  keep : ∀ b, b < w.heap.size → b ≠ l → H b = none → w'.heap[b]? = w.heap[b]? ∧ H' b = none

theorem Step.x {l : Nat} {H H' : AH} {w w' : World} (h : Step H w H' w') : StepX l H w H' w' := ⟨h.os, h.tape, h.output, h.size, fun b hb _ hn => h.keep b hb hn⟩
theorem StepX.trans {l : Nat} {H H1 H2 : AH} {w w1 w2 : World} (h : StepX l H w H1 w1) (k : StepX l H1 w1 H2 w2) : StepX l H w H2 w2 :=
  ⟨k.os.trans h.os, k.tape.trans h.tape, k.output.trans h.output, Nat.le_trans h.size k.size, fun b hb hl hn => by
    obtain ⟨e1, n1⟩ := h.keep b hb hl hn
    obtain ⟨e2, n2⟩ := k.keep b (Nat.lt_of_lt_of_le hb h.size) hl n1
    exact ⟨e2.trans e1, n2⟩⟩
theorem StepX.put (l : Nat) (H : AH) (w : World) (o : Obj) : StepX l H w H (w.putObj l o) :=
  ⟨rfl, rfl, rfl, by simp, fun b _ hl hn => ⟨World.putObj_heap_other hl, hn⟩⟩
theorem StepX.own {l : Nat} {H H' : AH} {w w' : World} {o o' : AO} (h : StepX l H w H' w') : Step (H.upd l (some o)) w (H'.upd l (some o')) w' :=
  ⟨h.os, h.tape, h.output, h.size, fun b hb hn => by
    have hl : b ≠ l := fun e => by subst e; rw [AH.upd_same] at hn; cases hn
    rw [AH.upd_ne _ _ hl] at hn
    obtain ⟨e, n⟩ := h.keep b hb hl hn
    exact ⟨e, by rw [AH.upd_ne _ _ hl]; exact n⟩⟩
theorem StepX.sub {l : Nat} {H0 H H' : AH} {w w' : World} (hs : SubH H H') (h : StepX l H0 w H' w') : StepX l H0 w H w' :=
  ⟨h.os, h.tape, h.output, h.size, fun b hb hl hn => ⟨(h.keep b hb hl hn).1, hs.none (h.keep b hb hl hn).2⟩⟩

/-- A block that holds no cells stands behind no value. -/
def NoCells (w : World) (l : Nat) : Prop := ∀ (a : Addr) (u : Value), a.block = l → w.cell? a ≠ some u
theorem NoCells.loop {w : World} {l : Nat} {r : Loop} (h : w.heap[l]? = some (.loop r)) : NoCells w l := fun a u e => by
  subst e; unfold World.cell?; rw [h]; simp
theorem NoCells.deferred {w : World} {l : Nat} {r : Option (List Deferred)} (h : w.heap[l]? = some (.deferred r)) : NoCells w l := fun a u e => by
  subst e; unfold World.cell?; rw [h]; simp

theorem VR.put {w : World} {A : AH} {l : Nat} {o : Obj} (hn : NoCells w l) {x : AV} {u : Value} (h : VR P w A x u) : VR P (w.putObj l o) A x u := by
  have cell : ∀ (a : Addr) (u : Value), w.cell? a = some u → (w.putObj l o).cell? a = some u := fun a u hc => by
    have hl : a.block ≠ l := fun e => hn a u e hc
    rw [← hc]; exact World.cell?_of_block (w := w) (World.putObj_heap_other hl)
  induction h with
  | v x => exact .v x
  | any x => exact .any x
  | sl U a b hcell hv ih => exact .sl U a b (fun k y hy => let ⟨a, hA, h1, h2⟩ := hcell k y hy; ⟨a, hA, h1, cell _ _ h2⟩) ih
  | ag hl hv ih => exact .ag hl ih
  | tup hl hv ih => exact .tup hl ih
  | own b c n => exact .own b c n
  | ownNil => exact .ownNil
  | pt b i s o => exact .pt b i s o
  | rp U a hcell hv ih => exact .rp U a (fun k y hy => let ⟨h1, h2⟩ := hcell k y hy; ⟨h1, cell _ _ h2⟩) ih
  | fn hl hl' hf hc ihf ihc => exact .fn hl hl' ihf ihc
theorem VR.owned {w : World} {A : AH} {l : Nat} {o : Option AO} (hn : NoCells w l) {x : AV} {u : Value} (h : VR P w A x u) : VR P w (A.upd l o) x u := by
  induction h with
  | v x => exact .v x
  | any x => exact .any x
  | sl U a b hcell hv ih => exact .sl U a b (fun k y hy => let ⟨a, hA, h1, h2⟩ := hcell k y hy; ⟨a, hA, by rw [AH.upd_ne _ _ (fun e => hn (a.add k) _ (by rw [add_block]; exact e) h2)]; exact h1, h2⟩) ih
  | ag hl hv ih => exact .ag hl ih
  | tup hl hv ih => exact .tup hl ih
  | own b c n => exact .own b c n
  | ownNil => exact .ownNil
  | pt b i s o => exact .pt b i s o
  | rp U a hcell hv ih => exact .rp U a (fun k y hy => let ⟨h1, h2⟩ := hcell k y hy; ⟨by rw [AH.upd_ne _ _ (fun e => hn (Addr.add _ k) _ (by rw [add_block]; exact e) h2)]; exact h1, h2⟩) ih
  | fn hl hl' hf hc ihf ihc => exact .fn hl hl' ihf ihc

theorem OR.map {w w' : World} {A A' : AH} {b : Nat} {o : AO} (h : OR P A w b o) (hb : w'.heap[b]? = w.heap[b]?) (hv : ∀ x u, VR P w A x u → VR P w' A' x u) : OR P A' w' b o := by
  cases o with
  | row e c xs =>
    obtain ⟨cs, fr, h1, h2, h3, h4, h5, h6⟩ := h
    exact ⟨cs, fr, hb.trans h1, h2, h3, h4, h5, fun k y hy => let ⟨u, hu, hv'⟩ := h6 k y hy; ⟨u, hu, hv _ _ hv'⟩⟩
  | raw o => exact hb.trans h
  | loop r T =>
    obtain ⟨ts, h1, h2, h3⟩ := h
    exact ⟨ts, hb.trans h1, h2, fun k x hx => let ⟨u, hu, hv'⟩ := h3 k x hx; ⟨u, hu, hv _ _ hv'⟩⟩

/-- Behind a turn of a block that is not ours and holds no cells. -/
theorem HR.put {w : World} {A : AH} {l : Nat} {o : Obj} (hn : NoCells w l) (hl : A l = none) (h : HR P A w) : HR P A (w.putObj l o) := fun b q hb =>
  (h b q hb).map (World.putObj_heap_other (fun e => by subst e; rw [hl] at hb; cases hb)) fun _ _ => VR.put hn
theorem HR.owned {w : World} {A : AH} {l : Nat} {o : AO} (hn : NoCells w l) (ho : OR P (A.upd l (some o)) w l o) (h : HR P A w) : HR P (A.upd l (some o)) w := fun b q hb => by
  by_cases e : b = l
  · subst e; rw [AH.upd_same] at hb; injection hb with hb; subst hb; exact ho
  · rw [AH.upd_ne _ _ e] at hb
    exact (h b q hb).map rfl fun _ _ => VR.owned hn

/-- yield, as a value. -/
def yv (l : Nat) : AV := .v (.func (.yield l) #[] #[])

/-- A call of yield. -/
def AY (P : Program) (l : Nat) (args : List AV) (H : AH) (K : Bool → AH → Prop) : Prop :=
  ∀ w (vs : Array Value), args.length = vs.size → (∀ (k : Nat) (x : AV) (u : Value), args[k]? = some x → vs[k]? = some u → VR P w H x u) → HR P H w →
    YieldAt (fen none) 0 P l vs w fun e w' => ∃ b H', e = .returned (.bool b) ∧ HR P H' w' ∧ Step H w H' w' ∧ K b H'

section
variable {ro : Option Nat} {ds : List Deferred} {T : List AV} {H : AH} {Q : Post} {ops : Array Oper} {rest : List Oper}
variable {d : Option Tmp} {ty : TypeId} {pos : String} {af : Array Edge} {s s' : Operand} {x y : AV}

theorem AL_yield {args : Array Operand} {ats : Array TypeId} {xs : List AV} {l : Nat} {K : Bool → AH → Prop} (hv : ev T s = some (yv l)) (hx : EvL T args.toList xs) (hc : AY P l xs H K)
    (h : ∀ b H', K b H' → AL P ro ops rest ds (tput T d (.v (.bool b))) H' Q) : AL P ro ops (⟨d, .call ⟨.value s, args, ats⟩, ty, pos, af, none⟩ :: rest) ds T H Q := fun a w hs => by
  obtain ⟨h1, h2⟩ := hx.args hs
  obtain ⟨fn, tmps, assign, body, hy, hR⟩ := hc w (args.map a.eval) h1 h2 hs.heap
  refine wpListIn_plain rfl fun K' hK => ?_
  refine ⟨fun f _ => trivial, ?_⟩
  have hr : (execOp a.eval ⟨d, .call ⟨.value s, args, ats⟩, ty, pos, af, none⟩).run P w = .ok (.round l fn tmps assign body) w := by
    have he : a.eval s = .func (.yield l) #[] #[] := hs.evv hv
    simp [execOp, resolve, Deferred.ofValue, he, invoke, hy]
  rw [Oper.semAt_eq _ _ _ (fun _ => by simp), hr]
  refine ⟨fun h => by simp [fen] at h, ?_⟩
  have hR' : RoundIn (fen ro) (0 - 1) P l fn tmps assign body w fun e w' => ∃ b H', e = .returned (.bool b) ∧ HR P H' w' ∧ Step H w H' w' ∧ K b H' := hR
  refine hR'.mono ?_
  rintro e w' ⟨b, H', rfl, hh, hst, k⟩
  exact hK _ _ (wpListIn_mono (fun _ _ _ p => post.back hst p) (fun _ => trivial) _ _ _ (h b H' k _ _ (hs.put hst hh (.v _))))

/-- The temporaries of a round: the parameters set. -/
def setP (T : List AV) : List Tmp → List AV → List AV
  | p :: ps, x :: xs => setP (T.set p x) ps xs
  | _, _ => T

theorem setP_vals {w : World} {A : AH} : ∀ (ps : List Tmp) (ys : List AV) (vs : List Value) (T : List AV) (ts : Array Value), ys.length = ps.length → ys.length = vs.length →
    (∀ (k : Nat) (x : AV) (u : Value), ys[k]? = some x → vs[k]? = some u → VR P w A x u) → ts.size = T.length → (∀ (k : Nat) (x : AV), T[k]? = some x → ∃ u, ts[k]? = some u ∧ VR P w A x u) →
    ((ps.zip vs).foldl (fun t (p : Tmp × Value) => t.setIfInBounds p.1 p.2) ts).size = (setP T ps ys).length ∧
      ∀ (k : Nat) (x : AV), (setP T ps ys)[k]? = some x → ∃ u, ((ps.zip vs).foldl (fun t (p : Tmp × Value) => t.setIfInBounds p.1 p.2) ts)[k]? = some u ∧ VR P w A x u := by
  intro ps
  induction ps with
  | nil => intro ys vs T ts h1 h2 h3 h4 h5; cases ys <;> simp_all [setP]
  | cons p ps ih =>
    intro ys vs T ts h1 h2 h3 h4 h5
    cases ys with
    | nil => simp at h1
    | cons y ys =>
      cases vs with
      | nil => simp at h2
      | cons v vs =>
        simp only [List.zip_cons_cons, List.foldl_cons, setP]
        refine ih ys vs (T.set p y) (ts.setIfInBounds p v) (by simpa using h1) (by simpa using h2) (fun k x u hx hu => h3 (k + 1) x u (by simpa using hx) (by simpa using hu)) (by simpa using h4) fun k x hx => ?_
        rw [List.getElem?_set] at hx
        rw [Array.getElem?_setIfInBounds]
        split at hx
        · rename_i e
          split at hx
          · rename_i hlt
            injection hx with hx; subst hx; subst e
            exact ⟨v, by rw [if_pos rfl, if_pos (by omega)], h3 0 _ _ rfl rfl⟩
          · cases hx
        · rename_i e
          rw [if_neg e]
          exact h5 k x hx

/-- An iterator's contract: it gives these, one behind the other, until a round says no. -/
def IterC (P : Program) (gf : FuncId) (caps : List AV) (xs : List (List AV)) (I : AH → Prop) : Prop :=
  ∀ (l : Nat) (J : Nat → AH → Prop) (Jx : AH → Prop), (∀ k H, J k H → I H) → (∀ k y H, xs[k]? = some y → J k H → AY P l y H fun b H' => if b = true then J (k + 1) H' else Jx H') →
    ∀ H (K : AV → AH → Prop), J 0 H → (∀ x H', (J xs.length H' ∨ Jx H') → K x H') → AC P gf (yv l :: caps) H K

def mark (D : Nat) : Deferred := { target := .collected D, args := #[] }

/-- How a round may end. -/
def roundQ (I : AH → Prop) (X : Code → AH → Prop) : Post := fun e _ _ H => match e with
  | .normal => I H
  | .ret => X .ret H
  | .exit id => X (.exit id) H
  | _ => False
theorem roundQ_n {I : AH → Prop} {X : Code → AH → Prop} (h : I H) : roundQ I X .normal ds T H := h
theorem roundQ_r {I : AH → Prop} {X : Code → AH → Prop} (h : X .ret H) : roundQ I X .ret ds T H := h
theorem roundQ_x {I : AH → Prop} {X : Code → AH → Prop} {id : Nat} (h : X (.exit id) H) : roundQ I X (.exit id) ds T H := h

def asgQ (P : Program) (l : Nat) (body : Code) (R : Post) : Post := fun e ds T H => e = .normal ∧ AW P (some l) body ds T H R
theorem asgQ_n {l : Nat} {body : Code} {R : Post} (h : AW P (some l) body ds T H R) : asgQ P l body R .normal ds T H := ⟨rfl, h⟩

/-- What is held while the loop runs. -/
structure RangeI (P : Program) (ps : List Tmp) (assign body : Code) (xs : List (List AV)) (IT : AH → Prop) (ds : List Deferred) (T : List AV) (H1 : AH) (D : Nat) (Q : Post) (α : Type) where
  HH : α → AH
  I : Nat → α → Prop
  X : Code → AH → Prop
  s0 : α
  sub0 : SubH (HH s0) H1
  i0 : I 0 s0
  it : ∀ k s, I k s → ∀ l r, (HH s) l = none → IT ((HH s).upd l (some (.loop r T)))
  round : ∀ l k y s, xs[k]? = some y → I k s → AW P (some l) assign [] (setP T ps y) (HH s) (asgQ P l body (roundQ (fun H' => ∃ s', I (k + 1) s' ∧ SubH (HH s') H') X))
  done : ∀ s, I xs.length s → Q .normal (mark D :: ds) T (HH s)
  stop : ∀ c H', X c H' → AW P none c (mark D :: ds) T H' Q

theorem AW_rangeFunc {α : Type} {g : Operand} {ps : Array Tmp} {assign body : Code} {gf : FuncId} {caps : List AV} {xs : List (List AV)} {IT : AH → Prop}
    (hg : ev T g = some (.fn (.func gf) [] caps)) (hen : entersOf P gf = true) (it : IterC P gf caps xs IT) (hps : ∀ y ∈ xs, y.length = ps.size)
    (h : ∀ D, H D = none → Nonempty (RangeI P ps.toList assign body xs IT ds T (H.upd D (some (.raw (.deferred (some []))))) D Q α)) :
    AW P none (.rangeFunc g ps assign body) ds T H Q := fun a w hs => by
  refine wpIn_rangeFunc ?_
  intro fn hfn
  have hD : H w.heap.size = none := hs.heap.none_new
  obtain ⟨⟨HH, I, X, s0, hsub0, hi0, hIT, hround, hdone, hstop⟩⟩ := h w.heap.size hD
  obtain ⟨D, hDe⟩ : ∃ D, w.heap.size = D := ⟨_, rfl⟩
  rw [hDe] at hsub0 hdone hstop
  obtain ⟨rec, hrec⟩ : ∃ rec : LoopState → Option Code → Array Value → Loop, rec = fun st pe ts => { state := st, pending := pe, fn, tmps := ts, params := ps, assign, body, defers := w.heap.size } := ⟨_, rfl⟩
  obtain ⟨l, hl⟩ : ∃ l, w.heap.size + 1 = l := ⟨_, rfl⟩
  -- the two new blocks
  have hr1 : HR P (H.upd w.heap.size (some (.raw (.deferred (some []))))) (w.alloc (.deferred (some []))) := hs.heap.alloc (World.alloc_heap_new w _)
  have hs1 : Step H w (H.upd w.heap.size (some (.raw (.deferred (some []))))) (w.alloc (.deferred (some []))) := Step.alloc w _ _ hD
  have hn1 : (H.upd w.heap.size (some (.raw (.deferred (some []))))) l = none := by
    have := hr1.none_new; rw [World.size_alloc, hl] at this; exact this
  rw [hDe] at hr1 hs1 hn1
  have hs2 : Step (H.upd D (some (.raw (.deferred (some []))))) (w.alloc (.deferred (some []))) ((H.upd D (some (.raw (.deferred (some []))))).upd l (some (.loop (rec .ready none #[]) T))) ((w.alloc (.deferred (some []))).alloc (.loop (rec .ready none a.tmps))) := by
    have := Step.alloc (H := H.upd D (some (.raw (.deferred (some []))))) (w.alloc (.deferred (some []))) (.loop (rec .ready none a.tmps)) (.loop (rec .ready none #[]) T) (by rw [World.size_alloc, hl]; exact hn1)
    rw [World.size_alloc, hl] at this; exact this
  have hr2 : HR P ((H.upd D (some (.raw (.deferred (some []))))).upd l (some (.loop (rec .ready none #[]) T))) ((w.alloc (.deferred (some []))).alloc (.loop (rec .ready none a.tmps))) := by
    have := HR.alloc (o := .loop (rec .ready none a.tmps)) (b' := .loop (rec .ready none #[]) T) hr1 (by
      rw [World.size_alloc, hl]
      refine ⟨a.tmps, ?_, hs.size, fun k x hx => ?_⟩
      · have := World.alloc_heap_new (w.alloc (.deferred (some []))) (.loop (rec .ready none a.tmps))
        rw [World.size_alloc, hl] at this
        rw [this, hrec]
      · obtain ⟨u, hu, hv⟩ := hs.vals k x hx
        exact ⟨u, hu, (hv.step hs1).step hs2⟩)
    rw [World.size_alloc, hl] at this; exact this
  have hl0 : (HH s0) l = none := hsub0.none hn1
  have hsubH : SubH ((HH s0).upd l (some (.loop (rec .ready none #[]) T))) ((H.upd D (some (.raw (.deferred (some []))))).upd l (some (.loop (rec .ready none #[]) T))) := AH.upd_sub hsub0
  obtain ⟨W1, hW1⟩ : ∃ W1, (w.alloc (.deferred (some []))).alloc (.loop (rec .ready none a.tmps)) = W1 := ⟨_, rfl⟩
  rw [hW1] at hs2 hr2
  have hstep1 : Step H w ((HH s0).upd l (some (.loop (rec .ready none #[]) T))) W1 := Step.sub hsubH (hs1.trans hs2)
  have hhr1 : HR P ((HH s0).upd l (some (.loop (rec .ready none #[]) T))) W1 := hr2.sub hsubH
  obtain ⟨vf, vc, hge, hlf, hlc, _, hcc⟩ := (hs.ev hg).fn_inv
  have hvf : vf = #[] := by simpa using hlf.symm
  subst hvf
  refine ⟨l, [mark D], W1, { target := .fn (.func gf) vc, args := #[.func (.yield l) #[] #[]] }, W1, gf, #[.func (.yield l) #[] #[]] ++ vc, W1, ?_, ?_, ?_, ?_, fun h => by simp [fen] at h, ?_⟩
  · rw [← hW1, hrec, ← hl, ← hDe]; exact run_enterLoop_outer _ _ _ _ _
  · simp [resolve, hge, Deferred.ofValue]; rfl
  · exact fun f' _ => trivial
  · simp [invoke, run_callFunc hen]
  -- the iterator's contract
  have hJl : ∀ {A : AH} {w1 : World} {st : LoopState} {pe : Option Code}, HR P (A.upd l (some (.loop (rec st pe #[]) T))) w1 → ∃ ts : Array Value, w1.heap[l]? = some (.loop (rec st pe ts)) ∧ ts.size = T.length ∧
      ∀ (k : Nat) (x : AV), T[k]? = some x → ∃ u, ts[k]? = some u ∧ VR P w1 (A.upd l (some (.loop (rec st pe #[]) T))) x u := by
    intro A w1 st pe hh
    obtain ⟨ts, h1, h2, h3⟩ := hh l _ (AH.upd_same _ _ _)
    exact ⟨ts, by rw [h1, hrec], h2, h3⟩
  have hcall := it l (fun k H' => ∃ s, I k s ∧ (HH s) l = none ∧ H' = (HH s).upd l (some (.loop (rec .ready none #[]) T)))
    (fun H' => ∃ c A, X c A ∧ A l = none ∧ H' = A.upd l (some (.loop (rec .done (some c) #[]) T)))
    (by rintro k H' ⟨s, hi, hls, rfl⟩; exact hIT k s hi l _ hls)
    (by
      rintro k y H' hy ⟨s, hi, hls, rfl⟩
      intro w1 vs hlv hvv hh
      obtain ⟨ts, hrecl, hts, hvT⟩ := hJl hh
      have hsubl : SubH (HH s) ((HH s).upd l (some (.loop (rec .ready none #[]) T))) := (SubH.refl _).upd hls
      have hyl : y.length = ps.size := hps y (List.mem_of_getElem? hy)
      refine ⟨fn, (ps.toList.zip vs.toList).foldl (fun t (p : Tmp × Value) => t.setIfInBounds p.1 p.2) ts, assign, body, ?_, ?_⟩
      · have hy := run_yield (P := P) (args := vs) hrecl (by rw [hrec]; show vs.size = ps.size; omega)
        rw [hy, hrec]
        show Result.ok (Next.round l fn (Array.foldl _ ts (ps.zip vs)) assign body) w1 = _
        rw [← Array.foldl_toList, Array.toList_zip]
      refine roundIn_of_wpIn (F := fen none) trivial ?_
      have hval := setP_vals (P := P) (w := w1) (A := HH s) ps.toList y vs.toList T ts (by simpa using hyl) (by simpa using hlv) (fun k x u hx hu => (hvv k x u hx (by simpa using hu)).sub hsubl) hts (fun k x hx => let ⟨u, h1, h2⟩ := hvT k x hx; ⟨u, h1, h2.sub hsubl⟩)
      have hst : St P [] (setP T ps.toList y) (HH s) { tmps := (ps.toList.zip vs.toList).foldl (fun t (p : Tmp × Value) => t.setIfInBounds p.1 p.2) ts, defers := [] } w1 := ⟨rfl, hval.1, hval.2, hh.sub hsubl⟩
      refine wpIn_mono (hround l k y s hy hi _ _ hst) ?_
      rintro e a1 w2 ⟨ds2, T2, H2, st2, k2, rfl, hbody⟩
      have hkeep2 := k2.keep l (Array.getElem?_eq_some_iff.1 hrecl).1 hls
      have hl2 : w2.heap[l]? = some (.loop (rec .ready none ts)) := hkeep2.1.trans hrecl
      have nc2 : NoCells w2 l := .loop hl2
      refine ⟨_, run_beginRound hl2 (by rw [hrec]), ?_⟩
      have st3 : St P ds2 T2 H2 a1 (w2.putObj l (.loop { rec .ready none ts with state := .busy })) :=
        ⟨st2.defers, st2.size, fun k x hx => let ⟨u, h1, h2⟩ := st2.vals k x hx; ⟨u, h1, h2.put nc2⟩, st2.heap.put nc2 hkeep2.2⟩
      refine wpIn_mono (hbody _ _ st3) ?_
      rintro e a3 w3 ⟨ds3, T3, H3, st3', k3, q3⟩
      have hl3' : (w2.putObj l (.loop { rec .ready none ts with state := .busy })).heap[l]? = some (.loop { rec .ready none ts with state := .busy }) := World.putObj_heap_same (Array.getElem?_eq_some_iff.1 hl2).1
      have hkeep3 := k3.keep l (Array.getElem?_eq_some_iff.1 hl3').1 hkeep2.2
      have hl3 : w3.heap[l]? = some (.loop { rec .ready none ts with state := .busy }) := hkeep3.1.trans hl3'
      have nc3 : NoCells w3 l := .loop hl3
      have kx : StepX l (HH s) w1 H3 w3 := (k2.x.trans (StepX.put l H2 w2 _)).trans k3.x
      -- the round's end
      have fin : ∀ (st : LoopState) (pe : Option Code) (A : AH), SubH A H3 → A l = none →
          HR P (A.upd l (some (.loop (rec st pe #[]) T))) (w3.putObj l (.loop (rec st pe ts))) ∧ Step ((HH s).upd l (some (.loop (rec .ready none #[]) T))) w1 (A.upd l (some (.loop (rec st pe #[]) T))) (w3.putObj l (.loop (rec st pe ts))) := by
        intro st pe A hA hAl
        have hstep : Step ((HH s).upd l (some (.loop (rec .ready none #[]) T))) w1 (A.upd l (some (.loop (rec st pe #[]) T))) (w3.putObj l (.loop (rec st pe ts))) :=
          StepX.own ((StepX.sub hA kx).trans (StepX.put l A w3 _))
        have hl4 : (w3.putObj l (.loop (rec st pe ts))).heap[l]? = some (.loop (rec st pe ts)) := World.putObj_heap_same (Array.getElem?_eq_some_iff.1 hl3).1
        refine ⟨HR.owned (.loop hl4) ⟨ts, by rw [hl4, hrec], hts, fun k x hx => ?_⟩ ((st3'.heap.sub hA).put nc3 hAl), hstep⟩
        obtain ⟨u, h1, h2⟩ := hvT k x hx
        exact ⟨u, h1, h2.step hstep⟩
      have hend : ∀ pe : Option Code, (Instr.endRound l pe).run P w3 = .ok (.bool pe.isNone) (w3.putObj l (.loop (rec (if pe.isNone then .ready else .done) pe ts))) := fun pe => (run_endRound pe hl3).trans (by rw [hrec])
      cases e with
      | normal =>
        obtain ⟨s', hi', hsub'⟩ := q3
        have hls' : (HH s') l = none := hsub'.none hkeep3.2
        have hf := fin .ready none (HH s') hsub' hls'
        exact ⟨_, _, hend none, true, (HH s').upd l (some (.loop (rec .ready none #[]) T)), rfl, hf.1, hf.2, by dsimp only; rw [if_pos rfl]; exact ⟨s', hi', hls', rfl⟩⟩
      | ret =>
        have hf := fin .done (some .ret) H3 (SubH.refl _) hkeep3.2
        exact ⟨_, _, hend (some .ret), false, H3.upd l (some (.loop (rec .done (some .ret) #[]) T)), rfl, hf.1, hf.2, by dsimp only; rw [if_neg (by decide)]; exact ⟨_, _, q3, hkeep3.2, rfl⟩⟩
      | exit id =>
        have hf := fin .done (some (.exit id)) H3 (SubH.refl _) hkeep3.2
        exact ⟨_, _, hend (some (.exit id)), false, H3.upd l (some (.loop (rec .done (some (.exit id)) #[]) T)), rfl, hf.1, hf.2, by dsimp only; rw [if_neg (by decide)]; exact ⟨_, _, q3, hkeep3.2, rfl⟩⟩
      | goto t => exact q3.elim
      | panic c => exact q3.elim
      | outgrown => exact q3.elim)
    ((HH s0).upd l (some (.loop (rec .ready none #[]) T)))
    (fun x H' => (∃ s, I xs.length s ∧ (HH s) l = none ∧ H' = (HH s).upd l (some (.loop (rec .ready none #[]) T))) ∨ ∃ c A, X c A ∧ A l = none ∧ H' = A.upd l (some (.loop (rec .done (some c) #[]) T)))
    ⟨s0, hi0, hl0, rfl⟩ (fun x H' hq => hq) W1 (#[.func (.yield l) #[] #[]] ++ vc) (by simp [hlc]; omega)
    (by
      intro k x u hx hu
      cases k with
      | zero =>
        rw [Array.getElem?_append_left (by simp)] at hu
        simp at hx hu; subst hx; subst hu; exact .v _
      | succ k =>
        have hu' : vc[k]? = some u := by
          rw [Array.getElem?_append] at hu
          simpa using hu
        exact (hcc k x u (by simpa using hx) hu').step hstep1)
    hhr1
  have hcall' := hcall
  refine CallsIn.mono (F := fen none) (n := 0 - 1) hcall' ?_
  rintro e w3 ⟨v, x, H', rfl, hx, hh, hst, hq⟩
  have leave : ∀ (st : LoopState) (pe : Option Code) (A : AH), st ≠ .busy → A l = none → H' = A.upd l (some (.loop (rec st pe #[]) T)) →
      ∃ w4, (Instr.endLoop l).run P w3 = .ok pe w4 ∧ St P (mark D :: ds) T A { a with defers := [mark D] ++ a.defers } w4 ∧ Step H w A w4 := by
    rintro st pe A hb hAl rfl
    obtain ⟨ts, hrecl, hts, hvT⟩ := hJl hh
    have nc : NoCells w3 l := .loop hrecl
    have hend : (Instr.endLoop l).run P w3 = .ok pe (w3.putObj l (.loop (rec .exhausted pe ts))) := (run_endLoop hrecl (by rw [hrec]; exact hb)).trans (by rw [hrec])
    have kk : Step H w A (w3.putObj l (.loop (rec .exhausted pe ts))) := by
      refine Step.trans (hstep1.trans hst) ⟨rfl, rfl, rfl, by simp, fun b hb hn => ?_⟩
      have hbl : b ≠ l := fun e => by subst e; rw [AH.upd_same] at hn; cases hn
      rw [AH.upd_ne _ _ hbl] at hn
      exact ⟨World.putObj_heap_other hbl, hn⟩
    refine ⟨_, hend, ⟨by show [mark D] ++ a.defers = _; rw [hs.defers]; rfl, hs.size, fun k x hx => ?_, ?_⟩, kk⟩
    · obtain ⟨u, h1, h2⟩ := hs.vals k x hx
      exact ⟨u, h1, h2.step kk⟩
    · have hsub : SubH A (A.upd l (some (.loop (rec st pe #[]) T))) := (SubH.refl _).upd hAl
      exact (hh.sub hsub).put nc hAl
  rcases hq with ⟨s, hi, hls, he⟩ | ⟨c, A, hX, hAl, he⟩
  · obtain ⟨w4, hr4, st4, k4⟩ := leave .ready none (HH s) (by decide) hls he
    exact ⟨none, w4, hr4, _, _, _, st4, k4, hdone s hi⟩
  · obtain ⟨w4, hr4, st4, k4⟩ := leave .done (some c) A (by decide) hAl he
    exact ⟨some c, w4, hr4, wpIn_mono (hstop c A hX _ _ st4) fun _ _ _ p => p.back k4⟩

/-- A function that bears the mark of a range over a function. -/
def retQM (P : Program) (rs : List ResultVar) (K : AV → AH → Prop) : Post := fun e ds T H =>
  (e = .normal ∨ e = .ret) ∧ ∃ D, ds = [mark D] ∧ H D = some (.raw (.deferred (some []))) ∧ ∃ xs H1 H', RVL P T H1 rs xs ∧ SubH H1 H ∧ H1 D = none ∧ SubH H' H1 ∧ K (pack xs) H'

theorem AC_ofM {f : FuncId} {fn : Func} {c : Code} {args T0 : List AV} {K : AV → AH → Prop} (hf : P.funcs[f]? = some fn) (hb : fn.body = some c) {rs : List ResultVar} (hrs : fn.results = rs.toArray) {n : Nat} (hn : fn.ntmps = n)
    (hT : args ++ List.replicate (n - args.length) (.v undef) = T0) (h : AW P none c [] T0 H (retQM P rs K)) : AC P f args H K := fun w vs hl hv hh => by
  refine callsIn_of_wp_marks hf hb trivial ?_ rfl
  have hst : St P [] T0 H { tmps := vs ++ Array.replicate (fn.ntmps - vs.size) undef, defers := [] } w := by
    refine ⟨rfl, by rw [← hT, hn]; simp [hl], fun k x hx => ?_, hh⟩
    rw [← hT, List.getElem?_append] at hx
    simp only [Array.getElem?_append]
    rw [hl] at hx
    split at hx
    · rename_i hlt
      rw [if_pos hlt]
      exact ⟨vs[k], Array.getElem?_eq_getElem hlt, hv k x _ hx (Array.getElem?_eq_getElem hlt)⟩
    · rename_i hlt
      rw [if_neg hlt, hn]
      rw [List.getElem?_replicate] at hx
      split at hx
      · rename_i h2
        injection hx with hx
        subst hx
        exact ⟨undef, by rw [Array.getElem?_replicate, if_pos h2], .v _⟩
      · cases hx
  refine wpIn_mono (h _ _ hst) ?_
  rintro e a1 w1 ⟨ds1, T1, H1, s1, k1, he, D, rfl, hHD, xs, H2, H3, hr, hsub, hD2, hsub3, hK⟩
  have hDw : w1.heap[D]? = some (.deferred (some [])) := s1.heap D _ hHD
  have nc : NoCells w1 D := .deferred hDw
  have s2 : St P [mark D] T1 H2 a1 (w1.putObj D (.deferred none)) :=
    ⟨s1.defers, s1.size, fun k x hx => let ⟨u, h1, h2⟩ := s1.vals k x hx; ⟨u, h1, (h2.sub hsub).put nc⟩, (s1.heap.sub hsub).put nc hD2⟩
  have k2 : Step H w H2 (w1.putObj D (.deferred none)) := by
    refine ⟨k1.os, k1.tape, k1.output, by simpa using k1.size, fun b hb hn => ?_⟩
    obtain ⟨e1, n1⟩ := k1.keep b hb hn
    have hbD : b ≠ D := fun e => by subst e; rw [hHD] at n1; cases n1
    exact ⟨(World.putObj_heap_other hbD).trans e1, hsub.none n1⟩
  obtain ⟨us, hrun, hlen, hus⟩ := RVL.run s2 hr
  have hres : (results fn a1.tmps).run P (w1.putObj D (.deferred none)) = .ok (if h : us.length = 1 then us[0] else .tuple us.toArray) (w1.putObj D (.deferred none)) := by
    have e0 : results fn a1.tmps = (do let vs ← fn.results.mapM (resOf a1.tmps); pure (if h : vs.size = 1 then vs[0] else .tuple vs)) := rfl
    rw [e0, hrs]
    simp only [Sem.run_bind]
    have e1 : ∀ g : ResultVar → Sem Value, (rs.toArray.mapM g) = (List.toArray <$> rs.mapM g) := fun g => by simp
    rw [e1]
    have e2 : ∀ (m : Sem (List Value)) (w : World), (List.toArray <$> m).run P w = (m.run P w).andThen fun l w => .ok l.toArray w := by
      intro m w
      have := Sem.run_bind P w m (fun l : List Value => (pure l.toArray : Sem (Array Value)))
      simp only [Sem.run_pure] at this
      exact this
    rw [e2, hrun]
    simp
  have hR : ∃ v x H', Ending.returned (if h : us.length = 1 then us[0] else .tuple us.toArray) = .returned v ∧ VR P (w1.putObj D (.deferred none)) H' x v ∧ HR P H' (w1.putObj D (.deferred none)) ∧ Step H w H' (w1.putObj D (.deferred none)) ∧ K x H' := by
    refine ⟨_, _, H3, rfl, ?_, s2.heap.sub hsub3, k2.sub hsub3, hK⟩
    refine VR.sub hsub3 ?_
    match xs, us, hlen, hus with
    | [], [], _, _ => exact .tup rfl (fun k y u h => by simp at h)
    | [x], [u], _, hus => exact hus 0 x u rfl rfl
    | x :: x' :: xs, u :: u' :: us, hlen, hus =>
      rw [dif_neg (by simp)]
      exact .tup (by simpa using hlen) (fun k y u hy hu => hus k y u hy (by simpa using hu))
  have hleave : LeavesInM (fen none) 0 P fn a1.tmps (fun e w' => ∃ v x H', e = .returned v ∧ VR P w' H' x v ∧ HR P H' w' ∧ Step H w H' w' ∧ K x H') a1.defers .returning w1 := by
    have hd : a1.defers = [mark D] := s1.defers
    rw [hd]
    exact ⟨by simp, .inl ⟨D, _, rfl, run_takeDeferred hDw, _, hres, hR⟩⟩
  rcases he with rfl | rfl
  · exact hleave
  · exact hleave

theorem retQM_mk {e : Exit} {D : Nat} {rs : List ResultVar} {xs : List AV} {H1 H' : AH} {K : AV → AH → Prop} (he : e = .normal ∨ e = .ret) (hD : H D = some (.raw (.deferred (some [])))) (hr : RVL P T H1 rs xs) (hs : SubH H1 H) (hn : H1 D = none) (hs2 : SubH H' H1) (k : K (pack xs) H') : retQM P rs K e [mark D] T H :=
  ⟨he, D, rfl, hD, xs, H1, H', hr, hs, hn, hs2, k⟩
end
end
end Go.AL
