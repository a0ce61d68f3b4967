/- A logic of abstract values over the walk's laws: what a function computes, said of plain values; memory that is read, and memory that is owned. -/
import Derived.CallsIn
import Derived.TacticsIn
import Derived.Below
import Derived.KernelRfl
set_option autoImplicit false
set_option linter.unusedVariables false
set_option linter.unusedSimpArgs false
namespace Go.AL
open Go Go.RowKit

/-- Abstract values. `sl`: a slice that is read only. `own`: a slice on a row of our own. `pt b i s o`: a pointer into our own block b, element i (of s cells), cell o of it. `rp`: a pointer to memory that is read only. -/
inductive AV where
  | v (x : Value)
  | sl (e : TypeId) (xs : List AV)
  | ag (cs : List AV)
  | tup (xs : List AV)
  | own (A : Option Nat) (c n : Nat)
  | pt (b i s o : Nat)
  | rp (e : TypeId) (x : AV)
  | fn (f : Fn) (first caps : List AV)
  | any
  deriving Inhabited

def AV.cells : AV → List AV
  | .ag cs => cs
  | x => [x]

def flat (xs : List AV) : List AV := xs.flatMap AV.cells

/-- What a block of ours holds. -/
inductive AO where
  | row (e : TypeId) (c : Nat) (xs : List AV)
  | raw (o : Obj)
  | loop (r : Loop) (T : List AV)

abbrev AH := Nat → Option AO

def AH.upd (H : AH) (b : Nat) (o : Option AO) : AH := fun k => if k = b then o else H k
theorem AH.upd_same (H : AH) (b : Nat) (o : Option AO) : (H.upd b o) b = o := by simp [AH.upd]
theorem AH.upd_ne (H : AH) {b k : Nat} (o : Option AO) (h : k ≠ b) : (H.upd b o) k = H k := by simp [AH.upd, h]
theorem AH.upd_upd (H : AH) (b : Nat) (o o' : Option AO) : (H.upd b o).upd b o' = H.upd b o' := by funext k; simp only [AH.upd]; split <;> rfl
theorem AH.upd_self (H : AH) (b : Nat) : H.upd b (H b) = H := by funext k; simp only [AH.upd]; split <;> simp_all
theorem AH.upd_comm (H : AH) {b c : Nat} (h : b ≠ c) (o o' : Option AO) : (H.upd b o).upd c o' = (H.upd c o').upd b o := by
  funext k; simp only [AH.upd]; split <;> split <;> simp_all

inductive VR (P : Program) (w : World) (H : AH) : AV → Value → Prop
  | v (x : Value) : VR P w H (.v x) x
  | any (x : Value) : VR P w H .any x
  | sl {e : TypeId} {xs : List AV} {A : Option Addr} {c : Nat} (U : Nat → Value)
      (hs : ∀ x ∈ xs, x.cells.length = P.cellsOf e) (hc : xs.length ≤ c)
      (hcell : ∀ (k : Nat) (y : AV), (flat xs)[k]? = some y → ∃ a, A = some a ∧ H a.block = none ∧ w.cell? (a.add k) = some (U k))
      (hv : ∀ (k : Nat) (y : AV), (flat xs)[k]? = some y → VR P w H y (U k)) : VR P w H (.sl e xs) (.slice A xs.length c)
  | ag {cs : List AV} {vs : Array Value} (hl : cs.length = vs.size) (hv : ∀ (k : Nat) (y : AV) (u : Value), cs[k]? = some y → vs[k]? = some u → VR P w H y u) : VR P w H (.ag cs) (.agg vs)
  | tup {cs : List AV} {vs : Array Value} (hl : cs.length = vs.size) (hv : ∀ (k : Nat) (y : AV) (u : Value), cs[k]? = some y → vs[k]? = some u → VR P w H y u) : VR P w H (.tup cs) (.tuple vs)
  | own (b c n : Nat) : VR P w H (.own (some b) c n) (.slice (some ⟨b, 0, none⟩) n c)
  | ownNil : VR P w H (.own none 0 0) (.slice none 0 0)
  | pt (b i s o : Nat) : VR P w H (.pt b i s o) (.pointer (some ⟨b, i * s + o, none⟩))
  | rp {e : TypeId} {x : AV} {a : Addr} (U : Nat → Value) (hs : x.cells.length = P.cellsOf e)
      (hcell : ∀ (k : Nat) (y : AV), x.cells[k]? = some y → H a.block = none ∧ w.cell? (a.add k) = some (U k))
      (hv : ∀ (k : Nat) (y : AV), x.cells[k]? = some y → VR P w H y (U k)) : VR P w H (.rp e x) (.pointer (some a))
  | fn {f : Fn} {fs cs : List AV} {vf vc : Array Value} (hl : fs.length = vf.size) (hl' : cs.length = vc.size)
      (hf : ∀ (k : Nat) (y : AV) (u : Value), fs[k]? = some y → vf[k]? = some u → VR P w H y u) (hc : ∀ (k : Nat) (y : AV) (u : Value), cs[k]? = some y → vc[k]? = some u → VR P w H y u) : VR P w H (.fn f fs cs) (.func f vf vc)

/-- What is kept when the world goes on: of blocks that are not ours nothing turns, and none of them becomes ours. -/
structure Step (H : AH) (w : World) (H' : AH) (w' : World) : Prop where
  os : w'.os = w.os
  tape : w'.tape = w.tape
  output : w'.output = w.output
  size : w.heap.size ≤ w'.heap.size
  keep : ∀ b, b < w.heap.size → H b = none → w'.heap[b]? = w.heap[b]? ∧ H' b = none

theorem Step.refl (H : AH) (w : World) : Step H w H w := ⟨rfl, rfl, rfl, Nat.le_refl _, fun _ _ h => ⟨rfl, h⟩⟩
theorem Step.trans {H H1 H2 : AH} {w w1 w2 : World} (h : Step H w H1 w1) (k : Step H1 w1 H2 w2) : Step H w H2 w2 :=
  ⟨k.os.trans h.os, k.tape.trans h.tape, k.output.trans h.output, Nat.le_trans h.size k.size, fun b hb hn => by
    obtain ⟨e1, n1⟩ := h.keep b hb hn
    obtain ⟨e2, n2⟩ := k.keep b (Nat.lt_of_lt_of_le hb h.size) n1
    exact ⟨e2.trans e1, n2⟩⟩

theorem cell_lt {w : World} {a : Addr} {u : Value} (h : w.cell? a = some u) : a.block < w.heap.size := World.block_lt_of_cell? w a h
theorem add_block (a : Addr) (k : Nat) : (a.add k).block = a.block := by unfold Addr.add; split <;> rfl
theorem Step.cell {H H' : AH} {w w' : World} (h : Step H w H' w') {a : Addr} {u : Value} (hn : H a.block = none) (hc : w.cell? a = some u) : w'.cell? a = some u := by
  rw [← hc]; exact World.cell?_of_block (w := w) (h.keep _ (cell_lt hc) hn).1

theorem VR.step {P : Program} {H H' : AH} {w w' : World} (h : Step H w H' w') {x : AV} {u : Value} (hx : VR P w H x u) : VR P w' H' x u := by
  induction hx with
  | v x => exact .v x
  | any x => exact .any x
  | sl U hs hc hcell hv ih =>
    refine .sl U hs hc (fun k y hy => ?_) ih
    obtain ⟨a, hA, hn, hcl⟩ := hcell k y hy
    have hn' : H (a.add k).block = none := by rw [add_block]; exact hn
    have := h.keep a.block (by rw [← add_block a k]; exact cell_lt hcl) hn
    exact ⟨a, hA, this.2, h.cell hn' hcl⟩
  | ag hl hv ih => exact .ag hl ih
  | tup hl hv ih => exact .tup hl ih
  | own b c n => exact .own b c n
  | ownNil => exact .ownNil
  | pt b i s o => exact .pt b i s o
  | rp U hs hcell hv ih =>
    refine .rp U hs (fun k y hy => ?_) ih
    obtain ⟨hn, hcl⟩ := hcell k y hy
    rename_i a
    have hn' : H (a.add k).block = none := by rw [add_block]; exact hn
    have := h.keep a.block (by rw [← add_block a k]; exact cell_lt hcl) hn
    exact ⟨this.2, h.cell hn' hcl⟩
  | fn hl hl' hf hc ihf ihc => exact .fn hl hl' ihf ihc

/-- Our blocks hold what is said of them. -/
def OR (P : Program) (H : AH) (w : World) (b : Nat) : AO → Prop
  | .row e c xs => ∃ cs fr, w.heap[b]? = some (.cells cs e fr) ∧ cs.size = c * P.cellsOf e ∧ (∀ i, i < cs.size → ¬ (fr.1 ≤ i ∧ i < fr.2)) ∧ xs.length ≤ c ∧
      (∀ x ∈ xs, x.cells.length = P.cellsOf e) ∧ ∀ (k : Nat) (y : AV), (flat xs)[k]? = some y → ∃ u, cs[k]? = some u ∧ VR P w H y u
  | .raw o => w.heap[b]? = some o
  | .loop r T => ∃ tmps : Array Value, w.heap[b]? = some (.loop { r with tmps := tmps }) ∧ tmps.size = T.length ∧ ∀ (k : Nat) (x : AV), T[k]? = some x → ∃ u, tmps[k]? = some u ∧ VR P w H x u

def HR (P : Program) (H : AH) (w : World) : Prop := ∀ b o, H b = some o → OR P H w b o

theorem OR.lt {P : Program} {H : AH} {w : World} {b : Nat} {o : AO} (h : OR P H w b o) : b < w.heap.size := by
  cases o with
  | row e c xs => obtain ⟨cs, fr, hb, _⟩ := h; exact (Array.getElem?_eq_some_iff.1 hb).1
  | raw o => exact (Array.getElem?_eq_some_iff.1 (show w.heap[b]? = some o from h)).1
  | loop r T => obtain ⟨ts, hb, _⟩ := h; exact (Array.getElem?_eq_some_iff.1 hb).1

theorem OR.keep {P : Program} {H H' : AH} {w w' : World} (hs : Step H w H' w') {b : Nat} {o : AO} (h : OR P H w b o) (hb : w'.heap[b]? = w.heap[b]?) : OR P H' w' b o := by
  cases o with
  | row e c xs =>
    obtain ⟨cs, fr, h1, h2, h3, h4, h5, h6⟩ := h
    exact ⟨cs, fr, hb.trans h1, h2, h3, h4, h5, fun k y hy => let ⟨u, hu, hv⟩ := h6 k y hy; ⟨u, hu, hv.step hs⟩⟩
  | raw o => exact hb.trans h
  | loop r T =>
    obtain ⟨ts, h1, h2, h3⟩ := h
    exact ⟨ts, hb.trans h1, h2, fun k x hx => let ⟨u, hu, hv⟩ := h3 k x hx; ⟨u, hu, hv.step hs⟩⟩

structure St (P : Program) (ds : List Deferred) (T : List AV) (H : AH) (a : Act) (w : World) : Prop where
  defers : a.defers = ds
  size : a.tmps.size = T.length
  vals : ∀ (k : Nat) (x : AV), T[k]? = some x → ∃ u, a.tmps[k]? = some u ∧ VR P w H x u
  heap : HR P H w

abbrev Post := Exit → List Deferred → List AV → AH → Prop

def post (P : Program) (Q : Post) (H : AH) (w : World) (e : Exit) (a' : Act) (w' : World) : Prop :=
  ∃ ds' T' H', St P ds' T' H' a' w' ∧ Step H w H' w' ∧ Q e ds' T' H'

theorem post.back {P : Program} {Q : Post} {H H1 : AH} {w w1 : World} (h : Step H w H1 w1) {e : Exit} {a' : Act} {w' : World} (p : post P Q H1 w1 e a' w') : post P Q H w e a' w' :=
  let ⟨ds, T, H', s, k, q⟩ := p; ⟨ds, T, H', s, h.trans k, q⟩

def fen (ro : Option Nat) : Fence := { fn := fun _ => True, depth := none, alive := false, round := ro }
theorem fen_none : fen none = Fence.wide := rfl
theorem room_fen (ro : Option Nat) (n : Nat) : (fen ro).room n := fun _ h => by simp [fen] at h

/-- Walking code: from the state (ds, T, H) it is left in a way that Q lets. -/
def AW (P : Program) (ro : Option Nat) (c : Code) (ds : List Deferred) (T : List AV) (H : AH) (Q : Post) : Prop :=
  ∀ a w, St P ds T H a w → c.wpIn (fen ro) 0 P (post P Q H w) a w

/-- Walking operations. -/
def AL (P : Program) (ro : Option Nat) (ops : Array Oper) (rest : List Oper) (ds : List Deferred) (T : List AV) (H : AH) (Q : Post) : Prop :=
  ∀ a w, St P ds T H a w → wpListIn (fen ro) 0 P ops (post P Q H w) rest a w

/-- A call. -/
def AC (P : Program) (f : FuncId) (args : List AV) (H : AH) (K : AV → AH → Prop) : Prop :=
  ∀ w (vs : Array Value), args.length = vs.size → (∀ (k : Nat) (x : AV) (u : Value), args[k]? = some x → vs[k]? = some u → VR P w H x u) → HR P H w →
    CallsIn (fen none) 0 P f vs w fun e w' => ∃ v x H', e = .returned v ∧ VR P w' H' x v ∧ HR P H' w' ∧ Step H w H' w' ∧ K x H'

theorem AC.mono {P : Program} {f : FuncId} {args : List AV} {H : AH} {K K' : AV → AH → Prop} (h : AC P f args H K) (hk : ∀ x H', K x H' → K' x H') : AC P f args H K' :=
  fun w vs hl hv hh => (h w vs hl hv hh).mono fun e w' ⟨v, x, H', he, hx, hr, hs, k⟩ => ⟨v, x, H', he, hx, hr, hs, hk _ _ k⟩

section control
variable {P : Program} {ro : Option Nat} {ds : List Deferred} {T : List AV} {H : AH} {Q : Post}

theorem AW.mono {c : Code} {Q' : Post} (h : AW P ro c ds T H Q) (hq : ∀ e ds T H, Q e ds T H → Q' e ds T H) : AW P ro c ds T H Q' :=
  fun a w hs => wpIn_mono (h a w hs) fun _ _ _ ⟨ds, T, H', s, k, q⟩ => ⟨ds, T, H', s, k, hq _ _ _ _ q⟩

/-- What follows in sequence. -/
def seqQ (P : Program) (ro : Option Nat) (c : Code) (Q : Post) : Post
  | .normal, ds, T, H => AW P ro c ds T H Q
  | e, ds, T, H => Q e ds T H

theorem AW_seq {x y : Code} (h : AW P ro x ds T H (seqQ P ro y Q)) : AW P ro (.seq x y) ds T H Q := fun a w hs => by
  refine wpIn_seq (wpIn_mono (h a w hs) ?_)
  rintro e a1 w1 ⟨ds1, T1, H1, s1, k1, q1⟩
  cases e with
  | normal => exact wpIn_mono (q1 a1 w1 s1) fun _ _ _ p => p.back k1
  | _ => exact ⟨ds1, T1, H1, s1, k1, q1⟩

theorem AW_skip (h : Q .normal ds T H) : AW P ro .skip ds T H Q := fun a w hs => wpIn_skip ⟨ds, T, H, hs, .refl _ _, h⟩
theorem AW_label {l : Nat} (h : Q .normal ds T H) : AW P ro (.label l) ds T H Q := fun a w hs => wpIn_label ⟨ds, T, H, hs, .refl _ _, h⟩
theorem AW_exit {id : Nat} (h : Q (.exit id) ds T H) : AW P ro (.exit id) ds T H Q := fun a w hs => wpIn_exit ⟨ds, T, H, hs, .refl _ _, h⟩
theorem AW_ret (h : Q .ret ds T H) : AW P ro .ret ds T H Q := fun a w hs => wpIn_ret ⟨ds, T, H, hs, .refl _ _, h⟩

/-- What follows behind a block. -/
def blockQ (id : Nat) (Q : Post) : Post
  | .exit j, ds, T, H => if j = id then Q .normal ds T H else Q (.exit j) ds T H
  | e, ds, T, H => Q e ds T H

theorem AW_block {id : Nat} {c : Code} (h : AW P ro c ds T H (blockQ id Q)) : AW P ro (.block id c) ds T H Q := fun a w hs => by
  refine wpIn_block (wpIn_mono (h a w hs) ?_)
  rintro e a1 w1 ⟨ds1, T1, H1, s1, k1, q1⟩
  cases e with
  | exit j =>
    simp only [blockQ] at q1
    simp only [Exit.inBlock]
    by_cases hj : j = id
    · rw [if_pos hj] at q1 ⊢; exact ⟨ds1, T1, H1, s1, k1, q1⟩
    · rw [if_neg hj] at q1 ⊢; exact ⟨ds1, T1, H1, s1, k1, q1⟩
  | _ => exact ⟨ds1, T1, H1, s1, k1, q1⟩
theorem blockQ_hit {id : Nat} (h : Q .normal ds T H) : blockQ id Q (.exit id) ds T H := by simp only [blockQ, if_true]; exact h
theorem blockQ_miss {id j : Nat} (hj : j ≠ id) (h : Q (.exit j) ds T H) : blockQ id Q (.exit j) ds T H := by simp only [blockQ, if_neg hj]; exact h

theorem St.eval {a : Act} {w : World} (hs : St P ds T H a w) {t : Tmp} {x : AV} (hx : T[t]? = some x) : VR P w H x (a.eval (.tmp t)) := by
  obtain ⟨u, hu, hv⟩ := hs.vals t x hx
  have : a.eval (.tmp t) = u := by simp [Act.eval, Array.getD_eq_getD_getElem?, hu]
  rw [this]; exact hv

theorem VR.v_inv {w : World} {x u : Value} (h : VR P w H (.v x) u) : u = x := by cases h; rfl

theorem AW_cond {t : Tmp} {x y : Code} {b : Bool} (hx : T[t]? = some (.v (.bool b))) (ht : b = true → AW P ro x ds T H Q) (hf : b = false → AW P ro y ds T H Q) :
    AW P ro (.cond (.tmp t) x y) ds T H Q := fun a w hs =>
  wpIn_cond_split (t := b) (hs.eval hx).v_inv (fun h => ht h a w hs) (fun h => hf h a w hs)
theorem AW_cond_true {t : Tmp} {x y : Code} (hx : T[t]? = some (.v (.bool true))) (ht : AW P ro x ds T H Q) : AW P ro (.cond (.tmp t) x y) ds T H Q := AW_cond hx (fun _ => ht) (fun h => by cases h)
theorem AW_cond_false {t : Tmp} {x y : Code} (hx : T[t]? = some (.v (.bool false))) (hf : AW P ro y ds T H Q) : AW P ro (.cond (.tmp t) x y) ds T H Q := AW_cond hx (fun h => by cases h) (fun _ => hf)

/-- A state may be said of more loosely. -/
def Weak (T T' : List AV) : Prop := T'.length = T.length ∧ ∀ (k : Nat) (x : AV), T'[k]? = some x → x = .any ∨ T[k]? = some x
theorem Weak.refl (T : List AV) : Weak T T := ⟨rfl, fun _ _ h => .inr h⟩
theorem Weak.nil : Weak [] [] := .refl _
theorem Weak.cons {x : AV} {T T' : List AV} (h : Weak T T') : Weak (x :: T) (x :: T') :=
  ⟨by simp [h.1], fun k y hy => by cases k with | zero => exact .inr (by simpa using hy) | succ k => exact h.2 k y (by simpa using hy)⟩
theorem Weak.consAny {x : AV} {T T' : List AV} (h : Weak T T') : Weak (x :: T) (.any :: T') :=
  ⟨by simp [h.1], fun k y hy => by cases k with | zero => exact .inl (by simpa using hy.symm) | succ k => exact h.2 k y (by simpa using hy)⟩
theorem St.weak {a : Act} {w : World} (hs : St P ds T H a w) {T' : List AV} (hw : Weak T T') : St P ds T' H a w :=
  ⟨hs.defers, hs.size.trans hw.1.symm, fun k x hx => by
    rcases hw.2 k x hx with rfl | h
    · have hk : k < a.tmps.size := by
        have := (List.getElem?_eq_some_iff.1 hx).1
        rw [hs.size, ← hw.1]; exact this
      exact ⟨a.tmps[k], Array.getElem?_eq_getElem hk, .any _⟩
    · exact hs.vals k x h, hs.heap⟩

theorem AW.weak {c : Code} {T' : List AV} (hw : Weak T T') (h : AW P ro c ds T' H Q) : AW P ro c ds T H Q := fun a w hs => h a w (hs.weak hw)

/-- A loop: what holds at each round's head, and what goes down. -/
theorem AW_loop {c : Code} (I : List AV → AH → Prop) (μ : List AV → AH → Nat) (T0 : List AV) (hw : Weak T T0) (h0 : I T0 H)
    (round : ∀ T H, I T H → AW P ro c ds T H (fun e ds' T' H' => match e with
      | .normal => ds' = ds ∧ ∃ T'', Weak T' T'' ∧ I T'' H' ∧ μ T'' H' < μ T H
      | e => Q e ds' T' H')) : AW P ro (.loop c) ds T H Q := fun a w hs => by
  -- by the measure, by hand: the state goes along
  intro b k cs hro hb hr
  have key : ∀ j T1 H1 a1 w1, μ T1 H1 = j → I T1 H1 → St P ds T1 H1 a1 w1 → Step H w H1 w1 →
      ∃ e a' w', post P Q H w e a' w' ∧ ArrivesIn (Machine.fenced P (fen ro)) P (lone (b.atR a1 (.code c :: .inLoop c :: k)) cs w1) b k cs e a' w' := by
    intro j
    induction j using Nat.strongRecOn with
    | _ j ih =>
      intro T1 H1 a1 w1 hn hI hst hstep
      obtain ⟨e, a2, w2, hq, harr⟩ := round T1 H1 hI a1 w1 hst b (.inLoop c :: k) cs hro hb hr
      obtain ⟨ds2, T2, H2, s2, k2, q2⟩ := hq
      cases e with
      | normal =>
        obtain ⟨rfl, T3, hw3, hI3, hlt⟩ := q2
        obtain ⟨e3, a3, w3, hq3, harr3⟩ := ih (μ T3 H2) (hn ▸ hlt) T3 H2 a2 w2 rfl hI3 (s2.weak hw3) (hstep.trans k2)
        exact ⟨e3, a3, w3, hq3, .of_steps (StepsIn.trans harr (.one (fenced_calm hb hr rfl) stepR_inLoop)) harr3⟩
      | exit id => exact ⟨_, a2, w2, ⟨ds2, T2, H2, s2, hstep.trans k2, q2⟩, .pass (x := .inLoop c) rfl (fun _ _ => .inl (by simp)) harr⟩
      | goto l => exact ⟨_, a2, w2, ⟨ds2, T2, H2, s2, hstep.trans k2, q2⟩, .pass (x := .inLoop c) rfl (fun _ _ => .inl (by simp)) harr⟩
      | ret => exact ⟨_, a2, w2, ⟨ds2, T2, H2, s2, hstep.trans k2, q2⟩, .pass (x := .inLoop c) rfl (fun _ _ => .inl (by simp)) harr⟩
      | panic ch => exact ⟨_, a2, w2, ⟨ds2, T2, H2, s2, hstep.trans k2, q2⟩, .pass (x := .inLoop c) rfl (fun _ _ => .inl (by simp)) harr⟩
      | outgrown => exact ⟨_, a2, w2, ⟨ds2, T2, H2, s2, hstep.trans k2, q2⟩, .pass (x := .inLoop c) rfl (fun _ _ => .inl (by simp)) harr⟩
  obtain ⟨e, a', w', hq, harr⟩ := key _ T0 H a w rfl h0 (hs.weak hw) (.refl _ _)
  exact ⟨e, a', w', hq, .of_steps (.one (fenced_calm hb hr rfl) stepR_loop) harr⟩

theorem AW_region {id : Nat} {l : List Oper} (h : AL P ro l.toArray l ds T H Q) : AW P ro (.region id l.toArray false) ds T H Q :=
  fun a w hs => wpIn_region_lit (h a w hs)
theorem AL_nil {ops : Array Oper} (h : Q .normal ds T H) : AL P ro ops [] ds T H Q := fun a w hs => ⟨ds, T, H, hs, .refl _ _, h⟩

theorem wpListIn_mono {F : Fence} {n : Nat} {ops : Array Oper} {R R' : Exit → Act → World → Prop} (hR : ∀ e a w, R e a w → R' e a w) (hl : ∀ l : List Oper, True) :
    ∀ (l : List Oper) (a : Act) (w : World), wpListIn F n P ops R l a w → wpListIn F n P ops R' l a w := by
  intro l
  induction l with
  | nil => exact fun a w h => hR _ _ _ h
  | cons o l ih =>
    intro a w h
    simp only [wpListIn] at h ⊢
    split at h
    · rename_i hw
      rw [if_pos hw]
      obtain ⟨h1, h2⟩ := h
      refine ⟨h1, ?_⟩
      revert h2
      cases (Oper.semAt F.round a.eval o).run P w with
      | halt x w' => cases x <;> first | exact fun h => h | exact fun h => hR _ _ _ h
      | ok nx w' =>
        have lo : LetsOut R → LetsOut R' := fun ⟨a0, w0, h0⟩ => ⟨a0, w0, hR _ _ _ h0⟩
        cases nx with
        | value v => exact fun h => ih _ _ h
        | skip => exact fun h => ih _ _ h
        | enter f args => exact fun h => ⟨h.1, h.2.mono fun e w'' r => by cases e <;> first | exact ih _ _ r | exact hR _ _ _ r | exact lo r⟩
        | row row args => exact fun h => ⟨h.1, h.2.mono fun v w'' r => ih _ _ r⟩
        | round l f tmps assign body => exact fun h => ⟨h.1, h.2.mono fun e w'' r => by cases e <;> first | exact ih _ _ r | exact hR _ _ _ r | exact lo r⟩
        | _ => first | exact fun h => h | exact fun h => ih _ _ h
    · rename_i hw
      rw [if_neg hw]
      exact ⟨h.1, ih _ _ h.2⟩
end control
end Go.AL
