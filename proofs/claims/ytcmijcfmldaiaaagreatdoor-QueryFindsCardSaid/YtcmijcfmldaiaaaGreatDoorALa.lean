/- A logic of abstract values over the walk's laws: what a function computes, said of plain values; memory that is read, and memory that is owned. -/
import Derived.CallsIn
import Derived.TacticsIn
import Derived.Below
import Derived.KernelRfl
import Derived.Laws.StructEq
import Derived.Laws.Strings
import Derived.Laws.IdiomCopy
import Derived.Laws.Append
import Derived.Laws.AppendOwn
set_option autoImplicit false
set_option linter.unusedVariables false
set_option linter.unusedSimpArgs false
namespace Go.AL
open Go Go.RowKit

/-- Abstract values. `sl`: a slice that is read only. `own`: a slice on a row of our own. `pt b i s o`: a pointer into our own block b, element i (of s cells), cell o of it. `rp`: a pointer to memory that is read only. -/
inductive AV where
  | v (x : Value)
  | sl (e : TypeId) (xs : List AV)
  | ag (cs : List AV)
  | tup (xs : List AV)
  | own (A : Option Nat) (c n : Nat)
  | sub (b z o c n : Nat)
  | pt (b i s o : Nat)
  | rp (e : TypeId) (x : AV)
  | fn (f : Fn) (first caps : List AV)
  | any
  deriving Inhabited

def AV.cells : AV → List AV
  | .ag cs => cs
  | x => [x]

def flat (xs : List AV) : List AV := xs.flatMap AV.cells

/-- What a block of ours holds. -/
inductive AO where
  | row (e : TypeId) (c : Nat) (xs : List AV)
  | raw (o : Obj)
  | loop (r : Loop) (T : List AV)

abbrev AH := Nat → Option AO

def AH.upd (H : AH) (b : Nat) (o : Option AO) : AH := fun k => if k = b then o else H k
theorem AH.upd_same (H : AH) (b : Nat) (o : Option AO) : (H.upd b o) b = o := by simp [AH.upd]
theorem AH.upd_ne (H : AH) {b k : Nat} (o : Option AO) (h : k ≠ b) : (H.upd b o) k = H k := by simp [AH.upd, h]
theorem AH.upd_upd (H : AH) (b : Nat) (o o' : Option AO) : (H.upd b o).upd b o' = H.upd b o' := by funext k; simp only [AH.upd]; split <;> rfl
theorem AH.upd_self (H : AH) (b : Nat) : H.upd b (H b) = H := by funext k; simp only [AH.upd]; split <;> simp_all
theorem AH.upd_comm (H : AH) {b c : Nat} (h : b ≠ c) (o o' : Option AO) : (H.upd b o).upd c o' = (H.upd c o').upd b o := by
  funext k; simp only [AH.upd]; split <;> split <;> simp_all

inductive VR (P : Program) (w : World) (H : AH) : AV → Value → Prop
  | v (x : Value) : VR P w H (.v x) x
  | any (x : Value) : VR P w H .any x
  | sl {e : TypeId} {xs : List AV} {A : Option Addr} {c : Nat} (U : Nat → Value)
      (hs : ∀ x ∈ xs, x.cells.length = P.cellsOf e) (hc : xs.length ≤ c)
      (hcell : ∀ (k : Nat) (y : AV), (flat xs)[k]? = some y → ∃ a, A = some a ∧ H a.block = none ∧ w.cell? (a.add k) = some (U k))
      (hv : ∀ (k : Nat) (y : AV), (flat xs)[k]? = some y → VR P w H y (U k)) : VR P w H (.sl e xs) (.slice A xs.length c)
  | ag {cs : List AV} {vs : Array Value} (hl : cs.length = vs.size) (hv : ∀ (k : Nat) (y : AV) (u : Value), cs[k]? = some y → vs[k]? = some u → VR P w H y u) : VR P w H (.ag cs) (.agg vs)
  | tup {cs : List AV} {vs : Array Value} (hl : cs.length = vs.size) (hv : ∀ (k : Nat) (y : AV) (u : Value), cs[k]? = some y → vs[k]? = some u → VR P w H y u) : VR P w H (.tup cs) (.tuple vs)
  | own (b c n : Nat) : VR P w H (.own (some b) c n) (.slice (some ⟨b, 0, none⟩) n c)
  | ownNil (A : Option Addr) : VR P w H (.own none 0 0) (.slice A 0 0)
  | part (b z o c n : Nat) : VR P w H (.sub b z o c n) (.slice (some ⟨b, o * z, none⟩) n c)
  | pt (b i s o : Nat) : VR P w H (.pt b i s o) (.pointer (some ⟨b, i * s + o, none⟩))
  | rp {e : TypeId} {x : AV} {a : Addr} (U : Nat → Value) (hs : x.cells.length = P.cellsOf e)
      (hcell : ∀ (k : Nat) (y : AV), x.cells[k]? = some y → H a.block = none ∧ w.cell? (a.add k) = some (U k))
      (hv : ∀ (k : Nat) (y : AV), x.cells[k]? = some y → VR P w H y (U k)) : VR P w H (.rp e x) (.pointer (some a))
  | fn {f : Fn} {fs cs : List AV} {vf vc : Array Value} (hl : fs.length = vf.size) (hl' : cs.length = vc.size)
      (hf : ∀ (k : Nat) (y : AV) (u : Value), fs[k]? = some y → vf[k]? = some u → VR P w H y u) (hc : ∀ (k : Nat) (y : AV) (u : Value), cs[k]? = some y → vc[k]? = some u → VR P w H y u) : VR P w H (.fn f fs cs) (.func f vf vc)

/-- What is kept when the world goes on: of blocks that are not ours nothing turns, and none of them becomes ours. -/
structure Step (H : AH) (w : World) (H' : AH) (w' : World) : Prop where
  os : w'.os = w.os
  tape : w'.tape = w.tape
  output : w'.output = w.output
  size : w.heap.size ≤ w'.heap.size
  keep : ∀ b, b < w.heap.size → H b = none → w'.heap[b]? = w.heap[b]? ∧ H' b = none

theorem Step.refl (H : AH) (w : World) : Step H w H w := ⟨rfl, rfl, rfl, Nat.le_refl _, fun _ _ h => ⟨rfl, h⟩⟩
theorem Step.trans {H H1 H2 : AH} {w w1 w2 : World} (h : Step H w H1 w1) (k : Step H1 w1 H2 w2) : Step H w H2 w2 :=
  ⟨k.os.trans h.os, k.tape.trans h.tape, k.output.trans h.output, Nat.le_trans h.size k.size, fun b hb hn => by
    obtain ⟨e1, n1⟩ := h.keep b hb hn
    obtain ⟨e2, n2⟩ := k.keep b (Nat.lt_of_lt_of_le hb h.size) n1
    exact ⟨e2.trans e1, n2⟩⟩

theorem cell_lt {w : World} {a : Addr} {u : Value} (h : w.cell? a = some u) : a.block < w.heap.size := World.block_lt_of_cell? w a h
theorem add_block (a : Addr) (k : Nat) : (a.add k).block = a.block := by unfold Addr.add; split <;> rfl
theorem Step.cell {H H' : AH} {w w' : World} (h : Step H w H' w') {a : Addr} {u : Value} (hn : H a.block = none) (hc : w.cell? a = some u) : w'.cell? a = some u := by
  rw [← hc]; exact World.cell?_of_block (w := w) (h.keep _ (cell_lt hc) hn).1

theorem VR.step {P : Program} {H H' : AH} {w w' : World} (h : Step H w H' w') {x : AV} {u : Value} (hx : VR P w H x u) : VR P w' H' x u := by
  induction hx with
  | v x => exact .v x
  | any x => exact .any x
  | sl U hs hc hcell hv ih =>
    refine .sl U hs hc (fun k y hy => ?_) ih
    obtain ⟨a, hA, hn, hcl⟩ := hcell k y hy
    have hn' : H (a.add k).block = none := by rw [add_block]; exact hn
    have := h.keep a.block (by rw [← add_block a k]; exact cell_lt hcl) hn
    exact ⟨a, hA, this.2, h.cell hn' hcl⟩
  | ag hl hv ih => exact .ag hl ih
  | tup hl hv ih => exact .tup hl ih
  | own b c n => exact .own b c n
  | ownNil A => exact .ownNil A
  | part b z o c n => exact .part b z o c n
  | pt b i s o => exact .pt b i s o
  | rp U hs hcell hv ih =>
    refine .rp U hs (fun k y hy => ?_) ih
    obtain ⟨hn, hcl⟩ := hcell k y hy
    rename_i a
    have hn' : H (a.add k).block = none := by rw [add_block]; exact hn
    have := h.keep a.block (by rw [← add_block a k]; exact cell_lt hcl) hn
    exact ⟨this.2, h.cell hn' hcl⟩
  | fn hl hl' hf hc ihf ihc => exact .fn hl hl' ihf ihc

/-- Our blocks hold what is said of them. -/
def OR (P : Program) (H : AH) (w : World) (b : Nat) : AO → Prop
  | .row e c xs => ∃ cs fr, w.heap[b]? = some (.cells cs e fr) ∧ cs.size = c * P.cellsOf e ∧ (∀ i, i < cs.size → ¬ (fr.1 ≤ i ∧ i < fr.2)) ∧ xs.length ≤ c ∧
      (∀ x ∈ xs, x.cells.length = P.cellsOf e) ∧ ∀ (k : Nat) (y : AV), (flat xs)[k]? = some y → ∃ u, cs[k]? = some u ∧ VR P w H y u
  | .raw o => w.heap[b]? = some o
  | .loop r T => ∃ tmps : Array Value, w.heap[b]? = some (.loop { r with tmps := tmps }) ∧ tmps.size = T.length ∧ ∀ (k : Nat) (x : AV), T[k]? = some x → ∃ u, tmps[k]? = some u ∧ VR P w H x u

def HR (P : Program) (H : AH) (w : World) : Prop := ∀ b o, H b = some o → OR P H w b o

theorem OR.lt {P : Program} {H : AH} {w : World} {b : Nat} {o : AO} (h : OR P H w b o) : b < w.heap.size := by
  cases o with
  | row e c xs => obtain ⟨cs, fr, hb, _⟩ := h; exact (Array.getElem?_eq_some_iff.1 hb).1
  | raw o => exact (Array.getElem?_eq_some_iff.1 (show w.heap[b]? = some o from h)).1
  | loop r T => obtain ⟨ts, hb, _⟩ := h; exact (Array.getElem?_eq_some_iff.1 hb).1

theorem OR.keep {P : Program} {H H' : AH} {w w' : World} (hs : Step H w H' w') {b : Nat} {o : AO} (h : OR P H w b o) (hb : w'.heap[b]? = w.heap[b]?) : OR P H' w' b o := by
  cases o with
  | row e c xs =>
    obtain ⟨cs, fr, h1, h2, h3, h4, h5, h6⟩ := h
    exact ⟨cs, fr, hb.trans h1, h2, h3, h4, h5, fun k y hy => let ⟨u, hu, hv⟩ := h6 k y hy; ⟨u, hu, hv.step hs⟩⟩
  | raw o => exact hb.trans h
  | loop r T =>
    obtain ⟨ts, h1, h2, h3⟩ := h
    exact ⟨ts, hb.trans h1, h2, fun k x hx => let ⟨u, hu, hv⟩ := h3 k x hx; ⟨u, hu, hv.step hs⟩⟩

structure St (P : Program) (ds : List Deferred) (T : List AV) (H : AH) (a : Act) (w : World) : Prop where
  defers : a.defers = ds
  size : a.tmps.size = T.length
  vals : ∀ (k : Nat) (x : AV), T[k]? = some x → ∃ u, a.tmps[k]? = some u ∧ VR P w H x u
  heap : HR P H w

abbrev Post := Exit → List Deferred → List AV → AH → Prop

def post (P : Program) (Q : Post) (H : AH) (w : World) (e : Exit) (a' : Act) (w' : World) : Prop :=
  ∃ ds' T' H', St P ds' T' H' a' w' ∧ Step H w H' w' ∧ Q e ds' T' H'

theorem post.back {P : Program} {Q : Post} {H H1 : AH} {w w1 : World} (h : Step H w H1 w1) {e : Exit} {a' : Act} {w' : World} (p : post P Q H1 w1 e a' w') : post P Q H w e a' w' :=
  let ⟨ds, T, H', s, k, q⟩ := p; ⟨ds, T, H', s, h.trans k, q⟩

def fen (ro : Option Nat) : Fence := { fn := fun _ => True, depth := none, alive := false, round := ro }
theorem fen_none : fen none = Fence.wide := rfl
theorem room_fen (ro : Option Nat) (n : Nat) : (fen ro).room n := fun _ h => by simp [fen] at h

/-- Walking code: from the state (ds, T, H) it is left in a way that Q lets. -/
def AW (P : Program) (ro : Option Nat) (c : Code) (ds : List Deferred) (T : List AV) (H : AH) (Q : Post) : Prop :=
  ∀ a w, St P ds T H a w → c.wpIn (fen ro) 0 P (post P Q H w) a w

/-- Walking operations. -/
def AL (P : Program) (ro : Option Nat) (ops : Array Oper) (rest : List Oper) (ds : List Deferred) (T : List AV) (H : AH) (Q : Post) : Prop :=
  ∀ a w, St P ds T H a w → wpListIn (fen ro) 0 P ops (post P Q H w) rest a w

/-- A call. -/
def AC (P : Program) (f : FuncId) (args : List AV) (H : AH) (K : AV → AH → Prop) : Prop :=
  ∀ w (vs : Array Value), args.length = vs.size → (∀ (k : Nat) (x : AV) (u : Value), args[k]? = some x → vs[k]? = some u → VR P w H x u) → HR P H w →
    CallsIn (fen none) 0 P f vs w fun e w' => ∃ v x H', e = .returned v ∧ VR P w' H' x v ∧ HR P H' w' ∧ Step H w H' w' ∧ K x H'

theorem AC.mono {P : Program} {f : FuncId} {args : List AV} {H : AH} {K K' : AV → AH → Prop} (h : AC P f args H K) (hk : ∀ x H', K x H' → K' x H') : AC P f args H K' :=
  fun w vs hl hv hh => (h w vs hl hv hh).mono fun e w' ⟨v, x, H', he, hx, hr, hs, k⟩ => ⟨v, x, H', he, hx, hr, hs, hk _ _ k⟩

section control
variable {P : Program} {ro : Option Nat} {ds : List Deferred} {T : List AV} {H : AH} {Q : Post}

theorem AW.mono {c : Code} {Q' : Post} (h : AW P ro c ds T H Q) (hq : ∀ e ds T H, Q e ds T H → Q' e ds T H) : AW P ro c ds T H Q' :=
  fun a w hs => wpIn_mono (h a w hs) fun _ _ _ ⟨ds, T, H', s, k, q⟩ => ⟨ds, T, H', s, k, hq _ _ _ _ q⟩

/-- What follows in sequence. -/
def seqQ (P : Program) (ro : Option Nat) (c : Code) (Q : Post) : Post
  | .normal, ds, T, H => AW P ro c ds T H Q
  | e, ds, T, H => Q e ds T H

theorem AW_seq {x y : Code} (h : AW P ro x ds T H (seqQ P ro y Q)) : AW P ro (.seq x y) ds T H Q := fun a w hs => by
  refine wpIn_seq (wpIn_mono (h a w hs) ?_)
  rintro e a1 w1 ⟨ds1, T1, H1, s1, k1, q1⟩
  cases e with
  | normal => exact wpIn_mono (q1 a1 w1 s1) fun _ _ _ p => p.back k1
  | _ => exact ⟨ds1, T1, H1, s1, k1, q1⟩

theorem AW_skip (h : Q .normal ds T H) : AW P ro .skip ds T H Q := fun a w hs => wpIn_skip ⟨ds, T, H, hs, .refl _ _, h⟩
theorem AW_label {l : Nat} (h : Q .normal ds T H) : AW P ro (.label l) ds T H Q := fun a w hs => wpIn_label ⟨ds, T, H, hs, .refl _ _, h⟩
theorem AW_exit {id : Nat} (h : Q (.exit id) ds T H) : AW P ro (.exit id) ds T H Q := fun a w hs => wpIn_exit ⟨ds, T, H, hs, .refl _ _, h⟩
theorem AW_ret (h : Q .ret ds T H) : AW P ro .ret ds T H Q := fun a w hs => wpIn_ret ⟨ds, T, H, hs, .refl _ _, h⟩

/-- What follows behind a block. -/
def blockQ (id : Nat) (Q : Post) : Post
  | .exit j, ds, T, H => if j = id then Q .normal ds T H else Q (.exit j) ds T H
  | e, ds, T, H => Q e ds T H

theorem AW_block {id : Nat} {c : Code} (h : AW P ro c ds T H (blockQ id Q)) : AW P ro (.block id c) ds T H Q := fun a w hs => by
  refine wpIn_block (wpIn_mono (h a w hs) ?_)
  rintro e a1 w1 ⟨ds1, T1, H1, s1, k1, q1⟩
  cases e with
  | exit j =>
    simp only [blockQ] at q1
    simp only [Exit.inBlock]
    by_cases hj : j = id
    · rw [if_pos hj] at q1 ⊢; exact ⟨ds1, T1, H1, s1, k1, q1⟩
    · rw [if_neg hj] at q1 ⊢; exact ⟨ds1, T1, H1, s1, k1, q1⟩
  | _ => exact ⟨ds1, T1, H1, s1, k1, q1⟩
theorem blockQ_hit {id : Nat} (h : Q .normal ds T H) : blockQ id Q (.exit id) ds T H := by simp only [blockQ, if_true]; exact h
theorem blockQ_miss {id j : Nat} (hj : j ≠ id) (h : Q (.exit j) ds T H) : blockQ id Q (.exit j) ds T H := by simp only [blockQ, if_neg hj]; exact h

theorem St.eval {a : Act} {w : World} (hs : St P ds T H a w) {t : Tmp} {x : AV} (hx : T[t]? = some x) : VR P w H x (a.eval (.tmp t)) := by
  obtain ⟨u, hu, hv⟩ := hs.vals t x hx
  have : a.eval (.tmp t) = u := by simp [Act.eval, Array.getD_eq_getD_getElem?, hu]
  rw [this]; exact hv

theorem VR.v_inv {w : World} {x u : Value} (h : VR P w H (.v x) u) : u = x := by cases h; rfl

theorem AW_cond {t : Tmp} {x y : Code} {b : Bool} (hx : T[t]? = some (.v (.bool b))) (ht : b = true → AW P ro x ds T H Q) (hf : b = false → AW P ro y ds T H Q) :
    AW P ro (.cond (.tmp t) x y) ds T H Q := fun a w hs =>
  wpIn_cond_split (t := b) (hs.eval hx).v_inv (fun h => ht h a w hs) (fun h => hf h a w hs)
theorem AW_cond_true {t : Tmp} {x y : Code} (hx : T[t]? = some (.v (.bool true))) (ht : AW P ro x ds T H Q) : AW P ro (.cond (.tmp t) x y) ds T H Q := AW_cond hx (fun _ => ht) (fun h => by cases h)
theorem AW_cond_false {t : Tmp} {x y : Code} (hx : T[t]? = some (.v (.bool false))) (hf : AW P ro y ds T H Q) : AW P ro (.cond (.tmp t) x y) ds T H Q := AW_cond hx (fun h => by cases h) (fun _ => hf)

/-- A state may be said of more loosely. -/
def Weak (T T' : List AV) : Prop := T'.length = T.length ∧ ∀ (k : Nat) (x : AV), T'[k]? = some x → x = .any ∨ T[k]? = some x
theorem Weak.refl (T : List AV) : Weak T T := ⟨rfl, fun _ _ h => .inr h⟩
theorem Weak.nil : Weak [] [] := .refl _
theorem Weak.cons {x : AV} {T T' : List AV} (h : Weak T T') : Weak (x :: T) (x :: T') :=
  ⟨by simp [h.1], fun k y hy => by cases k with | zero => exact .inr (by simpa using hy) | succ k => exact h.2 k y (by simpa using hy)⟩
theorem Weak.consAny {x : AV} {T T' : List AV} (h : Weak T T') : Weak (x :: T) (.any :: T') :=
  ⟨by simp [h.1], fun k y hy => by cases k with | zero => exact .inl (by simpa using hy.symm) | succ k => exact h.2 k y (by simpa using hy)⟩
theorem St.weak {a : Act} {w : World} (hs : St P ds T H a w) {T' : List AV} (hw : Weak T T') : St P ds T' H a w :=
  ⟨hs.defers, hs.size.trans hw.1.symm, fun k x hx => by
    rcases hw.2 k x hx with rfl | h
    · have hk : k < a.tmps.size := by
        have := (List.getElem?_eq_some_iff.1 hx).1
        rw [hs.size, ← hw.1]; exact this
      exact ⟨a.tmps[k], Array.getElem?_eq_getElem hk, .any _⟩
    · exact hs.vals k x h, hs.heap⟩

theorem AW.weak {c : Code} {T' : List AV} (hw : Weak T T') (h : AW P ro c ds T' H Q) : AW P ro c ds T H Q := fun a w hs => h a w (hs.weak hw)

/-- A loop: what holds at each round's head, and what goes down. -/
theorem AW_loop {c : Code} (I : List AV → AH → Prop) (μ : List AV → AH → Nat) (T0 : List AV) (hw : Weak T T0) (h0 : I T0 H)
    (round : ∀ T H, I T H → AW P ro c ds T H (fun e ds' T' H' => match e with
      | .normal => ds' = ds ∧ ∃ T'', Weak T' T'' ∧ I T'' H' ∧ μ T'' H' < μ T H
      | e => Q e ds' T' H')) : AW P ro (.loop c) ds T H Q := fun a w hs => by
  -- by the measure, by hand: the state goes along
  intro b k cs hro hb hr
  have key : ∀ j T1 H1 a1 w1, μ T1 H1 = j → I T1 H1 → St P ds T1 H1 a1 w1 → Step H w H1 w1 →
      ∃ e a' w', post P Q H w e a' w' ∧ ArrivesIn (Machine.fenced P (fen ro)) P (lone (b.atR a1 (.code c :: .inLoop c :: k)) cs w1) b k cs e a' w' := by
    intro j
    induction j using Nat.strongRecOn with
    | _ j ih =>
      intro T1 H1 a1 w1 hn hI hst hstep
      obtain ⟨e, a2, w2, hq, harr⟩ := round T1 H1 hI a1 w1 hst b (.inLoop c :: k) cs hro hb hr
      obtain ⟨ds2, T2, H2, s2, k2, q2⟩ := hq
      cases e with
      | normal =>
        obtain ⟨rfl, T3, hw3, hI3, hlt⟩ := q2
        obtain ⟨e3, a3, w3, hq3, harr3⟩ := ih (μ T3 H2) (hn ▸ hlt) T3 H2 a2 w2 rfl hI3 (s2.weak hw3) (hstep.trans k2)
        exact ⟨e3, a3, w3, hq3, .of_steps (StepsIn.trans harr (.one (fenced_calm hb hr rfl) stepR_inLoop)) harr3⟩
      | exit id => exact ⟨_, a2, w2, ⟨ds2, T2, H2, s2, hstep.trans k2, q2⟩, .pass (x := .inLoop c) rfl (fun _ _ => .inl (by simp)) harr⟩
      | goto l => exact ⟨_, a2, w2, ⟨ds2, T2, H2, s2, hstep.trans k2, q2⟩, .pass (x := .inLoop c) rfl (fun _ _ => .inl (by simp)) harr⟩
      | ret => exact ⟨_, a2, w2, ⟨ds2, T2, H2, s2, hstep.trans k2, q2⟩, .pass (x := .inLoop c) rfl (fun _ _ => .inl (by simp)) harr⟩
      | panic ch => exact ⟨_, a2, w2, ⟨ds2, T2, H2, s2, hstep.trans k2, q2⟩, .pass (x := .inLoop c) rfl (fun _ _ => .inl (by simp)) harr⟩
      | outgrown => exact ⟨_, a2, w2, ⟨ds2, T2, H2, s2, hstep.trans k2, q2⟩, .pass (x := .inLoop c) rfl (fun _ _ => .inl (by simp)) harr⟩
  obtain ⟨e, a', w', hq, harr⟩ := key _ T0 H a w rfl h0 (hs.weak hw) (.refl _ _)
  exact ⟨e, a', w', hq, .of_steps (.one (fenced_calm hb hr rfl) stepR_loop) harr⟩

theorem AW_region {id : Nat} {l : List Oper} (h : AL P ro l.toArray l ds T H Q) : AW P ro (.region id l.toArray false) ds T H Q :=
  fun a w hs => wpIn_region_lit (h a w hs)
theorem AL_nil {ops : Array Oper} (h : Q .normal ds T H) : AL P ro ops [] ds T H Q := fun a w hs => ⟨ds, T, H, hs, .refl _ _, h⟩

theorem wpListIn_mono {F : Fence} {n : Nat} {ops : Array Oper} {R R' : Exit → Act → World → Prop} (hR : ∀ e a w, R e a w → R' e a w) (hl : ∀ l : List Oper, True) :
    ∀ (l : List Oper) (a : Act) (w : World), wpListIn F n P ops R l a w → wpListIn F n P ops R' l a w := by
  intro l
  induction l with
  | nil => exact fun a w h => hR _ _ _ h
  | cons o l ih =>
    intro a w h
    simp only [wpListIn] at h ⊢
    split at h
    · rename_i hw
      rw [if_pos hw]
      obtain ⟨h1, h2⟩ := h
      refine ⟨h1, ?_⟩
      revert h2
      cases (Oper.semAt F.round a.eval o).run P w with
      | halt x w' => cases x <;> first | exact fun h => h | exact fun h => hR _ _ _ h
      | ok nx w' =>
        have lo : LetsOut R → LetsOut R' := fun ⟨a0, w0, h0⟩ => ⟨a0, w0, hR _ _ _ h0⟩
        cases nx with
        | value v => exact fun h => ih _ _ h
        | skip => exact fun h => ih _ _ h
        | enter f args => exact fun h => ⟨h.1, h.2.mono fun e w'' r => by cases e <;> first | exact ih _ _ r | exact hR _ _ _ r | exact lo r⟩
        | row row args => exact fun h => ⟨h.1, h.2.mono fun v w'' r => ih _ _ r⟩
        | round l f tmps assign body => exact fun h => ⟨h.1, h.2.mono fun e w'' r => by cases e <;> first | exact ih _ _ r | exact hR _ _ _ r | exact lo r⟩
        | _ => first | exact fun h => h | exact fun h => ih _ _ h
    · rename_i hw
      rw [if_neg hw]
      exact ⟨h.1, ih _ _ h.2⟩
end control
end Go.AL

/- The operations of the walk, said of abstract values. -/
set_option autoImplicit false
set_option linter.unusedVariables false
set_option linter.unusedSimpArgs false
namespace Go.AL
open Go Go.RowKit

def tput (T : List AV) : Option Tmp → AV → List AV
  | some d, x => T.set d x
  | none, _ => T

section ops
variable {P : Program} {ro : Option Nat} {ds : List Deferred} {T : List AV} {H : AH} {Q : Post} {ops : Array Oper} {rest : List Oper}

theorem St.put {a : Act} {w w' : World} {H' : AH} (hs : St P ds T H a w) (hst : Step H w H' w') (hh : HR P H' w') {d : Option Tmp} {x : AV} {u : Value} (hx : VR P w' H' x u) :
    St P ds (tput T d x) H' (a.put d u) w' := by
  cases d with
  | none => exact ⟨hs.defers, hs.size, fun k y hy => let ⟨u, hu, hv⟩ := hs.vals k y hy; ⟨u, hu, hv.step hst⟩, hh⟩
  | some d =>
    refine ⟨hs.defers, by simp [Act.put, tput, hs.size], fun k y hy => ?_, hh⟩
    simp only [tput, Act.put] at hy ⊢
    rw [List.getElem?_set] at hy
    rw [Array.getElem?_setIfInBounds]
    split at hy
    · rename_i hk
      subst hk
      split at hy
      · rename_i hlt
        injection hy with hy
        subst hy
        rw [if_pos rfl, if_pos (by rw [hs.size]; exact hlt)]
        exact ⟨u, rfl, hx⟩
      · cases hy
    · rename_i hk
      rw [if_neg hk]
      obtain ⟨u', hu', hv⟩ := hs.vals k y hy
      exact ⟨u', hu', hv.step hst⟩

/-- One operation. -/
theorem AL_op {o : Oper} (hg : o.guard = none) (hnd : ∀ c, o.op ≠ .defer c)
    (h : ∀ a w, St P ds T H a w → ∃ v w' x H', (execOp a.eval o).run P w = .ok (.value v) w' ∧ VR P w' H' x v ∧ HR P H' w' ∧ Step H w H' w' ∧ AL P ro ops rest ds (tput T o.dst x) H' Q) :
    AL P ro ops (o :: rest) ds T H Q := fun a w hs => by
  obtain ⟨v, w', x, H', hr, hx, hh, hst, hn⟩ := h a w hs
  refine wpListIn_plain hg fun K hK => ?_
  refine ⟨fun f _ => trivial, ?_⟩
  rw [Oper.semAt_eq _ _ _ hnd, hr]
  exact hK _ _ (wpListIn_mono (fun _ _ _ p => post.back hst p) (fun _ => trivial) _ _ _ (hn _ _ (hs.put hst hh hx)))

/-- One operation that hands nothing back. -/
theorem AL_opu {o : Oper} (hg : o.guard = none) (hnd : ∀ c, o.op ≠ .defer c)
    (h : ∀ a w, St P ds T H a w → ∃ w' H', (execOp a.eval o).run P w = .ok .skip w' ∧ HR P H' w' ∧ Step H w H' w' ∧ AL P ro ops rest ds (tput T o.dst (.v undef)) H' Q) :
    AL P ro ops (o :: rest) ds T H Q := fun a w hs => by
  obtain ⟨w', H', hr, hh, hst, hn⟩ := h a w hs
  refine wpListIn_plain hg fun K hK => ?_
  refine ⟨fun f _ => trivial, ?_⟩
  rw [Oper.semAt_eq _ _ _ hnd, hr]
  exact hK _ _ (wpListIn_mono (fun _ _ _ p => post.back hst p) (fun _ => trivial) _ _ _ (hn _ _ (hs.put hst hh (.v _))))

/-- What an operation gives that turns nothing. -/
def PV (P : Program) (o : Oper) (T : List AV) (H : AH) (x : AV) : Prop :=
  ∀ ds a w, St P ds T H a w → ∃ v, (execOp a.eval o).run P w = .ok (.value v) w ∧ VR P w H x v

theorem AL_pure {o : Oper} {x : AV} (hp : PV P o T H x) (hg : o.guard = none) (hnd : ∀ c, o.op ≠ .defer c) (h : AL P ro ops rest ds (tput T o.dst x) H Q) : AL P ro ops (o :: rest) ds T H Q :=
  AL_op hg hnd fun a w hs => let ⟨v, hr, hv⟩ := hp ds a w hs; ⟨v, w, x, H, hr, hv, hs.heap, .refl _ _, h⟩

/-- An operand. -/
def ev (T : List AV) : Operand → Option AV
  | .tmp t => T[t]?
  | .const (.slice none 0 0) => some (.own none 0 0)
  | .const x => some (.v x)
  | .global g => some (.v (.pointer (some ⟨g, 0, none⟩)))
  | .func f => some (.fn (.func f) [] [])

theorem St.ev {a : Act} {w : World} (hs : St P ds T H a w) {s : Operand} {x : AV} (hx : ev T s = some x) : VR P w H x (a.eval s) := by
  unfold Go.AL.ev at hx
  split at hx
  · exact hs.eval hx
  · injection hx with hx; subst hx; exact .ownNil none
  · injection hx with hx; subst hx; exact .v _
  · injection hx with hx; subst hx; exact .v _
  · injection hx with hx; subst hx
    exact .fn rfl rfl (fun k y u h => by simp at h) (fun k y u h => by simp at h)
theorem St.evv {a : Act} {w : World} (hs : St P ds T H a w) {s : Operand} {x : Value} (hx : Go.AL.ev T s = some (.v x)) : a.eval s = x := (hs.ev hx).v_inv

/-- An operand, seen as a value: a nil slice is also an empty slice that is read. -/
inductive EVR (T : List AV) : Operand → AV → Prop
  | ev {s : Operand} {x : AV} (h : Go.AL.ev T s = some x) : EVR T s x
  | nil {s : Operand} {e : TypeId} (h : Go.AL.ev T s = some (.own none 0 0)) : EVR T s (.sl e [])
theorem VR.nilsl {w : World} {u : Value} {e : TypeId} (h : VR P w H (.own none 0 0) u) : VR P w H (.sl e []) u := by
  cases h
  exact .sl (xs := []) (c := 0) (fun _ => undef) (by simp) (by simp) (fun k y h => by simp [flat] at h) (fun k y h => by simp [flat] at h)
theorem St.evr {a : Act} {w : World} (hs : St P ds T H a w) {s : Operand} {x : AV} (hx : EVR T s x) : VR P w H x (a.eval s) := by
  cases hx with
  | ev h => exact hs.ev h
  | nil h => exact (hs.ev h).nilsl
inductive EvL (T : List AV) : List Operand → List AV → Prop
  | nil : EvL T [] []
  | cons {s : Operand} {x : AV} {ss : List Operand} {xs : List AV} (h : EVR T s x) (hs : EvL T ss xs) : EvL T (s :: ss) (x :: xs)
theorem EvL.vals {a : Act} {w : World} (hst : St P ds T H a w) {ss : List Operand} {xs : List AV} (h : EvL T ss xs) :
    xs.length = ss.length ∧ ∀ (k : Nat) (x : AV) (o : Operand), xs[k]? = some x → ss[k]? = some o → VR P w H x (a.eval o) := by
  induction h with
  | nil => exact ⟨rfl, fun k x o h => by simp at h⟩
  | cons h hs ih =>
    refine ⟨by simp [ih.1], fun k x o hx ho => ?_⟩
    cases k with
    | zero => simp at hx ho; subst hx; subst ho; exact hst.evr h
    | succ k => exact ih.2 k x o (by simpa using hx) (by simpa using ho)
theorem EvL.args {a : Act} {w : World} (hst : St P ds T H a w) {args : Array Operand} {xs : List AV} (h : EvL T args.toList xs) :
    xs.length = (args.map a.eval).size ∧ ∀ (k : Nat) (x : AV) (u : Value), xs[k]? = some x → (args.map a.eval)[k]? = some u → VR P w H x u := by
  obtain ⟨h1, h2⟩ := h.vals hst
  refine ⟨by simpa using h1, fun k x u hx hu => ?_⟩
  rw [Array.getElem?_map] at hu
  cases ho : args[k]? with
  | none => simp [ho] at hu
  | some o =>
    rw [ho] at hu; simp at hu; subst hu
    exact h2 k x o hx (by simpa using ho)

section
variable {d : Option Tmp} {ty : TypeId} {pos : String} {af : Array Edge} {s s' : Operand} {x y : AV}

theorem PV_move (hx : ev T s = some x) : PV P ⟨d, .move s, ty, pos, af, none⟩ T H x := fun ds a w hs => ⟨_, by simp [execOp], hs.ev hx⟩
theorem PV_assign (hx : ev T s = some x) : PV P ⟨d, .assign s, ty, pos, af, none⟩ T H x := fun ds a w hs => ⟨_, by simp [execOp], hs.ev hx⟩
theorem PV_pick_true {c : Operand} (hc : ev T c = some (.v (.bool true))) (hx : ev T s = some x) : PV P ⟨d, .pick c s s', ty, pos, af, none⟩ T H x := fun ds a w hs => ⟨_, by simp [execOp, hs.evv hc, asBool], hs.ev hx⟩
theorem PV_pick_false {c : Operand} (hc : ev T c = some (.v (.bool false))) (hx : ev T s' = some x) : PV P ⟨d, .pick c s s', ty, pos, af, none⟩ T H x := fun ds a w hs => ⟨_, by simp [execOp, hs.evv hc, asBool], hs.ev hx⟩

theorem PV_extract {k : Nat} {xs : List AV} (hx : ev T s = some (.tup xs)) (hk : xs[k]? = some x) : PV P ⟨d, .extract s k, ty, pos, af, none⟩ T H x := fun ds a w hs => by
  have h := hs.ev hx
  generalize hu : a.eval s = u at h
  cases h with
  | tup hl hv =>
    rename_i vs
    have hlt : k < vs.size := by rw [← hl]; exact (List.getElem?_eq_some_iff.1 hk).1
    exact ⟨vs[k], by simp [execOp, Instr.extract, hlt, hu], hv k x _ hk (Array.getElem?_eq_getElem hlt)⟩

/-- Numbers. -/
theorem PV_bin {op : BinOp} {tx ty' : TypeId} {u v r : Value} (hx : ev T s = some (.v u)) (hy : ev T s' = some (.v v)) (h : ∀ w, (eqGuard op tx s s' u v).run P w = .ok () w ∧ (binOp op tx u v).run P w = .ok r w) :
    PV P ⟨d, .binOp op tx s s' ty', ty, pos, af, none⟩ T H (.v r) := fun ds a w hs => ⟨r, by simp [execOp, hs.evv hx, hs.evv hy, Sem.run_bind, (h w).1, (h w).2], .v _⟩
theorem PV_ibin {op : BinOp} {tx ty' : TypeId} {k : IntKind} {m n : Int} {r : Value} (hx : ev T s = some (.v (.int k m))) (hy : ev T s' = some (.v (.int k n))) (h : binOp op tx (.int k m) (.int k n) = pure r) :
    PV P ⟨d, .binOp op tx s s' ty', ty, pos, af, none⟩ T H (.v r) := PV_bin hx hy fun w => ⟨by unfold eqGuard; cases op <;> simp, by rw [h]; simp⟩
theorem PV_add {tx ty' : TypeId} {k : IntKind} {m n : Int} (hx : ev T s = some (.v (.int k m))) (hy : ev T s' = some (.v (.int k n))) : PV P ⟨d, .binOp .add tx s s' ty', ty, pos, af, none⟩ T H (.v (.int k (k.wrap (m + n)))) := PV_ibin hx hy (by simp [binOp, Op.intArith])
theorem PV_addz {tx ty' : TypeId} {k : IntKind} {m n : Int} (z : Int) (hx : ev T s = some (.v (.int k m))) (hy : ev T s' = some (.v (.int k n))) (hz : k.wrap (m + n) = z) : PV P ⟨d, .binOp .add tx s s' ty', ty, pos, af, none⟩ T H (.v (.int k z)) := hz ▸ PV_add hx hy
theorem PV_sub {tx ty' : TypeId} {k : IntKind} {m n : Int} (hx : ev T s = some (.v (.int k m))) (hy : ev T s' = some (.v (.int k n))) : PV P ⟨d, .binOp .sub tx s s' ty', ty, pos, af, none⟩ T H (.v (.int k (k.wrap (m - n)))) := PV_ibin hx hy (by simp [binOp, Op.intArith])
theorem PV_mul {tx ty' : TypeId} {k : IntKind} {m n : Int} (hx : ev T s = some (.v (.int k m))) (hy : ev T s' = some (.v (.int k n))) : PV P ⟨d, .binOp .mul tx s s' ty', ty, pos, af, none⟩ T H (.v (.int k (k.wrap (m * n)))) := PV_ibin hx hy (by simp [binOp, Op.intArith])
theorem PV_eql {tx ty' : TypeId} {k : IntKind} {m n : Int} (hx : ev T s = some (.v (.int k m))) (hy : ev T s' = some (.v (.int k n))) : PV P ⟨d, .binOp .eql tx s s' ty', ty, pos, af, none⟩ T H (.v (.bool (decide (m = n)))) := PV_ibin hx hy (by simp [binOp, Op.intCmp]; rfl)
theorem PV_neq {tx ty' : TypeId} {k : IntKind} {m n : Int} (hx : ev T s = some (.v (.int k m))) (hy : ev T s' = some (.v (.int k n))) : PV P ⟨d, .binOp .neq tx s s' ty', ty, pos, af, none⟩ T H (.v (.bool (decide (m ≠ n)))) := PV_ibin hx hy (by simp [binOp, Op.intCmp]; rfl)
theorem PV_lss {tx ty' : TypeId} {k : IntKind} {m n : Int} (hx : ev T s = some (.v (.int k m))) (hy : ev T s' = some (.v (.int k n))) : PV P ⟨d, .binOp .lss tx s s' ty', ty, pos, af, none⟩ T H (.v (.bool (decide (m < n)))) := PV_ibin hx hy (by simp [binOp, Op.intCmp])
theorem PV_leq {tx ty' : TypeId} {k : IntKind} {m n : Int} (hx : ev T s = some (.v (.int k m))) (hy : ev T s' = some (.v (.int k n))) : PV P ⟨d, .binOp .leq tx s s' ty', ty, pos, af, none⟩ T H (.v (.bool (decide (m ≤ n)))) := PV_ibin hx hy (by simp [binOp, Op.intCmp])
theorem PV_gtr {tx ty' : TypeId} {k : IntKind} {m n : Int} (hx : ev T s = some (.v (.int k m))) (hy : ev T s' = some (.v (.int k n))) : PV P ⟨d, .binOp .gtr tx s s' ty', ty, pos, af, none⟩ T H (.v (.bool (decide (n < m)))) := PV_ibin hx hy (by simp [binOp, Op.intCmp])
theorem PV_geq {tx ty' : TypeId} {k : IntKind} {m n : Int} (hx : ev T s = some (.v (.int k m))) (hy : ev T s' = some (.v (.int k n))) : PV P ⟨d, .binOp .geq tx s s' ty', ty, pos, af, none⟩ T H (.v (.bool (decide (n ≤ m)))) := PV_ibin hx hy (by simp [binOp, Op.intCmp])
end
end ops
end Go.AL

/- More operations: fields, memory, slices, strings. -/
set_option autoImplicit false
set_option linter.unusedVariables false
set_option linter.unusedSimpArgs false
namespace Go.AL
open Go Go.RowKit

def szOf (P : Program) (t : TypeId) : Option Nat := (P.info? t).map (·.size)
def aggOf (P : Program) (t : TypeId) : Option Bool := (P.underlying t).map fun | .struct _ => true | .array .. => true | _ => false
def fldOf (P : Program) (t : TypeId) (f : Nat) : Option (TypeId × Nat) :=
  match P.underlying t with
  | some (.struct fs) => (fs[f]?).map fun x => (x.type, x.offset)
  | _ => none

theorem szOf_cells {P : Program} {t : TypeId} {n : Nat} (h : szOf P t = some n) : P.cellsOf t = n := by simp only [szOf] at h; simp [Program.cellsOf, h]
theorem run_sizeOf' {P : Program} {t : TypeId} {n : Nat} (h : szOf P t = some n) (w : World) : (sizeOf t).run P w = .ok n w := by
  unfold szOf at h
  cases hi : P.info? t with
  | none => simp [hi] at h
  | some i => simp [hi] at h; simp [sizeOf, typeInfo, program, Sem.run, hi, h]
theorem run_isAgg' {P : Program} {t : TypeId} {b : Bool} (h : aggOf P t = some b) (w : World) : (isAgg t).run P w = .ok b w := by
  unfold aggOf at h
  cases hu : P.underlying t with
  | none => simp [hu] at h
  | some u =>
    rw [hu] at h
    simp only [isAgg, Sem.run_bind, run_underlying hu, Result.andThen_ok]
    cases u <;> simp at h <;> subst h <;> simp

/-- A part of a value: off cells in, of n cells. -/
def subAV (agg : Bool) (n : Nat) (x : AV) (off : Nat) : Option AV :=
  if agg then (if off + n ≤ x.cells.length then some (.ag ((x.cells.drop off).take n)) else none) else x.cells[off]?

theorem VR.agg_inv {P : Program} {w : World} {H : AH} {cs : List AV} {u : Value} (h : VR P w H (.ag cs) u) :
    ∃ vs : Array Value, u = .agg vs ∧ cs.length = vs.size ∧ ∀ (k : Nat) (y : AV) (u : Value), cs[k]? = some y → vs[k]? = some u → VR P w H y u := by
  cases h with | ag hl hv => exact ⟨_, rfl, hl, hv⟩

theorem run_part {P : Program} {w : World} {H : AH} {t : TypeId} {b : Bool} {n off : Nat} {cs : List AV} {vs : Array Value} {y : AV} (ha : aggOf P t = some b) (hs : szOf P t = some n)
    (hl : cs.length = vs.size) (hv : ∀ (k : Nat) (y : AV) (u : Value), cs[k]? = some y → vs[k]? = some u → VR P w H y u) (hy : subAV b n (.ag cs) off = some y) (w' : World) :
    ∃ v, (part t vs off).run P w' = .ok v w' ∧ VR P w H y v := by
  unfold subAV at hy
  simp only [part, Sem.run_bind, run_isAgg' ha, Result.andThen_ok]
  cases b with
  | true =>
    simp only [if_true] at hy ⊢
    split at hy
    · rename_i hle
      injection hy with hy
      subst hy
      simp only [AV.cells] at hle ⊢
      refine ⟨.agg (vs.extract off (off + n)), by simp [run_sizeOf' hs], .ag (by simp; omega) fun k y u hk hu => ?_⟩
      rw [List.getElem?_take] at hk
      split at hk
      · rename_i hkn
        rw [List.getElem?_drop] at hk
        rw [Array.getElem?_extract] at hu
        split at hu
        · exact hv _ _ _ hk hu
        · cases hu
      · cases hk
    · cases hy
  | false =>
    simp only [Bool.false_eq_true, if_false] at hy ⊢
    simp only [AV.cells] at hy
    have hlt : off < vs.size := by rw [← hl]; exact (List.getElem?_eq_some_iff.1 hy).1
    exact ⟨vs[off], by simp [hlt], hv off y _ hy (Array.getElem?_eq_getElem hlt)⟩

section ops
variable {P : Program} {ro : Option Nat} {ds : List Deferred} {T : List AV} {H : AH} {Q : Post} {ops : Array Oper} {rest : List Oper}
variable {d : Option Tmp} {ty : TypeId} {pos : String} {af : Array Edge} {s s' : Operand} {x y : AV}

theorem PV_field {tx ft : TypeId} {f off n : Nat} {b : Bool} {cs : List AV} (hx : ev T s = some (.ag cs)) (hf : fldOf P tx f = some (ft, off)) (ha : aggOf P ft = some b) (hs : szOf P ft = some n) (hy : subAV b n (.ag cs) off = some y) :
    PV P ⟨d, .field tx s f, ty, pos, af, none⟩ T H y := fun ds a w hst => by
  obtain ⟨vs, hu, hl, hv⟩ := (hst.ev hx).agg_inv
  unfold fldOf at hf
  cases hun : P.underlying tx with
  | none => simp [hun] at hf
  | some u =>
    rw [hun] at hf
    cases u with
    | struct fs =>
      simp only [Option.map_eq_some_iff] at hf
      obtain ⟨fl, hfl, hfe⟩ := hf
      injection hfe with h1 h2
      subst h1; subst h2
      obtain ⟨v, hr, hvr⟩ := run_part ha hs hl hv hy w
      exact ⟨v, by simp [execOp, Instr.field, run_underlying hun, hfl, hu, asAgg, hr], hvr⟩
    | _ => simp at hf

theorem PV_not {b : Bool} {tx : TypeId} (hx : ev T s = some (.v (.bool b))) : PV P ⟨d, .unOp .not tx s, ty, pos, af, none⟩ T H (.v (.bool (!b))) := fun ds a w hst =>
  ⟨_, by simp [execOp, hst.evv hx, Op.unary], .v _⟩
theorem PV_neg {k : IntKind} {n : Int} {tx : TypeId} (hx : ev T s = some (.v (.int k n))) : PV P ⟨d, .unOp .neg tx s, ty, pos, af, none⟩ T H (.v (.int k (k.wrap (0 - n)))) := fun ds a w hst =>
  ⟨_, by simp [execOp, hst.evv hx, Op.unary, Op.intArith], .v _⟩

theorem PV_makeFunc {fn : Fn} {first captured : Array Operand} {xs ys : List AV} (h1 : EvL T first.toList xs) (h2 : EvL T captured.toList ys) :
    PV P ⟨d, .makeFunc fn first captured, ty, pos, af, none⟩ T H (.fn fn xs ys) := fun ds a w hst => by
  obtain ⟨l1, v1⟩ := h1.args hst
  obtain ⟨l2, v2⟩ := h2.args hst
  exact ⟨_, by simp [execOp, Instr.makeFunc], .fn l1 l2 v1 v2⟩

/-- Pointers. -/
theorem run_fieldPlace {a : Addr} {f : Field} {n : Nat} (hs : szOf P f.type = some n) (h0 : n ≠ 0) (w : World) : (fieldPlace a f).run P w = .ok (a.add f.offset) w := by
  simp [fieldPlace, run_sizeOf' hs, h0]

theorem addr_add (b o k : Nat) : (⟨b, o, none⟩ : Addr).add k = ⟨b, o + k, none⟩ := by unfold Addr.add; split <;> simp_all

theorem run_fieldAt {tx ft : TypeId} {f off n : Nat} (hf : fldOf P tx f = some (ft, off)) (hs : szOf P ft = some n) (h0 : n ≠ 0) (a : Addr) (w : World) :
    (Instr.fieldAt tx (.pointer (some a)) f).run P w = .ok (.pointer (some (a.add off))) w := by
  unfold fldOf at hf
  cases hun : P.underlying tx with
  | none => simp [hun] at hf
  | some u =>
    rw [hun] at hf
    cases u with
    | struct fs =>
      simp only [Option.map_eq_some_iff] at hf
      obtain ⟨fl, hfl, hfe⟩ := hf
      injection hfe with h1 h2
      subst h1; subst h2
      simp [Instr.fieldAt, run_underlying hun, hfl, Instr.sureAddr, run_fieldPlace hs h0]
    | _ => simp at hf

theorem PV_fieldAddr_pt {tx ft : TypeId} {f off n b i sz o : Nat} (hx : ev T s = some (.pt b i sz o)) (hf : fldOf P tx f = some (ft, off)) (hs : szOf P ft = some n) (h0 : n ≠ 0) :
    PV P ⟨d, .fieldAddr tx s f, ty, pos, af, none⟩ T H (.pt b i sz (o + off)) := fun ds a w hst => by
  have h := hst.ev hx
  generalize hu : a.eval s = u at h
  cases h
  exact ⟨.pointer (some ⟨b, i * sz + (o + off), none⟩), by simp [execOp, hu, run_fieldAt hf hs h0, addr_add, Nat.add_assoc], .pt b i sz (o + off)⟩

theorem add_add (a : Addr) (i j : Nat) : (a.add i).add j = a.add (i + j) := by
  unfold Addr.add
  by_cases h1 : i = 0 <;> by_cases h2 : j = 0 <;> simp [h1, h2, Nat.add_assoc]

theorem PV_fieldAddr_rp {tx ft : TypeId} {f off n : Nat} {b : Bool} {cs : List AV} (hx : ev T s = some (.rp tx (.ag cs))) (hf : fldOf P tx f = some (ft, off)) (ha : aggOf P ft = some b) (hs : szOf P ft = some n) (h0 : n ≠ 0)
    (hy : subAV b n (.ag cs) off = some y) (hb : b = false → y.cells = [y]) (hn : b = false → n = 1) :
    PV P ⟨d, .fieldAddr tx s f, ty, pos, af, none⟩ T H (.rp ft y) := fun ds a w hst => by
  have h := hst.ev hx
  generalize hu : a.eval s = u at h
  cases h with
  | rp U hs' hcell hv =>
    rename_i p
    have key : y.cells.length = n ∧ ∀ (k : Nat) (z : AV), y.cells[k]? = some z → cs[off + k]? = some z := by
      unfold subAV at hy
      cases b with
      | true =>
        simp only [if_true] at hy
        split at hy
        · rename_i hle
          injection hy with hy
          subst hy
          simp only [AV.cells] at hle ⊢
          refine ⟨by simp; omega, fun k z hz => ?_⟩
          rw [List.getElem?_take] at hz
          split at hz
          · rw [List.getElem?_drop] at hz; exact hz
          · cases hz
        · cases hy
      | false =>
        simp only [Bool.false_eq_true, if_false, AV.cells] at hy
        rw [hb rfl, hn rfl]
        refine ⟨rfl, fun k z hz => ?_⟩
        cases k with
        | zero => simp at hz; subst hz; exact hy
        | succ k => simp at hz
    refine ⟨.pointer (some (p.add off)), by simp [execOp, hu, run_fieldAt hf hs h0], .rp (fun k => U (off + k)) (by rw [key.1, szOf_cells hs]) (fun k z hz => ?_) (fun k z hz => hv _ _ (key.2 k z hz))⟩
    obtain ⟨h1, h2⟩ := hcell (off + k) z (key.2 k z hz)
    exact ⟨by rw [add_block]; exact h1, by rw [add_add]; exact h2⟩

theorem run_loadCells_of {a : Addr} {w : World} (U : Nat → Value) : ∀ (n i : Nat) (acc : Array Value), (∀ k, i ≤ k → k < i + n → w.cell? (a.add k) = some (U k)) →
    (loadCellsFrom a i n acc).run P w = .ok (acc ++ ((List.range n).map fun k => U (i + k)).toArray) w := by
  intro n
  induction n with
  | zero => intro i acc _; simp [loadCellsFrom]
  | succ n ih =>
    intro i acc h
    have h0 := h i (Nat.le_refl _) (by omega)
    simp only [loadCellsFrom, Sem.run_bind]
    have hl : (load (a.add i)).run P w = .ok (U i) w := by simp [load, Sem.run, h0]
    rw [hl]
    simp only [Result.andThen_ok]
    rw [ih (i + 1) _ (fun k h1 h2 => h k (by omega) (by omega))]
    congr 1
    rw [List.range_succ_eq_map]
    simp [Function.comp_def, Nat.add_assoc, Nat.add_comm 1]

theorem run_loadVar_of {t : TypeId} {b : Bool} {n : Nat} (ha : aggOf P t = some b) (hs : szOf P t = some n) (hb : b = false → n = 1) {a : Addr} {w : World} (U : Nat → Value) (h : ∀ k, k < n → w.cell? (a.add k) = some (U k)) :
    (loadVar t a).run P w = .ok (if b then .agg ((List.range n).map U).toArray else U 0) w := by
  simp only [loadVar, Sem.run_bind, run_isAgg' ha, Result.andThen_ok]
  cases b with
  | true =>
    simp only [if_true, Sem.run_bind, run_sizeOf' hs, Result.andThen_ok, loadCells]
    rw [run_loadCells_of U n 0 #[] (fun k _ hk => h k (by omega))]
    simp
  | false =>
    simp only [Bool.false_eq_true, if_false]
    have h0 := h 0 (by have := hb rfl; omega)
    rw [show a.add 0 = a by simp [Addr.add]] at h0
    simp [load, Sem.run, h0]

def AV.isAg : AV → Bool
  | .ag _ => true
  | _ => false
theorem AV.cells_of_not {x : AV} (h : x.isAg = false) : x.cells = [x] := by cases x <;> first | rfl | simp [AV.isAg] at h
theorem AV.of_isAg {x : AV} (h : x.isAg = true) : x = .ag x.cells := by cases x <;> first | rfl | simp [AV.isAg] at h

/-- What is loaded, put together out of its cells. -/
theorem VR.of_cells {w : World} {n : Nat} (U : Nat → Value) (hl : x.cells.length = n) (hv : ∀ (k : Nat) (y : AV), x.cells[k]? = some y → VR P w H y (U k)) :
    VR P w H x (if x.isAg then .agg ((List.range n).map U).toArray else U 0) := by
  cases hx : x.isAg with
  | true =>
    rw [if_pos rfl]
    rw [AV.of_isAg hx] at hl ⊢
    refine .ag (by simp; simpa [AV.cells] using hl) fun k y u hk hu => ?_
    have hk' : x.cells[k]? = some y := hk
    have hlt : k < n := by rw [← hl]; exact (List.getElem?_eq_some_iff.1 hk').1
    have hu' : U k = u := by simpa [hlt] using hu
    rw [← hu']; exact hv k y hk'
  | false =>
    rw [AV.cells_of_not hx] at hv
    exact hv 0 x rfl

theorem PV_load_rp {t : TypeId} {n : Nat} (hx : ev T s = some (.rp t x)) (ha : aggOf P t = some x.isAg) (hs : szOf P t = some n) :
    PV P ⟨d, .load t s, ty, pos, af, none⟩ T H x := fun ds a w hst => by
  have h := hst.ev hx
  generalize hu : a.eval s = u at h
  cases h with
  | rp U hs' hcell hv =>
    rename_i p
    rw [szOf_cells hs] at hs'
    refine ⟨_, ?_, VR.of_cells U hs' hv⟩
    have := run_loadVar_of ha hs (fun hb => by rw [AV.cells_of_not hb] at hs'; simpa using hs'.symm) (a := p) (w := w) U (fun k hk => by
      have hk' : k < x.cells.length := by omega
      exact (hcell k _ (List.getElem?_eq_getElem hk')).2)
    simp [execOp, hu, Instr.loadAt, Instr.sureAddr, this]

/-- Cells of a row of elements of one size. -/
theorem flat_at : ∀ (xs : List AV) (sz : Nat), (∀ x ∈ xs, x.cells.length = sz) → ∀ (i : Nat) (x : AV), xs[i]? = some x → ∀ (k : Nat) (y : AV), x.cells[k]? = some y → (flat xs)[i * sz + k]? = some y := by
  intro xs
  induction xs with
  | nil => intro sz _ i x h; simp at h
  | cons z xs ih =>
    intro sz hs i x hx k y hy
    have hz : z.cells.length = sz := hs z (by simp)
    simp only [flat, List.flatMap_cons]
    cases i with
    | zero =>
      simp at hx; subst hx
      rw [Nat.zero_mul, Nat.zero_add, List.getElem?_append_left (List.getElem?_eq_some_iff.1 hy).1]; exact hy
    | succ i =>
      have hx' : xs[i]? = some x := by simpa using hx
      have := ih sz (fun x hx => hs x (by simp [hx])) i x hx' k y hy
      rw [List.getElem?_append_right (by rw [hz, Nat.succ_mul]; omega), hz]
      rw [show (i + 1) * sz + k - sz = i * sz + k by rw [Nat.succ_mul]; omega]
      exact this

theorem flat_length (xs : List AV) (sz : Nat) (h : ∀ x ∈ xs, x.cells.length = sz) : (flat xs).length = xs.length * sz := by
  induction xs with
  | nil => simp [flat]
  | cons z xs ih =>
    have := ih (fun x hx => h x (by simp [hx]))
    simp only [flat, List.flatMap_cons, List.length_append, List.length_cons, Nat.succ_mul] at this ⊢
    rw [this, h z (by simp)]; omega

/-- Loads out of a block of our own. -/
theorem PV_load_pt {t e : TypeId} {b i sz o n c : Nat} {bg : Bool} {xs : List AV} (hx : ev T s = some (.pt b i sz o)) (hH : H b = some (.row e c xs)) (he : szOf P e = some sz) (hi : xs[i]? = some x) (ha : aggOf P t = some bg) (hs : szOf P t = some n)
    (hy : subAV bg n x o = some y) (hb : y.isAg = bg) (hn : bg = false → n = 1) : PV P ⟨d, .load t s, ty, pos, af, none⟩ T H y := fun ds a w hst => by
  have h := hst.ev hx
  generalize hu : a.eval s = u at h
  cases h
  obtain ⟨cs, fr, hbk, hsz, hfr, hc, hel, hv⟩ := hst.heap b _ hH
  rw [szOf_cells he] at hel
  have key : y.cells.length = n ∧ ∀ (k : Nat) (z : AV), y.cells[k]? = some z → x.cells[o + k]? = some z := by
    unfold subAV at hy
    cases bg with
    | true =>
      simp only [if_true] at hy
      split at hy
      · rename_i hle
        injection hy with hy
        subst hy
        refine ⟨by show ((x.cells.drop o).take n).length = n; rw [List.length_take, List.length_drop]; omega, fun k z hz => ?_⟩
        replace hz : ((x.cells.drop o).take n)[k]? = some z := hz
        rw [List.getElem?_take] at hz
        split at hz
        · rw [List.getElem?_drop] at hz; exact hz
        · cases hz
      · cases hy
    | false =>
      simp only [Bool.false_eq_true, if_false] at hy
      rw [AV.cells_of_not hb, hn rfl]
      refine ⟨rfl, fun k z hz => ?_⟩
      cases k with
      | zero => simp at hz; subst hz; exact hy
      | succ k => simp at hz
  have hcell : ∀ k z, y.cells[k]? = some z → ∃ u, w.cell? ((⟨b, i * sz + o, none⟩ : Addr).add k) = some u ∧ VR P w H z u := by
    intro k z hz
    obtain ⟨u, hu1, hu2⟩ := hv _ _ (flat_at xs sz hel i x hi (o + k) z (key.2 k z hz))
    refine ⟨u, ?_, hu2⟩
    rw [addr_add]
    simp only [World.cell?, hbk]
    rw [show i * sz + o + k = i * sz + (o + k) by omega]
    simpa using hu1
  have hU : ∃ U : Nat → Value, ∀ k z, y.cells[k]? = some z → w.cell? ((⟨b, i * sz + o, none⟩ : Addr).add k) = some (U k) ∧ VR P w H z (U k) := by
    refine ⟨fun k => (w.cell? ((⟨b, i * sz + o, none⟩ : Addr).add k)).getD undef, fun k z hz => ?_⟩
    obtain ⟨u, h1, h2⟩ := hcell k z hz
    show w.cell? _ = some ((w.cell? _).getD undef) ∧ VR P w H z ((w.cell? _).getD undef)
    rw [h1]; exact ⟨rfl, h2⟩
  obtain ⟨U, hU⟩ := hU
  refine ⟨_, ?_, VR.of_cells U key.1 (fun k z hz => (hU k z hz).2)⟩
  have := run_loadVar_of ha hs hn (a := ⟨b, i * sz + o, none⟩) (w := w) U (fun k hk => by
    have hk' : k < y.cells.length := by omega
    exact (hU k _ (List.getElem?_eq_getElem hk')).1)
  simp [execOp, hu, Instr.loadAt, Instr.sureAddr, this, hb]
end ops
end Go.AL

/- Memory that is written: stores, new blocks, append. -/
set_option autoImplicit false
set_option linter.unusedVariables false
set_option linter.unusedSimpArgs false
namespace Go.AL
open Go Go.RowKit

/-- One cell's value. -/
def AV.one : AV → Bool
  | .v (.agg _) => false
  | .v (.tuple _) => false
  | .ag _ => false
  | .tup _ => false
  | .any => false
  | _ => true
theorem VR.one {P : Program} {w : World} {H : AH} {x : AV} {u : Value} (h : VR P w H x u) (h1 : x.one = true) : u.oneCell' = true := by
  cases h with
  | v => cases u <;> first | rfl | simp [AV.one] at h1
  | any => simp [AV.one] at h1
  | ag => simp [AV.one] at h1
  | tup => simp [AV.one] at h1
  | _ => rfl

/-- Only block b differs; blocks may be new. -/
structure But (b : Nat) (w w' : World) : Prop where
  os : w'.os = w.os
  tape : w'.tape = w.tape
  output : w'.output = w.output
  size : w.heap.size ≤ w'.heap.size
  block : ∀ k, k < w.heap.size → k ≠ b → w'.heap[k]? = w.heap[k]?
theorem But.refl (b : Nat) (w : World) : But b w w := ⟨rfl, rfl, rfl, Nat.le_refl _, fun _ _ _ => rfl⟩

theorem setCells_row {b : Nat} {e : TypeId} {fr : Nat × Nat} : ∀ (vs : List Value) (o : Nat) (w : World) (cs : Array Value), w.heap[b]? = some (.cells cs e fr) →
    ∃ cs', (w.setCells b o vs).heap[b]? = some (.cells cs' e fr) ∧ cs'.size = cs.size ∧ (∀ k : Nat, (k < o ∨ o + vs.length ≤ k) → cs'[k]? = cs[k]?) ∧ (∀ (j : Nat) (u : Value), vs[j]? = some u → o + j < cs.size → cs'[o + j]? = some u) ∧ But b w (w.setCells b o vs) ∧ (w.setCells b o vs).heap.size = w.heap.size := by
  intro vs
  induction vs with
  | nil => exact fun o w cs h => ⟨cs, h, rfl, fun _ _ => rfl, fun j u hu => by simp at hu, .refl _ _, rfl⟩
  | cons v vs ih =>
    intro o w cs h
    have h1 : (w.setCell ⟨b, o, none⟩ v).heap[b]? = some (.cells (cs.setIfInBounds o v) e fr) := by simp [World.setCell, Array.getElem?_modify, h]
    obtain ⟨cs', h2, h3, h4, h5, h6, h7⟩ := ih (o + 1) _ _ h1
    refine ⟨cs', h2, by simpa using h3, fun k hk => ?_, fun j u hu hlt => ?_, ⟨h6.os, h6.tape, h6.output, by show w.heap.size ≤ ((w.setCell ⟨b, o, none⟩ v).setCells b (o + 1) vs).heap.size; rw [h7]; simp [World.setCell], fun k hk hne => ?_⟩, ?_⟩
    · rw [h4 k (by simp at hk; omega), Array.getElem?_setIfInBounds, if_neg (by simp at hk; omega)]
    · cases j with
      | zero =>
        simp at hu; subst hu
        rw [Nat.add_zero, h4 o (by omega), Array.getElem?_setIfInBounds, if_pos rfl, if_pos (by omega)]
      | succ j =>
        have := h5 j u (by simpa using hu) (by simp; omega)
        rwa [show o + (j + 1) = o + 1 + j by omega]
    · rw [show (w.setCells b o (v :: vs)).heap[k]? = _ from h6.block k (by simpa [World.setCell] using hk) hne]
      simp [World.setCell, Array.getElem?_modify, Ne.symm hne]
    · rw [show (w.setCells b o (v :: vs)).heap.size = _ from h7]; simp [World.setCell]

/-- A row's cells put anew. -/
def putAV (x : AV) (o : Nat) (y : AV) : AV :=
  match x with
  | .ag cs => .ag (cs.take o ++ y.cells ++ cs.drop (o + y.cells.length))
  | _ => y

theorem Step.of_but {H H' : AH} {b : Nat} {w w' : World} (h : But b w w') (hb : H b ≠ none) (hn : ∀ k, k < w.heap.size → H k = none → H' k = none) : Step H w H' w' :=
  ⟨h.os, h.tape, h.output, h.size, fun k hk hk0 => ⟨h.block k hk (fun e => hb (e ▸ hk0)), hn k hk hk0⟩⟩

/-- What is not the block turned goes on. -/
theorem HR.of_but {P : Program} {H H' : AH} {b : Nat} {w w' : World} (hh : HR P H w) (h : But b w w') (hs : Step H w H' w') (hother : ∀ k o, k ≠ b → H' k = some o → H k = some o) (hb : ∀ o, H' b = some o → OR P H' w' b o) : HR P H' w' := by
  intro k o hk
  by_cases he : k = b
  · subst he; exact hb o hk
  · have h0 := hh k o (hother k o he hk)
    exact h0.keep hs (h.block k h0.lt he)

section ops
variable {P : Program} {ro : Option Nat} {ds : List Deferred} {T : List AV} {H : AH} {Q : Post} {ops : Array Oper} {rest : List Oper}
variable {d : Option Tmp} {ty : TypeId} {pos : String} {af : Array Edge} {s s' : Operand} {x y : AV}

theorem VR.cells_of {w : World} {u : Value} (h : VR P w H y u) (hne : y ≠ .any) (hv : ∀ cs, y ≠ .v (.agg cs)) (ht : ∀ cs, y ≠ .tup cs) :
    u.cells.toList.length = y.cells.length ∧ ∀ (k : Nat) (z : AV) (v : Value), y.cells[k]? = some z → u.cells.toList[k]? = some v → VR P w H z v := by
  cases h with
  | any => exact absurd rfl hne
  | ag hl' hw => exact ⟨by simpa [AV.cells, Value.cells] using hl'.symm, fun k z v hz hv' => hw k z v hz (by simpa [Value.cells] using hv')⟩
  | tup hl' hw => exact absurd rfl (ht _)
  | v =>
    have : ∀ cs, u ≠ .agg cs := fun cs e => hv cs (by rw [e])
    have hc : u.cells = #[u] := by cases u <;> first | rfl | exact absurd rfl (this _)
    rw [hc]
    refine ⟨rfl, fun k z v hz hv' => ?_⟩
    cases k with
    | zero => simp [AV.cells] at hz hv'; subst hz; subst hv'; exact .v _
    | succ k => simp [AV.cells] at hz
  | sl U a b c e =>
    refine ⟨rfl, fun k z v hz hv' => ?_⟩
    cases k with
    | zero => simp [AV.cells, Value.cells] at hz hv'; subst hz; subst hv'; exact .sl U a b c e
    | succ k => simp [AV.cells] at hz
  | own b c n =>
    refine ⟨rfl, fun k z v hz hv' => ?_⟩
    cases k with
    | zero => simp [AV.cells, Value.cells] at hz hv'; subst hz; subst hv'; exact .own b c n
    | succ k => simp [AV.cells] at hz
  | ownNil A =>
    refine ⟨rfl, fun k z v hz hv' => ?_⟩
    cases k with
    | zero => simp [AV.cells, Value.cells] at hz hv'; subst hz; subst hv'; exact .ownNil A
    | succ k => simp [AV.cells] at hz
  | part b z' o c n =>
    refine ⟨rfl, fun k z v hz hv' => ?_⟩
    cases k with
    | zero => simp [AV.cells, Value.cells] at hz hv'; subst hz; subst hv'; exact .part b z' o c n
    | succ k => simp [AV.cells] at hz
  | pt b i s o =>
    refine ⟨rfl, fun k z v hz hv' => ?_⟩
    cases k with
    | zero => simp [AV.cells, Value.cells] at hz hv'; subst hz; subst hv'; exact .pt b i s o
    | succ k => simp [AV.cells] at hz
  | rp U a b c =>
    refine ⟨rfl, fun k z v hz hv' => ?_⟩
    cases k with
    | zero => simp [AV.cells, Value.cells] at hz hv'; subst hz; subst hv'; exact .rp U a b c
    | succ k => simp [AV.cells] at hz
  | fn a b c e =>
    refine ⟨rfl, fun k z v hz hv' => ?_⟩
    cases k with
    | zero => simp [AV.cells, Value.cells] at hz hv'; subst hz; subst hv'; exact .fn a b c e
    | succ k => simp [AV.cells] at hz

/-- A value that may lie in memory. -/
def AV.mem (y : AV) : Bool := y.cells.all AV.one
theorem AV.mem_ne {y : AV} (h : y.mem = true) : y ≠ .any ∧ (∀ cs, y ≠ .v (.agg cs)) ∧ ∀ cs, y ≠ .tup cs := by
  refine ⟨?_, ?_, ?_⟩
  · rintro rfl; simp [AV.mem, AV.cells, AV.one] at h
  · rintro cs rfl; simp [AV.mem, AV.cells, AV.one] at h
  · rintro cs rfl; simp [AV.mem, AV.cells, AV.one] at h

theorem VR.mem_cells {w : World} {u : Value} (h : VR P w H y u) (hm : y.mem = true) :
    u.cells.toList.length = y.cells.length ∧ (∀ (k : Nat) (z : AV) (v : Value), y.cells[k]? = some z → u.cells.toList[k]? = some v → VR P w H z v) ∧ ∀ v ∈ u.cells.toList, v.oneCell' = true := by
  obtain ⟨h1, h2, h3⟩ := AV.mem_ne hm
  obtain ⟨hl, hv⟩ := h.cells_of h1 h2 h3
  refine ⟨hl, hv, fun v hmem => ?_⟩
  obtain ⟨k, hk, rfl⟩ := List.mem_iff_getElem.1 hmem
  have hk' : k < y.cells.length := by omega
  have := hv k _ _ (List.getElem?_eq_getElem hk') (List.getElem?_eq_getElem hk)
  refine this.one ?_
  simp only [AV.mem, List.all_eq_true] at hm
  exact hm _ (List.getElem_mem hk')

theorem flat_set : ∀ (xs : List AV) (sz : Nat), (∀ x ∈ xs, x.cells.length = sz) → ∀ (i : Nat) (x z : AV), xs[i]? = some x → z.cells.length = sz → ∀ (k : Nat) (y : AV), (flat (xs.set i z))[k]? = some y →
    (i * sz ≤ k ∧ k < i * sz + sz ∧ z.cells[k - i * sz]? = some y) ∨ ((k < i * sz ∨ i * sz + sz ≤ k) ∧ (flat xs)[k]? = some y) := by
  intro xs
  induction xs with
  | nil => intro sz _ i x z h; simp at h
  | cons q xs ih =>
    intro sz hs i x z hx hz k y hy
    have hq : q.cells.length = sz := hs q (by simp)
    cases i with
    | zero =>
      simp only [List.set_cons_zero, flat, List.flatMap_cons] at hy ⊢
      by_cases hk : k < sz
      · left; rw [List.getElem?_append_left (by omega)] at hy; exact ⟨by omega, by omega, by simpa using hy⟩
      · right; rw [List.getElem?_append_right (by omega)] at hy; rw [List.getElem?_append_right (by omega), hq]; rw [hz] at hy; exact ⟨by omega, hy⟩
    | succ i =>
      simp only [List.set_cons_succ, flat, List.flatMap_cons] at hy ⊢
      by_cases hk : k < sz
      · right; rw [List.getElem?_append_left (by omega)] at hy ⊢; exact ⟨by rw [Nat.succ_mul]; omega, hy⟩
      · rw [List.getElem?_append_right (by omega), hq] at hy
        rw [List.getElem?_append_right (by omega), hq, Nat.succ_mul]
        rcases ih sz (fun x hx => hs x (by simp [hx])) i x z (by simpa using hx) hz (k - sz) y hy with ⟨h1, h2, h3⟩ | ⟨h1, h2⟩
        · left; exact ⟨by omega, by omega, by rw [show k - (i * sz + sz) = k - sz - i * sz by omega]; exact h3⟩
        · right; exact ⟨by omega, h2⟩

theorem putAV_cells {n o : Nat} (hm : y.cells.length = n) (ho : o + n ≤ x.cells.length) (hx : x.isAg = false → o = 0 ∧ n = 1 ∧ y.isAg = false) :
    (putAV x o y).cells.length = x.cells.length ∧ ∀ (k : Nat) (z : AV), (putAV x o y).cells[k]? = some z → (o ≤ k ∧ k < o + n ∧ y.cells[k - o]? = some z) ∨ ((k < o ∨ o + n ≤ k) ∧ x.cells[k]? = some z) := by
  cases hxa : x.isAg with
  | true =>
    rw [AV.of_isAg hxa] at ho ⊢
    generalize x.cells = cs at ho ⊢
    replace ho : o + n ≤ cs.length := ho
    show (cs.take o ++ y.cells ++ cs.drop (o + y.cells.length)).length = cs.length ∧ ∀ (k : Nat) (z : AV), (cs.take o ++ y.cells ++ cs.drop (o + y.cells.length))[k]? = some z → (o ≤ k ∧ k < o + n ∧ y.cells[k - o]? = some z) ∨ ((k < o ∨ o + n ≤ k) ∧ cs[k]? = some z)
    refine ⟨by simp only [List.length_append, List.length_take, List.length_drop, hm]; omega, fun k z hz => ?_⟩
    rw [List.append_assoc] at hz
    by_cases h1 : k < o
    · right; rw [List.getElem?_append_left (by simp; omega), List.getElem?_take, if_pos h1] at hz; exact ⟨by omega, hz⟩
    · rw [List.getElem?_append_right (by simp; omega)] at hz
      have hlen : (List.take o cs).length = o := by simp; omega
      rw [hlen] at hz
      by_cases h2 : k < o + n
      · left; rw [List.getElem?_append_left (by omega)] at hz; exact ⟨by omega, h2, hz⟩
      · right
        rw [List.getElem?_append_right (by omega), List.getElem?_drop, hm] at hz
        rw [show o + n + (k - o - n) = k by omega] at hz
        exact ⟨by omega, hz⟩
  | false =>
    obtain ⟨rfl, rfl, hy⟩ := hx hxa
    have hp : putAV x 0 y = y := by cases x <;> first | rfl | simp [AV.isAg] at hxa
    rw [hp, hm, AV.cells_of_not hxa]
    refine ⟨rfl, fun k z hz => ?_⟩
    left
    have := (List.getElem?_eq_some_iff.1 hz).1
    exact ⟨by omega, by omega, by simpa using hz⟩

theorem AL_store {t e : TypeId} {b i sz o n c : Nat} {xs : List AV} (hp : ev T s = some (.pt b i sz o)) (hy : EVR T s' y) (hm : y.mem = true) (hH : H b = some (.row e c xs)) (he : szOf P e = some sz) (hi : xs[i]? = some x) (hs : szOf P t = some n)
    (hyn : y.cells.length = n) (ho : o + n ≤ sz) (hx : x.isAg = false → o = 0 ∧ n = 1 ∧ y.isAg = false)
    (h : AL P ro ops rest ds (tput T d (.v undef)) (H.upd b (some (.row e c (xs.set i (putAV x o y))))) Q) : AL P ro ops (⟨d, .store t s s', ty, pos, af, none⟩ :: rest) ds T H Q := by
  refine AL_opu rfl (fun _ => by simp) fun a w hst => ?_
  have hpv := hst.ev hp
  generalize hu : a.eval s = u at hpv
  cases hpv
  have hyv := hst.evr hy
  obtain ⟨hl, hv, h1⟩ := hyv.mem_cells hm
  obtain ⟨cs, fr, hbk, hsz, hfr, hc, hel, hcv⟩ := hst.heap b _ hH
  have hel' := hel
  rw [szOf_cells he] at hsz hel
  have hin : i * sz + sz ≤ cs.size := by
    have := (List.getElem?_eq_some_iff.1 hi).1
    rw [hsz, ← Nat.succ_mul]
    exact Nat.mul_le_mul_right _ (by omega)
  obtain ⟨cs', k1, k2, k3, k4, k5, k6⟩ := setCells_row (a.eval s').cells.toList (i * sz + o) w cs hbk
  have hrun : (storeVar t ⟨b, i * sz + o, none⟩ (a.eval s')).run P w = .ok () (w.setCells b (i * sz + o) (a.eval s').cells.toList) := by
    have := run_storeCells_cells (P := P) b (i * sz + o) (a.eval s').cells.toList 0 w
      (fun j hj => by
        have : i * sz + o + j < cs.size := by omega
        simp [World.cell?, hbk, this])
      (fun j hj => by
        have := hfr (i * sz + o + j) (by omega)
        simp only [World.frozen?, hbk, Nat.add_zero]
        simp only [Bool.and_eq_false_iff, decide_eq_false_iff_not]
        rcases Decidable.not_and_iff_not_or_not.1 this with h | h
        · exact .inl h
        · exact .inr h)
      h1
    have hne : ¬ ((a.eval s').cells.size ≠ n) := by simp; rw [← hyn, ← hl]; simp
    simp only [storeVar, Sem.run_bind, run_sizeOf' hs, Result.andThen_ok, if_neg hne]
    simpa using this
  have hxc : x.cells.length = sz := hel x (List.mem_of_getElem? hi)
  obtain ⟨p1, p2⟩ := putAV_cells (x := x) (y := y) (o := o) hyn (by omega) hx
  have hstep : Step H w (H.upd b (some (.row e c (xs.set i (putAV x o y))))) (w.setCells b (i * sz + o) (a.eval s').cells.toList) :=
    .of_but k5 (by rw [hH]; simp) (fun k hk hk0 => by rw [AH.upd_ne _ _ (fun e => by rw [e, hH] at hk0; cases hk0)]; exact hk0)
  refine ⟨_, _, by simp [execOp, Instr.storeAt, hu, Instr.sureAddr, hrun], HR.of_but hst.heap k5 hstep (fun k o hk hko => by rwa [AH.upd_ne _ _ hk] at hko) ?_, hstep, h⟩
  intro o' ho'
  rw [AH.upd_same] at ho'
  injection ho' with ho'
  subst ho'
  refine ⟨cs', fr, k1, by rw [k2, hsz, szOf_cells he], fun i hi => hfr i (by omega), by simpa using hc, ?_, fun k z hz => ?_⟩
  · intro q hq
    rw [szOf_cells he]
    rcases List.mem_or_eq_of_mem_set hq with hq | rfl
    · exact hel q hq
    · rw [p1]; exact hxc
  · rcases flat_set xs sz hel i x _ hi (by rw [p1]; exact hxc) k z hz with ⟨q1, q2, q3⟩ | ⟨q1, q2⟩
    · rcases p2 _ _ q3 with ⟨r1, r2, r3⟩ | ⟨r1, r2⟩
      · have hj : k - i * sz - o < (a.eval s').cells.toList.length := by omega
        have e1 := k4 (k - i * sz - o) _ (List.getElem?_eq_getElem hj) (by omega)
        rw [show i * sz + o + (k - i * sz - o) = k by omega] at e1
        exact ⟨_, e1, (hv _ _ _ r3 (List.getElem?_eq_getElem hj)).step hstep⟩
      · have hf := flat_at xs sz hel i x hi _ _ r2
        rw [show i * sz + (k - i * sz) = k by omega] at hf
        obtain ⟨u, hu1, hu2⟩ := hcv _ _ hf
        exact ⟨u, by rw [k3 k (by omega)]; exact hu1, hu2.step hstep⟩
    · obtain ⟨u, hu1, hu2⟩ := hcv _ _ q2
      exact ⟨u, by rw [k3 k (by omega)]; exact hu1, hu2.step hstep⟩

/-- A new block. -/
theorem Step.alloc (w : World) (o : Obj) (b' : AO) (hn : H w.heap.size = none) : Step H w (H.upd w.heap.size (some b')) (w.alloc o) :=
  ⟨rfl, rfl, rfl, by simp, fun k hk hk0 => ⟨Below.heap_alloc _ _ _ hk, by rw [AH.upd_ne _ _ (by omega)]; exact hk0⟩⟩
theorem HR.none_new {w : World} (hh : HR P H w) : H w.heap.size = none := by
  cases h : H w.heap.size with
  | none => rfl
  | some o => exact absurd (hh _ o h).lt (Nat.lt_irrefl _)
theorem HR.alloc {w : World} {o : Obj} {b' : AO} (hh : HR P H w) (ho : OR P (H.upd w.heap.size (some b')) (w.alloc o) w.heap.size b') : HR P (H.upd w.heap.size (some b')) (w.alloc o) := by
  intro k q hk
  by_cases he : k = w.heap.size
  · subst he; rw [AH.upd_same] at hk; injection hk with hk; subst hk; exact ho
  · rw [AH.upd_ne _ _ he] at hk
    have h0 := hh k q hk
    exact h0.keep (Step.alloc w o b' hh.none_new) (Below.heap_alloc _ _ _ h0.lt)

/-- A new row out of cells. -/
theorem OR.new {w : World} {e : TypeId} {c sz : Nat} {xs : List AV} {cs : Array Value} (hz : szOf P e = some sz) (hsz : cs.size = c * sz) (hc : xs.length ≤ c) (hel : ∀ x ∈ xs, x.cells.length = sz)
    (hv : ∀ (k : Nat) (y : AV), (flat xs)[k]? = some y → ∃ u, cs[k]? = some u ∧ VR P w H y u) (hn : H w.heap.size = none) :
    OR P (H.upd w.heap.size (some (.row e c xs))) (w.alloc (.cells cs e)) w.heap.size (.row e c xs) :=
  ⟨cs, (0, 0), heap_alloc_new w _, by rw [szOf_cells hz]; exact hsz, fun i _ h => by simp at h, hc, fun x hx => by rw [szOf_cells hz]; exact hel x hx,
    fun k y hy => let ⟨u, h1, h2⟩ := hv k y hy; ⟨u, h1, h2.step (Step.alloc w _ _ hn)⟩⟩

/-- A boxed value. -/
theorem AL_box {t : TypeId} {n : Nat} (hy : ev T s = some y) (hm : y.mem = true) (hs : szOf P t = some n) (hn : y.cells.length = n)
    (h : ∀ b, H b = none → AL P ro ops rest ds (tput T d (.pt b 0 n 0)) (H.upd b (some (.row t 1 [y]))) Q) : AL P ro ops (⟨d, .box t s, ty, pos, af, none⟩ :: rest) ds T H Q := by
  refine AL_op rfl (fun _ => by simp) fun a w hst => ?_
  have hyv := hst.ev hy
  obtain ⟨hl, hv, h1⟩ := hyv.mem_cells hm
  have hnew := hst.heap.none_new
  refine ⟨.pointer (some ⟨w.heap.size, 0, none⟩), w.alloc (.cells (a.eval s).cells t), .pt w.heap.size 0 n 0, _, by simp [execOp, Instr.box, newVar, newRow], by simpa using VR.pt (P := P) (w := w.alloc _) (H := _) w.heap.size 0 n 0, ?_, Step.alloc w _ _ hnew, h _ hnew⟩
  refine hst.heap.alloc (OR.new hs (by rw [← hn, ← hl]; simp) (by simp) (fun x hx => by simp at hx; subst hx; exact hn) (fun k z hz => ?_) hnew)
  simp only [flat, List.flatMap_cons, List.flatMap_nil, List.append_nil] at hz
  have hk : k < (a.eval s).cells.toList.length := by have := (List.getElem?_eq_some_iff.1 hz).1; omega
  exact ⟨_, by rw [← Array.getElem?_toList]; exact List.getElem?_eq_getElem hk, hv k _ _ hz (List.getElem?_eq_getElem hk)⟩

/-- A type's zero, said of abstract values. -/
def zav1 : Value → AV
  | .slice none 0 0 => .own none 0 0
  | x => .v x
def zav : Value → AV
  | .agg cs => .ag (cs.toList.map zav1)
  | x => zav1 x
theorem VR.zav1 {w : World} (x : Value) : VR P w H (zav1 x) x := by
  unfold Go.AL.zav1; split
  · exact .ownNil none
  · exact .v _
theorem VR.zav {w : World} (x : Value) : VR P w H (zav x) x := by
  unfold Go.AL.zav; split
  · refine .ag (by simp) fun k y u hy hu => ?_
    simp only [List.getElem?_map, Option.map_eq_some_iff] at hy
    obtain ⟨q, hq, rfl⟩ := hy
    rw [Array.getElem?_toList, hu] at hq
    injection hq with hq; subst hq; exact VR.zav1 _
  · exact VR.zav1 _
def zeroOf (P : Program) (t : TypeId) : Option Value := (P.info? t).bind (·.zero)

theorem run_zeroValue' {t : TypeId} {z : Value} (h : zeroOf P t = some z) (w : World) : (zeroValue t).run P w = .ok z w := by
  unfold zeroOf at h
  cases hi : P.info? t with
  | none => simp [hi] at h
  | some i => simp [hi] at h; simp [zeroValue, typeInfo, program, Sem.run, hi, h]

/-- A zero value's cells, seen as abstract ones. -/
inductive ZL : List Value → List AV → Prop
  | nil : ZL [] []
  | v {x : Value} {vs : List Value} {ys : List AV} (h : ZL vs ys) : ZL (x :: vs) (.v x :: ys)
  | own {vs : List Value} {ys : List AV} (h : ZL vs ys) : ZL (.slice none 0 0 :: vs) (.own none 0 0 :: ys)
  | sl {e : TypeId} {vs : List Value} {ys : List AV} (h : ZL vs ys) : ZL (.slice none 0 0 :: vs) (.sl e [] :: ys)
theorem ZL.vals {w : World} {vs : List Value} {ys : List AV} (h : ZL vs ys) : ys.length = vs.length ∧ ∀ (k : Nat) (y : AV) (u : Value), ys[k]? = some y → vs[k]? = some u → VR P w H y u := by
  induction h with
  | nil => exact ⟨rfl, fun k y u h => by simp at h⟩
  | v h ih => exact ⟨by simp [ih.1], fun k y u hy hu => by cases k with | zero => (simp at hy hu; subst hy; subst hu; exact .v _) | succ k => exact ih.2 k y u (by simpa using hy) (by simpa using hu)⟩
  | own h ih => exact ⟨by simp [ih.1], fun k y u hy hu => by cases k with | zero => (simp at hy hu; subst hy; subst hu; exact .ownNil none) | succ k => exact ih.2 k y u (by simpa using hy) (by simpa using hu)⟩
  | sl h ih => exact ⟨by simp [ih.1], fun k y u hy hu => by cases k with | zero => (simp at hy hu; subst hy; subst hu; exact VR.nilsl (.ownNil none)) | succ k => exact ih.2 k y u (by simpa using hy) (by simpa using hu)⟩
inductive ZA : Value → AV → Prop
  | agg {cs : Array Value} {ys : List AV} (h : ZL cs.toList ys) : ZA (.agg cs) (.ag ys)
  | v (x : Value) : ZA x (.v x)
  | own : ZA (.slice none 0 0) (.own none 0 0)
  | sl (e : TypeId) : ZA (.slice none 0 0) (.sl e [])
theorem ZA.val {w : World} {x : Value} {y : AV} (h : ZA x y) : VR P w H y x := by
  cases h with
  | agg h => obtain ⟨h1, h2⟩ := h.vals (P := P) (w := w) (H := H); exact .ag (by simpa using h1) (fun k y u hy hu => h2 k y u hy (by simpa using hu))
  | v => exact .v _
  | own => exact .ownNil none
  | sl e => exact VR.nilsl (.ownNil none)

theorem AL_alloc {t : TypeId} {n : Nat} {z : Value} (hz : zeroOf P t = some z) (hy : ZA z y) (hm : y.mem = true) (hs : szOf P t = some n) (hn : y.cells.length = n)
    (h : ∀ b, H b = none → AL P ro ops rest ds (tput T d (.pt b 0 n 0)) (H.upd b (some (.row t 1 [y]))) Q) : AL P ro ops (⟨d, .alloc t, ty, pos, af, none⟩ :: rest) ds T H Q := by
  refine AL_op rfl (fun _ => by simp) fun a w hst => ?_
  have hyv : VR P w H y z := hy.val
  obtain ⟨hl, hv, h1⟩ := hyv.mem_cells hm
  have hnew := hst.heap.none_new
  refine ⟨.pointer (some ⟨w.heap.size, 0, none⟩), w.alloc (.cells z.cells t), .pt w.heap.size 0 n 0, _, by simp [execOp, Instr.alloc, run_zeroValue' hz, newVar, newRow], by simpa using VR.pt (P := P) (w := w.alloc _) (H := _) w.heap.size 0 n 0, ?_, Step.alloc w _ _ hnew, h _ hnew⟩
  refine hst.heap.alloc (OR.new hs (by rw [← hn, ← hl]; simp) (by simp) (fun x hx => by simp at hx; subst hx; exact hn) (fun k z' hz' => ?_) hnew)
  simp only [flat, List.flatMap_cons, List.flatMap_nil, List.append_nil] at hz'
  have hk : k < z.cells.toList.length := by have := (List.getElem?_eq_some_iff.1 hz').1; omega
  exact ⟨_, by rw [← Array.getElem?_toList]; exact List.getElem?_eq_getElem hk, hv k _ _ hz' (List.getElem?_eq_getElem hk)⟩
end ops
end Go.AL

/- Slices, strings, append, calls. -/
set_option autoImplicit false
set_option linter.unusedVariables false
set_option linter.unusedSimpArgs false
namespace Go.AL
open Go Go.RowKit

section ops
variable {P : Program} {ro : Option Nat} {ds : List Deferred} {T : List AV} {H : AH} {Q : Post} {ops : Array Oper} {rest : List Oper}
variable {d : Option Tmp} {ty : TypeId} {pos : String} {af : Array Edge} {s s' : Operand} {x y : AV}

/-! lengths -/
theorem VR.sl_inv {w : World} {e : TypeId} {xs : List AV} {u : Value} (h : VR P w H (.sl e xs) u) : ∃ (A : Option Addr) (c : Nat) (U : Nat → Value), u = .slice A xs.length c ∧ (∀ x ∈ xs, x.cells.length = P.cellsOf e) ∧ xs.length ≤ c ∧
    (∀ (k : Nat) (y : AV), (flat xs)[k]? = some y → ∃ a, A = some a ∧ H a.block = none ∧ w.cell? (a.add k) = some (U k)) ∧ (∀ (k : Nat) (y : AV), (flat xs)[k]? = some y → VR P w H y (U k)) := by
  cases h with | sl U hs hc hcell hv => exact ⟨_, _, U, rfl, hs, hc, hcell, hv⟩
/-- Where a row of ours begins; one without cells may begin anywhere. -/
def Base (A : Option Nat) (B : Option Addr) : Prop := ∀ b, A = some b → B = some ⟨b, 0, none⟩
theorem VR.own_inv {w : World} {A : Option Nat} {c n : Nat} {u : Value} (h : VR P w H (.own A c n) u) : ∃ B, u = .slice B n c ∧ Base A B ∧ (A = none → n = 0 ∧ c = 0) := by
  cases h with
  | own b c n => exact ⟨_, rfl, fun b' e => by cases e; rfl, fun h => by cases h⟩
  | ownNil B => exact ⟨B, rfl, fun b e => (by cases e), fun _ => ⟨rfl, rfl⟩⟩
theorem VR.own_mk {w : World} {A : Option Nat} {B : Option Addr} {c n : Nat} (hB : Base A B) (h : A = none → n = 0 ∧ c = 0) : VR P w H (.own A c n) (.slice B n c) := by
  cases A with
  | none => obtain ⟨rfl, rfl⟩ := h rfl; exact .ownNil B
  | some b => rw [hB b rfl]; exact .own b c n

theorem run_len_slice {t e : TypeId} (ht : P.underlying t = some (.slice e)) (A : Option Addr) (n c : Nat) (ty : TypeId) (w : World) :
    (Builtin.len_ #[t] ty #[.slice A n c]).run P w = .ok (.int .i64 n) w := by
  simp [Builtin.len_, run_underlying ht, goInt]

theorem PV_len_sl {t e e' : TypeId} {xs : List AV} (hx : ev T s = some (.sl e' xs)) (ht : P.underlying t = some (.slice e)) :
    PV P ⟨d, .call ⟨.builtin .len, #[s], #[t]⟩, ty, pos, af, none⟩ T H (.v (.int .i64 xs.length)) := fun ds a w hst => by
  obtain ⟨A, c, U, hu, _⟩ := (hst.ev hx).sl_inv
  exact ⟨_, by simp [execOp, resolve, invoke, builtin, hu, run_len_slice ht], .v _⟩
theorem PV_len_own {t e : TypeId} {A : Option Nat} {c n : Nat} (hx : ev T s = some (.own A c n)) (ht : P.underlying t = some (.slice e)) :
    PV P ⟨d, .call ⟨.builtin .len, #[s], #[t]⟩, ty, pos, af, none⟩ T H (.v (.int .i64 n)) := fun ds a w hst => by
  obtain ⟨B, hu, _, _⟩ := (hst.ev hx).own_inv
  exact ⟨_, by simp [execOp, resolve, invoke, builtin, hu, run_len_slice ht], .v _⟩
theorem PV_len_str {t : TypeId} {z : ByteArray} (hx : ev T s = some (.v (.string z))) (ht : P.underlying t = some .string) :
    PV P ⟨d, .call ⟨.builtin .len, #[s], #[t]⟩, ty, pos, af, none⟩ T H (.v (.int .i64 z.size)) := fun ds a w hst => by
  exact ⟨_, by simp [execOp, resolve, invoke, builtin, hst.evv hx, Builtin.len_, run_underlying ht, goInt], .v _⟩

/-! addresses of elements -/
theorem run_indexAt_slice {t e : TypeId} {sz n : Nat} (ht : P.underlying t = some (.slice e)) (hs : szOf P e = some sz) (a : Addr) (c : Nat) {k : IntKind} {i : Int} (h0 : 0 ≤ i) (h1 : i < n) (w : World) :
    (Instr.indexAt t (.slice (some a) n c) (.int k i)).run P w = .ok (.pointer (some (a.add (i.toNat * sz)))) w := by
  simp [Instr.indexAt, asIntOf, run_underlying ht, h0, h1, run_sizeOf' hs]

theorem PV_indexAddr_sl {t e : TypeId} {sz : Nat} {xs : List AV} {k : IntKind} {i : Int} (hx : ev T s = some (.sl e xs)) (hi : ev T s' = some (.v (.int k i))) (ht : P.underlying t = some (.slice e)) (hs : szOf P e = some sz)
    (h0 : 0 ≤ i) (h1 : i < xs.length) (hy : xs[i.toNat]? = some y) (hc : 0 < sz) : PV P ⟨d, .indexAddr t s s', ty, pos, af, none⟩ T H (.rp e y) := fun ds a w hst => by
  obtain ⟨A, c, U, hu, hel, hc', hcell, hv⟩ := (hst.ev hx).sl_inv
  have hyc : y.cells.length = sz := by rw [hel y (List.mem_of_getElem? hy), szOf_cells hs]
  have hel' : ∀ x ∈ xs, x.cells.length = sz := fun x hx => by rw [hel x hx, szOf_cells hs]
  have hfl := fun k z hz => flat_at xs sz hel' i.toNat y hy k z hz
  have h00 : 0 < y.cells.length := by omega
  obtain ⟨a0, hA, _⟩ := hcell _ _ (hfl 0 _ (List.getElem?_eq_getElem h00))
  subst hA
  refine ⟨.pointer (some (a0.add (i.toNat * sz))), by simp [execOp, hu, hst.evv hi, run_indexAt_slice ht hs a0 c h0 h1], ?_⟩
  refine .rp (fun k => U (i.toNat * sz + k)) (by rw [hyc, szOf_cells hs]) (fun k z hz => ?_) (fun k z hz => hv _ _ (hfl k z hz))
  obtain ⟨a1, hA, h2, h3⟩ := hcell _ _ (hfl k z hz)
  injection hA with hA; subst hA
  exact ⟨by rw [add_block]; exact h2, by rw [add_add]; exact h3⟩

theorem PV_indexAddr_own {t e : TypeId} {sz b c n : Nat} {k : IntKind} {i : Int} (hx : ev T s = some (.own (some b) c n)) (hi : ev T s' = some (.v (.int k i))) (ht : P.underlying t = some (.slice e)) (hs : szOf P e = some sz)
    (h0 : 0 ≤ i) (h1 : i < n) : PV P ⟨d, .indexAddr t s s', ty, pos, af, none⟩ T H (.pt b i.toNat sz 0) := fun ds a w hst => by
  obtain ⟨B, hu, hB, _⟩ := (hst.ev hx).own_inv
  obtain rfl := hB b rfl
  exact ⟨.pointer (some ⟨b, i.toNat * sz, none⟩), by simp [execOp, hu, hst.evv hi, run_indexAt_slice ht hs ⟨b, 0, none⟩ c h0 h1, addr_add], by simpa using VR.pt (P := P) (w := w) (H := H) b i.toNat sz 0⟩

/-! strings -/
theorem PV_sbin {op : BinOp} {tx ty' : TypeId} {p q : ByteArray} {r : Value} (hx : ev T s = some (.v (.string p))) (hy : ev T s' = some (.v (.string q))) (h : Op.stringOp op p q = pure r) (hop : op ≠ .shl ∧ op ≠ .shr) :
    PV P ⟨d, .binOp op tx s s' ty', ty, pos, af, none⟩ T H (.v r) := PV_bin hx hy fun w => ⟨by unfold eqGuard; cases op <;> simp, by cases op <;> simp_all [binOp]⟩
theorem toList_eq (p q : ByteArray) : (p.toList == q.toList) = decide (p = q) := by
  rw [ByteArray.toList_eq, ByteArray.toList_eq]
  by_cases h : p = q
  · subst h; simp
  · simp only [h, decide_false]
    refine beq_eq_false_iff_ne.2 fun e => h ?_
    cases p; cases q; simp at e; simp [e]
theorem PV_seql {tx ty' : TypeId} {p q : ByteArray} (hx : ev T s = some (.v (.string p))) (hy : ev T s' = some (.v (.string q))) : PV P ⟨d, .binOp .eql tx s s' ty', ty, pos, af, none⟩ T H (.v (.bool (decide (p = q)))) :=
  PV_sbin hx hy (by simp only [Op.stringOp, toList_eq]) (by simp)
theorem PV_sneq {tx ty' : TypeId} {p q : ByteArray} (hx : ev T s = some (.v (.string p))) (hy : ev T s' = some (.v (.string q))) : PV P ⟨d, .binOp .neq tx s s' ty', ty, pos, af, none⟩ T H (.v (.bool (decide (p ≠ q)))) :=
  PV_sbin hx hy (by simp only [Op.stringOp, toList_eq, decide_not]) (by simp)
theorem PV_sadd {tx ty' : TypeId} {p q : ByteArray} (hx : ev T s = some (.v (.string p))) (hy : ev T s' = some (.v (.string q))) (h : p.size + q.size ≤ 9223372036854775807) : PV P ⟨d, .binOp .add tx s s' ty', ty, pos, af, none⟩ T H (.v (.string (p ++ q))) :=
  PV_sbin hx hy (by
    have : ¬ (9223372036854775807 < ((p.size + q.size : Nat) : Int)) := by omega
    have e : IntKind.max .i64 = 9223372036854775807 := rfl
    simp only [Op.stringOp, e, gt_iff_lt]
    rw [if_neg this]) (by simp)

theorem PV_index_str {tx : TypeId} {p : ByteArray} {k : IntKind} {i : Int} (hx : ev T s = some (.v (.string p))) (hi : ev T s' = some (.v (.int k i))) (ht : P.underlying tx = some .string) (h0 : 0 ≤ i) (h1 : i.toNat < p.size) :
    PV P ⟨d, .index tx s s', ty, pos, af, none⟩ T H (.v (.int .u8 (p[i.toNat]'h1).toNat)) := fun ds a w hst => by
  exact ⟨_, by simp [execOp, Instr.index, hst.evv hx, hst.evv hi, asIntOf, run_underlying ht, h0, getElem?_pos, h1], .v _⟩

theorem run_sliceBound_in {k : IntKind} {i : Int} {y : Nat} {code : BoundsCode} (h0 : 0 ≤ i) (h1 : i ≤ y) (w : World) : (Instr.sliceBound (.int k i) y code).run P w = .ok i.toNat w := by
  simp [Instr.sliceBound, asIntOf, h0, h1]

/-- A bound that may be left out. -/
def bd (T : List AV) (o : Option Operand) (dflt : Nat) (n : Nat) : Prop :=
  match o with
  | none => n = dflt
  | some o => ∃ k i, ev T o = some (.v (.int k i)) ∧ 0 ≤ i ∧ i.toNat = n

theorem PV_slice_str {tx : TypeId} {p : ByteArray} {lo hi : Option Operand} {l h : Nat} (hx : ev T s = some (.v (.string p))) (ht : P.underlying tx = some .string) (hh : bd T hi p.size h) (hl : bd T lo 0 l) (h1 : h ≤ p.size) (h2 : l ≤ h) :
    PV P ⟨d, .slice tx s lo hi none, ty, pos, af, none⟩ T H (.v (.string (p.extract l h))) := fun ds a w hst => by
  have e1 : ∀ w, (Instr.sliceBounds false p.size p.size (lo.map a.eval) (hi.map a.eval) none).run P w = .ok (l, h, p.size) w := by
    intro w
    cases hi with
    | none =>
      simp only [bd] at hh; subst hh
      cases lo with
      | none => simp only [bd] at hl; subst hl; simp [Instr.sliceBounds]
      | some o => obtain ⟨k, i, he, hi0, rfl⟩ := hl; simp [Instr.sliceBounds, hst.evv he, run_sliceBound_in hi0 (show i ≤ (p.size : Int) by omega)]
    | some o' =>
      obtain ⟨k', i', he', hi0', rfl⟩ := hh
      cases lo with
      | none => simp only [bd] at hl; subst hl; simp [Instr.sliceBounds, hst.evv he', run_sliceBound_in hi0' (show i' ≤ (p.size : Int) by omega)]
      | some o =>
        obtain ⟨k, i, he, hi0, rfl⟩ := hl
        have hm : max i' 0 = i' := by omega
        simp [Instr.sliceBounds, hst.evv he', hst.evv he, run_sliceBound_in hi0' (show i' ≤ (p.size : Int) by omega), run_sliceBound_in hi0 (show i ≤ (i'.toNat : Int) by omega)]
        first | (rw [hm, run_sliceBound_in hi0 (show i ≤ i' by omega)]) | skip
  exact ⟨_, by simp [execOp, Instr.sliceAt, run_underlying ht, Instr.slice, hst.evv hx, e1], .v _⟩

/-! slices of slices -/
theorem sliceBounds_run {lo hi : Option Operand} {len cap l h : Nat} {a : Act} {w' : World} (hst : St P ds T H a w') (hh : bd T hi len h) (hl : bd T lo 0 l) (h1 : h ≤ cap) (h2 : l ≤ h) (w : World) :
    (Instr.sliceBounds true len cap (lo.map a.eval) (hi.map a.eval) none).run P w = .ok (l, h, cap) w := by
  cases hi with
  | none =>
    simp only [bd] at hh; subst hh
    cases lo with
    | none => simp only [bd] at hl; subst hl; simp [Instr.sliceBounds]
    | some o => obtain ⟨k, i, he, hi0, rfl⟩ := hl; simp [Instr.sliceBounds, hst.evv he, run_sliceBound_in hi0 (show i ≤ (h : Int) by omega)]
  | some o' =>
    obtain ⟨k', i', he', hi0', rfl⟩ := hh
    cases lo with
    | none => simp only [bd] at hl; subst hl; simp [Instr.sliceBounds, hst.evv he', run_sliceBound_in hi0' (show i' ≤ (cap : Int) by omega)]
    | some o =>
      obtain ⟨k, i, he, hi0, rfl⟩ := hl
      have hm : max i' 0 = i' := by omega
      simp [Instr.sliceBounds, hst.evv he', hst.evv he, run_sliceBound_in hi0' (show i' ≤ (cap : Int) by omega), run_sliceBound_in hi0 (show i ≤ (i'.toNat : Int) by omega)]
      first | (rw [hm, run_sliceBound_in hi0 (show i ≤ i' by omega)]) | skip

theorem flat_drop_take (xs : List AV) (sz l h : Nat) (hel : ∀ x ∈ xs, x.cells.length = sz) : ∀ (k : Nat) (y : AV), (flat ((xs.drop l).take h))[k]? = some y → (flat xs)[l * sz + k]? = some y := by
  induction l generalizing xs with
  | zero =>
    intro k y hy
    simp only [List.drop_zero, Nat.zero_mul, Nat.zero_add] at hy ⊢
    have : flat xs = flat (xs.take h) ++ flat (xs.drop h) := by simp only [flat]; rw [← List.flatMap_append, List.take_append_drop]
    rw [this, List.getElem?_append_left (List.getElem?_eq_some_iff.1 hy).1]; exact hy
  | succ l ih =>
    intro k y hy
    cases xs with
    | nil => simp [flat] at hy
    | cons q xs =>
      have := ih xs (fun x hx => hel x (by simp [hx])) k y (by simpa using hy)
      simp only [flat, List.flatMap_cons] at this ⊢
      rw [List.getElem?_append_right (by rw [hel q (by simp), Nat.succ_mul]; omega), hel q (by simp)]
      rw [show (l + 1) * sz + k - sz = l * sz + k by rw [Nat.succ_mul]; omega]
      exact this

theorem PV_slice_sl {tx e : TypeId} {sz : Nat} {xs : List AV} {lo hi : Option Operand} {l h : Nat} (hx : ev T s = some (.sl e xs)) (ht : P.underlying tx = some (.slice e)) (hs : szOf P e = some sz) (hh : bd T hi xs.length h) (hl : bd T lo 0 l) (h1 : h ≤ xs.length) (h2 : l ≤ h) :
    PV P ⟨d, .slice tx s lo hi none, ty, pos, af, none⟩ T H (.sl e ((xs.drop l).take (h - l))) := fun ds a w hst => by
  obtain ⟨A, c, U, hu, hel, hc', hcell, hv⟩ := (hst.ev hx).sl_inv
  have hel' : ∀ x ∈ xs, x.cells.length = sz := fun x hx => by rw [hel x hx, szOf_cells hs]
  have e1 := sliceBounds_run hst hh hl (cap := c) (by omega) h2
  have hlen : ((xs.drop l).take (h - l)).length = h - l := by simp; omega
  have hfl := flat_drop_take xs sz l (h - l) hel'
  refine ⟨.slice (if c = l then A else A.map (·.add (l * sz))) (h - l) (c - l), by simp [execOp, Instr.sliceAt, Instr.slice, run_underlying ht, hu, e1, run_sizeOf' hs], ?_⟩
  have key : VR P w H (.sl e ((xs.drop l).take (h - l))) (.slice (if c = l then A else A.map (·.add (l * sz))) ((xs.drop l).take (h - l)).length (c - l)) := ?_
  · rw [hlen] at key; exact key
  refine .sl (c := c - l) (fun k => U (l * sz + k)) (fun x hx => hel x (List.mem_of_mem_drop (List.mem_of_mem_take hx))) (by rw [hlen]; omega) (fun k y hy => ?_) (fun k y hy => hv _ _ (hfl k y hy))
  obtain ⟨a0, hA, h3, h4⟩ := hcell _ _ (hfl k y hy)
  have hlt : l < xs.length := by
    have := (List.getElem?_eq_some_iff.1 hy).1
    have h0 : ((xs.drop l).take (h - l)).length ≠ 0 := fun h0 => by rw [List.length_eq_zero_iff.1 h0] at this; simp [flat] at this
    omega
  rw [if_neg (by omega), hA]
  exact ⟨_, rfl, by rw [add_block]; exact h3, by rw [add_add]; exact h4⟩

/-! calls -/
theorem Step.drew' (H : AH) (w : World) : Step H w H w.drew := ⟨rfl, rfl, rfl, Nat.le_refl _, fun _ _ h => ⟨rfl, h⟩⟩

def entersOf (P : Program) (f : FuncId) : Bool :=
  match P.funcs[f]? with
  | some fn => fn.body.isSome && !(fn.name == "runtime.NumGoroutine")
  | none => false
theorem run_callFunc {f : FuncId} (h : entersOf P f = true) (args : Array Value) (w : World) : (callFunc f args).run P w = .ok (.enter f args) w := by
  unfold entersOf at h
  cases hf : P.funcs[f]? with
  | none => simp [hf] at h
  | some fn =>
    rw [hf] at h
    simp only [Bool.and_eq_true, Bool.not_eq_true'] at h
    obtain ⟨h1, h2⟩ := h
    cases hb : fn.body with
    | none => simp [hb] at h1
    | some c =>
      have h3 : ¬ fn.name = "runtime.NumGoroutine" := by simpa using h2
      simp [callFunc, program, Sem.run, hf, h3, hb]

/-- What a call of a known function owes. -/
theorem AL_enter {o : Oper} {f : FuncId} {xs : List AV} {K : AV → AH → Prop} (hg : o.guard = none) (hnd : ∀ c, o.op ≠ .defer c)
    (hrun : ∀ a w, St P ds T H a w → ∃ vs : Array Value, (execOp a.eval o).run P w = .ok (.enter f vs) w ∧ xs.length = vs.size ∧ ∀ (k : Nat) (x : AV) (u : Value), xs[k]? = some x → vs[k]? = some u → VR P w H x u)
    (hc : AC P f xs H K) (h : ∀ x H', K x H' → AL P ro ops rest ds (tput T o.dst x) H' Q) : AL P ro ops (o :: rest) ds T H Q := fun a w hs => by
  obtain ⟨vs, hr, hl, hv⟩ := hrun a w hs
  refine wpListIn_plain hg fun K' hK => ?_
  refine ⟨fun f _ => trivial, ?_⟩
  rw [Oper.semAt_eq _ _ _ hnd, hr]
  refine ⟨fun h => by simp [fen] at h, ?_⟩
  have hcall := hc w vs hl hv hs.heap
  have hcall' : CallsIn (fen ro) (0 - 1) P f vs w fun e w' => ∃ v x H', e = .returned v ∧ VR P w' H' x v ∧ HR P H' w' ∧ Step H w H' w' ∧ K x H' := hcall
  refine hcall'.mono ?_
  rintro e w' ⟨v, x, H', rfl, hx, hh, hst, k⟩
  exact hK _ _ (wpListIn_mono (fun _ _ _ p => post.back hst p) (fun _ => trivial) _ _ _ (h x H' k _ _ (hs.put hst hh hx)))

/-- A call of a function by its name. -/
theorem AL_call {f : FuncId} {args : Array Operand} {ats : Array TypeId} {xs : List AV} {K : AV → AH → Prop} (hf : entersOf P f = true) (hx : EvL T args.toList xs) (hc : AC P f xs H K)
    (h : ∀ x H', K x H' → AL P ro ops rest ds (tput T d x) H' Q) : AL P ro ops (⟨d, .call ⟨.value (.func f), args, ats⟩, ty, pos, af, none⟩ :: rest) ds T H Q :=
  AL_enter rfl (fun _ => by simp) (fun a w hs => by
    obtain ⟨h1, h2⟩ := hx.args hs
    exact ⟨args.map a.eval, by simp [execOp, resolve, Deferred.ofValue, Act.eval, invoke, run_callFunc hf], h1, h2⟩) hc h

theorem VR.fn_inv {w : World} {f : Fn} {fs cs : List AV} {u : Value} (h : VR P w H (.fn f fs cs) u) : ∃ vf vc : Array Value, u = .func f vf vc ∧ fs.length = vf.size ∧ cs.length = vc.size ∧
    (∀ (k : Nat) (y : AV) (u : Value), fs[k]? = some y → vf[k]? = some u → VR P w H y u) ∧ (∀ (k : Nat) (y : AV) (u : Value), cs[k]? = some y → vc[k]? = some u → VR P w H y u) := by
  cases h with | fn hl hl' hf hc => exact ⟨_, _, rfl, hl, hl', hf, hc⟩

/-- A call of a closure. -/
theorem AL_callv {f : FuncId} {args : Array Operand} {ats : Array TypeId} {xs cs : List AV} {K : AV → AH → Prop} (hv : ev T s = some (.fn (.func f) [] cs)) (hf : entersOf P f = true) (hx : EvL T args.toList xs) (hc : AC P f (xs ++ cs) H K)
    (h : ∀ x H', K x H' → AL P ro ops rest ds (tput T d x) H' Q) : AL P ro ops (⟨d, .call ⟨.value s, args, ats⟩, ty, pos, af, none⟩ :: rest) ds T H Q :=
  AL_enter rfl (fun _ => by simp) (fun a w hs => by
    obtain ⟨h1, h2⟩ := hx.args hs
    obtain ⟨vf, vc, hu, hlf, hlc, _, hcc⟩ := (hs.ev hv).fn_inv
    have hvf : vf = #[] := by simpa using hlf.symm
    subst hvf
    refine ⟨args.map a.eval ++ vc, by simp [execOp, resolve, Deferred.ofValue, hu, invoke, run_callFunc hf], by simp [h1, hlc], fun k x u hk hu' => ?_⟩
    rw [List.getElem?_append] at hk
    rw [Array.getElem?_append] at hu'
    rw [h1] at hk
    split at hk
    · rename_i hlt; rw [if_pos hlt] at hu'; exact h2 k x u hk hu'
    · rename_i hlt; rw [if_neg hlt] at hu'; exact hcc _ x u hk hu') hc h
end ops
end Go.AL

/- A function as a whole; what is owned, handed on as read; append; regions with guards. -/
set_option autoImplicit false
set_option linter.unusedVariables false
set_option linter.unusedSimpArgs false
namespace Go.AL
open Go Go.RowKit

/-- Fewer blocks are said to be ours. -/
def SubH (H H' : AH) : Prop := ∀ b o, H b = some o → H' b = some o
theorem SubH.refl (H : AH) : SubH H H := fun _ _ h => h
theorem SubH.trans {A B C : AH} (h : SubH A B) (k : SubH B C) : SubH A C := fun b o x => k b o (h b o x)
theorem SubH.upd {A B : AH} {b : Nat} {o : Option AO} (h : SubH A B) (hb : A b = none) : SubH A (B.upd b o) := fun k q hk => by
  rw [AH.upd_ne _ _ (fun e => by rw [e, hb] at hk; cases hk)]; exact h k q hk
theorem SubH.none {A B : AH} (h : SubH A B) {b : Nat} (hb : B b = none) : A b = none := by
  cases ha : A b with
  | none => rfl
  | some o => rw [h b o ha] at hb; cases hb

theorem VR.sub {P : Program} {w : World} {H H' : AH} (hs : SubH H H') {x : AV} {u : Value} (h : VR P w H' x u) : VR P w H x u := by
  induction h with
  | v x => exact .v x
  | any x => exact .any x
  | sl U a b hcell hv ih => exact .sl U a b (fun k y hy => let ⟨a, hA, h1, h2⟩ := hcell k y hy; ⟨a, hA, hs.none h1, h2⟩) ih
  | ag hl hv ih => exact .ag hl ih
  | tup hl hv ih => exact .tup hl ih
  | own b c n => exact .own b c n
  | ownNil A => exact .ownNil A
  | part b z o c n => exact .part b z o c n
  | pt b i s o => exact .pt b i s o
  | rp U a hcell hv ih => exact .rp U a (fun k y hy => let ⟨h1, h2⟩ := hcell k y hy; ⟨hs.none h1, h2⟩) ih
  | fn hl hl' hf hc ihf ihc => exact .fn hl hl' ihf ihc
theorem OR.sub {P : Program} {w : World} {H H' : AH} (hs : SubH H H') {b : Nat} {o : AO} (h : OR P H' w b o) : OR P H w b o := by
  cases o with
  | row e c xs => obtain ⟨cs, fr, h1, h2, h3, h4, h5, h6⟩ := h; exact ⟨cs, fr, h1, h2, h3, h4, h5, fun k y hy => let ⟨u, a, b⟩ := h6 k y hy; ⟨u, a, b.sub hs⟩⟩
  | raw o => exact h
  | loop r T => obtain ⟨ts, h1, h2, h3⟩ := h; exact ⟨ts, h1, h2, fun k x hx => let ⟨u, a, b⟩ := h3 k x hx; ⟨u, a, b.sub hs⟩⟩
theorem HR.sub {P : Program} {w : World} {H H' : AH} (hs : SubH H H') (h : HR P H' w) : HR P H w := fun b o hb => (h b o (hs b o hb)).sub hs
theorem Step.sub {H0 H H' : AH} {w w' : World} (hs : SubH H H') (h : Step H0 w H' w') : Step H0 w H w' :=
  ⟨h.os, h.tape, h.output, h.size, fun b hb hn => ⟨(h.keep b hb hn).1, hs.none (h.keep b hb hn).2⟩⟩
theorem St.sub {P : Program} {ds : List Deferred} {T : List AV} {H H' : AH} {a : Act} {w : World} (hs : SubH H H') (h : St P ds T H' a w) : St P ds T H a w :=
  ⟨h.defers, h.size, fun k x hx => let ⟨u, h1, h2⟩ := h.vals k x hx; ⟨u, h1, h2.sub hs⟩, h.heap.sub hs⟩

/-- What a result variable gives. -/
inductive RV (P : Program) (T : List AV) (H : AH) : ResultVar → AV → Prop
  | tmp {t : Tmp} {x : AV} (h : T[t]? = some x) : RV P T H (.tmp t) x
  | cell {a : Tmp} {t e : TypeId} {b i sz o n c : Nat} {bg : Bool} {xs : List AV} {x y : AV} (hx : T[a]? = some (.pt b i sz o)) (hH : H b = some (.row e c xs)) (he : szOf P e = some sz) (hi : xs[i]? = some x) (ha : aggOf P t = some bg) (hs : szOf P t = some n)
      (hy : subAV bg n x o = some y) (hb : y.isAg = bg) (hn : bg = false → n = 1) : RV P T H (.cell a t) y

inductive RVL (P : Program) (T : List AV) (H : AH) : List ResultVar → List AV → Prop
  | nil : RVL P T H [] []
  | cons {r : ResultVar} {x : AV} {rs : List ResultVar} {xs : List AV} (h : RV P T H r x) (hs : RVL P T H rs xs) : RVL P T H (r :: rs) (x :: xs)

def pack : List AV → AV
  | [x] => x
  | xs => .tup xs

def retQ (P : Program) (rs : List ResultVar) (K : AV → AH → Prop) : Post := fun e ds T H =>
  (e = .normal ∨ e = .ret) ∧ ds = [] ∧ ∃ xs H', RVL P T H rs xs ∧ SubH H' H ∧ K (pack xs) H'

section
variable {P : Program} {ds : List Deferred} {T : List AV} {H : AH} {K : AV → AH → Prop}

def resOf (tmps : Array Value) : ResultVar → Sem Value
  | .tmp t => pure (tmps.getD t undef)
  | .cell c t => do loadVar t (← asAddr (tmps.getD c undef))

theorem RV.run {a : Act} {w : World} (hst : St P ds T H a w) {r : ResultVar} {x : AV} (h : RV P T H r x) :
    ∃ v, (resOf a.tmps r).run P w = .ok v w ∧ VR P w H x v := by
  cases h with
  | tmp h => exact ⟨_, rfl, hst.eval h⟩
  | cell hx hH he hi ha hs hy hb hn =>
    rename_i c t e b i sz o n cc bg xs x
    obtain ⟨v, hr, hv⟩ := PV_load_pt (d := none) (ty := 0) (pos := "") (af := #[]) (s := .tmp c) hx hH he hi ha hs hy hb hn ds a w hst
    have hpv := hst.eval hx
    generalize hu : a.eval (.tmp c) = u at hpv
    cases hpv
    have hu' : a.tmps.getD c undef = .pointer (some ⟨b, i * sz + o, none⟩) := hu
    refine ⟨v, ?_, hv⟩
    have hr' : (loadVar t ⟨b, i * sz + o, none⟩).run P w = .ok v w := by
      have e1 : (execOp a.eval { dst := none, op := Op.load t (.tmp c), type := 0, pos := "", after := #[], guard := none }).run P w = ((loadVar t ⟨b, i * sz + o, none⟩).run P w).andThen fun v w => .ok (.value v) w := by
        simp [execOp, Instr.loadAt, hu, Instr.sureAddr]
      rw [e1] at hr
      cases h : (loadVar t ⟨b, i * sz + o, none⟩).run P w with
      | ok v' w' => rw [h] at hr; simp at hr; rw [hr.1, hr.2]
      | halt x w' => rw [h] at hr; simp [Result.andThen] at hr
    simp [resOf, hu', asAddr, hr']

theorem RVL.run {a : Act} {w : World} (hst : St P ds T H a w) : ∀ {rs : List ResultVar} {xs : List AV}, RVL P T H rs xs →
    ∃ vs : List Value, (rs.mapM (resOf a.tmps)).run P w = .ok vs w ∧ xs.length = vs.length ∧ ∀ (k : Nat) (x : AV) (u : Value), xs[k]? = some x → vs[k]? = some u → VR P w H x u := by
  intro rs xs h
  induction h with
  | nil => exact ⟨[], by simp, rfl, fun k x u h => by simp at h⟩
  | cons h hs ih =>
    obtain ⟨v, hr, hv⟩ := RV.run hst h
    obtain ⟨vs, hrs, hl, hvs⟩ := ih
    refine ⟨v :: vs, ?_, by simp [hl], fun k x u hx hu => ?_⟩
    · simp only [List.mapM_cons, Sem.run_bind, hr, Result.andThen_ok, hrs, Sem.run_pure]
    · cases k with
      | zero => simp at hx hu; subst hx; subst hu; exact hv
      | succ k => exact hvs k x u (by simpa using hx) (by simpa using hu)

/-- A FUNCTION, OUT OF ITS BODY's WALK. -/
theorem AC_of {f : FuncId} {fn : Func} {c : Code} {args T0 : List AV} (hf : P.funcs[f]? = some fn) (hb : fn.body = some c) {rs : List ResultVar} (hrs : fn.results = rs.toArray) {n : Nat} (hn : fn.ntmps = n)
    (hT : args ++ List.replicate (n - args.length) (.v undef) = T0) (h : AW P none c [] T0 H (retQ P rs K)) : AC P f args H K := fun w vs hl hv hh => by
  refine callsIn_of_wp hf hb trivial ?_ rfl
  have hst : St P [] T0 H { tmps := vs ++ Array.replicate (fn.ntmps - vs.size) undef, defers := [] } w := by
    refine ⟨rfl, by rw [← hT, hn]; simp [hl], fun k x hx => ?_, hh⟩
    rw [← hT, List.getElem?_append] at hx
    simp only [Array.getElem?_append]
    rw [hl] at hx
    split at hx
    · rename_i hlt
      rw [if_pos hlt]
      exact ⟨vs[k], Array.getElem?_eq_getElem hlt, hv k x _ hx (Array.getElem?_eq_getElem hlt)⟩
    · rename_i hlt
      rw [if_neg hlt, hn]
      rw [List.getElem?_replicate] at hx
      split at hx
      · rename_i h2
        injection hx with hx
        subst hx
        exact ⟨undef, by rw [Array.getElem?_replicate, if_pos h2], .v _⟩
      · cases hx
  refine wpIn_mono (h _ _ hst) ?_
  rintro e a1 w1 ⟨ds1, T1, H1, s1, k1, he, rfl, xs, H2, hr, hsub, hK⟩
  obtain ⟨us, hrun, hlen, hus⟩ := RVL.run s1 hr
  have hres : (results fn a1.tmps).run P w1 = .ok (if h : us.length = 1 then us[0] else .tuple us.toArray) w1 := by
    have e0 : results fn a1.tmps = (do let vs ← fn.results.mapM (resOf a1.tmps); pure (if h : vs.size = 1 then vs[0] else .tuple vs)) := rfl
    rw [e0, hrs]
    simp only [Sem.run_bind]
    have e1 : ∀ g : ResultVar → Sem Value, (rs.toArray.mapM g) = (List.toArray <$> rs.mapM g) := fun g => by simp
    rw [e1]
    have e2 : ∀ (m : Sem (List Value)) (w : World), (List.toArray <$> m).run P w = (m.run P w).andThen fun l w => .ok l.toArray w := by
      intro m w
      have := Sem.run_bind P w m (fun l : List Value => (pure l.toArray : Sem (Array Value)))
      simp only [Sem.run_pure] at this
      exact this
    rw [e2, hrun]
    simp
  have hR : ∃ v x H', Ending.returned (if h : us.length = 1 then us[0] else .tuple us.toArray) = .returned v ∧ VR P w1 H' x v ∧ HR P H' w1 ∧ Step H w H' w1 ∧ K x H' := by
    refine ⟨_, _, H2, rfl, ?_, s1.heap.sub hsub, k1.sub hsub, hK⟩
    refine VR.sub hsub ?_
    match xs, us, hlen, hus with
    | [], [], _, _ => exact .tup rfl (fun k y u h => by simp at h)
    | [x], [u], _, hus => exact hus 0 x u rfl rfl
    | x :: x' :: xs, u :: u' :: us, hlen, hus =>
      rw [dif_neg (by simp)]
      exact .tup (by simpa using hlen) (fun k y u hy hu => hus k y u hy (by simpa using hu))
  rcases he with rfl | rfl
  · exact ⟨s1.defers, _, hres, hR⟩
  · exact ⟨s1.defers, _, hres, hR⟩

theorem retQ_1 {e : Exit} {t : Tmp} {x : AV} {H' : AH} (he : e = .normal ∨ e = .ret) (hx : T[t]? = some x) (hs : SubH H' H) (k : K x H') : retQ P [.tmp t] K e [] T H :=
  ⟨he, rfl, [x], H', .cons (.tmp hx) .nil, hs, k⟩
theorem retQ_2 {e : Exit} {t u : Tmp} {x y : AV} {H' : AH} (he : e = .normal ∨ e = .ret) (hx : T[t]? = some x) (hy : T[u]? = some y) (hs : SubH H' H) (k : K (.tup [x, y]) H') : retQ P [.tmp t, .tmp u] K e [] T H :=
  ⟨he, rfl, [x, y], H', .cons (.tmp hx) (.cons (.tmp hy) .nil), hs, k⟩
theorem retQ_3 {e : Exit} {t u v : Tmp} {x y z : AV} {H' : AH} (he : e = .normal ∨ e = .ret) (hx : T[t]? = some x) (hy : T[u]? = some y) (hz : T[v]? = some z) (hs : SubH H' H) (k : K (.tup [x, y, z]) H') : retQ P [.tmp t, .tmp u, .tmp v] K e [] T H :=
  ⟨he, rfl, [x, y, z], H', .cons (.tmp hx) (.cons (.tmp hy) (.cons (.tmp hz) .nil)), hs, k⟩
theorem retQ_0 {e : Exit} {H' : AH} (he : e = .normal ∨ e = .ret) (hs : SubH H' H) (k : K (.tup []) H') : retQ P [] K e [] T H :=
  ⟨he, rfl, [], H', .nil, hs, k⟩
end
end Go.AL

/- Append; rows made anew; what is owned handed on as read. -/
set_option autoImplicit false
set_option linter.unusedVariables false
set_option linter.unusedSimpArgs false
namespace Go.AL
open Go Go.RowKit

/-- A row of ours in memory: its first n elements' cells. -/
def RowC (w : World) (A : Option Nat) (e : TypeId) (cap n size : Nat) (old : List Value) : Prop :=
  match A with
  | none => n = 0 ∧ cap = 0 ∧ old = []
  | some b => ∃ cs fr, w.heap[b]? = some (.cells cs e fr) ∧ cs.size = cap * size ∧ (∀ i, i < cs.size → ¬ (fr.1 ≤ i ∧ i < fr.2)) ∧ n ≤ cap ∧ old = cs.toList.take (n * size)

def infoOf (P : Program) (e : TypeId) : Option (Option Value × Nat × Nat) := (P.info? e).map fun i => (i.zero, i.size, i.bytes)

theorem run_append_c {P : Program} {t e ty : TypeId} {z : Value} {size bytes : Nat} (ht : P.underlying t = some (.slice e)) (hi : infoOf P e = some (some z, size, bytes)) (hzs : z.cells.size = size) (hb0 : 0 < bytes)
    {w : World} {A : Option Nat} {B : Option Addr} (hB : Base A B) {cap n : Nat} {old : List Value} (hrow : RowC w A e cap n size old)
    (a : Addr) (m c : Nat) (news : List Value) (hl : news.length = m * size) (hnews : ∀ j u, news[j]? = some u → w.cell? (a.add j) = some u) (h1 : ∀ u ∈ news, u.oneCell' = true)
    (hbytes : (n + m) * bytes ≤ 140737488355328) :
    ∃ A2 B2 cap2 w2, (Builtin.append_ #[t, t] ty #[.slice B n cap, .slice (some a) m c]).run P w = .ok (.slice B2 (n + m) cap2) w2 ∧ Base A2 B2 ∧ RowC w2 A2 e cap2 (n + m) size (old ++ news) ∧
      (A2 = A ∨ A2 = some w.heap.size) ∧ (0 < m → A2 ≠ none) ∧ w2.os = w.os ∧ w2.tape = w.tape ∧ w2.output = w.output ∧ w.heap.size ≤ w2.heap.size ∧ ∀ k, k < w.heap.size → some k ≠ A → w2.heap[k]? = w.heap[k]? := by
  obtain ⟨i, hi', hzz⟩ := Option.map_eq_some_iff.1 hi
  simp only [Prod.mk.injEq] at hzz
  obtain ⟨hz, hs, hby⟩ := hzz
  subst hs
  subst hby
  have hnm : n + m ≤ 140737488355328 := Nat.le_trans (Nat.le_mul_of_pos_right _ hb0) hbytes
  cases A with
  | none =>
    obtain ⟨rfl, rfl, rfl⟩ := hrow
    by_cases hm : m = 0
    · subst hm
      have hn : news = [] := List.eq_nil_of_length_eq_zero (by simpa using hl)
      subst hn
      refine ⟨none, B, 0, w, ?_, hB, ⟨rfl, rfl, rfl⟩, .inl rfl, fun h => absurd h (by omega), rfl, rfl, rfl, Nat.le_refl _, fun _ _ _ => rfl⟩
      cases B <;> simp [Builtin.append_, run_underlying ht, sizeOf, typeInfo, hi', Builtin.lenOf, Builtin.firstCells, loadCells, loadCellsFrom, storeCells]
    · have hr : (Builtin.append_ #[t, t] ty #[.slice B 0 0, .slice (some a) m c]).run P w = .ok (.slice (some ⟨w.heap.size, 0, none⟩) m (grownCap w m 0 e)) (w.drew.alloc (.cells (news.toArray ++ Builtin.zeroCells z.cells (grownCap w m 0 e - m)) e)) := by
        cases B with
        | none => exact run_append_nil (P := P) w t ty e i z ht hi' hz a m c news hl hnews (by omega) (by omega) (by simp at hbytes; omega)
        | some b0 =>
          have := run_append_grow (P := P) w t ty e i z ht hi' hz b0 0 0 [] (by simp) (fun j v h => by simp at h) a m c news hl hnews (by omega) (by omega) (growslice_fits (by omega) hbytes)
          simpa using this
      have hge := grownCap_ge w m 0 e
      refine ⟨some w.heap.size, _, grownCap w m 0 e, w.drew.alloc (.cells (news.toArray ++ Builtin.zeroCells z.cells (grownCap w m 0 e - m)) e), by simpa using hr, fun b e => by cases e; rfl, ?_, .inr rfl, fun _ => by simp, rfl, rfl, rfl, by simp, fun k hk _ => heap_alloc_old w.drew _ k hk⟩
      refine ⟨_, (0, 0), heap_alloc_new w.drew _, ?_, fun i _ h => by simp at h, by simpa using hge, ?_⟩
      · simp only [Array.size_append, List.size_toArray, size_zeroCells, hzs, hl, ← Nat.add_mul]
        congr 1; omega
      · simp only [Array.toList_append, List.nil_append, Nat.zero_add]
        rw [← hl]; simp
  | some b =>
    obtain ⟨cs, fr, hb, hsz, hfr, hnc, rfl⟩ := hrow
    obtain rfl := hB b rfl
    by_cases hroom : n + m ≤ cap
    · have hlt : n * i.size + news.length ≤ cs.size := by rw [hl, hsz, ← Nat.add_mul]; exact Nat.mul_le_mul_right _ hroom
      have hst := run_storeCells_cells (P := P) b (n * i.size) news 0 w
        (fun j hj => by
          have : n * i.size + j < cs.size := by omega
          simp [World.cell?, hb, this])
        (fun j hj => by
          have := hfr (n * i.size + j) (by omega)
          simp only [World.frozen?, hb, Nat.add_zero]
          simp only [Bool.and_eq_false_iff, decide_eq_false_iff_not]
          exact Decidable.not_and_iff_not_or_not.1 this) h1
      obtain ⟨cs', k1, k2, k3, k4, k5, k6⟩ := setCells_row news (n * i.size) w cs hb
      refine ⟨some b, _, cap, w.setCells b (n * i.size) news, ?_, hB, ⟨cs', fr, k1, by rw [k2, hsz], fun i hi => hfr i (by omega), hroom, ?_⟩, .inl rfl, fun _ => by simp, k5.os, k5.tape, k5.output, k5.size, fun k hk hne => k5.block k hk (fun e => hne (by rw [e]))⟩
      · have hf := run_firstCells_some (P := P) w i.size m a m c news hl hnews
        simp only [Nat.add_zero] at hst
        simp [Builtin.append_, run_underlying ht, sizeOf, typeInfo, hi', Builtin.lenOf, hroom, hf, addr_add, hst]
      · apply List.ext_getElem?
        intro k
        by_cases hk : k < n * i.size
        · rw [List.getElem?_append_left (by simp; omega), List.getElem?_take, if_pos hk, List.getElem?_take, if_pos (by rw [Nat.add_mul]; omega), Array.getElem?_toList, Array.getElem?_toList, k3 k (by omega)]
        · have hlen : (List.take (n * i.size) cs.toList).length = n * i.size := by simp; omega
          rw [List.getElem?_append_right (by omega), hlen]
          by_cases hk2 : k < n * i.size + news.length
          · have hj : k - n * i.size < news.length := by omega
            have e1 := k4 (k - n * i.size) _ (List.getElem?_eq_getElem hj) (by omega)
            rw [show n * i.size + (k - n * i.size) = k by omega] at e1
            rw [List.getElem?_eq_getElem hj, List.getElem?_take, if_pos (by rw [Nat.add_mul]; omega), Array.getElem?_toList, e1]
          · rw [List.getElem?_eq_none (by omega), List.getElem?_take, if_neg (by rw [Nat.add_mul]; omega)]
    · have hlen : (cs.toList.take (n * i.size)).length = n * i.size := by
        have : n * i.size ≤ cap * i.size := Nat.mul_le_mul_right _ hnc
        simp; omega
      have holds : ∀ j u, (cs.toList.take (n * i.size))[j]? = some u → w.cell? ((⟨b, 0, none⟩ : Addr).add j) = some u := by
        intro j u hj
        rw [List.getElem?_take] at hj
        split at hj
        · rw [addr_add]; simp [World.cell?, hb]; simpa using hj
        · cases hj
      have hr := run_append_grow (P := P) w t ty e i z ht hi' hz ⟨b, 0, none⟩ n cap _ hlen holds a m c news hl hnews (by omega) (by omega) (growslice_fits (by omega) hbytes)
      have hge := grownCap_ge w (n + m) cap e
      refine ⟨some w.heap.size, _, _, _, hr, fun b e => by cases e; rfl, ?_, .inr rfl, fun _ => by simp, rfl, rfl, rfl, by simp, fun k hk _ => heap_alloc_old w.drew _ k hk⟩
      refine ⟨_, (0, 0), heap_alloc_new w.drew _, ?_, fun i _ h => by simp at h, hge, ?_⟩
      · simp only [Array.size_append, List.size_toArray, size_zeroCells, hzs, hlen, hl, ← Nat.add_mul]
        congr 1; omega
      · simp only [Array.toList_append]
        have : (n + m) * i.size = (cs.toList.take (n * i.size) ++ news).length := by rw [List.length_append, hlen, hl, Nat.add_mul]
        rw [this]
        exact List.take_left.symm

/-- A row of ours, nil or not. -/
def Own (H : AH) (A : Option Nat) (e : TypeId) (c : Nat) (xs : List AV) : Prop :=
  match A with
  | none => c = 0 ∧ xs = []
  | some b => H b = some (.row e c xs)
def AH.rem (H : AH) (A : Option Nat) : AH := match A with | none => H | some b => H.upd b none
def AH.put (H : AH) (A : Option Nat) (e : TypeId) (c : Nat) (xs : List AV) : AH := match A with | none => H | some b => H.upd b (some (.row e c xs))

theorem Own.rowC {P : Program} {H : AH} {w : World} (hh : HR P H w) {A : Option Nat} {e : TypeId} {c sz : Nat} {xs : List AV} (hs : szOf P e = some sz) (h : Own H A e c xs) :
    ∃ old, RowC w A e c xs.length sz old ∧ old.length = xs.length * sz ∧ (∀ x ∈ xs, x.cells.length = sz) ∧ ∀ (k : Nat) (y : AV), (flat xs)[k]? = some y → ∃ u, old[k]? = some u ∧ VR P w H y u := by
  cases A with
  | none => obtain ⟨rfl, rfl⟩ := h; exact ⟨[], ⟨rfl, rfl, rfl⟩, by simp, fun x hx => by simp at hx, fun k y hy => by simp [flat] at hy⟩
  | some b =>
    obtain ⟨cs, fr, h1, h2, h3, h4, h5, h6⟩ := hh b _ h
    rw [szOf_cells hs] at h2 h5
    have hle : xs.length * sz ≤ c * sz := Nat.mul_le_mul_right _ h4
    refine ⟨_, ⟨cs, fr, h1, h2, h3, h4, rfl⟩, by simp; omega, h5, fun k y hy => ?_⟩
    obtain ⟨u, hu, hv⟩ := h6 k y hy
    have hk : k < xs.length * sz := by rw [← flat_length xs sz h5]; exact (List.getElem?_eq_some_iff.1 hy).1
    exact ⟨u, by rw [List.getElem?_take, if_pos hk, Array.getElem?_toList]; exact hu, hv⟩

theorem flat_append (xs ys : List AV) : flat (xs ++ ys) = flat xs ++ flat ys := by simp [flat]

section ops
variable {P : Program} {ro : Option Nat} {ds : List Deferred} {T : List AV} {H : AH} {Q : Post} {ops : Array Oper} {rest : List Oper}
variable {d : Option Tmp} {ty ty2 : TypeId} {pos pos2 : String} {af af2 : Array Edge} {s s' : Operand} {x y : AV}

theorem Step.unowned (H : AH) (w : World) (o : Obj) (hh : HR P H w) : Step H w H (w.alloc o) := ⟨rfl, rfl, rfl, by simp, fun k hk h0 => ⟨Below.heap_alloc _ _ _ hk, h0⟩⟩
theorem HR.unowned {w : World} (hh : HR P H w) (o : Obj) : HR P H (w.alloc o) := fun b q hb => ((hh b q hb)).keep (Step.unowned H w o hh) (Below.heap_alloc _ _ _ (hh b q hb).lt)

/-- The state behind an append. -/
theorem append_state {e : TypeId} {c sz : Nat} {A A2 : Option Nat} {cap2 n2 : Nat} {xs zs : List AV} {old news : List Value} {w w2 : World} (hh : HR P H w) (hs : szOf P e = some sz) (hown : Own H A e c xs)
    (hrow : RowC w2 A2 e cap2 n2 sz (old ++ news)) (hold : old.length = xs.length * sz) (hel : ∀ x ∈ xs ++ zs, x.cells.length = sz) (hn2 : n2 = (xs ++ zs).length)
    (hx : ∀ (k : Nat) (y : AV), (flat xs)[k]? = some y → ∃ u, old[k]? = some u ∧ VR P w H y u) (hz : ∀ (k : Nat) (y : AV), (flat zs)[k]? = some y → ∃ u, news[k]? = some u ∧ VR P w H y u)
    (hA2 : A2 = A ∨ A2 = some w.heap.size) (hos : w2.os = w.os) (htape : w2.tape = w.tape) (hout : w2.output = w.output) (hsz : w.heap.size ≤ w2.heap.size) (hk : ∀ k, k < w.heap.size → some k ≠ A → w2.heap[k]? = w.heap[k]?) :
    Step H w ((H.rem A).put A2 e cap2 (xs ++ zs)) w2 ∧ HR P ((H.rem A).put A2 e cap2 (xs ++ zs)) w2 ∧ ∀ b, A2 = some b → (H.rem A) b = none := by
  have hrem : ∀ b, b < w.heap.size → H b = none → (H.rem A) b = none := by
    intro b hb h0
    cases A with
    | none => exact h0
    | some a => simp only [AH.rem, AH.upd]; split <;> first | rfl | exact h0
  have hnewb : ∀ b, A2 = some b → (H.rem A) b = none := by
    intro b hb
    rcases hA2 with h | h
    · rw [h] at hb; subst hb; simp [AH.rem, AH.upd_same]
    · rw [h] at hb; injection hb with hb; subst hb
      cases A with
      | none => exact hh.none_new
      | some a => simp only [AH.rem, AH.upd]; split <;> first | rfl | exact hh.none_new
  have hneA : ∀ b, H b = none → some b ≠ A := by
    intro b h0 e
    subst e
    rw [show H b = some _ from hown] at h0; cases h0
  have hstep : Step H w ((H.rem A).put A2 e cap2 (xs ++ zs)) w2 := by
    refine ⟨hos, htape, hout, hsz, fun b hb h0 => ⟨hk b hb (hneA b h0), ?_⟩⟩
    have hne : A2 ≠ some b := by
      rintro rfl
      rcases hA2 with h | h
      · exact hneA b h0 h
      · injection h with h; omega
    cases A2 with
    | none => exact hrem b hb h0
    | some a => simp only [AH.put]; rw [AH.upd_ne _ _ (fun e => hne (by rw [e]))]; exact hrem b hb h0
  refine ⟨hstep, ?_, hnewb⟩
  have hother : ∀ b o, (H.rem A) b = some o → OR P ((H.rem A).put A2 e cap2 (xs ++ zs)) w2 b o := by
    intro b o hb
    have hbA : some b ≠ A := by rintro rfl; simp [AH.rem, AH.upd_same] at hb
    have hb' : H b = some o := by
      cases A with
      | none => exact hb
      | some a => simp only [AH.rem] at hb; rwa [AH.upd_ne _ _ (fun e => hbA (by rw [e]))] at hb
    exact (hh b o hb').keep hstep (hk b (hh b o hb').lt hbA)
  intro b o hb
  cases A2 with
  | none => exact hother b o hb
  | some a =>
    simp only [AH.put] at hb
    by_cases hba : b = a
    · subst hba
      rw [AH.upd_same] at hb
      injection hb with hb
      subst hb
      obtain ⟨cs, fr, q1, q2, q3, q4, q5⟩ := hrow
      refine ⟨cs, fr, q1, by rw [szOf_cells hs]; exact q2, q3, by omega, fun x hx => by rw [szOf_cells hs]; exact hel x hx, fun k y hy => ?_⟩
      have hlx : ∀ x ∈ xs, x.cells.length = sz := fun x hx => hel x (by simp [hx])
      have hfin : ∀ u, (old ++ news)[k]? = some u → cs[k]? = some u := by
        intro u hu
        rw [q5, List.getElem?_take] at hu
        split at hu
        · rwa [Array.getElem?_toList] at hu
        · cases hu
      rw [flat_append] at hy
      by_cases hkk : k < (flat xs).length
      · rw [List.getElem?_append_left hkk] at hy
        obtain ⟨u, hu, hv⟩ := hx k y hy
        refine ⟨u, hfin u ?_, hv.step hstep⟩
        rw [List.getElem?_append_left (List.getElem?_eq_some_iff.1 hu).1]; exact hu
      · rw [List.getElem?_append_right (by omega)] at hy
        obtain ⟨u, hu, hv⟩ := hz _ y hy
        refine ⟨u, hfin u ?_, hv.step hstep⟩
        rw [flat_length xs sz hlx] at hkk hu
        rw [List.getElem?_append_right (by omega), hold]; exact hu
    · rw [AH.upd_ne _ _ hba] at hb
      exact hother b o hb

/-- What is put together out of parts. -/
theorem foldl_set (off : Nat) : ∀ (l : List Value) (j : Nat) (cs : Array Value), ((l.zipIdx j).foldl (fun cs (p : Value × Nat) => cs.setIfInBounds (off + p.2) p.1) cs).size = cs.size ∧
    ∀ k, ((l.zipIdx j).foldl (fun cs (p : Value × Nat) => cs.setIfInBounds (off + p.2) p.1) cs)[k]? = if off + j ≤ k ∧ k < off + j + l.length ∧ k < cs.size then l[k - (off + j)]? else cs[k]? := by
  intro l
  induction l with
  | nil => intro j cs; refine ⟨rfl, fun k => ?_⟩; simp; omega
  | cons v l ih =>
    intro j cs
    obtain ⟨h1, h2⟩ := ih (j + 1) (cs.setIfInBounds (off + j) v)
    simp only [List.zipIdx_cons, List.foldl_cons]
    refine ⟨by rw [h1]; simp, fun k => ?_⟩
    rw [h2, Array.size_setIfInBounds, Array.getElem?_setIfInBounds]
    by_cases hk : off + j = k
    · subst hk
      rw [if_neg (by omega), if_pos rfl]
      by_cases hlt : off + j < cs.size
      · rw [if_pos hlt, if_pos ⟨by omega, by simp, hlt⟩]; simp
      · rw [if_neg hlt, if_neg (by omega)]; simp; omega
    · rw [if_neg hk]
      by_cases hc : off + (j + 1) ≤ k ∧ k < off + (j + 1) + l.length ∧ k < cs.size
      · rw [if_pos hc, if_pos ⟨by omega, by simp; omega, hc.2.2⟩]
        obtain ⟨m, rfl⟩ : ∃ m, k = off + j + (m + 1) := ⟨k - (off + j) - 1, by omega⟩
        rw [show off + j + (m + 1) - (off + j) = m + 1 by omega, show off + j + (m + 1) - (off + (j + 1)) = m by omega]; simp
      · rw [if_neg hc, if_neg (fun hc' => hc ⟨by omega, by have := hc'.2.1; simp at this; omega, hc'.2.2⟩)]

/-- The same of abstract cells. -/
def fillA (place : Nat → Option (Nat × Nat)) (cells : List AV) : List (Nat × AV) → Option (List AV)
  | [] => some cells
  | (i, y) :: rest =>
    match place i with
    | none => none
    | some (off, size) => if y.cells.length = size ∧ off + size ≤ cells.length then fillA place (cells.take off ++ y.cells ++ cells.drop (off + size)) rest else none

theorem fill_run {w : World} {place : Nat → Option (Nat × Nat)} : ∀ (parts : List (Nat × AV)) (vals : List (Nat × Value)) (zs zs' : List AV) (cs : Array Value), fillA place zs parts = some zs' → zs.length = cs.size → (∀ (k : Nat) (y : AV) (u : Value), zs[k]? = some y → cs[k]? = some u → VR P w H y u) →
    parts.length = vals.length → (∀ (k : Nat) (p : Nat × AV) (q : Nat × Value), parts[k]? = some p → vals[k]? = some q → p.1 = q.1 ∧ VR P w H p.2 q.2 ∧ p.2.mem = true) →
    ∃ cs', Instr.fill place cs vals = some cs' ∧ zs'.length = cs'.size ∧ ∀ (k : Nat) (y : AV) (u : Value), zs'[k]? = some y → cs'[k]? = some u → VR P w H y u := by
  intro parts
  induction parts with
  | nil =>
    intro vals zs zs' cs hf hl hv hlen _
    cases vals with
    | nil => simp only [fillA] at hf; injection hf with hf; subst hf; exact ⟨cs, rfl, hl, hv⟩
    | cons q vals => simp at hlen
  | cons p parts ih =>
    intro vals zs zs' cs hf hl hv hlen hp
    cases vals with
    | nil => simp at hlen
    | cons q vals =>
      obtain ⟨i, y⟩ := p
      obtain ⟨i', v⟩ := q
      obtain ⟨he, hy, hm⟩ := hp 0 _ _ rfl rfl
      simp only at he hy hm
      subst he
      obtain ⟨hcl, hcv, _⟩ := hy.mem_cells hm
      simp only [fillA] at hf
      cases hpl : place i with
      | none => simp [hpl] at hf
      | some os =>
        obtain ⟨off, size⟩ := os
        simp only [hpl] at hf
        split at hf
        · rename_i hc
          have hvs : v.cells.size = size := by rw [← hc.1, ← hcl]; simp
          have hfold : v.cells.zipIdx.foldl (fun cs (p : Value × Nat) => cs.setIfInBounds (off + p.2) p.1) cs = (v.cells.toList.zipIdx 0).foldl (fun cs (p : Value × Nat) => cs.setIfInBounds (off + p.2) p.1) cs := by
            rw [← Array.foldl_toList]; simp
          obtain ⟨g1, g2⟩ := foldl_set off v.cells.toList 0 cs
          rw [← hfold] at g1 g2
          obtain ⟨cs', r1, r2, r3⟩ := ih vals _ zs' (v.cells.zipIdx.foldl (fun cs (p : Value × Nat) => cs.setIfInBounds (off + p.2) p.1) cs) hf
            (by rw [g1, ← hl]; simp; omega)
            (fun k z u hz hu => by
              rw [g2] at hu
              simp only [Nat.add_zero, Array.length_toList, hvs] at hu
              rw [List.append_assoc] at hz
              have hto : (zs.take off).length = off := by simp; omega
              by_cases h1 : k < off
              · rw [List.getElem?_append_left (by omega), List.getElem?_take, if_pos h1] at hz
                rw [if_neg (by omega)] at hu
                exact hv k z u hz hu
              · rw [List.getElem?_append_right (by omega), hto] at hz
                by_cases h2 : k < off + size
                · rw [List.getElem?_append_left (by omega)] at hz
                  rw [if_pos ⟨by omega, h2, by omega⟩] at hu
                  exact hcv _ z u hz hu
                · rw [List.getElem?_append_right (by omega), List.getElem?_drop, hc.1, show off + size + (k - off - size) = k by omega] at hz
                  rw [if_neg (by omega)] at hu
                  exact hv k z u hz hu)
            (by simpa using hlen) (fun k p q h1 h2 => hp (k + 1) p q (by simpa using h1) (by simpa using h2))
          refine ⟨cs', ?_, r2, r3⟩
          simp only [Instr.fill, hpl]
          rw [if_neg (by simp [hvs]; omega)]
          exact r1
        · cases hf

inductive EvP (T : List AV) : List (Nat × Operand) → List (Nat × AV) → Prop
  | nil : EvP T [] []
  | cons {i : Nat} {s : Operand} {x : AV} {ss : List (Nat × Operand)} {xs : List (Nat × AV)} (h : EVR T s x) (hm : x.mem = true) (hs : EvP T ss xs) : EvP T ((i, s) :: ss) ((i, x) :: xs)
theorem EvP.vals {a : Act} {w : World} (hst : St P ds T H a w) {ss : List (Nat × Operand)} {xs : List (Nat × AV)} (h : EvP T ss xs) :
    xs.length = (ss.map fun p => (p.1, a.eval p.2)).length ∧ ∀ (k : Nat) (p : Nat × AV) (q : Nat × Value), xs[k]? = some p → (ss.map fun p => (p.1, a.eval p.2))[k]? = some q → p.1 = q.1 ∧ VR P w H p.2 q.2 ∧ p.2.mem = true := by
  induction h with
  | nil => exact ⟨rfl, fun k x o h => by simp at h⟩
  | cons h hm hs ih =>
    refine ⟨by simp [ih.1], fun k p q hx ho => ?_⟩
    cases k with
    | zero => simp at hx ho; subst hx; subst ho; exact ⟨rfl, hst.evr h, hm⟩
    | succ k => exact ih.2 k p q (by simpa using hx) (by simpa using ho)

/-- The rows of a slice literal. -/
theorem buildSlice_run {a : Act} {w : World} (hst : St P ds T H a w) {t e : TypeId} {n sz : Nat} {z : Value} {parts : List (Nat × Operand)} {ys : List (Nat × AV)} {zs' : List AV} (ht : P.underlying t = some (.slice e)) (hs : szOf P e = some sz) (hz : zeroOf P e = some z) (hzs : z.cells.size = sz) (hszn : n * sz ≤ 16777216) (hs0 : 0 < sz)
    (hp : EvP T parts ys) (hf : fillA (fun i => some (i * sz, sz)) (List.replicate (n * sz) .any) ys = some zs') :
    ∃ cs, (Instr.buildSlice t n (parts.toArray.map fun p => (p.1, a.eval p.2))).run P w = .ok (.slice (some ⟨w.heap.size, 0, none⟩) n n) (w.alloc (.cells cs e)) ∧ cs.size = n * sz ∧ ∀ (k : Nat) (y : AV) (u : Value), zs'[k]? = some y → cs[k]? = some u → VR P w H y u := by
  obtain ⟨hl, hv⟩ := hp.vals hst
  have hlim : ¬ (n * sz > 2 ^ 24) := by omega
  by_cases h0 : n = 0
  · subst h0
    obtain ⟨cs', h1, h2, h3⟩ := fill_run (P := P) (H := H) (w := w) (place := fun i => some (i * sz, sz)) ys (parts.map fun p => (p.1, a.eval p.2)) (List.replicate (0 * sz) .any) zs' #[] hf (by simp) (fun k y u h => by simp at h) hl hv
    refine ⟨cs', ?_, ?_, h3⟩
    · simp only [Instr.buildSlice, Sem.run_bind, run_underlying ht, Result.andThen_ok, run_sizeOf' hs]
      rw [if_neg hlim]
      have e0 : ∀ g : Nat → Value, (Array.range 0).map g = #[] := fun g => by simp [Array.range]
      simp [e0, h1, newRow]
    · rw [← h2]
      have : ∀ (ys : List (Nat × AV)) (zs zs' : List AV), fillA (fun i => some (i * sz, sz)) zs ys = some zs' → zs'.length = zs.length := by
        intro ys
        induction ys with
        | nil => intro zs zs' h; simp only [fillA] at h; injection h with h; rw [h]
        | cons p ys ih =>
          intro zs zs' h
          simp only [fillA] at h
          split at h
          · rename_i hc; rw [ih _ _ h]; simp [hc.1]; omega
          · cases h
      rw [this _ _ _ hf]; simp
  · have hne : ¬ (n * sz = 0) := fun h => by rcases Nat.mul_eq_zero.1 h with h | h <;> omega
    obtain ⟨cs', h1, h2, h3⟩ := fill_run (P := P) (H := H) (w := w) (place := fun i => some (i * sz, sz)) ys (parts.map fun p => (p.1, a.eval p.2)) (List.replicate (n * sz) .any) zs' ((Array.range (n * sz)).map (z.cells[· % z.cells.size]!)) hf (by simp) (fun k y u h _ => by
      rw [List.getElem?_replicate] at h; split at h
      · injection h with h; subst h; exact .any _
      · cases h) hl hv
    refine ⟨cs', ?_, ?_, h3⟩
    · simp only [Instr.buildSlice, Sem.run_bind, run_underlying ht, Result.andThen_ok, run_sizeOf' hs]
      rw [if_neg hlim, if_neg hne]
      simp [h1, newRow, run_zeroValue' hz]
    · rw [← h2]
      have : ∀ (ys : List (Nat × AV)) (zs zs' : List AV), fillA (fun i => some (i * sz, sz)) zs ys = some zs' → zs'.length = zs.length := by
        intro ys
        induction ys with
        | nil => intro zs zs' h; simp only [fillA] at h; injection h with h; rw [h]
        | cons p ys ih =>
          intro zs zs' h
          simp only [fillA] at h
          split at h
          · rename_i hc; rw [ih _ _ h]; simp [hc.1]; omega
          · cases h
      rw [this _ _ _ hf]; simp

/-- The parts of a literal, one behind the other. -/
inductive EvS (T : List AV) : Nat → List (Nat × Operand) → List AV → Prop
  | nil {k : Nat} : EvS T k [] []
  | cons {k : Nat} {s : Operand} {x : AV} {ss : List (Nat × Operand)} {xs : List AV} (h : EVR T s x) (hm : x.mem = true) (hs : EvS T (k + 1) ss xs) : EvS T k ((k, s) :: ss) (x :: xs)
def enum : Nat → List AV → List (Nat × AV)
  | _, [] => []
  | k, x :: xs => (k, x) :: enum (k + 1) xs
theorem EvS.evP {k : Nat} {ss : List (Nat × Operand)} {xs : List AV} (h : EvS T k ss xs) : EvP T ss (enum k xs) := by
  induction h with
  | nil => exact .nil
  | cons h hm hs ih => exact .cons h hm ih
theorem EvS.len {k : Nat} {ss : List (Nat × Operand)} {xs : List AV} (h : EvS T k ss xs) : ss.length = xs.length := by
  induction h with
  | nil => rfl
  | cons h hm hs ih => simp [ih]
theorem fill_enum (sz : Nat) : ∀ (xs : List AV) (k : Nat) (pre rest : List AV), pre.length = k * sz → rest.length = xs.length * sz → (∀ x ∈ xs, x.cells.length = sz) → fillA (fun i => some (i * sz, sz)) (pre ++ rest) (enum k xs) = some (pre ++ flat xs) := by
  intro xs
  induction xs with
  | nil => intro k pre rest hp hr _; obtain rfl : rest = [] := List.eq_nil_of_length_eq_zero (by simpa using hr); simp [enum, fillA, flat]
  | cons x xs ih =>
    intro k pre rest hp hr hs
    have hx := hs x (by simp)
    simp only [List.length_cons, Nat.succ_mul] at hr
    simp only [enum, fillA]
    rw [if_pos ⟨hx, by simp [hp]; omega⟩]
    have e1 : (pre ++ rest).take (k * sz) = pre := by rw [← hp]; simp
    have e2 : (pre ++ rest).drop (k * sz + sz) = rest.drop sz := by rw [← hp, ← List.drop_drop]; simp
    rw [e1, e2, ih (k + 1) (pre ++ x.cells) (rest.drop sz) (by simp [hp, hx, Nat.succ_mul]) (by simp; omega) (fun y hy => hs y (by simp [hy]))]
    simp [flat]

/-- A slice literal: a row of our own. -/
theorem AL_buildSlice {t e : TypeId} {n sz : Nat} {z : Value} {parts : List (Nat × Operand)} {xs : List AV} (ht : P.underlying t = some (.slice e)) (hs : szOf P e = some sz) (hz : zeroOf P e = some z) (hzs : z.cells.size = sz) (hszn : n * sz ≤ 16777216) (hs0 : 0 < sz)
    (hps : EvS T 0 parts xs) (hxn : parts.length = n) (hel0 : xs.all (fun x => Nat.beq x.cells.length sz) = true)
    (h : ∀ b, H b = none → AL P ro ops rest ds (tput T d (.own (some b) n n)) (H.upd b (some (.row e n xs))) Q) :
    AL P ro ops (⟨d, .buildSlice t n parts.toArray, ty, pos, af, none⟩ :: rest) ds T H Q := by
  have hel : ∀ x ∈ xs, x.cells.length = sz := fun x hx => by
    simp only [List.all_eq_true] at hel0
    exact Nat.eq_of_beq_eq_true (hel0 x hx)
  have hp := hps.evP
  have hxn : xs.length = n := by rw [← hxn, hps.len]
  have hf := fill_enum sz xs 0 [] (List.replicate (n * sz) .any) (by simp) (by simp [hxn]) hel
  simp only [List.nil_append] at hf
  refine AL_op rfl (fun _ => by simp) fun a w hst => ?_
  obtain ⟨cs, hr, hc, hv⟩ := buildSlice_run hst ht hs hz hzs hszn hs0 hp hf
  have hnew := hst.heap.none_new
  refine ⟨_, _, .own (some w.heap.size) n n, _, by simp only [execOp, Sem.run_bind, hr]; rfl, .own _ _ _, hst.heap.alloc (OR.new hs hc (by omega) hel (fun k y hy => ?_) hnew), Step.alloc w _ _ hnew, h _ hnew⟩
  have hk : k < cs.size := by rw [hc, ← hxn, ← flat_length xs sz hel]; exact (List.getElem?_eq_some_iff.1 hy).1
  exact ⟨cs[k], Array.getElem?_eq_getElem hk, hv k y _ hy (Array.getElem?_eq_getElem hk)⟩

/-- A slice literal that is read only. -/
theorem AL_buildSl {t e : TypeId} {n sz : Nat} {z : Value} {parts : List (Nat × Operand)} {xs : List AV} (ht : P.underlying t = some (.slice e)) (hs : szOf P e = some sz) (hz : zeroOf P e = some z) (hzs : z.cells.size = sz) (hszn : n * sz ≤ 16777216) (hs0 : 0 < sz)
    (hps : EvS T 0 parts xs) (hxn : parts.length = n) (hel : xs.all (fun x => Nat.beq x.cells.length sz) = true)
    (h : AL P ro ops rest ds (tput T d (.sl e xs)) H Q) :
    AL P ro ops (⟨d, .buildSlice t n parts.toArray, ty, pos, af, none⟩ :: rest) ds T H Q := by
  have hel' : ∀ x ∈ xs, x.cells.length = sz := fun x hx => by
    simp only [List.all_eq_true] at hel
    exact Nat.eq_of_beq_eq_true (hel x hx)
  have hp := hps.evP
  have hxn : xs.length = n := by rw [← hxn, hps.len]
  have hf := fill_enum sz xs 0 [] (List.replicate (n * sz) .any) (by simp) (by simp [hxn]) hel'
  simp only [List.nil_append] at hf
  refine AL_op rfl (fun _ => by simp) fun a w hst => ?_
  obtain ⟨cs, hr, hc, hv⟩ := buildSlice_run hst ht hs hz hzs hszn hs0 hp hf
  have hnew := hst.heap.none_new
  refine ⟨_, _, .sl e xs, H, by simp only [execOp, Sem.run_bind, hr]; rfl, ?_, hst.heap.unowned _, Step.unowned H w _ hst.heap, h⟩
  rw [← hxn]
  have hfl := flat_length xs sz hel'
  refine .sl (A := some ⟨w.heap.size, 0, none⟩) (c := xs.length) (fun k => (cs[k]?).getD undef) (fun x hx => by rw [szOf_cells hs]; exact hel' x hx) (Nat.le_refl _) (fun k y hy => ⟨_, rfl, hnew, ?_⟩) (fun k y hy => ?_)
  · have hk : k < cs.size := by rw [hc, ← hxn, ← hfl]; exact (List.getElem?_eq_some_iff.1 hy).1
    rw [addr_add]
    simp only [World.cell?, heap_alloc_new w (.cells cs e)]
    simp [hk]
  · have hk : k < cs.size := by rw [hc, ← hxn, ← hfl]; exact (List.getElem?_eq_some_iff.1 hy).1
    rw [Array.getElem?_eq_getElem hk]
    exact (hv k y _ hy (Array.getElem?_eq_getElem hk)).step (Step.unowned H w _ hst.heap)

/-- A slice literal of one element, appended. -/
theorem AL_append1 {t e : TypeId} {q : Tmp} {A : Option Nat} {c n : Nat} {xs : List AV} {z : Value} {sz bytes : Nat}
    (hs : ev T s = some (.own A c n)) (hy : ev T s' = some y) (hsq : s ≠ .tmp q) (hq : q < T.length) (hm : y.mem = true) (hown : Own H A e c xs) (hn : n = xs.length) (ht : P.underlying t = some (.slice e)) (hi : infoOf P e = some (some z, sz, bytes)) (hzs : z.cells.size = sz) (hb0 : 0 < bytes)
    (hyn : y.cells.length = sz) (hbound : (n + 1) * bytes ≤ 140737488355328) (hszb : sz ≤ 16777216) (hs0 : 0 < sz)
    (h : ∀ b c', (H.rem A) b = none → AL P ro ops rest ds (tput (T.set q .any) d (.own (some b) c' (n + 1))) ((H.rem A).upd b (some (.row e c' (xs ++ [y])))) Q) :
    AL P ro ops (⟨some q, .buildSlice t 1 #[(0, s')], ty, pos, af, none⟩ :: ⟨d, .call ⟨.builtin .append, #[s, .tmp q], #[t, t]⟩, ty2, pos2, af2, none⟩ :: rest) ds T H Q := fun a w hst => by
  subst hn
  have hso : szOf P e = some sz := by
    unfold infoOf at hi; unfold szOf
    obtain ⟨i, h1, h2⟩ := Option.map_eq_some_iff.1 hi
    simp at h2; rw [h1]; simp [h2.2.1]
  have hzo : zeroOf P e = some z := by
    unfold infoOf at hi; unfold zeroOf
    obtain ⟨i, h1, h2⟩ := Option.map_eq_some_iff.1 hi
    simp at h2; rw [h1]; simp [h2.1]
  obtain ⟨cs, hr, hc, hv⟩ := buildSlice_run hst (n := 1) (parts := [(0, s')]) (ys := [(0, y)]) (zs' := y.cells) ht hso hzo hzs (by omega) hs0 (.cons (.ev hy) hm .nil) (by simp [fillA, hyn])
  simp only [Nat.one_mul] at hc
  obtain ⟨B0, hu, hB0, hA⟩ := (hst.ev hs).own_inv
  refine wpListIn_plain rfl fun K hK => ⟨fun f _ => trivial, ?_⟩
  rw [Oper.semAt_eq _ _ _ (fun _ => by simp)]
  have hr1 : (execOp a.eval { dst := some q, op := Op.buildSlice t 1 #[(0, s')], type := ty, pos := pos, after := af, guard := none }).run P w = .ok (.value (.slice (some ⟨w.heap.size, 0, none⟩) 1 1)) (w.alloc (.cells cs e)) := by
    simp only [execOp, Sem.run_bind]
    rw [show (#[(0, s')] : Array (Nat × Operand)) = [(0, s')].toArray from rfl, hr]; rfl
  rw [hr1]
  refine hK _ _ ?_
  -- the second operation
  have hst1 : St P ds (T.set q .any) H (a.put (some q) (.slice (some ⟨w.heap.size, 0, none⟩) 1 1)) (w.alloc (.cells cs e)) := hst.put (Step.unowned H w _ hst.heap) (hst.heap.unowned _) (d := some q) (.any _)
  have he1 : (a.put (some q) (.slice (some ⟨w.heap.size, 0, none⟩) 1 1)).eval s = a.eval s := by
    cases s with
    | tmp t =>
      have hne : q ≠ t := fun e => hsq (by rw [e])
      simp [Act.eval, Act.put, Array.getD_eq_getD_getElem?, Array.getElem?_setIfInBounds, hne]
    | _ => rfl
  have he2 : (a.put (some q) (.slice (some ⟨w.heap.size, 0, none⟩) 1 1)).eval (.tmp q) = .slice (some ⟨w.heap.size, 0, none⟩) 1 1 := by
    have hlt : q < a.tmps.size := by rw [hst.size]; exact hq
    simp [Act.eval, Act.put, Array.getD_eq_getD_getElem?, Array.getElem?_setIfInBounds, hlt]
  obtain ⟨old, hrow, hold, hel, hx⟩ := Own.rowC hst1.heap hso hown
  have hcell : ∀ j u, cs.toList[j]? = some u → (w.alloc (.cells cs e)).cell? ((⟨w.heap.size, 0, none⟩ : Addr).add j) = some u := by
    intro j u hj
    rw [addr_add]
    simp only [World.cell?, heap_alloc_new w (.cells cs e)]
    simpa using hj
  have hyc : ∀ (k : Nat) (z : AV), y.cells[k]? = some z → ∃ u, cs.toList[k]? = some u ∧ VR P (w.alloc (.cells cs e)) H z u := by
    intro k z hz
    have hk : k < cs.size := by rw [hc, ← hyn]; exact (List.getElem?_eq_some_iff.1 hz).1
    exact ⟨cs[k], by simp [hk], (hv k z _ hz (Array.getElem?_eq_getElem hk)).step (Step.unowned H w _ hst.heap)⟩
  have h1 : ∀ u ∈ cs.toList, u.oneCell' = true := by
    intro u hu
    obtain ⟨k, hk, rfl⟩ := List.mem_iff_getElem.1 hu
    have hk' : k < y.cells.length := by simp at hk; omega
    have hk2 : k < cs.size := by simpa using hk
    have := hv k _ _ (List.getElem?_eq_getElem hk') (Array.getElem?_eq_getElem hk2)
    simp only [AV.mem, List.all_eq_true] at hm
    simpa using this.one (hm _ (List.getElem_mem hk'))
  obtain ⟨A2, B2, cap2, w2, r1, rB, r2, r3, r4, r5, r6, r7, r8, r9⟩ := run_append_c (ty := ty2) ht hi hzs hb0 hB0 hrow ⟨w.heap.size, 0, none⟩ 1 1 cs.toList (by simp [hc]) hcell h1 hbound
  obtain ⟨q1, q2, q3⟩ := append_state (zs := [y]) hst1.heap hso hown r2 hold (fun x hx => by
      simp only [List.mem_append, List.mem_singleton] at hx
      rcases hx with hx | rfl
      · exact hel x hx
      · exact hyn) (by simp) hx (fun k z hz => hyc k z (by simpa [flat] using hz)) r3 r5 r6 r7 r8 r9
  cases A2 with
  | none => exact absurd rfl (r4 (by omega))
  | some b2 =>
    obtain rfl := rB b2 rfl
    refine wpListIn_plain rfl fun K' hK' => ⟨fun f _ => trivial, ?_⟩
    rw [Oper.semAt_eq _ _ _ (fun _ => by simp)]
    have hr2 : (execOp (a.put (some q) (.slice (some ⟨w.heap.size, 0, none⟩) 1 1)).eval { dst := d, op := Op.call ⟨.builtin .append, #[s, .tmp q], #[t, t]⟩, type := ty2, pos := pos2, after := af2, guard := none }).run P (w.alloc (.cells cs e)) = .ok (.value (.slice (some ⟨b2, 0, none⟩) (xs.length + 1) cap2)) w2 := by
      simp only [execOp, resolve, invoke, builtin, Sem.run_bind, Sem.run_pure, Result.andThen_ok, List.map_toArray, List.map_cons, List.map_nil, he1, he2, hu, r1]
    rw [hr2]
    have hlen : (xs ++ [y]).length = xs.length + 1 := by simp
    refine hK' _ _ (wpListIn_mono (fun _ _ _ p => post.back ((Step.unowned H w _ hst.heap).trans q1) p) (fun _ => trivial) _ _ _ (h b2 cap2 (q3 b2 rfl) _ _ (hst1.put q1 q2 (.own b2 cap2 (xs.length + 1)))))
end ops
end Go.AL

/- The rules at hand, one for each operation. -/
set_option autoImplicit false
set_option linter.unusedVariables false
set_option linter.unusedSimpArgs false
namespace Go.AL
open Go Go.RowKit

section ops
variable {P : Program} {ro : Option Nat} {ds : List Deferred} {T : List AV} {H : AH} {Q : Post} {ops : Array Oper} {rest : List Oper}
variable {d : Option Tmp} {ty : TypeId} {pos : String} {af : Array Edge} {s s' : Operand} {x y : AV}

theorem yielded_of {a : Act} {w : World} (hst : St P ds T H a w) {j dj : Nat} {b : Bool} (hj : (ops[j]?).bind (·.dst) = some dj) (hb : T[dj]? = some (.v (.bool b))) : yielded ops a.tmps j = some b := by
  obtain ⟨u, hu, hv⟩ := hst.vals _ _ hb
  cases hv
  unfold yielded
  cases ho : ops[j]? with
  | none => simp [ho] at hj
  | some o =>
    rw [ho] at hj
    simp only [Option.bind_some] at hj
    simp [ho, hj, hu, Array.getD_eq_getD_getElem?]

theorem AL_take {op : Op} {j dj : Nat} {b : Bool} (hj : (ops[j]?).bind (·.dst) = some dj) (hb : T[dj]? = some (.v (.bool b))) (h : AL P ro ops (⟨d, op, ty, pos, af, none⟩ :: rest) ds T H Q) :
    AL P ro ops (⟨d, op, ty, pos, af, some (j, b)⟩ :: rest) ds T H Q := fun a w hst => by
  have h1 := h a w hst
  simp only [wpListIn, Region.wanted, if_true, yielded_of hst hj hb, beq_self_eq_true] at h1 ⊢
  exact h1
theorem AL_leave {op : Op} {j dj : Nat} {b c : Bool} (hj : (ops[j]?).bind (·.dst) = some dj) (hb : T[dj]? = some (.v (.bool b))) (hc : b ≠ c) (h : AL P ro ops rest ds (tput T d (.v undef)) H Q) :
    AL P ro ops (⟨d, op, ty, pos, af, some (j, c)⟩ :: rest) ds T H Q := fun a w hst => by
  have hne : (some b == some c) = false := by simpa using hc
  simp only [wpListIn, Region.wanted, yielded_of hst hj hb, hne, Bool.false_eq_true, if_false]
  exact ⟨fun f _ => trivial, h _ _ (hst.put (.refl _ _) hst.heap (.v _))⟩

theorem AL_move (hx : ev T s = some x) (h : AL P ro ops rest ds (tput T d x) H Q) : AL P ro ops (⟨d, .move s, ty, pos, af, none⟩ :: rest) ds T H Q := AL_pure (PV_move hx) rfl (fun _ h => nomatch h) h
theorem AL_assign (hx : ev T s = some x) (h : AL P ro ops rest ds (tput T d x) H Q) : AL P ro ops (⟨d, .assign s, ty, pos, af, none⟩ :: rest) ds T H Q := AL_pure (PV_assign hx) rfl (fun _ h => nomatch h) h
theorem AL_pick_t {c : Operand} (hc : ev T c = some (.v (.bool true))) (hx : ev T s = some x) (h : AL P ro ops rest ds (tput T d x) H Q) : AL P ro ops (⟨d, .pick c s s', ty, pos, af, none⟩ :: rest) ds T H Q := AL_pure (PV_pick_true hc hx) rfl (fun _ h => nomatch h) h
theorem AL_pick_f {c : Operand} (hc : ev T c = some (.v (.bool false))) (hx : ev T s' = some x) (h : AL P ro ops rest ds (tput T d x) H Q) : AL P ro ops (⟨d, .pick c s s', ty, pos, af, none⟩ :: rest) ds T H Q := AL_pure (PV_pick_false hc hx) rfl (fun _ h => nomatch h) h
theorem AL_extract {k : Nat} {xs : List AV} (hx : ev T s = some (.tup xs)) (hk : xs[k]? = some x) (h : AL P ro ops rest ds (tput T d x) H Q) : AL P ro ops (⟨d, .extract s k, ty, pos, af, none⟩ :: rest) ds T H Q := AL_pure (PV_extract hx hk) rfl (fun _ h => nomatch h) h
section
variable {tx ty' : TypeId} {k : IntKind} {m n : Int}
theorem AL_add (hx : ev T s = some (.v (.int k m))) (hy : ev T s' = some (.v (.int k n))) (h : AL P ro ops rest ds (tput T d (.v (.int k (k.wrap (m + n))))) H Q) : AL P ro ops (⟨d, .binOp .add tx s s' ty', ty, pos, af, none⟩ :: rest) ds T H Q := AL_pure (PV_add hx hy) rfl (fun _ h => nomatch h) h
theorem AL_addz (hx : ev T s = some (.v (.int k m))) (hy : ev T s' = some (.v (.int k n))) (z : Int) (hz : k.wrap (m + n) = z) (h : AL P ro ops rest ds (tput T d (.v (.int k z))) H Q) : AL P ro ops (⟨d, .binOp .add tx s s' ty', ty, pos, af, none⟩ :: rest) ds T H Q := AL_add hx hy (by rw [hz]; exact h)
theorem AL_sub (hx : ev T s = some (.v (.int k m))) (hy : ev T s' = some (.v (.int k n))) (h : AL P ro ops rest ds (tput T d (.v (.int k (k.wrap (m - n))))) H Q) : AL P ro ops (⟨d, .binOp .sub tx s s' ty', ty, pos, af, none⟩ :: rest) ds T H Q := AL_pure (PV_sub hx hy) rfl (fun _ h => nomatch h) h
theorem AL_subz (hx : ev T s = some (.v (.int k m))) (hy : ev T s' = some (.v (.int k n))) (z : Int) (hz : k.wrap (m - n) = z) (h : AL P ro ops rest ds (tput T d (.v (.int k z))) H Q) : AL P ro ops (⟨d, .binOp .sub tx s s' ty', ty, pos, af, none⟩ :: rest) ds T H Q := AL_sub hx hy (by rw [hz]; exact h)
theorem AL_mul (hx : ev T s = some (.v (.int k m))) (hy : ev T s' = some (.v (.int k n))) (h : AL P ro ops rest ds (tput T d (.v (.int k (k.wrap (m * n))))) H Q) : AL P ro ops (⟨d, .binOp .mul tx s s' ty', ty, pos, af, none⟩ :: rest) ds T H Q := AL_pure (PV_mul hx hy) rfl (fun _ h => nomatch h) h
theorem AL_eql (hx : ev T s = some (.v (.int k m))) (hy : ev T s' = some (.v (.int k n))) (h : AL P ro ops rest ds (tput T d (.v (.bool (decide (m = n))))) H Q) : AL P ro ops (⟨d, .binOp .eql tx s s' ty', ty, pos, af, none⟩ :: rest) ds T H Q := AL_pure (PV_eql hx hy) rfl (fun _ h => nomatch h) h
theorem AL_neq (hx : ev T s = some (.v (.int k m))) (hy : ev T s' = some (.v (.int k n))) (h : AL P ro ops rest ds (tput T d (.v (.bool (decide (m ≠ n))))) H Q) : AL P ro ops (⟨d, .binOp .neq tx s s' ty', ty, pos, af, none⟩ :: rest) ds T H Q := AL_pure (PV_neq hx hy) rfl (fun _ h => nomatch h) h
theorem AL_lss (hx : ev T s = some (.v (.int k m))) (hy : ev T s' = some (.v (.int k n))) (h : AL P ro ops rest ds (tput T d (.v (.bool (decide (m < n))))) H Q) : AL P ro ops (⟨d, .binOp .lss tx s s' ty', ty, pos, af, none⟩ :: rest) ds T H Q := AL_pure (PV_lss hx hy) rfl (fun _ h => nomatch h) h
theorem AL_leq (hx : ev T s = some (.v (.int k m))) (hy : ev T s' = some (.v (.int k n))) (h : AL P ro ops rest ds (tput T d (.v (.bool (decide (m ≤ n))))) H Q) : AL P ro ops (⟨d, .binOp .leq tx s s' ty', ty, pos, af, none⟩ :: rest) ds T H Q := AL_pure (PV_leq hx hy) rfl (fun _ h => nomatch h) h
theorem AL_gtr (hx : ev T s = some (.v (.int k m))) (hy : ev T s' = some (.v (.int k n))) (h : AL P ro ops rest ds (tput T d (.v (.bool (decide (n < m))))) H Q) : AL P ro ops (⟨d, .binOp .gtr tx s s' ty', ty, pos, af, none⟩ :: rest) ds T H Q := AL_pure (PV_gtr hx hy) rfl (fun _ h => nomatch h) h
theorem AL_geq (hx : ev T s = some (.v (.int k m))) (hy : ev T s' = some (.v (.int k n))) (h : AL P ro ops rest ds (tput T d (.v (.bool (decide (n ≤ m))))) H Q) : AL P ro ops (⟨d, .binOp .geq tx s s' ty', ty, pos, af, none⟩ :: rest) ds T H Q := AL_pure (PV_geq hx hy) rfl (fun _ h => nomatch h) h
theorem AL_ibin (hx : ev T s = some (.v (.int k m))) (hy : ev T s' = some (.v (.int k n))) {op : BinOp} {r : Value} (hr : binOp op tx (.int k m) (.int k n) = pure r) (h : AL P ro ops rest ds (tput T d (.v r)) H Q) : AL P ro ops (⟨d, .binOp op tx s s' ty', ty, pos, af, none⟩ :: rest) ds T H Q := AL_pure (PV_ibin hx hy hr) rfl (fun _ h => nomatch h) h
end
theorem AL_not {b : Bool} {tx : TypeId} (hx : ev T s = some (.v (.bool b))) (h : AL P ro ops rest ds (tput T d (.v (.bool (!b)))) H Q) : AL P ro ops (⟨d, .unOp .not tx s, ty, pos, af, none⟩ :: rest) ds T H Q := AL_pure (PV_not hx) rfl (fun _ h => nomatch h) h
theorem AL_neg {k : IntKind} {n : Int} {tx : TypeId} (hx : ev T s = some (.v (.int k n))) (h : AL P ro ops rest ds (tput T d (.v (.int k (k.wrap (0 - n))))) H Q) : AL P ro ops (⟨d, .unOp .neg tx s, ty, pos, af, none⟩ :: rest) ds T H Q := AL_pure (PV_neg hx) rfl (fun _ h => nomatch h) h
theorem AL_field {tx ft : TypeId} {f off n : Nat} {b : Bool} {cs : List AV} (hf : fldOf P tx f = some (ft, off)) (ha : aggOf P ft = some b) (hs : szOf P ft = some n) (hx : ev T s = some (.ag cs)) (hy : subAV b n (.ag cs) off = some y)
    (h : AL P ro ops rest ds (tput T d y) H Q) : AL P ro ops (⟨d, .field tx s f, ty, pos, af, none⟩ :: rest) ds T H Q := AL_pure (PV_field hx hf ha hs hy) rfl (fun _ h => nomatch h) h
theorem AL_makeFunc {fn : Fn} {first captured : Array Operand} {xs ys : List AV} (h1 : EvL T first.toList xs) (h2 : EvL T captured.toList ys)
    (h : AL P ro ops rest ds (tput T d (.fn fn xs ys)) H Q) : AL P ro ops (⟨d, .makeFunc fn first captured, ty, pos, af, none⟩ :: rest) ds T H Q := AL_pure (PV_makeFunc h1 h2) rfl (fun _ h => nomatch h) h
theorem AL_fieldAddr_pt {tx ft : TypeId} {f off n b i sz o : Nat} (hf : fldOf P tx f = some (ft, off)) (hs : szOf P ft = some n) (h0 : n ≠ 0) (hx : ev T s = some (.pt b i sz o))
    (h : AL P ro ops rest ds (tput T d (.pt b i sz (o + off))) H Q) : AL P ro ops (⟨d, .fieldAddr tx s f, ty, pos, af, none⟩ :: rest) ds T H Q := AL_pure (PV_fieldAddr_pt hx hf hs h0) rfl (fun _ h => nomatch h) h
theorem AL_fieldAddr_rp {tx ft : TypeId} {f off n : Nat} {b : Bool} {cs : List AV} (hf : fldOf P tx f = some (ft, off)) (ha : aggOf P ft = some b) (hs : szOf P ft = some n) (h0 : n ≠ 0) (hn : b = false → n = 1) (hx : ev T s = some (.rp tx (.ag cs)))
    (hy : subAV b n (.ag cs) off = some y) (hb : b = false → y.cells = [y])
    (h : AL P ro ops rest ds (tput T d (.rp ft y)) H Q) : AL P ro ops (⟨d, .fieldAddr tx s f, ty, pos, af, none⟩ :: rest) ds T H Q := AL_pure (PV_fieldAddr_rp hx hf ha hs h0 hy hb hn) rfl (fun _ h => nomatch h) h
theorem AL_load_rp {t : TypeId} {n : Nat} (hs : szOf P t = some n) (hx : ev T s = some (.rp t x)) (ha : aggOf P t = some x.isAg) 
    (h : AL P ro ops rest ds (tput T d x) H Q) : AL P ro ops (⟨d, .load t s, ty, pos, af, none⟩ :: rest) ds T H Q := AL_pure (PV_load_rp hx ha hs) rfl (fun _ h => nomatch h) h
theorem AL_load_pt {t e : TypeId} {b i sz o n c : Nat} {bg : Bool} {xs : List AV} (ha : aggOf P t = some bg) (hs : szOf P t = some n) (hn : bg = false → n = 1) (hx : ev T s = some (.pt b i sz o)) (hH : H b = some (.row e c xs)) (he : szOf P e = some sz) (hi : xs[i]? = some x)
    (hy : subAV bg n x o = some y) (hb : y.isAg = bg) (h : AL P ro ops rest ds (tput T d y) H Q) : AL P ro ops (⟨d, .load t s, ty, pos, af, none⟩ :: rest) ds T H Q := AL_pure (PV_load_pt hx hH he hi ha hs hy hb hn) rfl (fun _ h => nomatch h) h
theorem AL_len_sl {t e e' : TypeId} {xs : List AV} (ht : P.underlying t = some (.slice e)) (hx : ev T s = some (.sl e' xs)) (h : AL P ro ops rest ds (tput T d (.v (.int .i64 xs.length))) H Q) : AL P ro ops (⟨d, .call ⟨.builtin .len, #[s], #[t]⟩, ty, pos, af, none⟩ :: rest) ds T H Q := AL_pure (PV_len_sl hx ht) rfl (fun _ h => nomatch h) h
theorem AL_len_own {t e : TypeId} {A : Option Nat} {c n : Nat} (ht : P.underlying t = some (.slice e)) (hx : ev T s = some (.own A c n)) (h : AL P ro ops rest ds (tput T d (.v (.int .i64 n))) H Q) : AL P ro ops (⟨d, .call ⟨.builtin .len, #[s], #[t]⟩, ty, pos, af, none⟩ :: rest) ds T H Q := AL_pure (PV_len_own hx ht) rfl (fun _ h => nomatch h) h
theorem AL_len_str {t : TypeId} {z : ByteArray} (ht : P.underlying t = some .string) (hx : ev T s = some (.v (.string z))) (h : AL P ro ops rest ds (tput T d (.v (.int .i64 z.size))) H Q) : AL P ro ops (⟨d, .call ⟨.builtin .len, #[s], #[t]⟩, ty, pos, af, none⟩ :: rest) ds T H Q := AL_pure (PV_len_str hx ht) rfl (fun _ h => nomatch h) h
theorem AL_indexAddr_sl {t e : TypeId} {sz : Nat} {xs : List AV} {k : IntKind} {i : Int} (ht : P.underlying t = some (.slice e)) (hs : szOf P e = some sz) (hc : 0 < sz) (hx : ev T s = some (.sl e xs)) (hi : ev T s' = some (.v (.int k i)))
    (h0 : 0 ≤ i) (h1 : i < xs.length) (hy : xs[i.toNat]? = some y) (h : AL P ro ops rest ds (tput T d (.rp e y)) H Q) : AL P ro ops (⟨d, .indexAddr t s s', ty, pos, af, none⟩ :: rest) ds T H Q := AL_pure (PV_indexAddr_sl hx hi ht hs h0 h1 hy hc) rfl (fun _ h => nomatch h) h
theorem AL_indexAddr_own {t e : TypeId} {sz b c n : Nat} {k : IntKind} {i : Int} (ht : P.underlying t = some (.slice e)) (hs : szOf P e = some sz) (hx : ev T s = some (.own (some b) c n)) (hi : ev T s' = some (.v (.int k i)))
    (h0 : 0 ≤ i) (h1 : i < n) (h : AL P ro ops rest ds (tput T d (.pt b i.toNat sz 0)) H Q) : AL P ro ops (⟨d, .indexAddr t s s', ty, pos, af, none⟩ :: rest) ds T H Q := AL_pure (PV_indexAddr_own hx hi ht hs h0 h1) rfl (fun _ h => nomatch h) h
theorem AL_seql {tx ty' : TypeId} {p q : ByteArray} (hx : ev T s = some (.v (.string p))) (hy : ev T s' = some (.v (.string q))) (h : AL P ro ops rest ds (tput T d (.v (.bool (decide (p = q))))) H Q) : AL P ro ops (⟨d, .binOp .eql tx s s' ty', ty, pos, af, none⟩ :: rest) ds T H Q := AL_pure (PV_seql hx hy) rfl (fun _ h => nomatch h) h
theorem AL_sneq {tx ty' : TypeId} {p q : ByteArray} (hx : ev T s = some (.v (.string p))) (hy : ev T s' = some (.v (.string q))) (h : AL P ro ops rest ds (tput T d (.v (.bool (decide (p ≠ q))))) H Q) : AL P ro ops (⟨d, .binOp .neq tx s s' ty', ty, pos, af, none⟩ :: rest) ds T H Q := AL_pure (PV_sneq hx hy) rfl (fun _ h => nomatch h) h
theorem AL_sadd {tx ty' : TypeId} {p q : ByteArray} (hx : ev T s = some (.v (.string p))) (hy : ev T s' = some (.v (.string q))) (hb : p.size + q.size ≤ 9223372036854775807) (h : AL P ro ops rest ds (tput T d (.v (.string (p ++ q)))) H Q) : AL P ro ops (⟨d, .binOp .add tx s s' ty', ty, pos, af, none⟩ :: rest) ds T H Q := AL_pure (PV_sadd hx hy hb) rfl (fun _ h => nomatch h) h
theorem AL_index_str {tx : TypeId} {p : ByteArray} {k : IntKind} {i : Int} (ht : P.underlying tx = some .string) (hx : ev T s = some (.v (.string p))) (hi : ev T s' = some (.v (.int k i))) (h0 : 0 ≤ i) (h1 : i.toNat < p.size)
    (h : AL P ro ops rest ds (tput T d (.v (.int .u8 (p[i.toNat]'h1).toNat))) H Q) : AL P ro ops (⟨d, .index tx s s', ty, pos, af, none⟩ :: rest) ds T H Q := AL_pure (PV_index_str hx hi ht h0 h1) rfl (fun _ h => nomatch h) h
theorem AL_slice_str {tx : TypeId} {p : ByteArray} {lo hi : Option Operand} {l h : Nat} (ht : P.underlying tx = some .string) (hx : ev T s = some (.v (.string p))) (hh : bd T hi p.size h) (hl : bd T lo 0 l) (h1 : h ≤ p.size) (h2 : l ≤ h)
    (hr : AL P ro ops rest ds (tput T d (.v (.string (p.extract l h)))) H Q) : AL P ro ops (⟨d, .slice tx s lo hi none, ty, pos, af, none⟩ :: rest) ds T H Q := AL_pure (PV_slice_str hx ht hh hl h1 h2) rfl (fun _ h => nomatch h) hr
theorem AL_slice_sl {tx e : TypeId} {sz : Nat} {xs : List AV} {lo hi : Option Operand} {l h : Nat} (ht : P.underlying tx = some (.slice e)) (hs : szOf P e = some sz) (hx : ev T s = some (.sl e xs)) (hh : bd T hi xs.length h) (hl : bd T lo 0 l) (h1 : h ≤ xs.length) (h2 : l ≤ h)
    (hr : AL P ro ops rest ds (tput T d (.sl e ((xs.drop l).take (h - l)))) H Q) : AL P ro ops (⟨d, .slice tx s lo hi none, ty, pos, af, none⟩ :: rest) ds T H Q := AL_pure (PV_slice_sl hx ht hs hh hl h1 h2) rfl (fun _ h => nomatch h) hr

/-- A whole variable. -/
theorem AL_load_w {t : TypeId} {b sz c : Nat} (ha : aggOf P t = some x.isAg) (hs : szOf P t = some sz) (hx : ev T s = some (.pt b 0 sz 0)) (hH : H b = some (.row t c [x])) (hc : x.cells.length = sz)
    (h : AL P ro ops rest ds (tput T d x) H Q) : AL P ro ops (⟨d, .load t s, ty, pos, af, none⟩ :: rest) ds T H Q := by
  refine AL_load_pt (y := x) ha hs (fun hb => ?_) hx hH hs rfl ?_ rfl h
  · rw [AV.cells_of_not hb] at hc; simpa using hc.symm
  · unfold subAV
    cases hb : x.isAg with
    | true => rw [if_pos rfl, if_pos (by omega)]; rw [AV.of_isAg hb] at hc ⊢; simp only [AV.cells] at hc ⊢; rw [List.drop_zero, ← hc, List.take_length]
    | false => rw [if_neg (by simp), AV.cells_of_not hb]; rfl
theorem AL_loadw {t : TypeId} {b sz c : Nat} (hs : szOf P t = some sz) (hx : ev T s = some (.pt b 0 sz 0)) (hH : H b = some (.row t c [x])) (ha : aggOf P t = some x.isAg) (hc : x.cells.length = sz)
    (h : AL P ro ops rest ds (tput T d x) H Q) : AL P ro ops (⟨d, .load t s, ty, pos, af, none⟩ :: rest) ds T H Q := AL_load_w ha hs hx hH hc h
theorem AL_store_w {t : TypeId} {b sz c : Nat} (hs : szOf P t = some sz) (hp : ev T s = some (.pt b 0 sz 0)) (hy : EVR T s' y) (hm : y.mem = true) (hH : H b = some (.row t c [x])) (hyn : y.cells.length = sz) (hx : x.isAg = y.isAg)
    (h : AL P ro ops rest ds (tput T d (.v undef)) (H.upd b (some (.row t c [y]))) Q) : AL P ro ops (⟨d, .store t s s', ty, pos, af, none⟩ :: rest) ds T H Q := fun a w hst => by
  have hxc : x.cells.length = sz := by
    obtain ⟨cs, fr, h1, h2, h3, h4, h5, h6⟩ := hst.heap b _ hH
    rw [h5 x (by simp), szOf_cells hs]
  have hput : putAV x 0 y = y := by
    cases hb : y.isAg with
    | true =>
      rw [hb] at hx
      rw [AV.of_isAg hx] at hxc ⊢
      rw [AV.of_isAg hb] at hyn ⊢
      simp only [AV.cells] at hxc hyn
      simp only [putAV, AV.cells, List.take_zero, List.nil_append, Nat.zero_add]
      rw [hyn, ← hxc, List.drop_length, List.append_nil]
    | false => rw [hb] at hx; cases x <;> first | rfl | simp [AV.isAg] at hx
  refine AL_store (x := x) (y := y) (i := 0) (o := 0) hp hy hm hH hs rfl hs hyn (by omega) (fun hb => ⟨rfl, by rw [AV.cells_of_not hb] at hxc; simpa using hxc.symm, by rw [← hx]; exact hb⟩) ?_ a w hst
  simpa [hput] using h

/-- A value put together. -/
theorem AL_build_struct {t : TypeId} {fs : Array Field} {parts : List (Nat × Operand)} {ys : List (Nat × AV)} {zc : Array Value} {pl : List (Nat × Nat)} {zs0 zs : List AV} (ht : P.underlying t = some (.struct fs)) (hz : zeroOf P t = some (.agg zc)) (hz0 : ZL zc.toList zs0) (hpl : fs.toList.map (fun f => (szOf P f.type).map (f.offset, ·)) = pl.map some)
    (hp : EvP T parts ys) (hf : fillA (fun i => pl[i]?) zs0 ys = some zs)
    (h : AL P ro ops rest ds (tput T d (.ag zs)) H Q) : AL P ro ops (⟨d, .build t parts.toArray, ty, pos, af, none⟩ :: rest) ds T H Q := by
  refine AL_pure (fun ds a w hst => ?_) rfl (fun _ h => nomatch h) h
  obtain ⟨hl, hv⟩ := hp.vals hst
  obtain ⟨cs', h1, h2, h3⟩ := fill_run (P := P) (H := H) (w := w) (place := fun i => pl[i]?) ys (parts.map fun p => (p.1, a.eval p.2)) _ zs zc hf (by simpa using (hz0.vals (P := P) (w := w) (H := H)).1) (fun k y u hy hu => hz0.vals.2 k y u hy (by simpa using hu)) hl hv
  refine ⟨.agg cs', ?_, .ag h2 h3⟩
  have hmap : ∀ (l : List Field) (pl : List (Nat × Nat)), l.map (fun f => (szOf P f.type).map (f.offset, ·)) = pl.map some → (l.mapM fun f => (do pure (f.offset, ← sizeOf f.type) : Sem (Nat × Nat))).run P w = .ok pl w := by
    intro l
    induction l with
    | nil => intro pl hpl; cases pl <;> simp at hpl; simp
    | cons f l ih =>
      intro pl hpl
      cases pl with
      | nil => simp at hpl
      | cons p pl =>
        simp only [List.map_cons, List.cons.injEq] at hpl
        obtain ⟨h1, h2⟩ := hpl
        obtain ⟨n, hn, hp⟩ := Option.map_eq_some_iff.1 h1
        simp only [List.mapM_cons, Sem.run_bind, run_sizeOf' hn, Result.andThen_ok, Sem.run_pure, ih pl h2, hp]
  have e1 : ∀ g : Field → Sem (Nat × Nat), (fs.mapM g).run P w = ((fs.toList.mapM g).run P w).andThen fun l w => .ok l.toArray w := by
    intro g
    rw [show fs.mapM g = (List.toArray <$> fs.toList.mapM g) by obtain ⟨l⟩ := fs; simp, Sem.run_map]
  have e2 : (Instr.build t (parts.toArray.map fun p => (p.1, a.eval p.2))).run P w = .ok (.agg cs') w := by
    simp only [Instr.build, Sem.run_bind, run_zeroValue' hz, Result.andThen_ok, run_underlying ht, e1, hmap _ _ hpl, Sem.run_pure]
    have e3 : (fun i : Nat => pl.toArray[i]?) = fun i : Nat => pl[i]? := by funext i; simp
    have hz' : (Value.agg zc).cells = zc := rfl
    simp only [hz', e3, List.map_toArray, h1, Sem.run_pure]
  simp only [execOp, Sem.run_bind]
  rw [show (parts.toArray.map fun (x : Nat × Operand) => match x with | (i, x) => (i, a.eval x)) = parts.toArray.map fun p => (p.1, a.eval p.2) from rfl, e2]
  rfl

theorem AL_build_array {t e : TypeId} {n sz : Nat} {parts : List (Nat × Operand)} {ys : List (Nat × AV)} {zc : Array Value} {zs0 zs : List AV} (ht : P.underlying t = some (.array n e)) (hz : zeroOf P t = some (.agg zc)) (hz0 : ZL zc.toList zs0) (hs : szOf P e = some sz)
    (hp : EvP T parts ys) (hf : fillA (fun i => some (i * sz, sz)) zs0 ys = some zs)
    (h : AL P ro ops rest ds (tput T d (.ag zs)) H Q) : AL P ro ops (⟨d, .build t parts.toArray, ty, pos, af, none⟩ :: rest) ds T H Q := by
  refine AL_pure (fun ds a w hst => ?_) rfl (fun _ h => nomatch h) h
  obtain ⟨hl, hv⟩ := hp.vals hst
  obtain ⟨cs', h1, h2, h3⟩ := fill_run (P := P) (H := H) (w := w) (place := fun i => some (i * sz, sz)) ys (parts.map fun p => (p.1, a.eval p.2)) _ zs zc hf (by simpa using (hz0.vals (P := P) (w := w) (H := H)).1) (fun k y u hy hu => hz0.vals.2 k y u hy (by simpa using hu)) hl hv
  refine ⟨.agg cs', ?_, .ag h2 h3⟩
  have e2 : (Instr.build t (parts.toArray.map fun p => (p.1, a.eval p.2))).run P w = .ok (.agg cs') w := by
    simp only [Instr.build, Sem.run_bind, run_zeroValue' hz, Result.andThen_ok, run_underlying ht, run_sizeOf' hs]
    have hz' : (Value.agg zc).cells = zc := rfl
    simp only [hz', List.map_toArray, h1, Sem.run_pure]
  simp only [execOp, Sem.run_bind]
  rw [show (parts.toArray.map fun (x : Nat × Operand) => match x with | (i, x) => (i, a.eval x)) = parts.toArray.map fun p => (p.1, a.eval p.2) from rfl, e2]
  rfl

/-- All fields told, in their order. -/
def plOk : Nat → List (Nat × Nat) → List AV → Bool
  | _, [], [] => true
  | off, (o, n) :: pl, x :: xs => Nat.beq o off && Nat.beq n x.cells.length && plOk (off + n) pl xs
  | _, _, _ => false
theorem fill_pl : ∀ (xs : List AV) (pl0 pl : List (Nat × Nat)) (pre rest : List AV), plOk pre.length pl xs = true → rest.length = (flat xs).length → fillA (fun i => (pl0 ++ pl)[i]?) (pre ++ rest) (enum pl0.length xs) = some (pre ++ flat xs) := by
  intro xs
  induction xs with
  | nil => intro pl0 pl pre rest _ hr; obtain rfl : rest = [] := List.eq_nil_of_length_eq_zero (by simpa [flat] using hr); simp [enum, fillA, flat]
  | cons x xs ih =>
    intro pl0 pl pre rest hp hr
    cases pl with
    | nil => simp [plOk] at hp
    | cons p pl =>
      obtain ⟨o, n⟩ := p
      simp only [plOk, Bool.and_eq_true] at hp
      obtain ⟨⟨h1, h2⟩, h3⟩ := hp
      replace h1 : o = pre.length := Nat.eq_of_beq_eq_true h1
      replace h2 : n = x.cells.length := Nat.eq_of_beq_eq_true h2
      subst h1; subst h2
      have hfl : flat (x :: xs) = x.cells ++ flat xs := by simp [flat]
      rw [hfl, List.length_append] at hr
      simp only [enum, fillA]
      have hpl : (pl0 ++ (pre.length, x.cells.length) :: pl)[pl0.length]? = some (pre.length, x.cells.length) := by simp
      rw [hpl]
      simp only
      rw [if_pos ⟨trivial, by simp; omega⟩]
      have e1 : (pre ++ rest).take pre.length = pre := by simp
      have e2 : (pre ++ rest).drop (pre.length + x.cells.length) = rest.drop x.cells.length := by rw [← List.drop_drop]; simp
      have e3 := ih (pl0 ++ [(pre.length, x.cells.length)]) pl (pre ++ x.cells) (rest.drop x.cells.length) (by rw [List.length_append]; exact h3) (by simp; omega)
      simp only [List.append_assoc, List.cons_append, List.nil_append, List.length_append, List.length_cons, List.length_nil, Nat.zero_add] at e3
      rw [e1, e2, List.append_assoc, e3, hfl]

theorem AL_build_sf {t : TypeId} {fs : Array Field} {parts : List (Nat × Operand)} {xs zs : List AV} {zc : Array Value} {pl : List (Nat × Nat)} (ht : P.underlying t = some (.struct fs)) (hz : zeroOf P t = some (.agg zc)) (hpl : fs.toList.map (fun f => (szOf P f.type).map (f.offset, ·)) = pl.map some)
    (hp : EvS T 0 parts xs) (hok : plOk 0 pl xs = true) (hn : (flat xs).length = zc.size) (hq : flat xs = zs)
    (h : AL P ro ops rest ds (tput T d (.ag zs)) H Q) : AL P ro ops (⟨d, .build t parts.toArray, ty, pos, af, none⟩ :: rest) ds T H Q := by
  have hzl : ∀ l : List Value, ∃ ys, ZL l ys := fun l => by
    induction l with
    | nil => exact ⟨[], .nil⟩
    | cons a l ih => obtain ⟨ys, h⟩ := ih; exact ⟨.v a :: ys, .v h⟩
  obtain ⟨zs0, hz0⟩ := hzl zc.toList
  have hl0 : zs0.length = zc.size := by have := (hz0.vals (P := P) (w := default) (H := H)).1; simpa using this
  have hf := fill_pl xs [] pl [] zs0 hok (by rw [hl0, hn])
  simp only [List.nil_append, List.length_nil] at hf
  exact AL_build_struct (zs := flat xs) ht hz hz0 hpl hp.evP hf (hq ▸ h)
theorem AL_build_af {t e : TypeId} {n sz : Nat} {parts : List (Nat × Operand)} {xs zs : List AV} {zc : Array Value} (ht : P.underlying t = some (.array n e)) (hz : zeroOf P t = some (.agg zc)) (hs : szOf P e = some sz)
    (hp : EvS T 0 parts xs) (hok : xs.all (fun x => Nat.beq x.cells.length sz) = true) (hn : (flat xs).length = zc.size) (hq : flat xs = zs)
    (h : AL P ro ops rest ds (tput T d (.ag zs)) H Q) : AL P ro ops (⟨d, .build t parts.toArray, ty, pos, af, none⟩ :: rest) ds T H Q := by
  have hel : ∀ x ∈ xs, x.cells.length = sz := fun x hx => by
    simp only [List.all_eq_true] at hok
    exact Nat.eq_of_beq_eq_true (hok x hx)
  have hzl : ∀ l : List Value, ∃ ys, ZL l ys := fun l => by
    induction l with
    | nil => exact ⟨[], .nil⟩
    | cons a l ih => obtain ⟨ys, h⟩ := ih; exact ⟨.v a :: ys, .v h⟩
  obtain ⟨zs0, hz0⟩ := hzl zc.toList
  have hl0 : zs0.length = zc.size := by have := (hz0.vals (P := P) (w := default) (H := H)).1; simpa using this
  have hf := fill_enum sz xs 0 [] zs0 (by simp) (by rw [hl0, ← hn, flat_length xs sz hel]) hel
  simp only [List.nil_append] at hf
  exact AL_build_array (zs := flat xs) ht hz hz0 hs hp.evP hf (hq ▸ h)

/-- An array's element, by value. -/
theorem AL_index_arr {tx e : TypeId} {n sz : Nat} {b : Bool} {cs : List AV} {k : IntKind} {i : Int} (ht : P.underlying tx = some (.array n e)) (ha : aggOf P e = some b) (hs : szOf P e = some sz) (hx : ev T s = some (.ag cs)) (hi : ev T s' = some (.v (.int k i))) (h0 : 0 ≤ i) (h1 : i < n)
    (hy : subAV b sz (.ag cs) (i.toNat * sz) = some y) (h : AL P ro ops rest ds (tput T d y) H Q) : AL P ro ops (⟨d, .index tx s s', ty, pos, af, none⟩ :: rest) ds T H Q := by
  refine AL_pure (fun ds a w hst => ?_) rfl (fun _ h => nomatch h) h
  obtain ⟨vs, hu, hl, hv⟩ := (hst.ev hx).agg_inv
  obtain ⟨v, hr, hvr⟩ := run_part ha hs hl hv hy w
  exact ⟨v, by simp [execOp, Instr.index, hu, hst.evv hi, asIntOf, run_underlying ht, h0, h1, run_sizeOf' hs, hr], hvr⟩
end ops
end Go.AL

/- Guards without a parting of ways; operands in a row; pure functions. -/
set_option autoImplicit false
set_option linter.unusedVariables false
set_option linter.unusedSimpArgs false
namespace Go.AL
open Go Go.RowKit

/-- A function that gives r and leaves all as it is. -/
def PF (P : Program) (f : FuncId) (xs : List AV) (r : AV) : Prop := ∀ (H : AH) (K : AV → AH → Prop), K r H → AC P f xs H K

def anyAt (T : List AV) (D : List Nat) : List AV := D.foldl (fun T d => T.set d .any) T
theorem anyAt_get : ∀ (D : List Nat) (T : List AV), (anyAt T D).length = T.length ∧ ∀ (k : Nat) (x : AV), (anyAt T D)[k]? = some x → x = .any ∨ (k ∉ D ∧ T[k]? = some x) := by
  intro D
  induction D with
  | nil => exact fun T => ⟨rfl, fun k x h => .inr ⟨by simp, h⟩⟩
  | cons d D ih =>
    intro T
    obtain ⟨h1, h2⟩ := ih (T.set d .any)
    refine ⟨by simpa [anyAt] using h1, fun k x hx => ?_⟩
    rcases h2 k x hx with h | ⟨h, hs⟩
    · exact .inl h
    · rw [List.getElem?_set] at hs
      split at hs
      · split at hs
        · injection hs with hs; exact .inl hs.symm
        · cases hs
      · rename_i hne
        exact .inr ⟨by simp only [List.mem_cons, not_or]; exact ⟨fun e => hne e.symm, h⟩, hs⟩

/-- Operations that are left out where a choice fell the other way. -/
def skips (ops : Array Oper) (c : Nat) (w : Bool) (D : List Nat) : List Nat → List Oper → Bool
  | _, [] => true
  | done, o :: l =>
    (match o.guard with
      | some (j, w') => match (ops[j]?).bind (·.dst) with
        | some dj => (dj == c && w' == w) || done.contains dj
        | none => false
      | none => false) &&
    (match o.dst with
      | some d => D.contains d && d != c && skips ops c w D (d :: done) l
      | none => skips ops c w D done l)

section ops
variable {P : Program} {ro : Option Nat} {ds : List Deferred} {T : List AV} {H : AH} {Q : Post} {ops : Array Oper} {rest : List Oper}
variable {d : Option Tmp} {ty : TypeId} {pos : String} {af : Array Edge} {s s' : Operand} {x y : AV}

theorem skips_run {F : Fence} {n : Nat} (hF : ∀ f, F.fn f) {c : Nat} {w0 : Bool} {D : List Nat} {R : Exit → Act → World → Prop} {w : World} : ∀ (l : List Oper) (done : List Nat) (a : Act), skips ops c w0 D done l = true →
    a.tmps[c]? = some (.bool (!w0)) → (∀ k ∈ done, a.tmps[k]? = some undef ∨ a.tmps[k]? = none) →
    (∀ a' : Act, a'.defers = a.defers → a'.tmps.size = a.tmps.size → (∀ k, k ∉ D → a'.tmps[k]? = a.tmps[k]?) → R .normal a' w) → wpListIn F n P ops R l a w := by
  intro l
  induction l with
  | nil => intro done a _ _ _ h; exact h a rfl rfl (fun _ _ => rfl)
  | cons o l ih =>
    intro done a hs hc hd h
    simp only [skips, Bool.and_eq_true] at hs
    obtain ⟨h1, h2⟩ := hs
    have hw : Region.wanted o (yielded ops a.tmps) = false := by
      unfold Region.wanted
      split at h1
      · rename_i j w' hg
        rw [hg]
        split at h1
        · rename_i dj hdj
          simp only [Bool.or_eq_true, Bool.and_eq_true, beq_iff_eq] at h1
          have hy : yielded ops a.tmps j = (match a.tmps[dj]? with | some (.bool b) => some b | _ => none) := by
            unfold yielded
            rw [hdj]; simp
            rfl
          simp only [hy]
          rcases h1 with ⟨rfl, rfl⟩ | h1
          · rw [hc]; cases w' <;> rfl
          · rcases hd dj (by simpa using h1) with h | h
            · rw [h]; rfl
            · rw [h]; rfl
        · simp at h1
      · simp at h1
    have hput : ∀ d, o.dst = some d → d ∈ D ∧ d ≠ c ∧ skips ops c w0 D (d :: done) l = true := by
      intro d hd
      rw [hd] at h2
      simp only [Bool.and_eq_true] at h2
      exact ⟨by simpa using h2.1.1, by simpa using h2.1.2, h2.2⟩
    simp only [wpListIn, hw, Bool.false_eq_true, if_false]
    refine ⟨fun f _ => hF f, ?_⟩
    cases hdst : o.dst with
    | none =>
      rw [hdst] at h2
      exact ih done a h2 hc hd h
    | some d =>
      obtain ⟨m1, m2, m3⟩ := hput d hdst
      refine ih (d :: done) (a.put (some d) undef) m3 ?_ ?_ ?_
      · simp only [Act.put]; rw [Array.getElem?_setIfInBounds, if_neg m2]; exact hc
      · intro k hk
        simp only [Act.put]
        rw [Array.getElem?_setIfInBounds]
        by_cases e : d = k
        · rw [if_pos e]; split <;> simp
        · rw [if_neg e]; exact hd k (by simpa [Ne.symm e] using hk)
      · intro a' e1 e2 e3
        refine h a' e1 (by rw [e2]; simp [Act.put]) (fun k hk => ?_)
        rw [e3 k hk]; simp only [Act.put]
        rw [Array.getElem?_setIfInBounds, if_neg (fun e : d = k => hk (e ▸ m1))]

/-- Walking on to where the two ways meet. -/
theorem wpListIn_append {F : Fence} {n : Nat} {R : Exit → Act → World → Prop} {l' : List Oper} : ∀ (l : List Oper) (a : Act) (w : World),
    wpListIn F n P ops (Exit.then (wpListIn F n P ops R l') R) l a w → wpListIn F n P ops R (l ++ l') a w := by
  intro l
  induction l with
  | nil => intro a w h; exact h
  | cons o l ih =>
    intro a w h
    simp only [List.cons_append, wpListIn] at h ⊢
    split at h
    · rename_i hw
      rw [if_pos hw]
      obtain ⟨h1, h2⟩ := h
      refine ⟨h1, ?_⟩
      revert h2
      cases (Oper.semAt F.round a.eval o).run P w with
      | halt x w' => cases x <;> exact fun h => h
      | ok nx w' =>
        have lo : LetsOut (Exit.then (wpListIn F n P ops R l') R) → LetsOut R := fun ⟨a0, w0, h0⟩ => ⟨a0, w0, h0⟩
        cases nx with
        | value v => exact fun h => ih _ _ h
        | skip => exact fun h => ih _ _ h
        | enter f args => exact fun h => ⟨h.1, h.2.mono fun e w'' r => by cases e <;> first | exact ih _ _ r | exact lo r | exact r⟩
        | row row args => exact fun h => ⟨h.1, h.2.mono fun v w'' r => ih _ _ r⟩
        | round l f tmps assign body => exact fun h => ⟨h.1, h.2.mono fun e w'' r => by cases e <;> first | exact ih _ _ r | exact lo r | exact r⟩
        | _ => first | exact fun h => h | exact fun h => ih _ _ h
    · rename_i hw
      rw [if_neg hw]
      exact ⟨h.1, ih _ _ h.2⟩

theorem Weak.trans {T1 T2 T3 : List AV} (h : Weak T1 T2) (k : Weak T2 T3) : Weak T1 T3 :=
  ⟨k.1.trans h.1, fun i x hx => (k.2 i x hx).elim .inl fun hx' => h.2 i x hx'⟩
theorem Weak.set {T1 T2 : List AV} (h : Weak T1 T2) (i : Nat) (x : AV) : Weak (T1.set i x) (T2.set i x) :=
  ⟨by simp [h.1], fun k y hy => by
    rw [List.getElem?_set] at hy ⊢
    split at hy
    · rename_i hk; rw [if_pos hk]; rw [h.1] at hy; exact .inr hy
    · rename_i hk; rw [if_neg hk]; exact h.2 k y hy⟩

/-- The guard is met: it falls away. -/
def strip (j : Nat) (w : Bool) : Oper → Oper
  | ⟨d, op, ty, pos, af, none⟩ => ⟨d, op, ty, pos, af, none⟩
  | ⟨d, op, ty, pos, af, some (j', w')⟩ => ⟨d, op, ty, pos, af, bif (j' == j && (w' == w)) then none else some (j', w')⟩
theorem strip_dst (j : Nat) (w : Bool) (o : Oper) : (strip j w o).dst = o.dst ∧ (strip j w o).op = o.op ∧ (strip j w o).type = o.type := by
  obtain ⟨d, op, ty, pos, af, g⟩ := o
  cases g with
  | none => exact ⟨rfl, rfl, rfl⟩
  | some p => obtain ⟨a, b⟩ := p; exact ⟨rfl, rfl, rfl⟩

theorem strip_run {F : Fence} {n j c : Nat} {w0 : Bool} {R : Exit → Act → World → Prop} (hj : (ops[j]?).bind (·.dst) = some c) : ∀ (l : List Oper) (a : Act) (w : World), (∀ o ∈ l, o.dst ≠ some c) → a.tmps[c]? = some (.bool w0) →
    wpListIn F n P ops R (l.map (strip j w0)) a w → wpListIn F n P ops R l a w := by
  intro l
  induction l with
  | nil => exact fun a w _ _ h => h
  | cons o l ih =>
    intro a w hd hc h
    have hd' : ∀ o ∈ l, o.dst ≠ some c := fun o ho => hd o (by simp [ho])
    have hput : ∀ v, (a.put o.dst v).tmps[c]? = some (.bool w0) := by
      intro v
      cases hdst : o.dst with
      | none => exact hc
      | some d =>
        have : d ≠ c := fun e => hd o (by simp) (by rw [hdst, e])
        simp only [Act.put]; rw [Array.getElem?_setIfInBounds, if_neg this]; exact hc
    have hwant : Region.wanted (strip j w0 o) (yielded ops a.tmps) = true → Region.wanted o (yielded ops a.tmps) = true := by
      obtain ⟨d, op, ty, pos, af, g⟩ := o
      cases g with
      | none => exact fun h => h
      | some p =>
        obtain ⟨j', w'⟩ := p
        simp only [strip]
        cases hb : (j' == j && (w' == w0)) with
        | false => exact fun h => h
        | true =>
          intro _
          simp only [Bool.and_eq_true, beq_iff_eq] at hb
          obtain ⟨h1, h2⟩ := hb
          subst h1; subst h2
          have : yielded ops a.tmps j' = some w' := by unfold yielded; rw [hj]; simp [hc]
          simp [Region.wanted, this]
    have hnot : ¬ Region.wanted (strip j w0 o) (yielded ops a.tmps) = true → ¬ Region.wanted o (yielded ops a.tmps) = true := by
      obtain ⟨d, op, ty, pos, af, g⟩ := o
      cases g with
      | none => exact fun h => h
      | some p =>
        obtain ⟨j', w'⟩ := p
        simp only [strip]
        cases hb : (j' == j && (w' == w0)) with
        | false => exact fun h => h
        | true => intro h; exact absurd (by simp [Region.wanted]) h
    have hsame : ∀ next R, (strip j w0 o).wpIn F n P a w next R = o.wpIn F n P a w next R := by
      intro next R
      obtain ⟨d, op, ty, pos, af, g⟩ := o
      cases g with
      | none => rfl
      | some p => obtain ⟨j', w'⟩ := p; rfl
    have hab : (strip j w0 o).about P w a.eval = o.about P w a.eval := by
      obtain ⟨d, op, ty, pos, af, g⟩ := o
      cases g with
      | none => rfl
      | some p => obtain ⟨j', w'⟩ := p; rfl
    simp only [List.map_cons, wpListIn] at h ⊢
    split at h
    · rename_i hw
      rw [if_pos (hwant hw)]
      rw [hsame] at h
      obtain ⟨h1, h2⟩ := h
      refine ⟨h1, ?_⟩
      revert h2
      cases (Oper.semAt F.round a.eval o).run P w with
      | halt x w' => cases x <;> exact fun h => h
      | ok nx w' =>
        cases nx with
        | value v => exact fun h => ih _ _ hd' (hput v) h
        | skip => exact fun h => ih _ _ hd' (hput _) h
        | enter f args => exact fun h => ⟨h.1, h.2.mono fun e w'' r => by cases e <;> first | exact ih _ _ hd' (hput _) r | exact r⟩
        | row row args => exact fun h => ⟨h.1, h.2.mono fun v w'' r => ih _ _ hd' (hput _) r⟩
        | round l f tmps assign body => exact fun h => ⟨h.1, h.2.mono fun e w'' r => by cases e <;> first | exact ih _ _ hd' (hput _) r | exact r⟩
        | _ => first | exact fun h => h | exact fun h => ih _ _ hd' (by cases hdst : o.dst with
            | none => exact hc
            | some e => have := hput undef; rw [hdst] at this; exact this) h
    · rename_i hw
      rw [if_neg (hnot hw)]
      rw [hab, (strip_dst j w0 o).1] at h
      exact ⟨h.1, ih _ _ hd' (hput _) h.2⟩

theorem skips_nodst {c : Nat} {w : Bool} {D : List Nat} : ∀ (l : List Oper) (done : List Nat), skips ops c w D done l = true → ∀ o ∈ l, o.dst ≠ some c := by
  intro l
  induction l with
  | nil => intro done _ o ho; simp at ho
  | cons p l ih =>
    intro done h o ho hdst
    simp only [skips, Bool.and_eq_true] at h
    obtain ⟨_, h⟩ := h
    simp only [List.mem_cons] at ho
    rcases ho with rfl | ho
    · rw [hdst] at h; simp at h
    · cases hp : p.dst with
      | none => rw [hp] at h; exact ih _ h o ho hdst
      | some d => rw [hp] at h; simp only [Bool.and_eq_true] at h; exact ih _ h.2 o ho hdst

/-- What the walk of a guarded group owes. -/
def grpQ (ds : List Deferred) (H : AH) (R : List AV) : Post := fun e ds' T' H' => e = .normal ∧ ds' = ds ∧ H' = H ∧ Weak T' R
theorem grpQ_mk {R : List AV} (h : Weak T R) : grpQ ds H R .normal ds T H := ⟨rfl, rfl, rfl, h⟩

theorem AL_group {n c t r j : Nat} {b w0 v : Bool} {l R : List Oper} {o : Oper} (D : List Nat) (hj : (ops[j]?).bind (·.dst) = some c) (hsk : skips ops c w0 D [] (l.take n) = true) (htD : D.contains t = true) (hc : T[c]? = some (.v (.bool b))) (hpk : l.drop n = o :: R)
    (hcD : D.contains c = false)
    (h1 : b = w0 → AL P ro ops ((l.take n).map (strip j w0)) ds T H (grpQ ds H ((anyAt T D).set t (.v (.bool v)))))
    (h : b = w0 → AL P ro ops (o :: R) ds ((anyAt T D).set t (.v (.bool v))) H Q) (h' : b = !w0 → AL P ro ops (o :: R) ds (anyAt T D) H Q) : AL P ro ops l ds T H Q := fun a w hst => by
  rw [← List.take_append_drop n l, hpk]
  refine wpListIn_append _ _ _ ?_
  by_cases hb : b = w0
  · refine strip_run hj _ _ _ (skips_nodst _ _ hsk) (by obtain ⟨u, hu, hv⟩ := hst.vals c _ hc; cases hv; rw [hu, hb]) ?_
    refine wpListIn_mono ?_ (fun _ => trivial) _ _ _ (h1 hb a w hst)
    rintro e a1 w1 ⟨ds1, T1, H1, s1, k1, rfl, rfl, rfl, hw⟩
    exact wpListIn_mono (fun _ _ _ p => post.back k1 p) (fun _ => trivial) _ _ _ (h hb a1 w1 (s1.weak hw))
  · have hb' : b = !w0 := by cases b <;> cases w0 <;> simp_all
    obtain ⟨u, hu, hv⟩ := hst.vals c _ hc
    cases hv
    refine skips_run (fun _ => trivial) _ [] a hsk (by rw [hu, hb']) (fun k hk => by simp at hk) ?_
    intro a' e1 e2 e3
    refine h' hb' a' w ⟨e1.trans hst.defers, by rw [e2, hst.size, (anyAt_get D T).1], fun k x hx => ?_, hst.heap⟩
    rcases (anyAt_get D T).2 k x hx with rfl | ⟨hk, hx'⟩
    · have hlt : k < a'.tmps.size := by
        have := (List.getElem?_eq_some_iff.1 hx).1
        rw [e2, hst.size, ← (anyAt_get D T).1]; exact this
      exact ⟨a'.tmps[k], Array.getElem?_eq_getElem hlt, .any _⟩
    · rw [e3 k hk]; exact hst.vals k x hx'

theorem anyAt_keep {D : List Nat} {k : Nat} (h : k ∉ D) : ∀ T : List AV, (anyAt T D)[k]? = T[k]? := by
  induction D with
  | nil => intro T; rfl
  | cons d D ih =>
    intro T
    simp only [List.mem_cons, not_or] at h
    have := ih h.2 (T.set d .any)
    simp only [anyAt, List.foldl_cons] at this ⊢
    rw [this, List.getElem?_set, if_neg (Ne.symm h.1)]

/-- 'a || b' -/
theorem AL_or {n c t r j : Nat} {b v : Bool} {l R : List Oper} (D : List Nat) (hj : (ops[j]?).bind (·.dst) = some c) (hsk : skips ops c false D [] (l.take n) = true) (htD : D.contains t = true) (hcD : D.contains c = false) (hrc : Nat.blt t T.length = true) (hc : T[c]? = some (.v (.bool b)))
    (hpk : l.drop n = ⟨some r, .pick (.tmp c) (.const (.bool true)) (.tmp t), ty, pos, af, none⟩ :: R)
    (h1 : b = false → AL P ro ops ((l.take n).map (strip j false)) ds T H (grpQ ds H ((anyAt T D).set t (.v (.bool v)))))
    (h : AL P ro ops R ds ((anyAt T D).set r (.v (.bool (b || v)))) H Q) : AL P ro ops l ds T H Q := by
  have hcn : c ∉ D := by simpa using hcD
  have htm : t ∈ D := by simpa using htD
  have hct : t ≠ c := fun e => hcn (e ▸ htm)
  have hc' : (anyAt T D)[c]? = some (.v (.bool b)) := by rw [anyAt_keep hcn]; exact hc
  refine AL_group (r := r) D hj hsk htD hc hpk hcD h1 (fun hb => ?_) (fun hb => ?_)
  · subst hb
    refine AL_pick_f (x := .v (.bool v)) ?_ ?_ ?_
    · show ((anyAt T D).set t _)[c]? = _; rw [List.getElem?_set, if_neg hct]; exact hc'
    · show ((anyAt T D).set t _)[t]? = _; rw [List.getElem?_set, if_pos rfl, if_pos (by rw [(anyAt_get D T).1]; have := Nat.le_of_ble_eq_true hrc; omega)]
    · refine fun a w hst => h a w (hst.weak ?_)
      refine Weak.set (T1 := (anyAt T D).set t (.v (.bool v))) (T2 := anyAt T D) ⟨by simp, fun k x hx => ?_⟩ r _
      rw [List.getElem?_set]
      split
      · rename_i e; subst e
        rcases (anyAt_get D T).2 _ x hx with rfl | ⟨h, _⟩
        · exact .inl rfl
        · exact absurd htm h
      · exact .inr hx
  · have hb' : b = true := by simpa using hb
    subst hb'
    exact AL_pick_t hc' rfl h

/-- 'a && b' -/
theorem AL_and {n c t r j : Nat} {b v : Bool} {l R : List Oper} (D : List Nat) (hj : (ops[j]?).bind (·.dst) = some c) (hsk : skips ops c true D [] (l.take n) = true) (htD : D.contains t = true) (hcD : D.contains c = false) (hrc : Nat.blt t T.length = true) (hc : T[c]? = some (.v (.bool b)))
    (hpk : l.drop n = ⟨some r, .pick (.tmp c) (.tmp t) (.const (.bool false)), ty, pos, af, none⟩ :: R)
    (h1 : b = true → AL P ro ops ((l.take n).map (strip j true)) ds T H (grpQ ds H ((anyAt T D).set t (.v (.bool v)))))
    (h : AL P ro ops R ds ((anyAt T D).set r (.v (.bool (b && v)))) H Q) : AL P ro ops l ds T H Q := by
  have hcn : c ∉ D := by simpa using hcD
  have htm : t ∈ D := by simpa using htD
  have hct : t ≠ c := fun e => hcn (e ▸ htm)
  have hc' : (anyAt T D)[c]? = some (.v (.bool b)) := by rw [anyAt_keep hcn]; exact hc
  refine AL_group (r := r) D hj hsk htD hc hpk hcD h1 (fun hb => ?_) (fun hb => ?_)
  · subst hb
    refine AL_pick_t (x := .v (.bool v)) ?_ ?_ ?_
    · show ((anyAt T D).set t _)[c]? = _; rw [List.getElem?_set, if_neg hct]; exact hc'
    · show ((anyAt T D).set t _)[t]? = _; rw [List.getElem?_set, if_pos rfl, if_pos (by rw [(anyAt_get D T).1]; have := Nat.le_of_ble_eq_true hrc; omega)]
    · refine fun a w hst => h a w (hst.weak ?_)
      refine Weak.set (T1 := (anyAt T D).set t (.v (.bool v))) (T2 := anyAt T D) ⟨by simp, fun k x hx => ?_⟩ r _
      rw [List.getElem?_set]
      split
      · rename_i e; subst e
        rcases (anyAt_get D T).2 _ x hx with rfl | ⟨h, _⟩
        · exact .inl rfl
        · exact absurd htm h
      · exact .inr hx
  · have hb' : b = false := by simpa using hb
    subst hb'
    exact AL_pick_f hc' rfl h

theorem AL_take' {op : Op} {j dj : Nat} {b c : Bool} (hc : b = c) (hj : (ops[j]?).bind (·.dst) = some dj) (hb : T[dj]? = some (.v (.bool b))) (h : AL P ro ops (⟨d, op, ty, pos, af, none⟩ :: rest) ds T H Q) :
    AL P ro ops (⟨d, op, ty, pos, af, some (j, c)⟩ :: rest) ds T H Q := by subst hc; exact AL_take hj hb h

/-- Calls of pure functions. -/
theorem AL_callp {f : FuncId} {args : Array Operand} {ats : Array TypeId} {xs : List AV} {r : AV} (hf : entersOf P f = true) (hx : EvL T args.toList xs) (hc : PF P f xs r)
    (h : AL P ro ops rest ds (tput T d r) H Q) : AL P ro ops (⟨d, .call ⟨.value (.func f), args, ats⟩, ty, pos, af, none⟩ :: rest) ds T H Q :=
  AL_call (K := fun x H' => x = r ∧ H' = H) hf hx (hc H _ ⟨rfl, rfl⟩) (fun x H' ⟨e1, e2⟩ => by subst e1; subst e2; exact h)
theorem AL_callk {f : FuncId} {args : Array Operand} {ats : Array TypeId} {xs : List AV} {K : AV → AH → Prop} (hf : entersOf P f = true) (hx : EvL T args.toList xs) (hc : AC P f xs H K)
    (h : ∀ x H', K x H' → AL P ro ops rest ds (tput T d x) H' Q) : AL P ro ops (⟨d, .call ⟨.value (.func f), args, ats⟩, ty, pos, af, none⟩ :: rest) ds T H Q :=
  AL_call hf hx hc h
theorem AL_callvp {f : FuncId} {args : Array Operand} {ats : Array TypeId} {xs cs : List AV} {r : AV} (hf : entersOf P f = true) (hv : ev T s = some (.fn (.func f) [] cs)) (hx : EvL T args.toList xs) (hc : PF P f (xs ++ cs) r)
    (h : AL P ro ops rest ds (tput T d r) H Q) : AL P ro ops (⟨d, .call ⟨.value s, args, ats⟩, ty, pos, af, none⟩ :: rest) ds T H Q :=
  AL_callv (K := fun x H' => x = r ∧ H' = H) hv hf hx (hc H _ ⟨rfl, rfl⟩) (fun x H' ⟨e1, e2⟩ => by subst e1; subst e2; exact h)
end ops
end Go.AL
