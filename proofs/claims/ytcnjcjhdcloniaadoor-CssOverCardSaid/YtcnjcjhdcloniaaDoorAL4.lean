/- Memory that is written: stores, new blocks, append. -/
import Derived.Test.YtcnjcjhdcloniaaDoorAL3
import Derived.Laws.IdiomCopy
import Derived.Laws.Append
import Derived.Laws.AppendOwn
set_option autoImplicit false
set_option linter.unusedVariables false
set_option linter.unusedSimpArgs false
namespace Go.AL
open Go Go.RowKit

/-- One cell's value. -/
def AV.one : AV → Bool
  | .v (.agg _) => false
  | .v (.tuple _) => false
  | .ag _ => false
  | .tup _ => false
  | .any => false
  | _ => true
theorem VR.one {P : Program} {w : World} {H : AH} {x : AV} {u : Value} (h : VR P w H x u) (h1 : x.one = true) : u.oneCell' = true := by
  cases h with
  | v => cases u <;> first | rfl | simp [AV.one] at h1
  | any => simp [AV.one] at h1
  | ag => simp [AV.one] at h1
  | tup => simp [AV.one] at h1
  | _ => rfl

/-- Only block b differs; blocks may be new. -/
structure But (b : Nat) (w w' : World) : Prop where
  os : w'.os = w.os
  tape : w'.tape = w.tape
  output : w'.output = w.output
  size : w.heap.size ≤ w'.heap.size
  block : ∀ k, k < w.heap.size → k ≠ b → w'.heap[k]? = w.heap[k]?
theorem But.refl (b : Nat) (w : World) : But b w w := ⟨rfl, rfl, rfl, Nat.le_refl _, fun _ _ _ => rfl⟩

theorem setCells_row {b : Nat} {e : TypeId} {fr : Nat × Nat} : ∀ (vs : List Value) (o : Nat) (w : World) (cs : Array Value), w.heap[b]? = some (.cells cs e fr) →
    ∃ cs', (w.setCells b o vs).heap[b]? = some (.cells cs' e fr) ∧ cs'.size = cs.size ∧ (∀ k : Nat, (k < o ∨ o + vs.length ≤ k) → cs'[k]? = cs[k]?) ∧ (∀ (j : Nat) (u : Value), vs[j]? = some u → o + j < cs.size → cs'[o + j]? = some u) ∧ But b w (w.setCells b o vs) ∧ (w.setCells b o vs).heap.size = w.heap.size := by
  intro vs
  induction vs with
  | nil => exact fun o w cs h => ⟨cs, h, rfl, fun _ _ => rfl, fun j u hu => by simp at hu, .refl _ _, rfl⟩
  | cons v vs ih =>
    intro o w cs h
    have h1 : (w.setCell ⟨b, o, none⟩ v).heap[b]? = some (.cells (cs.setIfInBounds o v) e fr) := by simp [World.setCell, Array.getElem?_modify, h]
    obtain ⟨cs', h2, h3, h4, h5, h6, h7⟩ := ih (o + 1) _ _ h1
    refine ⟨cs', h2, by simpa using h3, fun k hk => ?_, fun j u hu hlt => ?_, ⟨h6.os, h6.tape, h6.output, by show w.heap.size ≤ ((w.setCell ⟨b, o, none⟩ v).setCells b (o + 1) vs).heap.size; rw [h7]; simp [World.setCell], fun k hk hne => ?_⟩, ?_⟩
    · rw [h4 k (by simp at hk; omega), Array.getElem?_setIfInBounds, if_neg (by simp at hk; omega)]
    · cases j with
      | zero =>
        simp at hu; subst hu
        rw [Nat.add_zero, h4 o (by omega), Array.getElem?_setIfInBounds, if_pos rfl, if_pos (by omega)]
      | succ j =>
        have := h5 j u (by simpa using hu) (by simp; omega)
        rwa [show o + (j + 1) = o + 1 + j by omega]
    · rw [show (w.setCells b o (v :: vs)).heap[k]? = _ from h6.block k (by simpa [World.setCell] using hk) hne]
      simp [World.setCell, Array.getElem?_modify, Ne.symm hne]
    · rw [show (w.setCells b o (v :: vs)).heap.size = _ from h7]; simp [World.setCell]

/-- A row's cells put anew. -/
def putAV (x : AV) (o : Nat) (y : AV) : AV :=
  match x with
  | .ag cs => .ag (cs.take o ++ y.cells ++ cs.drop (o + y.cells.length))
  | _ => y

theorem Step.of_but {H H' : AH} {b : Nat} {w w' : World} (h : But b w w') (hb : H b ≠ none) (hn : ∀ k, k < w.heap.size → H k = none → H' k = none) : Step H w H' w' :=
  ⟨h.os, h.tape, h.output, h.size, fun k hk hk0 => ⟨h.block k hk (fun e => hb (e ▸ hk0)), hn k hk hk0⟩⟩

/-- What is not the block turned goes on. -/
theorem HR.of_but {P : Program} {H H' : AH} {b : Nat} {w w' : World} (hh : HR P H w) (h : But b w w') (hs : Step H w H' w') (hother : ∀ k o, k ≠ b → H' k = some o → H k = some o) (hb : ∀ o, H' b = some o → OR P H' w' b o) : HR P H' w' := by
  intro k o hk
  by_cases he : k = b
  · subst he; exact hb o hk
  · have h0 := hh k o (hother k o he hk)
    exact h0.keep hs (h.block k h0.lt he)

section ops
variable {P : Program} {ro : Option Nat} {ds : List Deferred} {T : List AV} {H : AH} {Q : Post} {ops : Array Oper} {rest : List Oper}
variable {d : Option Tmp} {ty : TypeId} {pos : String} {af : Array Edge} {s s' : Operand} {x y : AV}

theorem VR.cells_of {w : World} {u : Value} (h : VR P w H y u) (hne : y ≠ .any) (hv : ∀ cs, y ≠ .v (.agg cs)) (ht : ∀ cs, y ≠ .tup cs) :
    u.cells.toList.length = y.cells.length ∧ ∀ (k : Nat) (z : AV) (v : Value), y.cells[k]? = some z → u.cells.toList[k]? = some v → VR P w H z v := by
  cases h with
  | any => exact absurd rfl hne
  | ag hl' hw => exact ⟨by simpa [AV.cells, Value.cells] using hl'.symm, fun k z v hz hv' => hw k z v hz (by simpa [Value.cells] using hv')⟩
  | tup hl' hw => exact absurd rfl (ht _)
  | v =>
    have : ∀ cs, u ≠ .agg cs := fun cs e => hv cs (by rw [e])
    have hc : u.cells = #[u] := by cases u <;> first | rfl | exact absurd rfl (this _)
    rw [hc]
    refine ⟨rfl, fun k z v hz hv' => ?_⟩
    cases k with
    | zero => simp [AV.cells] at hz hv'; subst hz; subst hv'; exact .v _
    | succ k => simp [AV.cells] at hz
  | sl U a b c e =>
    refine ⟨rfl, fun k z v hz hv' => ?_⟩
    cases k with
    | zero => simp [AV.cells, Value.cells] at hz hv'; subst hz; subst hv'; exact .sl U a b c e
    | succ k => simp [AV.cells] at hz
  | own b c n =>
    refine ⟨rfl, fun k z v hz hv' => ?_⟩
    cases k with
    | zero => simp [AV.cells, Value.cells] at hz hv'; subst hz; subst hv'; exact .own b c n
    | succ k => simp [AV.cells] at hz
  | ownNil =>
    refine ⟨rfl, fun k z v hz hv' => ?_⟩
    cases k with
    | zero => simp [AV.cells, Value.cells] at hz hv'; subst hz; subst hv'; exact .ownNil
    | succ k => simp [AV.cells] at hz
  | pt b i s o =>
    refine ⟨rfl, fun k z v hz hv' => ?_⟩
    cases k with
    | zero => simp [AV.cells, Value.cells] at hz hv'; subst hz; subst hv'; exact .pt b i s o
    | succ k => simp [AV.cells] at hz
  | rp U a b c =>
    refine ⟨rfl, fun k z v hz hv' => ?_⟩
    cases k with
    | zero => simp [AV.cells, Value.cells] at hz hv'; subst hz; subst hv'; exact .rp U a b c
    | succ k => simp [AV.cells] at hz
  | fn a b c e =>
    refine ⟨rfl, fun k z v hz hv' => ?_⟩
    cases k with
    | zero => simp [AV.cells, Value.cells] at hz hv'; subst hz; subst hv'; exact .fn a b c e
    | succ k => simp [AV.cells] at hz

/-- A value that may lie in memory. -/
def AV.mem (y : AV) : Bool := y.cells.all AV.one
theorem AV.mem_ne {y : AV} (h : y.mem = true) : y ≠ .any ∧ (∀ cs, y ≠ .v (.agg cs)) ∧ ∀ cs, y ≠ .tup cs := by
  refine ⟨?_, ?_, ?_⟩
  · rintro rfl; simp [AV.mem, AV.cells, AV.one] at h
  · rintro cs rfl; simp [AV.mem, AV.cells, AV.one] at h
  · rintro cs rfl; simp [AV.mem, AV.cells, AV.one] at h

theorem VR.mem_cells {w : World} {u : Value} (h : VR P w H y u) (hm : y.mem = true) :
    u.cells.toList.length = y.cells.length ∧ (∀ (k : Nat) (z : AV) (v : Value), y.cells[k]? = some z → u.cells.toList[k]? = some v → VR P w H z v) ∧ ∀ v ∈ u.cells.toList, v.oneCell' = true := by
  obtain ⟨h1, h2, h3⟩ := AV.mem_ne hm
  obtain ⟨hl, hv⟩ := h.cells_of h1 h2 h3
  refine ⟨hl, hv, fun v hmem => ?_⟩
  obtain ⟨k, hk, rfl⟩ := List.mem_iff_getElem.1 hmem
  have hk' : k < y.cells.length := by omega
  have := hv k _ _ (List.getElem?_eq_getElem hk') (List.getElem?_eq_getElem hk)
  refine this.one ?_
  simp only [AV.mem, List.all_eq_true] at hm
  exact hm _ (List.getElem_mem hk')

theorem flat_set : ∀ (xs : List AV) (sz : Nat), (∀ x ∈ xs, x.cells.length = sz) → ∀ (i : Nat) (x z : AV), xs[i]? = some x → z.cells.length = sz → ∀ (k : Nat) (y : AV), (flat (xs.set i z))[k]? = some y →
    (i * sz ≤ k ∧ k < i * sz + sz ∧ z.cells[k - i * sz]? = some y) ∨ ((k < i * sz ∨ i * sz + sz ≤ k) ∧ (flat xs)[k]? = some y) := by
  intro xs
  induction xs with
  | nil => intro sz _ i x z h; simp at h
  | cons q xs ih =>
    intro sz hs i x z hx hz k y hy
    have hq : q.cells.length = sz := hs q (by simp)
    cases i with
    | zero =>
      simp only [List.set_cons_zero, flat, List.flatMap_cons] at hy ⊢
      by_cases hk : k < sz
      · left; rw [List.getElem?_append_left (by omega)] at hy; exact ⟨by omega, by omega, by simpa using hy⟩
      · right; rw [List.getElem?_append_right (by omega)] at hy; rw [List.getElem?_append_right (by omega), hq]; rw [hz] at hy; exact ⟨by omega, hy⟩
    | succ i =>
      simp only [List.set_cons_succ, flat, List.flatMap_cons] at hy ⊢
      by_cases hk : k < sz
      · right; rw [List.getElem?_append_left (by omega)] at hy ⊢; exact ⟨by rw [Nat.succ_mul]; omega, hy⟩
      · rw [List.getElem?_append_right (by omega), hq] at hy
        rw [List.getElem?_append_right (by omega), hq, Nat.succ_mul]
        rcases ih sz (fun x hx => hs x (by simp [hx])) i x z (by simpa using hx) hz (k - sz) y hy with ⟨h1, h2, h3⟩ | ⟨h1, h2⟩
        · left; exact ⟨by omega, by omega, by rw [show k - (i * sz + sz) = k - sz - i * sz by omega]; exact h3⟩
        · right; exact ⟨by omega, h2⟩

theorem putAV_cells {n o : Nat} (hm : y.cells.length = n) (ho : o + n ≤ x.cells.length) (hx : x.isAg = false → o = 0 ∧ n = 1 ∧ y.isAg = false) :
    (putAV x o y).cells.length = x.cells.length ∧ ∀ (k : Nat) (z : AV), (putAV x o y).cells[k]? = some z → (o ≤ k ∧ k < o + n ∧ y.cells[k - o]? = some z) ∨ ((k < o ∨ o + n ≤ k) ∧ x.cells[k]? = some z) := by
  cases hxa : x.isAg with
  | true =>
    rw [AV.of_isAg hxa] at ho ⊢
    generalize x.cells = cs at ho ⊢
    replace ho : o + n ≤ cs.length := ho
    show (cs.take o ++ y.cells ++ cs.drop (o + y.cells.length)).length = cs.length ∧ ∀ (k : Nat) (z : AV), (cs.take o ++ y.cells ++ cs.drop (o + y.cells.length))[k]? = some z → (o ≤ k ∧ k < o + n ∧ y.cells[k - o]? = some z) ∨ ((k < o ∨ o + n ≤ k) ∧ cs[k]? = some z)
    refine ⟨by simp only [List.length_append, List.length_take, List.length_drop, hm]; omega, fun k z hz => ?_⟩
    rw [List.append_assoc] at hz
    by_cases h1 : k < o
    · right; rw [List.getElem?_append_left (by simp; omega), List.getElem?_take, if_pos h1] at hz; exact ⟨by omega, hz⟩
    · rw [List.getElem?_append_right (by simp; omega)] at hz
      have hlen : (List.take o cs).length = o := by simp; omega
      rw [hlen] at hz
      by_cases h2 : k < o + n
      · left; rw [List.getElem?_append_left (by omega)] at hz; exact ⟨by omega, h2, hz⟩
      · right
        rw [List.getElem?_append_right (by omega), List.getElem?_drop, hm] at hz
        rw [show o + n + (k - o - n) = k by omega] at hz
        exact ⟨by omega, hz⟩
  | false =>
    obtain ⟨rfl, rfl, hy⟩ := hx hxa
    have hp : putAV x 0 y = y := by cases x <;> first | rfl | simp [AV.isAg] at hxa
    rw [hp, hm, AV.cells_of_not hxa]
    refine ⟨rfl, fun k z hz => ?_⟩
    left
    have := (List.getElem?_eq_some_iff.1 hz).1
    exact ⟨by omega, by omega, by simpa using hz⟩

theorem AL_store {t e : TypeId} {b i sz o n c : Nat} {xs : List AV} (hp : ev T s = some (.pt b i sz o)) (hy : EVR T s' y) (hm : y.mem = true) (hH : H b = some (.row e c xs)) (he : szOf P e = some sz) (hi : xs[i]? = some x) (hs : szOf P t = some n)
    (hyn : y.cells.length = n) (ho : o + n ≤ sz) (hx : x.isAg = false → o = 0 ∧ n = 1 ∧ y.isAg = false)
    (h : AL P ro ops rest ds (tput T d (.v undef)) (H.upd b (some (.row e c (xs.set i (putAV x o y))))) Q) : AL P ro ops (⟨d, .store t s s', ty, pos, af, none⟩ :: rest) ds T H Q := by
  refine AL_opu rfl (fun _ => by simp) fun a w hst => ?_
  have hpv := hst.ev hp
  generalize hu : a.eval s = u at hpv
  cases hpv
  have hyv := hst.evr hy
  obtain ⟨hl, hv, h1⟩ := hyv.mem_cells hm
  obtain ⟨cs, fr, hbk, hsz, hfr, hc, hel, hcv⟩ := hst.heap b _ hH
  have hel' := hel
  rw [szOf_cells he] at hsz hel
  have hin : i * sz + sz ≤ cs.size := by
    have := (List.getElem?_eq_some_iff.1 hi).1
    rw [hsz, ← Nat.succ_mul]
    exact Nat.mul_le_mul_right _ (by omega)
  obtain ⟨cs', k1, k2, k3, k4, k5, k6⟩ := setCells_row (a.eval s').cells.toList (i * sz + o) w cs hbk
  have hrun : (storeVar t ⟨b, i * sz + o, none⟩ (a.eval s')).run P w = .ok () (w.setCells b (i * sz + o) (a.eval s').cells.toList) := by
    have := run_storeCells_cells (P := P) b (i * sz + o) (a.eval s').cells.toList 0 w
      (fun j hj => by
        have : i * sz + o + j < cs.size := by omega
        simp [World.cell?, hbk, this])
      (fun j hj => by
        have := hfr (i * sz + o + j) (by omega)
        simp only [World.frozen?, hbk, Nat.add_zero]
        simp only [Bool.and_eq_false_iff, decide_eq_false_iff_not]
        rcases Decidable.not_and_iff_not_or_not.1 this with h | h
        · exact .inl h
        · exact .inr h)
      h1
    have hne : ¬ ((a.eval s').cells.size ≠ n) := by simp; rw [← hyn, ← hl]; simp
    simp only [storeVar, Sem.run_bind, run_sizeOf' hs, Result.andThen_ok, if_neg hne]
    simpa using this
  have hxc : x.cells.length = sz := hel x (List.mem_of_getElem? hi)
  obtain ⟨p1, p2⟩ := putAV_cells (x := x) (y := y) (o := o) hyn (by omega) hx
  have hstep : Step H w (H.upd b (some (.row e c (xs.set i (putAV x o y))))) (w.setCells b (i * sz + o) (a.eval s').cells.toList) :=
    .of_but k5 (by rw [hH]; simp) (fun k hk hk0 => by rw [AH.upd_ne _ _ (fun e => by rw [e, hH] at hk0; cases hk0)]; exact hk0)
  refine ⟨_, _, by simp [execOp, Instr.storeAt, hu, Instr.sureAddr, hrun], HR.of_but hst.heap k5 hstep (fun k o hk hko => by rwa [AH.upd_ne _ _ hk] at hko) ?_, hstep, h⟩
  intro o' ho'
  rw [AH.upd_same] at ho'
  injection ho' with ho'
  subst ho'
  refine ⟨cs', fr, k1, by rw [k2, hsz, szOf_cells he], fun i hi => hfr i (by omega), by simpa using hc, ?_, fun k z hz => ?_⟩
  · intro q hq
    rw [szOf_cells he]
    rcases List.mem_or_eq_of_mem_set hq with hq | rfl
    · exact hel q hq
    · rw [p1]; exact hxc
  · rcases flat_set xs sz hel i x _ hi (by rw [p1]; exact hxc) k z hz with ⟨q1, q2, q3⟩ | ⟨q1, q2⟩
    · rcases p2 _ _ q3 with ⟨r1, r2, r3⟩ | ⟨r1, r2⟩
      · have hj : k - i * sz - o < (a.eval s').cells.toList.length := by omega
        have e1 := k4 (k - i * sz - o) _ (List.getElem?_eq_getElem hj) (by omega)
        rw [show i * sz + o + (k - i * sz - o) = k by omega] at e1
        exact ⟨_, e1, (hv _ _ _ r3 (List.getElem?_eq_getElem hj)).step hstep⟩
      · have hf := flat_at xs sz hel i x hi _ _ r2
        rw [show i * sz + (k - i * sz) = k by omega] at hf
        obtain ⟨u, hu1, hu2⟩ := hcv _ _ hf
        exact ⟨u, by rw [k3 k (by omega)]; exact hu1, hu2.step hstep⟩
    · obtain ⟨u, hu1, hu2⟩ := hcv _ _ q2
      exact ⟨u, by rw [k3 k (by omega)]; exact hu1, hu2.step hstep⟩

/-- A new block. -/
theorem Step.alloc (w : World) (o : Obj) (b' : AO) (hn : H w.heap.size = none) : Step H w (H.upd w.heap.size (some b')) (w.alloc o) :=
  ⟨rfl, rfl, rfl, by simp, fun k hk hk0 => ⟨Below.heap_alloc _ _ _ hk, by rw [AH.upd_ne _ _ (by omega)]; exact hk0⟩⟩
theorem HR.none_new {w : World} (hh : HR P H w) : H w.heap.size = none := by
  cases h : H w.heap.size with
  | none => rfl
  | some o => exact absurd (hh _ o h).lt (Nat.lt_irrefl _)
theorem HR.alloc {w : World} {o : Obj} {b' : AO} (hh : HR P H w) (ho : OR P (H.upd w.heap.size (some b')) (w.alloc o) w.heap.size b') : HR P (H.upd w.heap.size (some b')) (w.alloc o) := by
  intro k q hk
  by_cases he : k = w.heap.size
  · subst he; rw [AH.upd_same] at hk; injection hk with hk; subst hk; exact ho
  · rw [AH.upd_ne _ _ he] at hk
    have h0 := hh k q hk
    exact h0.keep (Step.alloc w o b' hh.none_new) (Below.heap_alloc _ _ _ h0.lt)

/-- A new row out of cells. -/
theorem OR.new {w : World} {e : TypeId} {c sz : Nat} {xs : List AV} {cs : Array Value} (hz : szOf P e = some sz) (hsz : cs.size = c * sz) (hc : xs.length ≤ c) (hel : ∀ x ∈ xs, x.cells.length = sz)
    (hv : ∀ (k : Nat) (y : AV), (flat xs)[k]? = some y → ∃ u, cs[k]? = some u ∧ VR P w H y u) (hn : H w.heap.size = none) :
    OR P (H.upd w.heap.size (some (.row e c xs))) (w.alloc (.cells cs e)) w.heap.size (.row e c xs) :=
  ⟨cs, (0, 0), heap_alloc_new w _, by rw [szOf_cells hz]; exact hsz, fun i _ h => by simp at h, hc, fun x hx => by rw [szOf_cells hz]; exact hel x hx,
    fun k y hy => let ⟨u, h1, h2⟩ := hv k y hy; ⟨u, h1, h2.step (Step.alloc w _ _ hn)⟩⟩

/-- A boxed value. -/
theorem AL_box {t : TypeId} {n : Nat} (hy : ev T s = some y) (hm : y.mem = true) (hs : szOf P t = some n) (hn : y.cells.length = n)
    (h : ∀ b, H b = none → AL P ro ops rest ds (tput T d (.pt b 0 n 0)) (H.upd b (some (.row t 1 [y]))) Q) : AL P ro ops (⟨d, .box t s, ty, pos, af, none⟩ :: rest) ds T H Q := by
  refine AL_op rfl (fun _ => by simp) fun a w hst => ?_
  have hyv := hst.ev hy
  obtain ⟨hl, hv, h1⟩ := hyv.mem_cells hm
  have hnew := hst.heap.none_new
  refine ⟨.pointer (some ⟨w.heap.size, 0, none⟩), w.alloc (.cells (a.eval s).cells t), .pt w.heap.size 0 n 0, _, by simp [execOp, Instr.box, newVar, newRow], by simpa using VR.pt (P := P) (w := w.alloc _) (H := _) w.heap.size 0 n 0, ?_, Step.alloc w _ _ hnew, h _ hnew⟩
  refine hst.heap.alloc (OR.new hs (by rw [← hn, ← hl]; simp) (by simp) (fun x hx => by simp at hx; subst hx; exact hn) (fun k z hz => ?_) hnew)
  simp only [flat, List.flatMap_cons, List.flatMap_nil, List.append_nil] at hz
  have hk : k < (a.eval s).cells.toList.length := by have := (List.getElem?_eq_some_iff.1 hz).1; omega
  exact ⟨_, by rw [← Array.getElem?_toList]; exact List.getElem?_eq_getElem hk, hv k _ _ hz (List.getElem?_eq_getElem hk)⟩

/-- A type's zero, said of abstract values. -/
def zav1 : Value → AV
  | .slice none 0 0 => .own none 0 0
  | x => .v x
def zav : Value → AV
  | .agg cs => .ag (cs.toList.map zav1)
  | x => zav1 x
theorem VR.zav1 {w : World} (x : Value) : VR P w H (zav1 x) x := by
  unfold Go.AL.zav1; split
  · exact .ownNil
  · exact .v _
theorem VR.zav {w : World} (x : Value) : VR P w H (zav x) x := by
  unfold Go.AL.zav; split
  · refine .ag (by simp) fun k y u hy hu => ?_
    simp only [List.getElem?_map, Option.map_eq_some_iff] at hy
    obtain ⟨q, hq, rfl⟩ := hy
    rw [Array.getElem?_toList, hu] at hq
    injection hq with hq; subst hq; exact VR.zav1 _
  · exact VR.zav1 _
def zeroOf (P : Program) (t : TypeId) : Option Value := (P.info? t).bind (·.zero)

theorem run_zeroValue' {t : TypeId} {z : Value} (h : zeroOf P t = some z) (w : World) : (zeroValue t).run P w = .ok z w := by
  unfold zeroOf at h
  cases hi : P.info? t with
  | none => simp [hi] at h
  | some i => simp [hi] at h; simp [zeroValue, typeInfo, program, Sem.run, hi, h]

/-- A zero value's cells, seen as abstract ones. -/
inductive ZL : List Value → List AV → Prop
  | nil : ZL [] []
  | v {x : Value} {vs : List Value} {ys : List AV} (h : ZL vs ys) : ZL (x :: vs) (.v x :: ys)
  | own {vs : List Value} {ys : List AV} (h : ZL vs ys) : ZL (.slice none 0 0 :: vs) (.own none 0 0 :: ys)
  | sl {e : TypeId} {vs : List Value} {ys : List AV} (h : ZL vs ys) : ZL (.slice none 0 0 :: vs) (.sl e [] :: ys)
theorem ZL.vals {w : World} {vs : List Value} {ys : List AV} (h : ZL vs ys) : ys.length = vs.length ∧ ∀ (k : Nat) (y : AV) (u : Value), ys[k]? = some y → vs[k]? = some u → VR P w H y u := by
  induction h with
  | nil => exact ⟨rfl, fun k y u h => by simp at h⟩
  | v h ih => exact ⟨by simp [ih.1], fun k y u hy hu => by cases k with | zero => (simp at hy hu; subst hy; subst hu; exact .v _) | succ k => exact ih.2 k y u (by simpa using hy) (by simpa using hu)⟩
  | own h ih => exact ⟨by simp [ih.1], fun k y u hy hu => by cases k with | zero => (simp at hy hu; subst hy; subst hu; exact .ownNil) | succ k => exact ih.2 k y u (by simpa using hy) (by simpa using hu)⟩
  | sl h ih => exact ⟨by simp [ih.1], fun k y u hy hu => by cases k with | zero => (simp at hy hu; subst hy; subst hu; exact VR.nilsl .ownNil) | succ k => exact ih.2 k y u (by simpa using hy) (by simpa using hu)⟩
inductive ZA : Value → AV → Prop
  | agg {cs : Array Value} {ys : List AV} (h : ZL cs.toList ys) : ZA (.agg cs) (.ag ys)
  | v (x : Value) : ZA x (.v x)
  | own : ZA (.slice none 0 0) (.own none 0 0)
  | sl (e : TypeId) : ZA (.slice none 0 0) (.sl e [])
theorem ZA.val {w : World} {x : Value} {y : AV} (h : ZA x y) : VR P w H y x := by
  cases h with
  | agg h => obtain ⟨h1, h2⟩ := h.vals (P := P) (w := w) (H := H); exact .ag (by simpa using h1) (fun k y u hy hu => h2 k y u hy (by simpa using hu))
  | v => exact .v _
  | own => exact .ownNil
  | sl e => exact VR.nilsl .ownNil

theorem AL_alloc {t : TypeId} {n : Nat} {z : Value} (hz : zeroOf P t = some z) (hy : ZA z y) (hm : y.mem = true) (hs : szOf P t = some n) (hn : y.cells.length = n)
    (h : ∀ b, H b = none → AL P ro ops rest ds (tput T d (.pt b 0 n 0)) (H.upd b (some (.row t 1 [y]))) Q) : AL P ro ops (⟨d, .alloc t, ty, pos, af, none⟩ :: rest) ds T H Q := by
  refine AL_op rfl (fun _ => by simp) fun a w hst => ?_
  have hyv : VR P w H y z := hy.val
  obtain ⟨hl, hv, h1⟩ := hyv.mem_cells hm
  have hnew := hst.heap.none_new
  refine ⟨.pointer (some ⟨w.heap.size, 0, none⟩), w.alloc (.cells z.cells t), .pt w.heap.size 0 n 0, _, by simp [execOp, Instr.alloc, run_zeroValue' hz, newVar, newRow], by simpa using VR.pt (P := P) (w := w.alloc _) (H := _) w.heap.size 0 n 0, ?_, Step.alloc w _ _ hnew, h _ hnew⟩
  refine hst.heap.alloc (OR.new hs (by rw [← hn, ← hl]; simp) (by simp) (fun x hx => by simp at hx; subst hx; exact hn) (fun k z' hz' => ?_) hnew)
  simp only [flat, List.flatMap_cons, List.flatMap_nil, List.append_nil] at hz'
  have hk : k < z.cells.toList.length := by have := (List.getElem?_eq_some_iff.1 hz').1; omega
  exact ⟨_, by rw [← Array.getElem?_toList]; exact List.getElem?_eq_getElem hk, hv k _ _ hz' (List.getElem?_eq_getElem hk)⟩
end ops
end Go.AL
