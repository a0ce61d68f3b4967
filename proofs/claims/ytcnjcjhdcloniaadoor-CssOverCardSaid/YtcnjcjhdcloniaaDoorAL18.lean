/- Rows with arguments in memory: they read as they did; slices of numbers as values of the logic. -/
import Derived.Test.YtcnjcjhdcloniaaDoorAL15
import Derived.WideKeyArgs
import Derived.Carry
import Derived.ChangeSlices
set_option autoImplicit false
set_option linter.unusedVariables false
namespace Go.AL
open Go Go.RowKit Go.ChangeShapes Go.WideShapes Go.ChangeAt

section
variable {H : Type} {enc : TypeId × Value → H} {P : Program}
theorem trodAll_stays (hl : laidOutB P = true) {W W' : World} (hb : Below W.heap.size W W') {sp' : Nat → Bool} : ∀ (ts : List TypeId) (vs : List Value) (ds : List (DataW H)) (ps : List MemPlace),
    (∀ t ∈ ts, P.readableRec t = true ∧ t < P.types.size) → DataW.TrodAll enc P W 0 (fun _ => true) true ts vs ds ps → (∀ x ∈ ps, x.block < W.heap.size) → (∀ x ∈ ps, sp' x.block = true) → DataW.TrodAll enc P W' 0 sp' true ts vs ds ps
  | [], vs, ds, ps, _, h, _, _ => by
    obtain ⟨rfl, rfl, rfl⟩ := trodAll_nil h; exact trodAll_mk0
  | t :: ts, vs, ds, ps, ht, h, hlt, hs => by
    obtain ⟨v, vs', d, ds', p, q, rfl, rfl, rfl, h1, h2⟩ := trodAll_cons h
    have ht1 := ht t (by simp)
    exact trodAll_cons_mk (WideElems.Trod_stays hl ht1.1 ht1.2 h1 (fun x hx => hb.same (hlt x (by simp [hx]))) (fun x hx => hs x (by simp [hx])))
      (trodAll_stays hl hb ts vs' ds' q (fun t h => ht t (by simp [h])) h2 (fun x hx => hlt x (by simp [hx])) (fun x hx => hs x (by simp [hx])))

/-- The cells of these blocks are bytes. -/
def Bytes (bs : List Nat) (W : World) : Prop := ∀ (a : Addr) (u : Value), a.block ∈ bs → W.cell? a = some u → ∃ n, u = .int .u8 n

/-- A slice of numbers that is no slice of bytes: none of the tables' blocks is its. -/
theorem vr_ints {bs : List Nat} {W : World} (hby : Bytes bs W) {e : TypeId} {k : IntKind} (hk : k ≠ .u8) (hc : P.cellsOf e = 1) {a : Addr} {len cap : Nat} {zs : List Int} (hlc : len ≤ cap) (hz : zs.length = cap)
    (hcell : ∀ i, i < zs.length → W.cell? (a.add i) = some (.int k (zs.getD i 0))) : VR P W (tabH bs W) (.sl e ((zs.take len).map fun z => .v (.int k z))) (.slice (some a) len cap) := by
  have hlen : ((zs.take len).map fun z => AV.v (.int k z)).length = len := by simp; omega
  have hfl : ∀ l : List Int, flat (l.map fun z => AV.v (.int k z)) = l.map fun z => AV.v (.int k z) := by
    intro l
    induction l with
    | nil => rfl
    | cons z l ih => simp only [flat, List.map_cons, List.flatMap_cons] at ih ⊢; rw [ih]; rfl
  have key : VR P W (tabH bs W) (.sl e ((zs.take len).map fun z => .v (.int k z))) (.slice (some a) ((zs.take len).map fun z => AV.v (.int k z)).length cap) := by
    refine .sl (fun i => .int k (zs.getD i 0)) (fun x hx => ?_) (by omega) (fun i y hy => ?_) (fun i y hy => ?_)
    · obtain ⟨z, _, rfl⟩ := List.mem_map.1 hx; rw [hc]; rfl
    · rw [hfl] at hy
      have hi : i < zs.length := by have := (List.getElem?_eq_some_iff.1 hy).1; rw [hlen] at this; omega
      refine ⟨a, rfl, ?_, hcell i hi⟩
      unfold tabH
      rw [if_neg]
      intro hb
      obtain ⟨n, hn⟩ := hby (a.add i) _ (by rw [add_block]; exact hb) (hcell i hi)
      injection hn with hn _
      exact hk hn
    · rw [hfl] at hy
      rw [List.getElem?_map] at hy
      obtain ⟨z, hz1, rfl⟩ := Option.map_eq_some_iff.1 hy
      rw [List.getElem?_take] at hz1
      split at hz1
      · rw [List.getD_eq_getElem?_getD, hz1]; exact .v _
      · cases hz1
  rw [hlen] at key; exact key
theorem vr_nil {bs : List Nat} {W : World} {e : TypeId} : VR P W (tabH bs W) (.sl e []) (.slice none 0 0) :=
  .sl (xs := []) (c := 0) (fun _ => undef) (by simp) (by simp) (fun k y h => by simp [flat] at h) (fun k y h => by simp [flat] at h)

theorem PI.calls_vr {I : AH → Prop} {f : FuncId} {args : List AV} {r : Value} {vs : Array Value} {W : World} (bs : List Nat) (hl : args.length = vs.size) (hv : ∀ (k : Nat) (x : AV) (u : Value), args[k]? = some x → vs[k]? = some u → VR P W (tabH bs W) x u) (h : PI I P f args (.v r)) (hI : I (tabH bs W)) :
    Calls P f vs W fun e w' => e = .returned r ∧ Below W.heap.size W w' := AC.calls bs hl hv (h _ _ hI ⟨rfl, rfl⟩)
theorem vrs_nil {w : World} {K : AH} : ∀ (k : Nat) (x : AV) (u : Value), ([] : List AV)[k]? = some x → (#[] : Array Value)[k]? = some u → VR P w K x u := fun k x u h => by simp at h
theorem vrs_cons {w : World} {K : AH} {x : AV} {xs : List AV} {u : Value} {us : List Value} (h : VR P w K x u) (hs : ∀ (k : Nat) (x : AV) (u : Value), xs[k]? = some x → us.toArray[k]? = some u → VR P w K x u) :
    ∀ (k : Nat) (y : AV) (v : Value), (x :: xs)[k]? = some y → (u :: us).toArray[k]? = some v → VR P w K y v := fun k y v h1 h2 => by
  cases k with
  | zero => simp at h1 h2; subst h1; subst h2; exact h
  | succ k => exact hs k y v (by simpa using h1) (by simpa using h2)
end
end Go.AL
namespace Go.AL
open Go Go.RowKit Go.ChangeShapes Go.WideShapes Go.ChangeAt
section
variable {H : Type} {enc : TypeId × Value → H} {P : Program}
/-- A slice of numbers, as an argument. -/
theorem arg_ints {bs : List Nat} {W : World} (hby : Bytes bs W) {r : Reach} {base : Nat} {t e : TypeId} {k : IntKind} {v : Value} {d : DataW H} {ps : List MemPlace} (hk : k ≠ .u8) (ht : P.underlying t = some (.slice e)) (he : P.underlying e = some (.int k)) (hc : P.cellsOf e = 1)
    (hval : Value.okWide P W r base t v) (h : DataW.Trod enc P W 0 (fun _ => true) true t v d ps) : ∃ zs : List Int, VR P W (tabH bs W) (.sl e (zs.map fun z => .v (.int k z))) v := by
  obtain ⟨a, len, cap, rfl⟩ := okWide_slice ht hval
  obtain ⟨fuel, hf⟩ := h
  rcases open_ints ht he hc hf with ⟨h1, _⟩ | ⟨a', len', cap', zs, h1, _, hlc, _, hz, _, hcell, _⟩
  · simp [Value.cells] at h1
    obtain ⟨rfl, rfl, rfl⟩ := h1
    exact ⟨[], vr_nil⟩
  · simp [Value.cells] at h1
    obtain ⟨rfl, rfl, rfl⟩ := h1
    exact ⟨zs.take len, vr_ints hby hk hc hlc (by simpa using hz) hcell⟩
end
end Go.AL
