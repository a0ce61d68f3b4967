/- The operations of the walk, said of abstract values. -/
import Derived.Test.YtcnjcjhdcloniaaDoorAL1
set_option autoImplicit false
set_option linter.unusedVariables false
set_option linter.unusedSimpArgs false
namespace Go.AL
open Go Go.RowKit

def tput (T : List AV) : Option Tmp → AV → List AV
  | some d, x => T.set d x
  | none, _ => T

section ops
variable {P : Program} {ro : Option Nat} {ds : List Deferred} {T : List AV} {H : AH} {Q : Post} {ops : Array Oper} {rest : List Oper}

theorem St.put {a : Act} {w w' : World} {H' : AH} (hs : St P ds T H a w) (hst : Step H w H' w') (hh : HR P H' w') {d : Option Tmp} {x : AV} {u : Value} (hx : VR P w' H' x u) :
    St P ds (tput T d x) H' (a.put d u) w' := by
  cases d with
  | none => exact ⟨hs.defers, hs.size, fun k y hy => let ⟨u, hu, hv⟩ := hs.vals k y hy; ⟨u, hu, hv.step hst⟩, hh⟩
  | some d =>
    refine ⟨hs.defers, by simp [Act.put, tput, hs.size], fun k y hy => ?_, hh⟩
    simp only [tput, Act.put] at hy ⊢
    rw [List.getElem?_set] at hy
    rw [Array.getElem?_setIfInBounds]
    split at hy
    · rename_i hk
      subst hk
      split at hy
      · rename_i hlt
        injection hy with hy
        subst hy
        rw [if_pos rfl, if_pos (by rw [hs.size]; exact hlt)]
        exact ⟨u, rfl, hx⟩
      · cases hy
    · rename_i hk
      rw [if_neg hk]
      obtain ⟨u', hu', hv⟩ := hs.vals k y hy
      exact ⟨u', hu', hv.step hst⟩

/-- One operation. -/
theorem AL_op {o : Oper} (hg : o.guard = none) (hnd : ∀ c, o.op ≠ .defer c)
    (h : ∀ a w, St P ds T H a w → ∃ v w' x H', (execOp a.eval o).run P w = .ok (.value v) w' ∧ VR P w' H' x v ∧ HR P H' w' ∧ Step H w H' w' ∧ AL P ro ops rest ds (tput T o.dst x) H' Q) :
    AL P ro ops (o :: rest) ds T H Q := fun a w hs => by
  obtain ⟨v, w', x, H', hr, hx, hh, hst, hn⟩ := h a w hs
  refine wpListIn_plain hg fun K hK => ?_
  refine ⟨fun f _ => trivial, ?_⟩
  rw [Oper.semAt_eq _ _ _ hnd, hr]
  exact hK _ _ (wpListIn_mono (fun _ _ _ p => post.back hst p) (fun _ => trivial) _ _ _ (hn _ _ (hs.put hst hh hx)))

/-- One operation that hands nothing back. -/
theorem AL_opu {o : Oper} (hg : o.guard = none) (hnd : ∀ c, o.op ≠ .defer c)
    (h : ∀ a w, St P ds T H a w → ∃ w' H', (execOp a.eval o).run P w = .ok .skip w' ∧ HR P H' w' ∧ Step H w H' w' ∧ AL P ro ops rest ds (tput T o.dst (.v undef)) H' Q) :
    AL P ro ops (o :: rest) ds T H Q := fun a w hs => by
  obtain ⟨w', H', hr, hh, hst, hn⟩ := h a w hs
  refine wpListIn_plain hg fun K hK => ?_
  refine ⟨fun f _ => trivial, ?_⟩
  rw [Oper.semAt_eq _ _ _ hnd, hr]
  exact hK _ _ (wpListIn_mono (fun _ _ _ p => post.back hst p) (fun _ => trivial) _ _ _ (hn _ _ (hs.put hst hh (.v _))))

/-- What an operation gives that turns nothing. -/
def PV (P : Program) (o : Oper) (T : List AV) (H : AH) (x : AV) : Prop :=
  ∀ ds a w, St P ds T H a w → ∃ v, (execOp a.eval o).run P w = .ok (.value v) w ∧ VR P w H x v

theorem AL_pure {o : Oper} {x : AV} (hp : PV P o T H x) (hg : o.guard = none) (hnd : ∀ c, o.op ≠ .defer c) (h : AL P ro ops rest ds (tput T o.dst x) H Q) : AL P ro ops (o :: rest) ds T H Q :=
  AL_op hg hnd fun a w hs => let ⟨v, hr, hv⟩ := hp ds a w hs; ⟨v, w, x, H, hr, hv, hs.heap, .refl _ _, h⟩

/-- An operand. -/
def ev (T : List AV) : Operand → Option AV
  | .tmp t => T[t]?
  | .const (.slice none 0 0) => some (.own none 0 0)
  | .const x => some (.v x)
  | .global g => some (.v (.pointer (some ⟨g, 0, none⟩)))
  | .func f => some (.fn (.func f) [] [])

theorem St.ev {a : Act} {w : World} (hs : St P ds T H a w) {s : Operand} {x : AV} (hx : ev T s = some x) : VR P w H x (a.eval s) := by
  unfold Go.AL.ev at hx
  split at hx
  · exact hs.eval hx
  · injection hx with hx; subst hx; exact .ownNil
  · injection hx with hx; subst hx; exact .v _
  · injection hx with hx; subst hx; exact .v _
  · injection hx with hx; subst hx
    exact .fn rfl rfl (fun k y u h => by simp at h) (fun k y u h => by simp at h)
theorem St.evv {a : Act} {w : World} (hs : St P ds T H a w) {s : Operand} {x : Value} (hx : Go.AL.ev T s = some (.v x)) : a.eval s = x := (hs.ev hx).v_inv

/-- An operand, seen as a value: a nil slice is also an empty slice that is read. -/
inductive EVR (T : List AV) : Operand → AV → Prop
  | ev {s : Operand} {x : AV} (h : Go.AL.ev T s = some x) : EVR T s x
  | nil {s : Operand} {e : TypeId} (h : Go.AL.ev T s = some (.own none 0 0)) : EVR T s (.sl e [])
theorem VR.nilsl {w : World} {u : Value} {e : TypeId} (h : VR P w H (.own none 0 0) u) : VR P w H (.sl e []) u := by
  cases h
  exact .sl (xs := []) (c := 0) (fun _ => undef) (by simp) (by simp) (fun k y h => by simp [flat] at h) (fun k y h => by simp [flat] at h)
theorem St.evr {a : Act} {w : World} (hs : St P ds T H a w) {s : Operand} {x : AV} (hx : EVR T s x) : VR P w H x (a.eval s) := by
  cases hx with
  | ev h => exact hs.ev h
  | nil h => exact (hs.ev h).nilsl
inductive EvL (T : List AV) : List Operand → List AV → Prop
  | nil : EvL T [] []
  | cons {s : Operand} {x : AV} {ss : List Operand} {xs : List AV} (h : EVR T s x) (hs : EvL T ss xs) : EvL T (s :: ss) (x :: xs)
theorem EvL.vals {a : Act} {w : World} (hst : St P ds T H a w) {ss : List Operand} {xs : List AV} (h : EvL T ss xs) :
    xs.length = ss.length ∧ ∀ (k : Nat) (x : AV) (o : Operand), xs[k]? = some x → ss[k]? = some o → VR P w H x (a.eval o) := by
  induction h with
  | nil => exact ⟨rfl, fun k x o h => by simp at h⟩
  | cons h hs ih =>
    refine ⟨by simp [ih.1], fun k x o hx ho => ?_⟩
    cases k with
    | zero => simp at hx ho; subst hx; subst ho; exact hst.evr h
    | succ k => exact ih.2 k x o (by simpa using hx) (by simpa using ho)
theorem EvL.args {a : Act} {w : World} (hst : St P ds T H a w) {args : Array Operand} {xs : List AV} (h : EvL T args.toList xs) :
    xs.length = (args.map a.eval).size ∧ ∀ (k : Nat) (x : AV) (u : Value), xs[k]? = some x → (args.map a.eval)[k]? = some u → VR P w H x u := by
  obtain ⟨h1, h2⟩ := h.vals hst
  refine ⟨by simpa using h1, fun k x u hx hu => ?_⟩
  rw [Array.getElem?_map] at hu
  cases ho : args[k]? with
  | none => simp [ho] at hu
  | some o =>
    rw [ho] at hu; simp at hu; subst hu
    exact h2 k x o hx (by simpa using ho)

section
variable {d : Option Tmp} {ty : TypeId} {pos : String} {af : Array Edge} {s s' : Operand} {x y : AV}

theorem PV_move (hx : ev T s = some x) : PV P ⟨d, .move s, ty, pos, af, none⟩ T H x := fun ds a w hs => ⟨_, by simp [execOp], hs.ev hx⟩
theorem PV_assign (hx : ev T s = some x) : PV P ⟨d, .assign s, ty, pos, af, none⟩ T H x := fun ds a w hs => ⟨_, by simp [execOp], hs.ev hx⟩
theorem PV_pick_true {c : Operand} (hc : ev T c = some (.v (.bool true))) (hx : ev T s = some x) : PV P ⟨d, .pick c s s', ty, pos, af, none⟩ T H x := fun ds a w hs => ⟨_, by simp [execOp, hs.evv hc, asBool], hs.ev hx⟩
theorem PV_pick_false {c : Operand} (hc : ev T c = some (.v (.bool false))) (hx : ev T s' = some x) : PV P ⟨d, .pick c s s', ty, pos, af, none⟩ T H x := fun ds a w hs => ⟨_, by simp [execOp, hs.evv hc, asBool], hs.ev hx⟩

theorem PV_extract {k : Nat} {xs : List AV} (hx : ev T s = some (.tup xs)) (hk : xs[k]? = some x) : PV P ⟨d, .extract s k, ty, pos, af, none⟩ T H x := fun ds a w hs => by
  have h := hs.ev hx
  generalize hu : a.eval s = u at h
  cases h with
  | tup hl hv =>
    rename_i vs
    have hlt : k < vs.size := by rw [← hl]; exact (List.getElem?_eq_some_iff.1 hk).1
    exact ⟨vs[k], by simp [execOp, Instr.extract, hlt, hu], hv k x _ hk (Array.getElem?_eq_getElem hlt)⟩

/-- Numbers. -/
theorem PV_bin {op : BinOp} {tx ty' : TypeId} {u v r : Value} (hx : ev T s = some (.v u)) (hy : ev T s' = some (.v v)) (h : ∀ w, (eqGuard op tx s s' u v).run P w = .ok () w ∧ (binOp op tx u v).run P w = .ok r w) :
    PV P ⟨d, .binOp op tx s s' ty', ty, pos, af, none⟩ T H (.v r) := fun ds a w hs => ⟨r, by simp [execOp, hs.evv hx, hs.evv hy, Sem.run_bind, (h w).1, (h w).2], .v _⟩
theorem PV_ibin {op : BinOp} {tx ty' : TypeId} {k : IntKind} {m n : Int} {r : Value} (hx : ev T s = some (.v (.int k m))) (hy : ev T s' = some (.v (.int k n))) (h : binOp op tx (.int k m) (.int k n) = pure r) :
    PV P ⟨d, .binOp op tx s s' ty', ty, pos, af, none⟩ T H (.v r) := PV_bin hx hy fun w => ⟨by unfold eqGuard; cases op <;> simp, by rw [h]; simp⟩
theorem PV_add {tx ty' : TypeId} {k : IntKind} {m n : Int} (hx : ev T s = some (.v (.int k m))) (hy : ev T s' = some (.v (.int k n))) : PV P ⟨d, .binOp .add tx s s' ty', ty, pos, af, none⟩ T H (.v (.int k (k.wrap (m + n)))) := PV_ibin hx hy (by simp [binOp, Op.intArith])
theorem PV_addz {tx ty' : TypeId} {k : IntKind} {m n : Int} (z : Int) (hx : ev T s = some (.v (.int k m))) (hy : ev T s' = some (.v (.int k n))) (hz : k.wrap (m + n) = z) : PV P ⟨d, .binOp .add tx s s' ty', ty, pos, af, none⟩ T H (.v (.int k z)) := hz ▸ PV_add hx hy
theorem PV_sub {tx ty' : TypeId} {k : IntKind} {m n : Int} (hx : ev T s = some (.v (.int k m))) (hy : ev T s' = some (.v (.int k n))) : PV P ⟨d, .binOp .sub tx s s' ty', ty, pos, af, none⟩ T H (.v (.int k (k.wrap (m - n)))) := PV_ibin hx hy (by simp [binOp, Op.intArith])
theorem PV_mul {tx ty' : TypeId} {k : IntKind} {m n : Int} (hx : ev T s = some (.v (.int k m))) (hy : ev T s' = some (.v (.int k n))) : PV P ⟨d, .binOp .mul tx s s' ty', ty, pos, af, none⟩ T H (.v (.int k (k.wrap (m * n)))) := PV_ibin hx hy (by simp [binOp, Op.intArith])
theorem PV_eql {tx ty' : TypeId} {k : IntKind} {m n : Int} (hx : ev T s = some (.v (.int k m))) (hy : ev T s' = some (.v (.int k n))) : PV P ⟨d, .binOp .eql tx s s' ty', ty, pos, af, none⟩ T H (.v (.bool (decide (m = n)))) := PV_ibin hx hy (by simp [binOp, Op.intCmp]; rfl)
theorem PV_neq {tx ty' : TypeId} {k : IntKind} {m n : Int} (hx : ev T s = some (.v (.int k m))) (hy : ev T s' = some (.v (.int k n))) : PV P ⟨d, .binOp .neq tx s s' ty', ty, pos, af, none⟩ T H (.v (.bool (decide (m ≠ n)))) := PV_ibin hx hy (by simp [binOp, Op.intCmp]; rfl)
theorem PV_lss {tx ty' : TypeId} {k : IntKind} {m n : Int} (hx : ev T s = some (.v (.int k m))) (hy : ev T s' = some (.v (.int k n))) : PV P ⟨d, .binOp .lss tx s s' ty', ty, pos, af, none⟩ T H (.v (.bool (decide (m < n)))) := PV_ibin hx hy (by simp [binOp, Op.intCmp])
theorem PV_leq {tx ty' : TypeId} {k : IntKind} {m n : Int} (hx : ev T s = some (.v (.int k m))) (hy : ev T s' = some (.v (.int k n))) : PV P ⟨d, .binOp .leq tx s s' ty', ty, pos, af, none⟩ T H (.v (.bool (decide (m ≤ n)))) := PV_ibin hx hy (by simp [binOp, Op.intCmp])
theorem PV_gtr {tx ty' : TypeId} {k : IntKind} {m n : Int} (hx : ev T s = some (.v (.int k m))) (hy : ev T s' = some (.v (.int k n))) : PV P ⟨d, .binOp .gtr tx s s' ty', ty, pos, af, none⟩ T H (.v (.bool (decide (n < m)))) := PV_ibin hx hy (by simp [binOp, Op.intCmp])
theorem PV_geq {tx ty' : TypeId} {k : IntKind} {m n : Int} (hx : ev T s = some (.v (.int k m))) (hy : ev T s' = some (.v (.int k n))) : PV P ⟨d, .binOp .geq tx s s' ty', ty, pos, af, none⟩ T H (.v (.bool (decide (n ≤ m)))) := PV_ibin hx hy (by simp [binOp, Op.intCmp])
end
end ops
end Go.AL
