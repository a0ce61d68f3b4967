/- Slices, strings, append, calls. -/
import Derived.Test.YtcnjcjhdcloniaaDoorAL4
set_option autoImplicit false
set_option linter.unusedVariables false
set_option linter.unusedSimpArgs false
namespace Go.AL
open Go Go.RowKit

section ops
variable {P : Program} {ro : Option Nat} {ds : List Deferred} {T : List AV} {H : AH} {Q : Post} {ops : Array Oper} {rest : List Oper}
variable {d : Option Tmp} {ty : TypeId} {pos : String} {af : Array Edge} {s s' : Operand} {x y : AV}

/-! lengths -/
theorem VR.sl_inv {w : World} {e : TypeId} {xs : List AV} {u : Value} (h : VR P w H (.sl e xs) u) : ∃ (A : Option Addr) (c : Nat) (U : Nat → Value), u = .slice A xs.length c ∧ (∀ x ∈ xs, x.cells.length = P.cellsOf e) ∧ xs.length ≤ c ∧
    (∀ (k : Nat) (y : AV), (flat xs)[k]? = some y → ∃ a, A = some a ∧ H a.block = none ∧ w.cell? (a.add k) = some (U k)) ∧ (∀ (k : Nat) (y : AV), (flat xs)[k]? = some y → VR P w H y (U k)) := by
  cases h with | sl U hs hc hcell hv => exact ⟨_, _, U, rfl, hs, hc, hcell, hv⟩
theorem VR.own_inv {w : World} {A : Option Nat} {c n : Nat} {u : Value} (h : VR P w H (.own A c n) u) : u = .slice (A.map fun b => ⟨b, 0, none⟩) n c ∧ (A = none → n = 0 ∧ c = 0) := by
  cases h with
  | own b c n => exact ⟨rfl, fun h => by cases h⟩
  | ownNil => exact ⟨rfl, fun _ => ⟨rfl, rfl⟩⟩

theorem run_len_slice {t e : TypeId} (ht : P.underlying t = some (.slice e)) (A : Option Addr) (n c : Nat) (ty : TypeId) (w : World) :
    (Builtin.len_ #[t] ty #[.slice A n c]).run P w = .ok (.int .i64 n) w := by
  simp [Builtin.len_, run_underlying ht, goInt]

theorem PV_len_sl {t e e' : TypeId} {xs : List AV} (hx : ev T s = some (.sl e' xs)) (ht : P.underlying t = some (.slice e)) :
    PV P ⟨d, .call ⟨.builtin .len, #[s], #[t]⟩, ty, pos, af, none⟩ T H (.v (.int .i64 xs.length)) := fun ds a w hst => by
  obtain ⟨A, c, U, hu, _⟩ := (hst.ev hx).sl_inv
  exact ⟨_, by simp [execOp, resolve, invoke, builtin, hu, run_len_slice ht], .v _⟩
theorem PV_len_own {t e : TypeId} {A : Option Nat} {c n : Nat} (hx : ev T s = some (.own A c n)) (ht : P.underlying t = some (.slice e)) :
    PV P ⟨d, .call ⟨.builtin .len, #[s], #[t]⟩, ty, pos, af, none⟩ T H (.v (.int .i64 n)) := fun ds a w hst => by
  obtain ⟨hu, _⟩ := (hst.ev hx).own_inv
  exact ⟨_, by simp [execOp, resolve, invoke, builtin, hu, run_len_slice ht], .v _⟩
theorem PV_len_str {t : TypeId} {z : ByteArray} (hx : ev T s = some (.v (.string z))) (ht : P.underlying t = some .string) :
    PV P ⟨d, .call ⟨.builtin .len, #[s], #[t]⟩, ty, pos, af, none⟩ T H (.v (.int .i64 z.size)) := fun ds a w hst => by
  exact ⟨_, by simp [execOp, resolve, invoke, builtin, hst.evv hx, Builtin.len_, run_underlying ht, goInt], .v _⟩

/-! addresses of elements -/
theorem run_indexAt_slice {t e : TypeId} {sz n : Nat} (ht : P.underlying t = some (.slice e)) (hs : szOf P e = some sz) (a : Addr) (c : Nat) {k : IntKind} {i : Int} (h0 : 0 ≤ i) (h1 : i < n) (w : World) :
    (Instr.indexAt t (.slice (some a) n c) (.int k i)).run P w = .ok (.pointer (some (a.add (i.toNat * sz)))) w := by
  simp [Instr.indexAt, asIntOf, run_underlying ht, h0, h1, run_sizeOf' hs]

theorem PV_indexAddr_sl {t e : TypeId} {sz : Nat} {xs : List AV} {k : IntKind} {i : Int} (hx : ev T s = some (.sl e xs)) (hi : ev T s' = some (.v (.int k i))) (ht : P.underlying t = some (.slice e)) (hs : szOf P e = some sz)
    (h0 : 0 ≤ i) (h1 : i < xs.length) (hy : xs[i.toNat]? = some y) (hc : 0 < sz) : PV P ⟨d, .indexAddr t s s', ty, pos, af, none⟩ T H (.rp e y) := fun ds a w hst => by
  obtain ⟨A, c, U, hu, hel, hc', hcell, hv⟩ := (hst.ev hx).sl_inv
  have hyc : y.cells.length = sz := by rw [hel y (List.mem_of_getElem? hy), szOf_cells hs]
  have hel' : ∀ x ∈ xs, x.cells.length = sz := fun x hx => by rw [hel x hx, szOf_cells hs]
  have hfl := fun k z hz => flat_at xs sz hel' i.toNat y hy k z hz
  have h00 : 0 < y.cells.length := by omega
  obtain ⟨a0, hA, _⟩ := hcell _ _ (hfl 0 _ (List.getElem?_eq_getElem h00))
  subst hA
  refine ⟨.pointer (some (a0.add (i.toNat * sz))), by simp [execOp, hu, hst.evv hi, run_indexAt_slice ht hs a0 c h0 h1], ?_⟩
  refine .rp (fun k => U (i.toNat * sz + k)) (by rw [hyc, szOf_cells hs]) (fun k z hz => ?_) (fun k z hz => hv _ _ (hfl k z hz))
  obtain ⟨a1, hA, h2, h3⟩ := hcell _ _ (hfl k z hz)
  injection hA with hA; subst hA
  exact ⟨by rw [add_block]; exact h2, by rw [add_add]; exact h3⟩

theorem PV_indexAddr_own {t e : TypeId} {sz b c n : Nat} {k : IntKind} {i : Int} (hx : ev T s = some (.own (some b) c n)) (hi : ev T s' = some (.v (.int k i))) (ht : P.underlying t = some (.slice e)) (hs : szOf P e = some sz)
    (h0 : 0 ≤ i) (h1 : i < n) : PV P ⟨d, .indexAddr t s s', ty, pos, af, none⟩ T H (.pt b i.toNat sz 0) := fun ds a w hst => by
  obtain ⟨hu, _⟩ := (hst.ev hx).own_inv
  exact ⟨.pointer (some ⟨b, i.toNat * sz, none⟩), by simp [execOp, hu, hst.evv hi, run_indexAt_slice ht hs ⟨b, 0, none⟩ c h0 h1, addr_add], by simpa using VR.pt (P := P) (w := w) (H := H) b i.toNat sz 0⟩

/-! strings -/
theorem PV_sbin {op : BinOp} {tx ty' : TypeId} {p q : ByteArray} {r : Value} (hx : ev T s = some (.v (.string p))) (hy : ev T s' = some (.v (.string q))) (h : Op.stringOp op p q = pure r) (hop : op ≠ .shl ∧ op ≠ .shr) :
    PV P ⟨d, .binOp op tx s s' ty', ty, pos, af, none⟩ T H (.v r) := PV_bin hx hy fun w => ⟨by unfold eqGuard; cases op <;> simp, by cases op <;> simp_all [binOp]⟩
theorem toList_eq (p q : ByteArray) : (p.toList == q.toList) = decide (p = q) := by
  rw [ByteArray.toList_eq, ByteArray.toList_eq]
  by_cases h : p = q
  · subst h; simp
  · simp only [h, decide_false]
    refine beq_eq_false_iff_ne.2 fun e => h ?_
    cases p; cases q; simp at e; simp [e]
theorem PV_seql {tx ty' : TypeId} {p q : ByteArray} (hx : ev T s = some (.v (.string p))) (hy : ev T s' = some (.v (.string q))) : PV P ⟨d, .binOp .eql tx s s' ty', ty, pos, af, none⟩ T H (.v (.bool (decide (p = q)))) :=
  PV_sbin hx hy (by simp only [Op.stringOp, toList_eq]) (by simp)
theorem PV_sneq {tx ty' : TypeId} {p q : ByteArray} (hx : ev T s = some (.v (.string p))) (hy : ev T s' = some (.v (.string q))) : PV P ⟨d, .binOp .neq tx s s' ty', ty, pos, af, none⟩ T H (.v (.bool (decide (p ≠ q)))) :=
  PV_sbin hx hy (by simp only [Op.stringOp, toList_eq, decide_not]) (by simp)
theorem PV_sadd {tx ty' : TypeId} {p q : ByteArray} (hx : ev T s = some (.v (.string p))) (hy : ev T s' = some (.v (.string q))) (h : p.size + q.size ≤ 9223372036854775807) : PV P ⟨d, .binOp .add tx s s' ty', ty, pos, af, none⟩ T H (.v (.string (p ++ q))) :=
  PV_sbin hx hy (by
    have : ¬ (9223372036854775807 < ((p.size + q.size : Nat) : Int)) := by omega
    have e : IntKind.max .i64 = 9223372036854775807 := rfl
    simp only [Op.stringOp, e, gt_iff_lt]
    rw [if_neg this]) (by simp)

theorem PV_index_str {tx : TypeId} {p : ByteArray} {k : IntKind} {i : Int} (hx : ev T s = some (.v (.string p))) (hi : ev T s' = some (.v (.int k i))) (ht : P.underlying tx = some .string) (h0 : 0 ≤ i) (h1 : i.toNat < p.size) :
    PV P ⟨d, .index tx s s', ty, pos, af, none⟩ T H (.v (.int .u8 (p[i.toNat]'h1).toNat)) := fun ds a w hst => by
  exact ⟨_, by simp [execOp, Instr.index, hst.evv hx, hst.evv hi, asIntOf, run_underlying ht, h0, getElem?_pos, h1], .v _⟩

theorem run_sliceBound_in {k : IntKind} {i : Int} {y : Nat} {code : BoundsCode} (h0 : 0 ≤ i) (h1 : i ≤ y) (w : World) : (Instr.sliceBound (.int k i) y code).run P w = .ok i.toNat w := by
  simp [Instr.sliceBound, asIntOf, h0, h1]

/-- A bound that may be left out. -/
def bd (T : List AV) (o : Option Operand) (dflt : Nat) (n : Nat) : Prop :=
  match o with
  | none => n = dflt
  | some o => ∃ k i, ev T o = some (.v (.int k i)) ∧ 0 ≤ i ∧ i.toNat = n

theorem PV_slice_str {tx : TypeId} {p : ByteArray} {lo hi : Option Operand} {l h : Nat} (hx : ev T s = some (.v (.string p))) (ht : P.underlying tx = some .string) (hh : bd T hi p.size h) (hl : bd T lo 0 l) (h1 : h ≤ p.size) (h2 : l ≤ h) :
    PV P ⟨d, .slice tx s lo hi none, ty, pos, af, none⟩ T H (.v (.string (p.extract l h))) := fun ds a w hst => by
  have e1 : ∀ w, (Instr.sliceBounds false p.size p.size (lo.map a.eval) (hi.map a.eval) none).run P w = .ok (l, h, p.size) w := by
    intro w
    cases hi with
    | none =>
      simp only [bd] at hh; subst hh
      cases lo with
      | none => simp only [bd] at hl; subst hl; simp [Instr.sliceBounds]
      | some o => obtain ⟨k, i, he, hi0, rfl⟩ := hl; simp [Instr.sliceBounds, hst.evv he, run_sliceBound_in hi0 (show i ≤ (p.size : Int) by omega)]
    | some o' =>
      obtain ⟨k', i', he', hi0', rfl⟩ := hh
      cases lo with
      | none => simp only [bd] at hl; subst hl; simp [Instr.sliceBounds, hst.evv he', run_sliceBound_in hi0' (show i' ≤ (p.size : Int) by omega)]
      | some o =>
        obtain ⟨k, i, he, hi0, rfl⟩ := hl
        have hm : max i' 0 = i' := by omega
        simp [Instr.sliceBounds, hst.evv he', hst.evv he, run_sliceBound_in hi0' (show i' ≤ (p.size : Int) by omega), run_sliceBound_in hi0 (show i ≤ (i'.toNat : Int) by omega)]
        first | (rw [hm, run_sliceBound_in hi0 (show i ≤ i' by omega)]) | skip
  exact ⟨_, by simp [execOp, Instr.sliceAt, run_underlying ht, Instr.slice, hst.evv hx, e1], .v _⟩

/-! slices of slices -/
theorem sliceBounds_run {lo hi : Option Operand} {len cap l h : Nat} {a : Act} {w' : World} (hst : St P ds T H a w') (hh : bd T hi len h) (hl : bd T lo 0 l) (h1 : h ≤ cap) (h2 : l ≤ h) (w : World) :
    (Instr.sliceBounds true len cap (lo.map a.eval) (hi.map a.eval) none).run P w = .ok (l, h, cap) w := by
  cases hi with
  | none =>
    simp only [bd] at hh; subst hh
    cases lo with
    | none => simp only [bd] at hl; subst hl; simp [Instr.sliceBounds]
    | some o => obtain ⟨k, i, he, hi0, rfl⟩ := hl; simp [Instr.sliceBounds, hst.evv he, run_sliceBound_in hi0 (show i ≤ (h : Int) by omega)]
  | some o' =>
    obtain ⟨k', i', he', hi0', rfl⟩ := hh
    cases lo with
    | none => simp only [bd] at hl; subst hl; simp [Instr.sliceBounds, hst.evv he', run_sliceBound_in hi0' (show i' ≤ (cap : Int) by omega)]
    | some o =>
      obtain ⟨k, i, he, hi0, rfl⟩ := hl
      have hm : max i' 0 = i' := by omega
      simp [Instr.sliceBounds, hst.evv he', hst.evv he, run_sliceBound_in hi0' (show i' ≤ (cap : Int) by omega), run_sliceBound_in hi0 (show i ≤ (i'.toNat : Int) by omega)]
      first | (rw [hm, run_sliceBound_in hi0 (show i ≤ i' by omega)]) | skip

theorem flat_drop_take (xs : List AV) (sz l h : Nat) (hel : ∀ x ∈ xs, x.cells.length = sz) : ∀ (k : Nat) (y : AV), (flat ((xs.drop l).take h))[k]? = some y → (flat xs)[l * sz + k]? = some y := by
  induction l generalizing xs with
  | zero =>
    intro k y hy
    simp only [List.drop_zero, Nat.zero_mul, Nat.zero_add] at hy ⊢
    have : flat xs = flat (xs.take h) ++ flat (xs.drop h) := by simp only [flat]; rw [← List.flatMap_append, List.take_append_drop]
    rw [this, List.getElem?_append_left (List.getElem?_eq_some_iff.1 hy).1]; exact hy
  | succ l ih =>
    intro k y hy
    cases xs with
    | nil => simp [flat] at hy
    | cons q xs =>
      have := ih xs (fun x hx => hel x (by simp [hx])) k y (by simpa using hy)
      simp only [flat, List.flatMap_cons] at this ⊢
      rw [List.getElem?_append_right (by rw [hel q (by simp), Nat.succ_mul]; omega), hel q (by simp)]
      rw [show (l + 1) * sz + k - sz = l * sz + k by rw [Nat.succ_mul]; omega]
      exact this

theorem PV_slice_sl {tx e : TypeId} {sz : Nat} {xs : List AV} {lo hi : Option Operand} {l h : Nat} (hx : ev T s = some (.sl e xs)) (ht : P.underlying tx = some (.slice e)) (hs : szOf P e = some sz) (hh : bd T hi xs.length h) (hl : bd T lo 0 l) (h1 : h ≤ xs.length) (h2 : l ≤ h) :
    PV P ⟨d, .slice tx s lo hi none, ty, pos, af, none⟩ T H (.sl e ((xs.drop l).take (h - l))) := fun ds a w hst => by
  obtain ⟨A, c, U, hu, hel, hc', hcell, hv⟩ := (hst.ev hx).sl_inv
  have hel' : ∀ x ∈ xs, x.cells.length = sz := fun x hx => by rw [hel x hx, szOf_cells hs]
  have e1 := sliceBounds_run hst hh hl (cap := c) (by omega) h2
  have hlen : ((xs.drop l).take (h - l)).length = h - l := by simp; omega
  have hfl := flat_drop_take xs sz l (h - l) hel'
  refine ⟨.slice (if c = l then A else A.map (·.add (l * sz))) (h - l) (c - l), by simp [execOp, Instr.sliceAt, Instr.slice, run_underlying ht, hu, e1, run_sizeOf' hs], ?_⟩
  have key : VR P w H (.sl e ((xs.drop l).take (h - l))) (.slice (if c = l then A else A.map (·.add (l * sz))) ((xs.drop l).take (h - l)).length (c - l)) := ?_
  · rw [hlen] at key; exact key
  refine .sl (c := c - l) (fun k => U (l * sz + k)) (fun x hx => hel x (List.mem_of_mem_drop (List.mem_of_mem_take hx))) (by rw [hlen]; omega) (fun k y hy => ?_) (fun k y hy => hv _ _ (hfl k y hy))
  obtain ⟨a0, hA, h3, h4⟩ := hcell _ _ (hfl k y hy)
  have hlt : l < xs.length := by
    have := (List.getElem?_eq_some_iff.1 hy).1
    have h0 : ((xs.drop l).take (h - l)).length ≠ 0 := fun h0 => by rw [List.length_eq_zero_iff.1 h0] at this; simp [flat] at this
    omega
  rw [if_neg (by omega), hA]
  exact ⟨_, rfl, by rw [add_block]; exact h3, by rw [add_add]; exact h4⟩

/-! calls -/
theorem Step.drew' (H : AH) (w : World) : Step H w H w.drew := ⟨rfl, rfl, rfl, Nat.le_refl _, fun _ _ h => ⟨rfl, h⟩⟩

def entersOf (P : Program) (f : FuncId) : Bool :=
  match P.funcs[f]? with
  | some fn => fn.body.isSome && !(fn.name == "runtime.NumGoroutine")
  | none => false
theorem run_callFunc {f : FuncId} (h : entersOf P f = true) (args : Array Value) (w : World) : (callFunc f args).run P w = .ok (.enter f args) w := by
  unfold entersOf at h
  cases hf : P.funcs[f]? with
  | none => simp [hf] at h
  | some fn =>
    rw [hf] at h
    simp only [Bool.and_eq_true, Bool.not_eq_true'] at h
    obtain ⟨h1, h2⟩ := h
    cases hb : fn.body with
    | none => simp [hb] at h1
    | some c =>
      have h3 : ¬ fn.name = "runtime.NumGoroutine" := by simpa using h2
      simp [callFunc, program, Sem.run, hf, h3, hb]

/-- What a call of a known function owes. -/
theorem AL_enter {o : Oper} {f : FuncId} {xs : List AV} {K : AV → AH → Prop} (hg : o.guard = none) (hnd : ∀ c, o.op ≠ .defer c)
    (hrun : ∀ a w, St P ds T H a w → ∃ vs : Array Value, (execOp a.eval o).run P w = .ok (.enter f vs) w ∧ xs.length = vs.size ∧ ∀ (k : Nat) (x : AV) (u : Value), xs[k]? = some x → vs[k]? = some u → VR P w H x u)
    (hc : AC P f xs H K) (h : ∀ x H', K x H' → AL P ro ops rest ds (tput T o.dst x) H' Q) : AL P ro ops (o :: rest) ds T H Q := fun a w hs => by
  obtain ⟨vs, hr, hl, hv⟩ := hrun a w hs
  refine wpListIn_plain hg fun K' hK => ?_
  refine ⟨fun f _ => trivial, ?_⟩
  rw [Oper.semAt_eq _ _ _ hnd, hr]
  refine ⟨fun h => by simp [fen] at h, ?_⟩
  have hcall := hc w vs hl hv hs.heap
  have hcall' : CallsIn (fen ro) (0 - 1) P f vs w fun e w' => ∃ v x H', e = .returned v ∧ VR P w' H' x v ∧ HR P H' w' ∧ Step H w H' w' ∧ K x H' := hcall
  refine hcall'.mono ?_
  rintro e w' ⟨v, x, H', rfl, hx, hh, hst, k⟩
  exact hK _ _ (wpListIn_mono (fun _ _ _ p => post.back hst p) (fun _ => trivial) _ _ _ (h x H' k _ _ (hs.put hst hh hx)))

/-- A call of a function by its name. -/
theorem AL_call {f : FuncId} {args : Array Operand} {ats : Array TypeId} {xs : List AV} {K : AV → AH → Prop} (hf : entersOf P f = true) (hx : EvL T args.toList xs) (hc : AC P f xs H K)
    (h : ∀ x H', K x H' → AL P ro ops rest ds (tput T d x) H' Q) : AL P ro ops (⟨d, .call ⟨.value (.func f), args, ats⟩, ty, pos, af, none⟩ :: rest) ds T H Q :=
  AL_enter rfl (fun _ => by simp) (fun a w hs => by
    obtain ⟨h1, h2⟩ := hx.args hs
    exact ⟨args.map a.eval, by simp [execOp, resolve, Deferred.ofValue, Act.eval, invoke, run_callFunc hf], h1, h2⟩) hc h

theorem VR.fn_inv {w : World} {f : Fn} {fs cs : List AV} {u : Value} (h : VR P w H (.fn f fs cs) u) : ∃ vf vc : Array Value, u = .func f vf vc ∧ fs.length = vf.size ∧ cs.length = vc.size ∧
    (∀ (k : Nat) (y : AV) (u : Value), fs[k]? = some y → vf[k]? = some u → VR P w H y u) ∧ (∀ (k : Nat) (y : AV) (u : Value), cs[k]? = some y → vc[k]? = some u → VR P w H y u) := by
  cases h with | fn hl hl' hf hc => exact ⟨_, _, rfl, hl, hl', hf, hc⟩

/-- A call of a closure. -/
theorem AL_callv {f : FuncId} {args : Array Operand} {ats : Array TypeId} {xs cs : List AV} {K : AV → AH → Prop} (hv : ev T s = some (.fn (.func f) [] cs)) (hf : entersOf P f = true) (hx : EvL T args.toList xs) (hc : AC P f (xs ++ cs) H K)
    (h : ∀ x H', K x H' → AL P ro ops rest ds (tput T d x) H' Q) : AL P ro ops (⟨d, .call ⟨.value s, args, ats⟩, ty, pos, af, none⟩ :: rest) ds T H Q :=
  AL_enter rfl (fun _ => by simp) (fun a w hs => by
    obtain ⟨h1, h2⟩ := hx.args hs
    obtain ⟨vf, vc, hu, hlf, hlc, _, hcc⟩ := (hs.ev hv).fn_inv
    have hvf : vf = #[] := by simpa using hlf.symm
    subst hvf
    refine ⟨args.map a.eval ++ vc, by simp [execOp, resolve, Deferred.ofValue, hu, invoke, run_callFunc hf], by simp [h1, hlc], fun k x u hk hu' => ?_⟩
    rw [List.getElem?_append] at hk
    rw [Array.getElem?_append] at hu'
    rw [h1] at hk
    split at hk
    · rename_i hlt; rw [if_pos hlt] at hu'; exact h2 k x u hk hu'
    · rename_i hlt; rw [if_neg hlt] at hu'; exact hcc _ x u hk hu') hc h
end ops
end Go.AL
