/- More operations: fields, memory, slices, strings. -/
import Derived.Test.YtcnjcjhdcloniaaDoorAL2
import Derived.Laws.StructEq
import Derived.Laws.Strings
set_option autoImplicit false
set_option linter.unusedVariables false
set_option linter.unusedSimpArgs false
namespace Go.AL
open Go Go.RowKit

def szOf (P : Program) (t : TypeId) : Option Nat := (P.info? t).map (·.size)
def aggOf (P : Program) (t : TypeId) : Option Bool := (P.underlying t).map fun | .struct _ => true | .array .. => true | _ => false
def fldOf (P : Program) (t : TypeId) (f : Nat) : Option (TypeId × Nat) :=
  match P.underlying t with
  | some (.struct fs) => (fs[f]?).map fun x => (x.type, x.offset)
  | _ => none

theorem szOf_cells {P : Program} {t : TypeId} {n : Nat} (h : szOf P t = some n) : P.cellsOf t = n := by simp only [szOf] at h; simp [Program.cellsOf, h]
theorem run_sizeOf' {P : Program} {t : TypeId} {n : Nat} (h : szOf P t = some n) (w : World) : (sizeOf t).run P w = .ok n w := by
  unfold szOf at h
  cases hi : P.info? t with
  | none => simp [hi] at h
  | some i => simp [hi] at h; simp [sizeOf, typeInfo, program, Sem.run, hi, h]
theorem run_isAgg' {P : Program} {t : TypeId} {b : Bool} (h : aggOf P t = some b) (w : World) : (isAgg t).run P w = .ok b w := by
  unfold aggOf at h
  cases hu : P.underlying t with
  | none => simp [hu] at h
  | some u =>
    rw [hu] at h
    simp only [isAgg, Sem.run_bind, run_underlying hu, Result.andThen_ok]
    cases u <;> simp at h <;> subst h <;> simp

/-- A part of a value: off cells in, of n cells. -/
def subAV (agg : Bool) (n : Nat) (x : AV) (off : Nat) : Option AV :=
  if agg then (if off + n ≤ x.cells.length then some (.ag ((x.cells.drop off).take n)) else none) else x.cells[off]?

theorem VR.agg_inv {P : Program} {w : World} {H : AH} {cs : List AV} {u : Value} (h : VR P w H (.ag cs) u) :
    ∃ vs : Array Value, u = .agg vs ∧ cs.length = vs.size ∧ ∀ (k : Nat) (y : AV) (u : Value), cs[k]? = some y → vs[k]? = some u → VR P w H y u := by
  cases h with | ag hl hv => exact ⟨_, rfl, hl, hv⟩

theorem run_part {P : Program} {w : World} {H : AH} {t : TypeId} {b : Bool} {n off : Nat} {cs : List AV} {vs : Array Value} {y : AV} (ha : aggOf P t = some b) (hs : szOf P t = some n)
    (hl : cs.length = vs.size) (hv : ∀ (k : Nat) (y : AV) (u : Value), cs[k]? = some y → vs[k]? = some u → VR P w H y u) (hy : subAV b n (.ag cs) off = some y) (w' : World) :
    ∃ v, (part t vs off).run P w' = .ok v w' ∧ VR P w H y v := by
  unfold subAV at hy
  simp only [part, Sem.run_bind, run_isAgg' ha, Result.andThen_ok]
  cases b with
  | true =>
    simp only [if_true] at hy ⊢
    split at hy
    · rename_i hle
      injection hy with hy
      subst hy
      simp only [AV.cells] at hle ⊢
      refine ⟨.agg (vs.extract off (off + n)), by simp [run_sizeOf' hs], .ag (by simp; omega) fun k y u hk hu => ?_⟩
      rw [List.getElem?_take] at hk
      split at hk
      · rename_i hkn
        rw [List.getElem?_drop] at hk
        rw [Array.getElem?_extract] at hu
        split at hu
        · exact hv _ _ _ hk hu
        · cases hu
      · cases hk
    · cases hy
  | false =>
    simp only [Bool.false_eq_true, if_false] at hy ⊢
    simp only [AV.cells] at hy
    have hlt : off < vs.size := by rw [← hl]; exact (List.getElem?_eq_some_iff.1 hy).1
    exact ⟨vs[off], by simp [hlt], hv off y _ hy (Array.getElem?_eq_getElem hlt)⟩

section ops
variable {P : Program} {ro : Option Nat} {ds : List Deferred} {T : List AV} {H : AH} {Q : Post} {ops : Array Oper} {rest : List Oper}
variable {d : Option Tmp} {ty : TypeId} {pos : String} {af : Array Edge} {s s' : Operand} {x y : AV}

theorem PV_field {tx ft : TypeId} {f off n : Nat} {b : Bool} {cs : List AV} (hx : ev T s = some (.ag cs)) (hf : fldOf P tx f = some (ft, off)) (ha : aggOf P ft = some b) (hs : szOf P ft = some n) (hy : subAV b n (.ag cs) off = some y) :
    PV P ⟨d, .field tx s f, ty, pos, af, none⟩ T H y := fun ds a w hst => by
  obtain ⟨vs, hu, hl, hv⟩ := (hst.ev hx).agg_inv
  unfold fldOf at hf
  cases hun : P.underlying tx with
  | none => simp [hun] at hf
  | some u =>
    rw [hun] at hf
    cases u with
    | struct fs =>
      simp only [Option.map_eq_some_iff] at hf
      obtain ⟨fl, hfl, hfe⟩ := hf
      injection hfe with h1 h2
      subst h1; subst h2
      obtain ⟨v, hr, hvr⟩ := run_part ha hs hl hv hy w
      exact ⟨v, by simp [execOp, Instr.field, run_underlying hun, hfl, hu, asAgg, hr], hvr⟩
    | _ => simp at hf

theorem PV_not {b : Bool} {tx : TypeId} (hx : ev T s = some (.v (.bool b))) : PV P ⟨d, .unOp .not tx s, ty, pos, af, none⟩ T H (.v (.bool (!b))) := fun ds a w hst =>
  ⟨_, by simp [execOp, hst.evv hx, Op.unary], .v _⟩
theorem PV_neg {k : IntKind} {n : Int} {tx : TypeId} (hx : ev T s = some (.v (.int k n))) : PV P ⟨d, .unOp .neg tx s, ty, pos, af, none⟩ T H (.v (.int k (k.wrap (0 - n)))) := fun ds a w hst =>
  ⟨_, by simp [execOp, hst.evv hx, Op.unary, Op.intArith], .v _⟩

theorem PV_makeFunc {fn : Fn} {first captured : Array Operand} {xs ys : List AV} (h1 : EvL T first.toList xs) (h2 : EvL T captured.toList ys) :
    PV P ⟨d, .makeFunc fn first captured, ty, pos, af, none⟩ T H (.fn fn xs ys) := fun ds a w hst => by
  obtain ⟨l1, v1⟩ := h1.args hst
  obtain ⟨l2, v2⟩ := h2.args hst
  exact ⟨_, by simp [execOp, Instr.makeFunc], .fn l1 l2 v1 v2⟩

/-- Pointers. -/
theorem run_fieldPlace {a : Addr} {f : Field} {n : Nat} (hs : szOf P f.type = some n) (h0 : n ≠ 0) (w : World) : (fieldPlace a f).run P w = .ok (a.add f.offset) w := by
  simp [fieldPlace, run_sizeOf' hs, h0]

theorem addr_add (b o k : Nat) : (⟨b, o, none⟩ : Addr).add k = ⟨b, o + k, none⟩ := by unfold Addr.add; split <;> simp_all

theorem run_fieldAt {tx ft : TypeId} {f off n : Nat} (hf : fldOf P tx f = some (ft, off)) (hs : szOf P ft = some n) (h0 : n ≠ 0) (a : Addr) (w : World) :
    (Instr.fieldAt tx (.pointer (some a)) f).run P w = .ok (.pointer (some (a.add off))) w := by
  unfold fldOf at hf
  cases hun : P.underlying tx with
  | none => simp [hun] at hf
  | some u =>
    rw [hun] at hf
    cases u with
    | struct fs =>
      simp only [Option.map_eq_some_iff] at hf
      obtain ⟨fl, hfl, hfe⟩ := hf
      injection hfe with h1 h2
      subst h1; subst h2
      simp [Instr.fieldAt, run_underlying hun, hfl, Instr.sureAddr, run_fieldPlace hs h0]
    | _ => simp at hf

theorem PV_fieldAddr_pt {tx ft : TypeId} {f off n b i sz o : Nat} (hx : ev T s = some (.pt b i sz o)) (hf : fldOf P tx f = some (ft, off)) (hs : szOf P ft = some n) (h0 : n ≠ 0) :
    PV P ⟨d, .fieldAddr tx s f, ty, pos, af, none⟩ T H (.pt b i sz (o + off)) := fun ds a w hst => by
  have h := hst.ev hx
  generalize hu : a.eval s = u at h
  cases h
  exact ⟨.pointer (some ⟨b, i * sz + (o + off), none⟩), by simp [execOp, hu, run_fieldAt hf hs h0, addr_add, Nat.add_assoc], .pt b i sz (o + off)⟩

theorem add_add (a : Addr) (i j : Nat) : (a.add i).add j = a.add (i + j) := by
  unfold Addr.add
  by_cases h1 : i = 0 <;> by_cases h2 : j = 0 <;> simp [h1, h2, Nat.add_assoc]

theorem PV_fieldAddr_rp {tx ft : TypeId} {f off n : Nat} {b : Bool} {cs : List AV} (hx : ev T s = some (.rp tx (.ag cs))) (hf : fldOf P tx f = some (ft, off)) (ha : aggOf P ft = some b) (hs : szOf P ft = some n) (h0 : n ≠ 0)
    (hy : subAV b n (.ag cs) off = some y) (hb : b = false → y.cells = [y]) (hn : b = false → n = 1) :
    PV P ⟨d, .fieldAddr tx s f, ty, pos, af, none⟩ T H (.rp ft y) := fun ds a w hst => by
  have h := hst.ev hx
  generalize hu : a.eval s = u at h
  cases h with
  | rp U hs' hcell hv =>
    rename_i p
    have key : y.cells.length = n ∧ ∀ (k : Nat) (z : AV), y.cells[k]? = some z → cs[off + k]? = some z := by
      unfold subAV at hy
      cases b with
      | true =>
        simp only [if_true] at hy
        split at hy
        · rename_i hle
          injection hy with hy
          subst hy
          simp only [AV.cells] at hle ⊢
          refine ⟨by simp; omega, fun k z hz => ?_⟩
          rw [List.getElem?_take] at hz
          split at hz
          · rw [List.getElem?_drop] at hz; exact hz
          · cases hz
        · cases hy
      | false =>
        simp only [Bool.false_eq_true, if_false, AV.cells] at hy
        rw [hb rfl, hn rfl]
        refine ⟨rfl, fun k z hz => ?_⟩
        cases k with
        | zero => simp at hz; subst hz; exact hy
        | succ k => simp at hz
    refine ⟨.pointer (some (p.add off)), by simp [execOp, hu, run_fieldAt hf hs h0], .rp (fun k => U (off + k)) (by rw [key.1, szOf_cells hs]) (fun k z hz => ?_) (fun k z hz => hv _ _ (key.2 k z hz))⟩
    obtain ⟨h1, h2⟩ := hcell (off + k) z (key.2 k z hz)
    exact ⟨by rw [add_block]; exact h1, by rw [add_add]; exact h2⟩

theorem run_loadCells_of {a : Addr} {w : World} (U : Nat → Value) : ∀ (n i : Nat) (acc : Array Value), (∀ k, i ≤ k → k < i + n → w.cell? (a.add k) = some (U k)) →
    (loadCellsFrom a i n acc).run P w = .ok (acc ++ ((List.range n).map fun k => U (i + k)).toArray) w := by
  intro n
  induction n with
  | zero => intro i acc _; simp [loadCellsFrom]
  | succ n ih =>
    intro i acc h
    have h0 := h i (Nat.le_refl _) (by omega)
    simp only [loadCellsFrom, Sem.run_bind]
    have hl : (load (a.add i)).run P w = .ok (U i) w := by simp [load, Sem.run, h0]
    rw [hl]
    simp only [Result.andThen_ok]
    rw [ih (i + 1) _ (fun k h1 h2 => h k (by omega) (by omega))]
    congr 1
    rw [List.range_succ_eq_map]
    simp [Function.comp_def, Nat.add_assoc, Nat.add_comm 1]

theorem run_loadVar_of {t : TypeId} {b : Bool} {n : Nat} (ha : aggOf P t = some b) (hs : szOf P t = some n) (hb : b = false → n = 1) {a : Addr} {w : World} (U : Nat → Value) (h : ∀ k, k < n → w.cell? (a.add k) = some (U k)) :
    (loadVar t a).run P w = .ok (if b then .agg ((List.range n).map U).toArray else U 0) w := by
  simp only [loadVar, Sem.run_bind, run_isAgg' ha, Result.andThen_ok]
  cases b with
  | true =>
    simp only [if_true, Sem.run_bind, run_sizeOf' hs, Result.andThen_ok, loadCells]
    rw [run_loadCells_of U n 0 #[] (fun k _ hk => h k (by omega))]
    simp
  | false =>
    simp only [Bool.false_eq_true, if_false]
    have h0 := h 0 (by have := hb rfl; omega)
    rw [show a.add 0 = a by simp [Addr.add]] at h0
    simp [load, Sem.run, h0]

def AV.isAg : AV → Bool
  | .ag _ => true
  | _ => false
theorem AV.cells_of_not {x : AV} (h : x.isAg = false) : x.cells = [x] := by cases x <;> first | rfl | simp [AV.isAg] at h
theorem AV.of_isAg {x : AV} (h : x.isAg = true) : x = .ag x.cells := by cases x <;> first | rfl | simp [AV.isAg] at h

/-- What is loaded, put together out of its cells. -/
theorem VR.of_cells {w : World} {n : Nat} (U : Nat → Value) (hl : x.cells.length = n) (hv : ∀ (k : Nat) (y : AV), x.cells[k]? = some y → VR P w H y (U k)) :
    VR P w H x (if x.isAg then .agg ((List.range n).map U).toArray else U 0) := by
  cases hx : x.isAg with
  | true =>
    rw [if_pos rfl]
    rw [AV.of_isAg hx] at hl ⊢
    refine .ag (by simp; simpa [AV.cells] using hl) fun k y u hk hu => ?_
    have hk' : x.cells[k]? = some y := hk
    have hlt : k < n := by rw [← hl]; exact (List.getElem?_eq_some_iff.1 hk').1
    have hu' : U k = u := by simpa [hlt] using hu
    rw [← hu']; exact hv k y hk'
  | false =>
    rw [AV.cells_of_not hx] at hv
    exact hv 0 x rfl

theorem PV_load_rp {t : TypeId} {n : Nat} (hx : ev T s = some (.rp t x)) (ha : aggOf P t = some x.isAg) (hs : szOf P t = some n) :
    PV P ⟨d, .load t s, ty, pos, af, none⟩ T H x := fun ds a w hst => by
  have h := hst.ev hx
  generalize hu : a.eval s = u at h
  cases h with
  | rp U hs' hcell hv =>
    rename_i p
    rw [szOf_cells hs] at hs'
    refine ⟨_, ?_, VR.of_cells U hs' hv⟩
    have := run_loadVar_of ha hs (fun hb => by rw [AV.cells_of_not hb] at hs'; simpa using hs'.symm) (a := p) (w := w) U (fun k hk => by
      have hk' : k < x.cells.length := by omega
      exact (hcell k _ (List.getElem?_eq_getElem hk')).2)
    simp [execOp, hu, Instr.loadAt, Instr.sureAddr, this]

/-- Cells of a row of elements of one size. -/
theorem flat_at : ∀ (xs : List AV) (sz : Nat), (∀ x ∈ xs, x.cells.length = sz) → ∀ (i : Nat) (x : AV), xs[i]? = some x → ∀ (k : Nat) (y : AV), x.cells[k]? = some y → (flat xs)[i * sz + k]? = some y := by
  intro xs
  induction xs with
  | nil => intro sz _ i x h; simp at h
  | cons z xs ih =>
    intro sz hs i x hx k y hy
    have hz : z.cells.length = sz := hs z (by simp)
    simp only [flat, List.flatMap_cons]
    cases i with
    | zero =>
      simp at hx; subst hx
      rw [Nat.zero_mul, Nat.zero_add, List.getElem?_append_left (List.getElem?_eq_some_iff.1 hy).1]; exact hy
    | succ i =>
      have hx' : xs[i]? = some x := by simpa using hx
      have := ih sz (fun x hx => hs x (by simp [hx])) i x hx' k y hy
      rw [List.getElem?_append_right (by rw [hz, Nat.succ_mul]; omega), hz]
      rw [show (i + 1) * sz + k - sz = i * sz + k by rw [Nat.succ_mul]; omega]
      exact this

theorem flat_length (xs : List AV) (sz : Nat) (h : ∀ x ∈ xs, x.cells.length = sz) : (flat xs).length = xs.length * sz := by
  induction xs with
  | nil => simp [flat]
  | cons z xs ih =>
    have := ih (fun x hx => h x (by simp [hx]))
    simp only [flat, List.flatMap_cons, List.length_append, List.length_cons, Nat.succ_mul] at this ⊢
    rw [this, h z (by simp)]; omega

/-- Loads out of a block of our own. -/
theorem PV_load_pt {t e : TypeId} {b i sz o n c : Nat} {bg : Bool} {xs : List AV} (hx : ev T s = some (.pt b i sz o)) (hH : H b = some (.row e c xs)) (he : szOf P e = some sz) (hi : xs[i]? = some x) (ha : aggOf P t = some bg) (hs : szOf P t = some n)
    (hy : subAV bg n x o = some y) (hb : y.isAg = bg) (hn : bg = false → n = 1) : PV P ⟨d, .load t s, ty, pos, af, none⟩ T H y := fun ds a w hst => by
  have h := hst.ev hx
  generalize hu : a.eval s = u at h
  cases h
  obtain ⟨cs, fr, hbk, hsz, hfr, hc, hel, hv⟩ := hst.heap b _ hH
  rw [szOf_cells he] at hel
  have key : y.cells.length = n ∧ ∀ (k : Nat) (z : AV), y.cells[k]? = some z → x.cells[o + k]? = some z := by
    unfold subAV at hy
    cases bg with
    | true =>
      simp only [if_true] at hy
      split at hy
      · rename_i hle
        injection hy with hy
        subst hy
        refine ⟨by show ((x.cells.drop o).take n).length = n; rw [List.length_take, List.length_drop]; omega, fun k z hz => ?_⟩
        replace hz : ((x.cells.drop o).take n)[k]? = some z := hz
        rw [List.getElem?_take] at hz
        split at hz
        · rw [List.getElem?_drop] at hz; exact hz
        · cases hz
      · cases hy
    | false =>
      simp only [Bool.false_eq_true, if_false] at hy
      rw [AV.cells_of_not hb, hn rfl]
      refine ⟨rfl, fun k z hz => ?_⟩
      cases k with
      | zero => simp at hz; subst hz; exact hy
      | succ k => simp at hz
  have hcell : ∀ k z, y.cells[k]? = some z → ∃ u, w.cell? ((⟨b, i * sz + o, none⟩ : Addr).add k) = some u ∧ VR P w H z u := by
    intro k z hz
    obtain ⟨u, hu1, hu2⟩ := hv _ _ (flat_at xs sz hel i x hi (o + k) z (key.2 k z hz))
    refine ⟨u, ?_, hu2⟩
    rw [addr_add]
    simp only [World.cell?, hbk]
    rw [show i * sz + o + k = i * sz + (o + k) by omega]
    simpa using hu1
  have hU : ∃ U : Nat → Value, ∀ k z, y.cells[k]? = some z → w.cell? ((⟨b, i * sz + o, none⟩ : Addr).add k) = some (U k) ∧ VR P w H z (U k) := by
    refine ⟨fun k => (w.cell? ((⟨b, i * sz + o, none⟩ : Addr).add k)).getD undef, fun k z hz => ?_⟩
    obtain ⟨u, h1, h2⟩ := hcell k z hz
    show w.cell? _ = some ((w.cell? _).getD undef) ∧ VR P w H z ((w.cell? _).getD undef)
    rw [h1]; exact ⟨rfl, h2⟩
  obtain ⟨U, hU⟩ := hU
  refine ⟨_, ?_, VR.of_cells U key.1 (fun k z hz => (hU k z hz).2)⟩
  have := run_loadVar_of ha hs hn (a := ⟨b, i * sz + o, none⟩) (w := w) U (fun k hk => by
    have hk' : k < y.cells.length := by omega
    exact (hU k _ (List.getElem?_eq_getElem hk')).1)
  simp [execOp, hu, Instr.loadAt, Instr.sureAddr, this, hb]
end ops
end Go.AL
