/- The given statement of the law: for every input the law answers true. No conditions of our own. -/
import Derived.Test.YtcmijcfmldaiaaaGreatDoorQZ
import Derived.Test.YtcmijcfmldaiaaaGreatDoorALb
import Derived.Test.YtcmijcfmldaiaaaGreatDoorCards
import Derived.Test.YtcmijcfmldaiaaaGreatDoorTie
import Derived.WalkKit
import Derived.ProofKit
import Derived.OpenShut
import Derived.Deep.DeepHandedRow
import Derived.Shelf.Strings.Shaped
set_option linter.unusedVariables false
set_option maxRecDepth 100000
namespace Go.Proofs.YtcmijcfmldaiaaaGreatDoor
open Go Go.AL Go.Q Go.ChangeShapes Go.WideShapes Go.ChangeAt Go.RowKit
open Go.ChangeMaps (open_string shut_string)
theorem knownQ {W : World} (hT : Lib.Utf8Tabs 0 1 W) (h : W.ShapedOpen Tryz.prog) : TQ (tabH [0, 1, 2] W) := by
  obtain ⟨m, hm⟩ := Tryz.laysM145.s1_3 W h
  have hm' : W.cell? ⟨2, 0, none⟩ = some (.int .i64 m) := hm
  refine tabH_holds (fun b hb => ?_) (fun w' hw => ⟨⟨fun i hi => ?_, fun i hi => ⟨?_, ?_⟩⟩, m, ?_⟩)
  · have hb : b = 0 ∨ b = 1 ∨ b = 2 := by simpa using hb
    rcases hb with rfl | rfl | rfl
    · exact World.block_lt_of_cell? W _ (hT.1 0 (by decide))
    · exact World.block_lt_of_cell? W _ (hT.2 0 (by decide)).1
    · exact World.block_lt_of_cell? W _ hm'
  · rw [← hT.1 i hi]; exact World.cell?_of_block (w := W) (hw 0 (by simp))
  · rw [← (hT.2 i hi).1]; exact World.cell?_of_block (w := W) (hw 1 (by simp))
  · rw [← (hT.2 i hi).2]; exact World.cell?_of_block (w := W) (hw 1 (by simp))
  · rw [← hm']; exact World.cell?_of_block (w := W) (hw 2 (by simp))
theorem own : ownKnob Tryz.prog.godebug = none := by kernel_rfl
theorem first_eq : Rows.laid_unicode_utf8_first = Lib.firstData := by kernel_rfl
theorem accept_eq : (Rows.laid_unicode_utf8_acceptRanges : DataW Unit) = Lib.acceptData := by kernel_rfl
theorem tabs {W : World} (h : laidMetH Tryz.prog Rows.queryFindsRow.laid W) : Lib.Utf8Tabs 0 1 W := by
  have h' : laidMet Tryz.prog [("unicode/utf8.acceptRanges", Rows.laid_unicode_utf8_acceptRanges), ("unicode/utf8.first", Rows.laid_unicode_utf8_first)] W := h
  rw [first_eq, accept_eq] at h'
  exact utf8Tabs_of_readsT (ρ := Tryz.lays230_ren) { Tryz.lays230 with } ⟨by kernel_rfl, by kernel_rfl, by kernel_rfl, by kernel_rfl, by kernel_rfl, by kernel_rfl, by kernel_rfl⟩ (Lib.laidMet.reads h' (.tail _ (.head _))) (Lib.laidMet.reads h' (.head _))
theorem var_cells {P : Program} {W : World} {n : String} {g : Nat} {cs : Array Value} (hg : P.globalNamed n = some g) (h : W.var? P n = some cs) (o : Nat) : W.cell? ⟨g, o, none⟩ = cs[o]? := by
  unfold World.var? at h
  rw [hg] at h
  simp only [Option.bind_some] at h
  unfold World.cell?
  split at h
  · rename_i e1; injection h with h; subst h; simp only [e1]; rfl
  · cases h
theorem plain_cell {W : World} {a : Addr} {u : Value} (h : W.cell? a = some u) : W.cell? ⟨a.block, a.off, none⟩ = some u := by
  unfold World.cell? at h ⊢
  split at h
  · rename_i e1
    simp only [e1]
    split at h
    · cases h
    · exact h
  · cases h
theorem tabs_bytes {W : World} (h : laidMetH Tryz.prog Rows.queryFindsRow.laid W) : Bytes [0, 1] W := by
  have hT := tabs h
  have h' : laidMet Tryz.prog [("unicode/utf8.acceptRanges", Rows.laid_unicode_utf8_acceptRanges), ("unicode/utf8.first", Rows.laid_unicode_utf8_first)] W := h
  obtain ⟨g3, t3, c3, f3, p3, n3, y3, v3, d3⟩ := Lib.laidMet.reads h' (.tail _ (.head _))
  obtain ⟨g4, t4, c4, f4, p4, n4, y4, v4, d4⟩ := Lib.laidMet.reads h' (.head _)
  obtain rfl : g3 = 0 := (Option.some.inj (n3.symm.trans (show Tryz.prog.globalNamed "unicode/utf8.first" = some 0 by kernel_rfl)))
  obtain rfl : g4 = 1 := (Option.some.inj (n4.symm.trans (show Tryz.prog.globalNamed "unicode/utf8.acceptRanges" = some 1 by kernel_rfl)))
  obtain rfl : t3 = 238 := (Option.some.inj (y3.symm.trans (by kernel_rfl)))
  obtain rfl : t4 = 242 := (Option.some.inj (y4.symm.trans (by kernel_rfl)))
  have l3 : c3.size ≤ 256 := by
    cases f3 with
    | zero => simp [DataW.trod] at d3
    | succ f3 =>
      simp only [DataW.trod, Tryz.underlying238] at d3
      split at d3
      · rename_i e; rw [show Tryz.prog.cellsOf 238 = 256 by kernel_rfl] at e; simpa using Nat.le_of_eq e
      · cases d3
  have l4 : c4.size ≤ 32 := by
    cases f4 with
    | zero => simp [DataW.trod] at d4
    | succ f4 =>
      simp only [DataW.trod, Tryz.underlying242] at d4
      split at d4
      · rename_i e; rw [show Tryz.prog.cellsOf 242 = 32 by kernel_rfl] at e; simpa using Nat.le_of_eq e
      · cases d4
  intro a u ha hu
  rcases List.mem_cons.1 ha with h0 | h1
  · have hu := plain_cell hu
    rw [h0] at hu
    have e := hu
    rw [var_cells n3 v3] at hu
    have hlt := (Array.getElem?_eq_some_iff.1 hu).1
    rw [hT.1 a.off (by omega)] at e
    exact ⟨_, (Option.some.inj e).symm⟩
  · have h1 : a.block = 1 := by simpa using h1
    have hu := plain_cell hu
    rw [h1] at hu
    have e := hu
    rw [var_cells n4 v4] at hu
    have hlt := (Array.getElem?_eq_some_iff.1 hu).1
    have h2 := hT.2 (a.off / 2) (by omega)
    rcases Nat.mod_two_eq_zero_or_one a.off with hm | hm
    · have ho : 2 * (a.off / 2) = a.off := by omega
      rw [ho] at h2
      rw [h2.1] at e
      exact ⟨_, (Option.some.inj e).symm⟩
    · have ho : 2 * (a.off / 2) + 1 = a.off := by omega
      rw [ho] at h2
      rw [h2.2] at e
      exact ⟨_, (Option.some.inj e).symm⟩
/-- A world for the witness: the settled one, the two tables holding what their initialisers lay. -/
noncomputable def laidWorld (os : Os) : World :=
  let put (h : Array Obj) (g : Nat) (cs : Array Value) : Array Obj := h.modify g fun
    | .cells _ t frozen => .cells cs t frozen
    | o => o
  { World.holding Tryz.prog os ⟨#[], #[], []⟩ with heap := put (put (World.holding Tryz.prog os ⟨#[], #[], []⟩).heap 0 (Lib.firstTab.map fun z => Value.int .u8 z).toArray) 1 ((List.range 16).flatMap fun i => [Value.int .u8 (Lib.accLo i), Value.int .u8 (Lib.accHi i)]).toArray }
namespace pQueryFinds
theorem contract (H : Type) (enc : TypeId × Value → H) (W : World) (base : Nat) (args : Array Value) (ds gs : List (DataW H)) (before : List MemPlace)
    (hval : ∀ (j : Nat) t v, Tryz.f7.params[j]? = some t → args[j]? = some v → Value.okWide Tryz.prog W .any base t v)
    (hW : DataW.Whole enc Tryz.prog Tryz.f7.params.toList Rows.queryFindsSpec.vars false W args.toList ds gs before) (hL : laidMetH Tryz.prog Rows.queryFindsRow.laid W) (hS : W.ShapedOpen Tryz.prog) :
    Calls Tryz.prog 7 args W fun e W' => ∃ v, e = .returned v ∧ Rows.queryFindsSpec.post enc Tryz.prog Tryz.f7 false true false false W args v W' := by
  have hW' := hW
  obtain ⟨p, q, hA0, hV, rfl, hfz, hnd⟩ := hW
  have hA : DataW.TrodAll enc Tryz.prog W 0 (fun _ => true) true Tryz.f7.params.toList args.toList ds p := hA0
  rw [Tryz.params7] at hA hval
  obtain ⟨v0, vs0, d0, ds0, p0, q0, hargs, rfl, rfl, h0, r0⟩ := trodAll_cons hA
  obtain ⟨v1, vs1, d1, ds1, p1, q1, rfl, rfl, rfl, h1, r1⟩ := trodAll_cons r0
  obtain ⟨rfl, rfl, rfl⟩ := trodAll_nil r1
  obtain rfl : args = #[v0, v1] := by cases args; simp_all
  obtain ⟨rfl, rfl⟩ := trodVars_none hV
  obtain ⟨n0, rfl, rfl, rfl, w0⟩ := open_int Tryz.underlying3 (hval 0 3 v0 rfl rfl) h0
  obtain ⟨n1, rfl, rfl, rfl, w1⟩ := open_int Tryz.underlying49 (hval 1 49 v1 rfl rfl) h1
  clear hA0
  simp only [List.append_nil] at hW'
  have hT : TQ (tabH [0, 1, 2] W) := knownQ (tabs hL) hS
  have walk : Calls Tryz.prog 7 #[.int .i64 n0, .int .u32 n1] W fun e w' => e = .returned (.bool true) ∧ Below W.heap.size W w' := PI.calls_at [0, 1, 2] rfl (quillworklaw26_QueryFinds_ok n0 n1) hT
  refine walk.mono fun e W' ⟨he, hg⟩ => ?_
  subst he
  exact ⟨_, rfl, post_of_below (pa := []) (pv := []) hW' (fun _ _ _ => trodAll_cons_mk (shut_bool Tryz.underlying4 _) trodAll_mk0) (fun _ _ => trodAll_cons_mk (shut_int Tryz.underlying3 w0) (trodAll_cons_mk (shut_int Tryz.underlying49 w1) (trodAll_mk0))) (fun _ _ => rfl) rfl hg (ok_one (by kernel_rfl) rfl (okWide_bool_mk Tryz.underlying4 _))⟩
theorem laid_met (os : Os) : laidMet Tryz.prog Rows.queryFindsRow.laid ((laidWorld os).forCall (fun _ _ => 0) ⟨#[], #[Value.int .i64 0, Value.int .u32 0], []⟩).memory :=
  laidMet_of_run' 8 (by kernel_rfl) (by kernel_rfl)
theorem reads (os : Os) {H : Type} (enc : TypeId × Value → H) : ∃ places, DataW.whole enc Tryz.prog ((laidWorld os).forCall (fun _ _ => 0) ⟨#[], #[Value.int .i64 0, Value.int .u32 0], []⟩).memory Tryz.f7.params.toList Rows.queryFindsSpec.vars false #[Value.int .i64 0, Value.int .u32 0].toList 8 = some ([.lit (.int .i64 0), .lit (.int .u32 0)], [], places) :=
  ⟨[], by kernel_rfl⟩
set_option maxRecDepth 100000 in
theorem lifted (os : Os) (started : os.Started) (H : Type) (enc : TypeId × Value → H) (F : Stop.Interp) :
    ReturnsInHanded {} Tryz.checked os 7 .any ((OpenSpec.ofChange Rows.queryFindsSpec).preRow enc Tryz.prog Tryz.f7 Rows.queryFindsRow.domain false Rows.queryFindsRow.laid) (((OpenSpec.ofChange Rows.queryFindsSpec).at F).post enc Tryz.prog Tryz.f7 false true false false) := by
  obtain ⟨places, hx⟩ := reads os enc
  refine returnsInHanded_of_row (C := Tryz.checked) (s := OpenSpec.ofChange Rows.queryFindsSpec) own started (by kernel_rfl) Tryz.func7
    (witness_row_at (enc := enc) (C := Tryz.checked) false (laidWorld os) #[Value.int .i64 0, Value.int .u32 0] rfl (by kernel_rfl) (by kernel_rfl) (by kernel_rfl)
      (OpenSpec.preRow_of_cond 8 hx (by kernel_rfl) (fun k hk => by cases hk) (by kernel_rfl) (laid_met os))) ?_
  intro W base args ds gs before hval hW _ _ _ hL hS _
  exact contract H enc W base args ds gs before hval hW hL hS
theorem said : Rows.QueryFindsSaid :=
  OpenClaim.holds_of_cond 7 Tryz.f7 rfl rfl rfl rfl rfl rfl rfl ⟨rfl, rfl, rfl, rfl, rfl⟩ rfl rfl rfl rfl rfl (by kernel_rfl) Tryz.func7 (by kernel_rfl)
    (of_decide_eq_true (by kernel_rfl)) (by unfold Func.isWrapper; first | (rw [if_pos (by decide +kernel)]; kernel_rfl) | (rw [if_neg (by decide +kernel)]; exact ⟨rfl, rfl⟩))
    (fun os started H enc _ F => by rw [OpenClaim.pre_eq_preRow]; exact lifted os started H enc F)
theorem plain (f : FuncId) (fn : Func) (hf : Tryz.pinned.checked.prog.funcNamed "quillwork/quillworklaw26.QueryFinds" = some f) (hfn : Tryz.pinned.checked.prog.funcs[f]? = some fn) :
    false = Tryz.pinned.checked.prog.looks [] ∧ ∀ (j : Nat) t, fn.params[j]? = some t → Tryz.pinned.checked.prog.wantsStandIn t = false := by
  obtain rfl : f = 7 := Option.some.inj ((show Tryz.prog.funcNamed "quillwork/quillworklaw26.QueryFinds" = some 7 by kernel_rfl).symm.trans hf) |>.symm
  obtain rfl : fn = Tryz.f7 := (Option.some.inj (Tryz.func7.symm.trans hfn)).symm
  refine ⟨by kernel_rfl, fun j t ht => ?_⟩
  rw [Tryz.params7] at ht
  have hm := Array.mem_of_getElem? ht
  have hc : t = 3 ∨ t = 49 := by simpa using hm
  rcases hc with rfl | rfl
  · exact (show Tryz.prog.wantsStandIn 3 = false by kernel_rfl)
  · exact (show Tryz.prog.wantsStandIn 49 = false by kernel_rfl)
theorem card : Rows.QueryFindsCardSaid :=
  Claim7.holds_tied_plain_at .later [] _ _ _ _ said (fun _ h => by cases h) (by kernel_rfl) (fun _ h => by cases h) queryFinds_row_tie rfl ⟨rfl, rfl⟩ (by kernel_rfl) rfl plain (by kernel_rfl)
end pQueryFinds
end Go.Proofs.YtcmijcfmldaiaaaGreatDoor
