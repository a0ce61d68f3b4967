/- From the logic to a row's post: laws whose arguments are left alone. -/
import Derived.Test.YtcnjcjhdcloniaaDoorAL14
import Derived.Lib.LaidU8T
import Derived.ProofKit
import Derived.OpenShut
import Derived.Deep.DeepHandedRow
import Derived.Lib.LaidTab
set_option autoImplicit false
set_option linter.unusedVariables false
namespace Go.AL
open Go Go.RowKit Go.ChangeShapes Go.WideShapes Go.ChangeAt

section
variable {H : Type} {enc : TypeId × Value → H} {P : Program}
theorem post_of_below {f : Func} {s : ChangeSpec} {apart fresh handsOn again : Bool} {W W' : World} {args : Array Value} {v : Value} {ds gs : List (DataW H)} {before pa pv : List MemPlace}
    (hW : DataW.Whole enc P f.params.toList s.vars apart W args.toList ds gs before)
    (hres : ∀ (b : Nat) (sp : Nat → Bool) (hd : Bool), DataW.TrodAll enc P W' b sp hd f.resultTypes.toList (v.resultList f.resultTypes.size) (s.fn H (ds ++ gs)).results [])
    (hargs : ∀ sp : Nat → Bool, (∀ p ∈ before, sp p.block = true) → DataW.TrodAll enc P W' 0 sp true f.params.toList args.toList (s.fn H (ds ++ gs)).args pa)
    (hvars : ∀ sp : Nat → Bool, (∀ p ∈ before, sp p.block = true) → DataW.TrodVars enc P W' sp s.vars (s.fn H (ds ++ gs)).vars pv)
    (hps : before = pa ++ pv) (hb : Below W.heap.size W W')
    (hok : ∀ (j : Nat) (t : TypeId) (r : Value), f.resultTypes[j]? = some t → (v.resultList f.resultTypes.size)[j]? = some r → Value.okWide P W' .any 0 t r) :
    s.post enc P f apart fresh handsOn again W args v W' := by
  have hlt : ∀ p ∈ before, p.block < W.heap.size := fun p hp => hW.lt p hp
  have hold : ∀ p ∈ before, (fun b => decide (b < W.heap.size)) p.block = true := fun p hp => by simpa using hlt p hp
  refine ⟨ds, gs, before, [], pa, pv, hW, hres _ _ _, hargs _ hold, hvars _ hold, hb.frame _, fun _ => ?_⟩
  obtain ⟨_, _, _, _, _, hz, hn⟩ := hW
  refine ⟨hok, _, _, ([] ++ pa) ++ pv, ⟨[] ++ pa, pv, trodAll_append (hargs _ (fun _ _ => rfl)) (hres _ _ _), hvars _ (fun _ _ => rfl), rfl, ?_, ?_⟩, ?_⟩
  · intro b off hp
    have hp' : MemPlace.cell b off ∈ before := by rw [hps]; simpa using hp
    have e := World.frozen?_of_block (w := W) (w' := W') (a := ⟨b, off, none⟩) (hb.block b (hlt _ hp'))
    rw [e]; exact hz b off hp'
  · intro ha
    have := hn ha
    rw [hps] at this
    simpa using this
  · intro p hp _
    rw [hps]
    simpa using hp
end

/-- The two tables of utf8, once they lie, are known. -/
theorem utf8_known {g3 g4 : Nat} {W : World} (h : Lib.Utf8Tabs g3 g4 W) : Holds [g3, g4] (Lib.Utf8Tabs g3 g4) (tabH [g3, g4] W) := by
  refine tabH_holds (fun b hb => ?_) (fun w' hw => ?_)
  · rcases List.mem_cons.1 hb with rfl | hb
    · exact World.block_lt_of_cell? W ⟨b, 0, none⟩ (h.1 0 (by decide))
    · obtain rfl : b = g4 := by simpa using hb
      exact World.block_lt_of_cell? W ⟨b, 2 * 0, none⟩ (h.2 0 (by decide)).1
  · have e3 : ∀ o, w'.cell? ⟨g3, o, none⟩ = W.cell? ⟨g3, o, none⟩ := fun o => World.cell?_of_block (w := W) (hw g3 (by simp))
    have e4 : ∀ o, w'.cell? ⟨g4, o, none⟩ = W.cell? ⟨g4, o, none⟩ := fun o => World.cell?_of_block (w := W) (hw g4 (by simp))
    exact ⟨fun c hc => by rw [e3]; exact h.1 c hc, fun i hi => by rw [e4, e4]; exact h.2 i hi⟩

theorem PI.calls_at {I : AH → Prop} {P : Program} {f : FuncId} {args : List AV} {r : Value} {vs0 : Array Value} {W : World} (bs : List Nat) (hc : args.map concV = vs0.toList.map some) (h : PI I P f args (.v r)) (hI : I (tabH bs W)) :
    Calls P f vs0 W fun e w' => e = .returned r ∧ Below W.heap.size W w' := by
  have hlen : args.length = vs0.size := by have := congrArg List.length hc; simpa using this
  refine AC.calls bs hlen (fun k x u hx hu => ?_) (h _ _ hI ⟨rfl, rfl⟩)
  have hcv : (args.map concV)[k]? = (vs0.toList.map some)[k]? := by rw [hc]
  rw [List.getElem?_map, hx, List.getElem?_map, Array.getElem?_toList, hu] at hcv
  simp only [Option.map_some, Option.some.injEq] at hcv
  unfold concV at hcv
  split at hcv
  · injection hcv with hcv; subst hcv; exact .v _
  · injection hcv with hcv; subst hcv; exact .fn rfl rfl (fun k y u h => by simp at h) (fun k y u h => by simp at h)
  · cases hcv
end Go.AL
