/- The library's functions that styles call: said of plain values. -/
import Derived.Test.YtcnjcjhdcloniaaDoorCE
import Derived.Test.YtcnjcjhdcloniaaDoorSH
import Derived.Test.YtcnjcjhdcloniaaDoorProg
set_option autoImplicit false
set_option linter.unusedVariables false
namespace Go.Css
open Go Go.AL Go.RowKit Go.Proofs

/-- The library's variable holds a number. -/
def MaxK (w : World) : Prop := ∃ m : Int, w.cell? ⟨2, 0, none⟩ = some (.int .i64 m)
abbrev TC : AH → Prop := Holds [2] MaxK

theorem below_drewN {b : Nat} : ∀ (n : Nat) (w : World), Below b w (w.drewN n) := fun n w => by
  induction n with
  | zero => exact Below.refl _ _
  | succ n ih => exact ih.trans ((Below.refl _ _).drew)

theorem Split_ok (s : ByteArray) (c : UInt8) (hs : s.size < 4294967281) : PI TC Tryd.prog 57 [strAV s, strAV ⟨#[c]⟩] (.sl 9 ((splitS s c).map strAV)) :=
  PI.contractK #[.string s, .string ⟨#[c]⟩] rfl fun H w hI hh => by
    obtain ⟨m, hm⟩ := hI.here hh
    refine (Tryd.strings_Split s ⟨#[c]⟩ m w hs hm (Nat.le_refl 1)).mono ?_
    rintro e w' ⟨rfl, rfl⟩
    refine ⟨_, rfl, (Below.refl _ _).alloc (Nat.le_refl _) _, ?_⟩
    rw [splitB_eq]
    have hl : (splitS s c).length = Lib.countB s ⟨#[c]⟩ + 1 := by
      rw [splitS, List.length_map, cutAt_count, ← count_eq]; rfl
    rw [← hl]
    have key : ∀ xs : List ByteArray, VR Tryd.prog (w.alloc (.cells (xs.map Value.string).toArray 9)) H (.sl 9 (xs.map strAV)) (.slice (some ⟨w.heap.size, 0, none⟩) xs.length xs.length) := fun xs => by
      have e : xs.length = (xs.map strAV).length := by rw [List.length_map]
      rw [e]
      refine .sl (fun k => Value.string (xs.getD k ⟨#[]⟩)) (fun x hx => ?_) (Nat.le_refl _) (fun k y hy => ?_) (fun k y hy => ?_)
      · obtain ⟨z, _, rfl⟩ := List.mem_map.1 hx
        exact (show Tryd.prog.cellsOf 9 = 1 by kernel_rfl) ▸ rfl
      · rw [show flat (xs.map strAV) = xs.map strAV from flat_strs xs] at hy
        rw [List.getElem?_map] at hy
        cases hk : xs[k]? with
        | none => rw [hk] at hy; simp at hy
        | some z =>
          refine ⟨_, rfl, hh.none_new, ?_⟩
          rw [addr_add]
          simp only [World.cell?]
          have := heap_alloc_new w (.cells (xs.map Value.string).toArray 9)
          rw [this]
          simp [hk]
      · rw [show flat (xs.map strAV) = xs.map strAV from flat_strs xs] at hy
        rw [List.getElem?_map] at hy
        cases hk : xs[k]? with
        | none => rw [hk] at hy; simp at hy
        | some z =>
          rw [hk] at hy
          simp only [Option.map_some, Option.some.injEq] at hy
          subst hy
          have : xs.getD k ⟨#[]⟩ = z := by simp [List.getD_eq_getElem?_getD, hk]
          show VR _ _ _ (strAV z) (Value.string (xs.getD k ⟨#[]⟩))
          rw [this]; exact .v _
    exact key _

theorem Cut_ok (d : List UInt8) (hs : d.length < 4294967281) : PI TC Tryd.prog 58 [strAV (ofL d), strAV sCol] (.tup [strAV (ofL (Lib.cut d [58]).1), strAV (ofL (Lib.cut d [58]).2.1), .v (.bool (Lib.cut d [58]).2.2)]) :=
  PI.contractK #[.string (ofL d), .string sCol] rfl fun H w hI hh => by
    obtain ⟨m, hm⟩ := hI.here hh
    refine (Tryd.strings_Cut (ofL d) sCol m w (by rw [ofL_size]; exact hs) hm).mono ?_
    rintro e w' ⟨rfl, n, rfl⟩
    refine ⟨_, rfl, below_drewN n w, ?_⟩
    have e1 : (ofL d).data.toList = d := toL_ofL d
    have e2 : sCol.data.toList = [58] := rfl
    rw [e1, e2]
    refine .tup rfl fun k y u hy hu => ?_
    match k with
    | 0 => simp at hy hu; subst hy; subst hu; exact .v _
    | 1 => simp at hy hu; subst hy; subst hu; exact .v _
    | 2 => simp at hy hu; subst hy; subst hu; exact .v _
    | k + 3 => simp at hy

theorem Trim_ok (s : ByteArray) (hs : s.size ≤ 9223372036854775807) : PF Tryd.prog 60 [strAV s, strAV sSp] (strAV (trimS s)) :=
  PF.contract #[.string s, .string sSp] rfl fun w => by
    refine (Tryd.strings_Trim_one s 32 (by decide) w hs).mono ?_
    rintro e w' ⟨rfl, rfl | rfl⟩
    · exact ⟨rfl, Below.refl _ _⟩
    · exact ⟨rfl, (Below.refl _ _).drew⟩

theorem Join_ok (xs : List ByteArray) (sep : ByteArray) (hN : xs.length ≤ 140737488355328) (hlen : (Lib.join (xs.map toL) (toL sep)).length ≤ 140737488355328) : PF Tryd.prog 51 [.sl 9 (xs.map strAV), strAV sep] (strAV (joinB xs sep)) := fun H K hK w vs hl hv hh => by
  obtain ⟨v0, v1, rfl⟩ : ∃ v0 v1, vs = #[v0, v1] := by
    have : vs.size = 2 := hl.symm
    exact ⟨vs[0], vs[1], by apply Array.ext; · simpa using this
                            · intro i h1 h2; match i, h2 with
                              | 0, _ => rfl
                              | 1, _ => rfl⟩
  have h0 := hv 0 _ v0 rfl rfl
  have h1 := hv 1 _ v1 rfl rfl
  obtain rfl : v1 = .string sep := h1.v_inv
  obtain ⟨A, c, rfl, hc, hA⟩ := VR.strs (show Tryd.prog.cellsOf 9 = 1 by kernel_rfl) h0
  rw [fen_none, callsIn_wide]
  by_cases hx : xs = []
  · subst hx
    refine (Tryd.strings_Join_none A c sep w).mono ?_
    rintro e w' ⟨rfl, rfl⟩
    exact ⟨_, _, H, rfl, .v _, hh, .refl _ _, hK⟩
  · obtain ⟨bk, o, rfl, hb, hcl⟩ := hA hx
    refine (Tryd.strings_Join bk o c xs sep w hcl hb hN hc hlen).mono ?_
    rintro e w' ⟨rfl, hb⟩
    exact ⟨_, _, H, rfl, .v _, hh.ofBelow hb, Step.ofBelow H hb, hK⟩
end Go.Css
