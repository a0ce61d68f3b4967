/- Further rules: a string's bytes as a row of our own; a boxed value read from now on; a case of a flag; bits with a name; library calls that draw. -/
import Derived.Test.YtcnjcjhdcloniaaDoorAL19
import Derived.Test.YtcnjcjhdcloniaaDoorAL20
import Derived.Test.YtcnjcjhdcloniaaDoorAL16
import Derived.Test.YtcnjcjhdcloniaaDoorAL15
set_option autoImplicit false
set_option linter.unusedVariables false
set_option linter.unusedSimpArgs false
namespace Go.AL
open Go Go.RowKit

section
variable {P : Program} {ro : Option Nat} {ds : List Deferred} {T : List AV} {H : AH} {Q : Post} {ops : Array Oper} {rest : List Oper}
variable {d : Option Tmp} {ty : TypeId} {pos : String} {af : Array Edge} {s s' : Operand} {x y : AV}

/-- A string's bytes as a new row. -/
theorem AL_convStr {src dst e : TypeId} {p : ByteArray} (hs : P.underlying src = some .string) (hd : P.underlying dst = some (.slice e)) (he : P.underlying e = some (.int .u8)) (hz : szOf P e = some 1)
    (hx : ev T s = some (.v (.string p)))
    (h : ∀ b c, H b = none → p.size ≤ c → AL P ro ops rest ds (tput T d (.own (some b) c p.size)) (H.upd b (some (.row e c (p.data.toList.map byteAV)))) Q) : AL P ro ops (⟨d, .convert src dst s, ty, pos, af, none⟩ :: rest) ds T H Q := by
  refine AL_op rfl (fun _ h => nomatch h) fun a w hst => ?_
  have hu : a.eval s = .string p := hst.evv hx
  obtain ⟨cap, hcap⟩ : ∃ cap, grownCap w p.size 0 e = cap := ⟨_, rfl⟩
  have hge : p.size ≤ cap := hcap ▸ grownCap_ge w p.size 0 e
  have hr := run_bytes_of_string (P := P) w src dst e p hs hd he
  rw [hcap] at hr
  have hhd : HR P H w.drew := fun b o hb => (hst.heap b o hb).keep (Step.drew' H w) rfl
  have hnew : H w.drew.heap.size = none := hhd.none_new
  have hsz : (bytesRow p cap).size = cap := by
    unfold bytesRow
    rw [Array.size_append, Array.size_map, Array.size_replicate]
    show p.size + _ = _
    omega
  have hcells : ∀ x ∈ p.data.toList.map byteAV, x.cells.length = 1 := by
    intro x hx
    obtain ⟨z, _, rfl⟩ := List.mem_map.1 hx
    rfl
  refine ⟨.slice (some ⟨w.heap.size, 0, none⟩) p.size cap, w.drew.alloc (.cells (bytesRow p cap) e ((bytesRow p cap).size, (bytesRow p cap).size + 1)), .own (some w.heap.size) cap p.size, _, ?_, .own _ _ _, ?_, (Step.drew' H w).trans (Step.alloc w.drew _ (.row e cap (p.data.toList.map byteAV)) hnew), h w.heap.size cap hnew hge⟩
  · simp only [execOp, hu, Sem.run_bind, hr, Result.andThen_ok, Sem.run_pure]
  · refine hhd.alloc ⟨bytesRow p cap, _, heap_alloc_new _ _, ?_, ?_, ?_, ?_, ?_⟩
    · rw [hsz, szOf_cells hz, Nat.mul_one]
    · intro i hi ⟨h1, h2⟩
      have h1' : (bytesRow p cap).size ≤ i := h1
      omega
    · rw [List.length_map, Array.length_toList]; exact hge
    · intro x hx; rw [szOf_cells hz]; exact hcells x hx
    · intro k y hy
      rw [flat_bytes, List.getElem?_map] at hy
      cases hk : p.data.toList[k]? with
      | none => rw [hk] at hy; simp at hy
      | some b =>
        rw [hk] at hy
        simp only [Option.map_some, Option.some.injEq] at hy
        subst hy
        refine ⟨.int .u8 b.toNat, ?_, .v _⟩
        have hlt : k < p.data.size := by
          have := (List.getElem?_eq_some_iff.1 hk).1; simpa using this
        unfold bytesRow
        rw [Array.getElem?_append_left (by simpa using hlt), Array.getElem?_map]
        rw [← Array.getElem?_toList, hk]; rfl

/-- What a box holds is read from now on. -/
theorem St.frzpt {a : Act} {w : World} (hst : St P ds T H a w) {k b n c : Nat} {e : TypeId} (hk : T[k]? = some (.pt b 0 n 0)) (hb : H b = some (.row e c [x])) : St P ds (T.set k (.rp e x)) (H.upd b none) a w := by
  refine ⟨hst.defers, by simpa using hst.size, fun i y hy => ?_, hst.heap.sub (upd_none_sub H b)⟩
  rw [List.getElem?_set] at hy
  split at hy
  · rename_i e1
    subst e1
    split at hy
    · injection hy with hy
      subst hy
      obtain ⟨u, hu, hv⟩ := hst.vals _ _ hk
      cases hv
      refine ⟨_, hu, ?_⟩
      obtain ⟨cs, fr, h1, h2, h3, h4, h5, h6⟩ := hst.heap b _ hb
      have hU : ∃ U : Nat → Value, ∀ k y, x.cells[k]? = some y → cs[k]? = some (U k) ∧ VR P w H y (U k) := ⟨fun k => (cs[k]?).getD undef, fun k y hy => by
        obtain ⟨u, q1, q2⟩ := h6 k y (by simpa [flat] using hy)
        show cs[k]? = some ((cs[k]?).getD undef) ∧ VR P w H y ((cs[k]?).getD undef)
        rw [q1]; exact ⟨rfl, q2⟩⟩
      obtain ⟨U, hU⟩ := hU
      refine .rp U (h5 x (by simp)) (fun k y hy => ⟨AH.upd_same _ _ _, ?_⟩) (fun k y hy => (hU k y hy).2.sub (upd_none_sub H b))
      rw [addr_add]
      simp only [World.cell?, h1]
      simpa using (hU k y hy).1
    · cases hy
  · obtain ⟨u, h1, h2⟩ := hst.vals i y hy
    exact ⟨u, h1, h2.sub (upd_none_sub H b)⟩
theorem AL_frzpt {b n c : Nat} {e : TypeId} (k : Nat) (hk : T[k]? = some (.pt b 0 n 0)) (hb : H b = some (.row e c [x])) (h : AL P ro ops rest ds (T.set k (.rp e x)) (H.upd b none) Q) : AL P ro ops rest ds T H Q :=
  fun a w hst => wpListIn_mono (fun _ _ _ p => post.back (Step.sub (upd_none_sub H b) (.refl _ _)) p) (fun _ => trivial) _ _ _ (h a w (hst.frzpt hk hb))
theorem AW_frzpt {c' : Code} {b n c : Nat} {e : TypeId} (k : Nat) (hk : T[k]? = some (.pt b 0 n 0)) (hb : H b = some (.row e c [x])) (h : AW P ro c' ds (T.set k (.rp e x)) (H.upd b none) Q) : AW P ro c' ds T H Q :=
  fun a w hst => wpIn_mono (h a w (hst.frzpt hk hb)) fun _ _ _ p => post.back (Step.sub (upd_none_sub H b) (.refl _ _)) p

/-- A flag's two cases. -/
theorem AL_bcase {b : Bool} (c : Nat) (hc : T[c]? = some (.v (.bool b))) (ht : b = true → AL P ro ops rest ds (T.set c (.v (.bool true))) H Q) (hf : b = false → AL P ro ops rest ds (T.set c (.v (.bool false))) H Q) : AL P ro ops rest ds T H Q := by
  have e : T.set c (.v (.bool b)) = T := by
    apply List.ext_getElem?
    intro i
    rw [List.getElem?_set]
    split
    · rename_i e; subst e; rw [hc, if_pos (List.getElem?_eq_some_iff.1 hc).1]
    · rfl
  cases b with
  | true => have := ht rfl; rwa [e] at this
  | false => have := hf rfl; rwa [e] at this

theorem AL_bitsz {op : BinOp} {tx ty' : TypeId} {k : IntKind} {m n : Int} (z : Int) (hx : ev T s = some (.v (.int k m))) (hy : ev T s' = some (.v (.int k n))) (ho : op = .and ∨ op = .or ∨ op = .xor ∨ op = .andNot) (hz : intB op k m n = z)
    (h : AL P ro ops rest ds (tput T d (.v (.int k z))) H Q) : AL P ro ops (⟨d, .binOp op tx s s' ty', ty, pos, af, none⟩ :: rest) ds T H Q :=
  AL_bits hx hy ho (hz ▸ h)
end


theorem SubH.of_eq {A B : AH} (h : A = B) : SubH A B := h ▸ SubH.refl _
theorem Fresh.look {H : AH} {A : Option Nat} {e : TypeId} {c : Nat} {xs : List AV} (h : Fresh H A c xs) {b : Nat} {o : AO} (hb : H b = some o) : (H.put A e c xs) b = some o := h.subH b o hb
theorem AH.put_upd {H : AH} {A : Option Nat} {e : TypeId} {c : Nat} {xs : List AV} {b : Nat} {o o' : AO} (h : Fresh H A c xs) (hb : H b = some o') : (H.put A e c xs).upd b (some o) = (H.upd b (some o)).put A e c xs := by
  cases A with
  | none => rfl
  | some a =>
    have h0 : H a = none := h
    have hne : a ≠ b := fun e => by subst e; rw [h0] at hb; cases hb
    exact AH.upd_comm H hne _ _
theorem Fresh.up {H : AH} {A : Option Nat} {c : Nat} {xs : List AV} {b : Nat} {o o' : AO} (h : Fresh H A c xs) (hb : H b = some o') : Fresh (H.upd b (some o)) A c xs := by
  cases A with
  | none => exact h
  | some a =>
    have h0 : H a = none := h
    have hne : a ≠ b := fun e => by subst e; rw [h0] at hb; cases hb
    show (H.upd b (some o)) a = none
    rw [AH.upd_ne _ _ hne]; exact h0
section
variable {P : Program} {H : AH}
/-- A row of its own that a function hands back is read from then on. -/
theorem AC_frzS {f : FuncId} {args : List AV} {K : AV → AH → Prop} (e : TypeId) (xs : List AV) (h : AC P f args H fun x H' => ∃ A c, Fresh H A c xs ∧ x = .own A c xs.length ∧ H' = H.put A e c xs ∧ K (.sl e xs) H) : AC P f args H K := fun w vs hl hv hh => by
  refine (h w vs hl hv hh).mono ?_
  rintro e' w' ⟨v, x, H', rfl, hx, hr, hst, A, c, hF, rfl, rfl, hk⟩
  cases A with
  | none =>
    obtain ⟨rfl, rfl⟩ := hF
    exact ⟨v, .sl e [], H, rfl, hx.nilsl, hr, hst, hk⟩
  | some b =>
    have hb : (H.upd b (some (.row e c xs))) b = some (.row e c xs) := AH.upd_same _ _ _
    have e1 : (H.upd b (some (.row e c xs))).upd b none = H := AH.upd_none_eq hF
    have hs : SubH H (H.put (some b) e c xs) := (SubH.refl _).upd hF
    obtain ⟨hu, _⟩ := hx.own_inv
    refine ⟨v, .sl e xs, H, rfl, ?_, hr.sub hs, Step.sub hs hst, hk⟩
    have hfz : VR P w' ((H.upd b (some (.row e c xs))).upd b none) (.sl e xs) (.slice (some ⟨b, 0, none⟩) xs.length c) := VR.frozen (P := P) hr hb
    rw [e1] at hfz
    rw [hu]; exact hfz
end
theorem PI.contractK {P : Program} {I : AH → Prop} {f : FuncId} {args : List AV} {r : AV} (vs0 : Array Value) (hc : args.map concV = vs0.toList.map some)
    (h : ∀ H w, I H → HR P H w → Calls P f vs0 w fun e w' => ∃ v, e = .returned v ∧ Below w.heap.size w w' ∧ VR P w' H r v) : PI I P f args r := fun H K hI hK w vs hl hv hh => by
  obtain rfl := VR.concs hl hv hc
  rw [fen_none, callsIn_wide]
  refine (h H w hI hh).mono ?_
  rintro e w' ⟨v, rfl, hb, hx⟩
  exact ⟨v, r, H, rfl, hx, hh.ofBelow hb, Step.ofBelow H hb, hK⟩

theorem flat_strs : ∀ xs : List ByteArray, flat (xs.map fun b => AV.v (.string b)) = xs.map fun b => .v (.string b)
  | [] => rfl
  | x :: xs => by
    have := flat_strs xs
    unfold flat at this ⊢
    rw [List.map_cons, List.flatMap_cons, this]; rfl
/-- A slice of strings, where it lies. -/
theorem VR.strs {P : Program} {w : World} {H : AH} {e : TypeId} {xs : List ByteArray} {u : Value} (he : P.cellsOf e = 1) (h : VR P w H (.sl e (xs.map fun b => .v (.string b))) u) :
    ∃ A c, u = .slice A xs.length c ∧ xs.length ≤ c ∧ (xs ≠ [] → ∃ bk o, A = some ⟨bk, o, none⟩ ∧ bk < w.heap.size ∧ ∀ (j : Nat) (x : ByteArray), xs[j]? = some x → w.cell? ⟨bk, o + j, none⟩ = some (.string x)) := by
  obtain ⟨A, c, U, rfl, hs, hc, hcell, hv⟩ := h.sl_inv
  have hfl := flat_strs xs
  rw [hfl] at hcell hv
  refine ⟨A, c, by rw [List.length_map], by simpa using hc, fun hne => ?_⟩
  obtain ⟨x0, xs', rfl⟩ : ∃ x0 xs', xs = x0 :: xs' := by cases xs with | nil => exact absurd rfl hne | cons a b => exact ⟨a, b, rfl⟩
  obtain ⟨a, rfl, hn, hcl⟩ := hcell 0 (.v (.string x0)) rfl
  have e0 : a.add 0 = a := by simp [Addr.add]
  rw [e0] at hcl
  have hsp : a.spot = none := by
    unfold World.cell? at hcl
    split at hcl
    · split at hcl
      · cases hcl
      · rename_i h; simpa using h
    · cases hcl
  obtain ⟨bk, o, sp⟩ := a
  obtain rfl : sp = none := hsp
  refine ⟨bk, o, rfl, cell_lt hcl, fun j x hj => ?_⟩
  have hj' : ((x0 :: xs').map fun b => AV.v (.string b))[j]? = some (.v (.string x)) := by rw [List.getElem?_map, hj]; rfl
  obtain ⟨a2, ha2, _, hc2⟩ := hcell j _ hj'
  injection ha2 with ha2
  subst ha2
  rw [addr_add] at hc2
  rw [hc2, (hv j _ hj').v_inv]
end Go.AL
