/- Small words for the generated texts. -/
import Derived.Test.YtcnjcjhdcloniaaDoorAL10
import Derived.IntWalk
set_option autoImplicit false
set_option linter.unusedVariables false
set_option linter.unusedSimpArgs false
namespace Go.AL
open Go Go.RowKit

theorem AH.look_other {H : AH} {b b' : Nat} {o o' : Option AO} (h : b ≠ b') (k : H b = o) : (H.upd b' o') b = o := by rw [AH.upd_ne _ _ h]; exact k
theorem AH.ne_of {H : AH} {b k : Nat} {o : AO} (h : (H.upd b (some o)) k = none) : k ≠ b := fun e => by subst e; rw [AH.upd_same] at h; cases h
theorem AH.old_of {H : AH} {b k : Nat} {o : AO} (h : (H.upd b (some o)) k = none) : H k = none := by
  have := AH.ne_of h
  rwa [AH.upd_ne _ _ this] at h
theorem SubH.new {A B : AH} {b : Nat} {o : Option AO} (h : SubH A B) (hb : B b = Option.none) : SubH A (B.upd b o) := h.upd (h.none hb)
theorem AH.rem_upd {H : AH} {b : Nat} {o : AO} (h : H b = none) : (H.upd b (some o)).rem (some b) = H := by
  funext k; simp only [AH.rem, AH.upd]; split
  · rename_i e; rw [e, h]
  · rfl
theorem AH.upd_none_eq {H : AH} {b : Nat} {o : Option AO} (h : H b = none) : (H.upd b o).upd b none = H := by
  funext k; simp only [AH.upd]; split
  · rename_i e; rw [e, h]
  · rfl

section
variable {P : Program} {ds : List Deferred} {T : List AV} {H : AH} {K : AV → AH → Prop}
theorem K_eq {x r : AV} (e : x = r) (h : K r H) : K x H := e ▸ h
theorem K_eqs {x r : AV} {H' : AH} (e : x = r) (e' : H = H') (h : K r H') : K x H := e ▸ e' ▸ h

/-- A result that lies in a cell. -/
theorem retQ_c {e0 : Exit} {H' : AH} {a : Tmp} {t e : TypeId} {b i sz o n c : Nat} {bg : Bool} {xs : List AV} {x y : AV} (he0 : e0 = .normal ∨ e0 = .ret) (ha : aggOf P t = some bg) (hs : szOf P t = some n) (he : szOf P e = some sz) (hn : bg = false → n = 1) (hx : T[a]? = some (.pt b i sz o)) (hH : H b = some (.row e c xs)) (hi : xs[i]? = some x)
    (hy : subAV bg n x o = some y) (hb : y.isAg = bg) (hsub : SubH H' H) (k : K y H') : retQ P [.cell a t] K e0 [] T H :=
  ⟨he0, rfl, [y], H', .cons (.cell hx hH he hi ha hs hy hb hn) .nil, hsub, k⟩
theorem retQ_cw {e0 : Exit} {H' : AH} {a : Tmp} {t : TypeId} {b sz c : Nat} {x : AV} (he0 : e0 = .normal ∨ e0 = .ret) (hs : szOf P t = some sz) (hx : T[a]? = some (.pt b 0 sz 0)) (hH : H b = some (.row t c [x])) (ha : aggOf P t = some x.isAg)
    (hc : x.cells.length = sz) (hsub : SubH H' H) (k : K x H') : retQ P [.cell a t] K e0 [] T H := by
  refine retQ_c (y := x) he0 ha hs hs (fun hb => ?_) hx hH rfl ?_ rfl hsub k
  · rw [AV.cells_of_not hb] at hc; simpa using hc.symm
  · unfold subAV
    cases hb : x.isAg with
    | true => rw [if_pos rfl, if_pos (by omega)]; rw [AV.of_isAg hb] at hc ⊢; simp only [AV.cells] at hc ⊢; rw [List.drop_zero, ← hc, List.take_length]
    | false => rw [if_neg (by simp), AV.cells_of_not hb]; rfl
theorem retQ_l {e0 : Exit} {H' : AH} {rs : List ResultVar} {xs : List AV} (he0 : e0 = .normal ∨ e0 = .ret) (h : RVL P T H rs xs) (hsub : SubH H' H) (k : K (pack xs) H') : retQ P rs K e0 [] T H :=
  ⟨he0, rfl, xs, H', h, hsub, k⟩
end
theorem decide_false_of {p : Prop} [Decidable p] (h : decide p = false) : ¬ p := by simpa using h
theorem decide_true_of {p : Prop} [Decidable p] (h : decide p = true) : p := by simpa using h
end Go.AL
