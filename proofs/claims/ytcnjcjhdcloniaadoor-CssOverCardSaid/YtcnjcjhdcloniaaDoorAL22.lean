/- Slices of strings and of slices, their bounds plain numbers. -/
import Derived.Test.YtcnjcjhdcloniaaDoorAL21
set_option autoImplicit false
set_option linter.unusedVariables false
set_option linter.unusedSimpArgs false
namespace Go.AL
open Go Go.RowKit
section
variable {P : Program} {ro : Option Nat} {ds : List Deferred} {T : List AV} {H : AH} {Q : Post} {ops : Array Oper} {rest : List Oper}
variable {d : Option Tmp} {ty : TypeId} {pos : String} {af : Array Edge} {s s' : Operand} {x y : AV}

theorem HopsL_norm {louds : List Nat} {HL : Nat → AH} {n k : Nat} {Tk Tk' : List AV} {l : List Oper} {xs : List AV} (e : Tk = Tk') (h : HopsL P ro ops ds louds HL n k Tk' l xs) : HopsL P ro ops ds louds HL n k Tk l xs := e ▸ h
theorem Hops_norm {n k : Nat} {Tk Tk' : List AV} {l : List Oper} {xs : List AV} (e : Tk = Tk') (h : Hops P ro ops ds H n k Tk' l xs) : Hops P ro ops ds H n k Tk l xs := e ▸ h
/-- Ways that come together again. -/
def mQ (ds : List Deferred) (T1 : List AV) (H1 : AH) : Post := fun e ds' T' H' => e = .normal ∧ ds' = ds ∧ SubH H1 H' ∧ Weak T' T1
theorem mQ_mk {T1 : List AV} {H1 : AH} (hs : SubH H1 H) (hw : Weak T T1) : mQ ds T1 H1 .normal ds T H := ⟨rfl, rfl, hs, hw⟩
theorem AW_merge {c1 c2 : Code} (D : List Nat) (upds : List (Nat × AV)) (H1 : AH) (h1 : AW P ro c1 ds T H (mQ ds (setAll (anyAt T D) upds) H1)) (h2 : AW P ro c2 ds (setAll (anyAt T D) upds) H1 Q) : AW P ro (.seq c1 c2) ds T H Q :=
  AW_seq (AW_cut h1 fun e ds' T' H' ⟨he, hd, hs, hw⟩ => by
    subst he; subst hd
    exact AW_sub hs (AW_weaken hw h2))
theorem AW_join {c1 c2 : Code} (D : List Nat) (upds : List (Nat × AV)) (H1 : AH) (h1 : AW P ro c1 ds T H (mQ ds (setAll (anyAt T D) upds) H1)) (h2 : AW P ro c2 ds (setAll (anyAt T D) upds) H1 Q) : AW P ro c1 ds T H (seqQ P ro c2 Q) :=
  AW_cut h1 fun e ds' T' H' ⟨he, hd, hs, hw⟩ => by
    subst he; subst hd
    exact AW_sub hs (AW_weaken hw h2)
def bdN (T : List AV) (o : Option Operand) (dflt : Nat) (n : Nat) : Prop :=
  match o with
  | none => n = dflt
  | some o => ∃ k, ev T o = some (.v (.int k (n : Int)))
theorem bdN.bd {o : Option Operand} {dflt n : Nat} (h : bdN T o dflt n) : Go.AL.bd T o dflt n := by
  cases o with
  | none => exact h
  | some o => obtain ⟨k, hk⟩ := h; exact ⟨k, _, hk, by omega, rfl⟩
theorem AL_slice_strN {tx : TypeId} {p : ByteArray} {lo hi : Option Operand} {l h : Nat} (ht : P.underlying tx = some .string) (hx : ev T s = some (.v (.string p))) (hh : bdN T hi p.size h) (hl : bdN T lo 0 l) (h1 : h ≤ p.size) (h2 : l ≤ h)
    (hr : AL P ro ops rest ds (tput T d (.v (.string (p.extract l h)))) H Q) : AL P ro ops (⟨d, .slice tx s lo hi none, ty, pos, af, none⟩ :: rest) ds T H Q := AL_slice_str ht hx hh.bd hl.bd h1 h2 hr
theorem AL_slice_slN {tx e : TypeId} {sz : Nat} {xs : List AV} {lo hi : Option Operand} {l h : Nat} (ht : P.underlying tx = some (.slice e)) (hs : szOf P e = some sz) (hx : ev T s = some (.sl e xs)) (hh : bdN T hi xs.length h) (hl : bdN T lo 0 l) (h1 : h ≤ xs.length) (h2 : l ≤ h)
    (hr : AL P ro ops rest ds (tput T d (.sl e ((xs.drop l).take (h - l)))) H Q) : AL P ro ops (⟨d, .slice tx s lo hi none, ty, pos, af, none⟩ :: rest) ds T H Q := AL_slice_sl ht hs hx hh.bd hl.bd h1 h2 hr
end
end Go.AL
