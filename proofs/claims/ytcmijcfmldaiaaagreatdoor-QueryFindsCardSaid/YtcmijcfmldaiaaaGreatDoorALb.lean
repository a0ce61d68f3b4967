/- Ways out, loops, what is read from now on. -/
import Derived.Test.YtcmijcfmldaiaaaGreatDoorALa
import Derived.IntWalk
import Derived.Laws.IdiomMaps
import Derived.Laws.IdiomStrings
import Derived.Laws.BytesArg
import Derived.Lib.LaidU8T
import Derived.ProofKit
import Derived.OpenShut
import Derived.Deep.DeepHandedRow
import Derived.Lib.LaidTab
import Derived.WideKeyArgs
import Derived.Carry
import Derived.ChangeSlices
import Derived.RangeFuncRecord
import Derived.RangeFuncSeq
set_option autoImplicit false
set_option linter.unusedVariables false
set_option linter.unusedSimpArgs false
namespace Go.AL
open Go Go.RowKit

def setAll (T : List AV) (l : List (Nat × AV)) : List AV := l.foldl (fun T p => T.set p.1 p.2) T

theorem Weak.consE {x y : AV} {T T' : List AV} (e : x = y) (h : Weak T T') : Weak (x :: T) (y :: T') := e ▸ h.cons

section
variable {P : Program} {ro : Option Nat} {ds : List Deferred} {T : List AV} {H : AH} {Q : Post} {ops : Array Oper} {rest : List Oper} {c : Code} {id j : Nat}

theorem seqQ_n (h : AW P ro c ds T H Q) : seqQ P ro c Q .normal ds T H := h
theorem seqQ_x (h : Q (.exit j) ds T H) : seqQ P ro c Q (.exit j) ds T H := h
theorem seqQ_r (h : Q .ret ds T H) : seqQ P ro c Q .ret ds T H := h
theorem blockQ_n (h : Q .normal ds T H) : blockQ id Q .normal ds T H := h
theorem blockQ_r (h : Q .ret ds T H) : blockQ id Q .ret ds T H := h

def loopQ {α : Type} (ds : List Deferred) (TT : α → List AV) (HH : α → AH) (I : α → Prop) (μ : α → Nat) (s : α) (Q : Post) : Post
  | .normal, ds', T', H' => ds' = ds ∧ ∃ s', I s' ∧ μ s' < μ s ∧ Weak T' (TT s') ∧ SubH (HH s') H'
  | e, ds', T', H' => Q e ds' T' H'
section
variable {α : Type} {TT : α → List AV} {HH : α → AH} {I : α → Prop} {μ : α → Nat} {s : α}
theorem loopQ_x (h : Q (.exit j) ds T H) : loopQ ds TT HH I μ s Q (.exit j) ds T H := h
theorem loopQ_r (h : Q .ret ds T H) : loopQ ds TT HH I μ s Q .ret ds T H := h
theorem loopQ_n (s' : α) (hI : I s') (hm : μ s' < μ s) (hH : SubH (HH s') H) (hw : Weak T (TT s')) : loopQ ds TT HH I μ s Q .normal ds T H := ⟨rfl, s', hI, hm, hw, hH⟩
end

/-- A loop, its states told by a parameter. -/
theorem AW_loops {α : Type} (D : List Nat) (upds : α → List (Nat × AV)) (HH : α → AH) (I : α → Prop) (μ : α → Nat) (s0 : α) (h0 : I s0) (hH : SubH (HH s0) H) (hw : Weak T (setAll (anyAt T D) (upds s0)))
    (round : ∀ s, I s → AW P ro c ds (setAll (anyAt T D) (upds s)) (HH s) (loopQ ds (fun s => setAll (anyAt T D) (upds s)) HH I μ s Q)) : AW P ro (.loop c) ds T H Q := by
  have hex : ∃ f : List AV → AH → Nat, ∀ s, I s → True := ⟨fun _ _ => 0, fun _ _ => trivial⟩
  -- the measure goes by the least parameter that fits
  intro a w hst b k cs hro hb hr
  have key : ∀ j s a1 w1, μ s = j → I s → St P ds (setAll (anyAt T D) (upds s)) (HH s) a1 w1 → Step H w (HH s) w1 →
      ∃ e a' w', post P Q H w e a' w' ∧ ArrivesIn (Machine.fenced P (fen ro)) P (lone (b.atR a1 (.code c :: .inLoop c :: k)) cs w1) b k cs e a' w' := by
    intro j
    induction j using Nat.strongRecOn with
    | _ j ih =>
      intro s a1 w1 hn hI hst hstep
      obtain ⟨e, a2, w2, hq, harr⟩ := round s hI a1 w1 hst b (.inLoop c :: k) cs hro hb hr
      obtain ⟨ds2, T2, H2, s2, k2, q2⟩ := hq
      cases e with
      | normal =>
        obtain ⟨rfl, s', hI3, hlt, hw3, hsb⟩ := q2
        obtain ⟨e3, a3, w3, hq3, harr3⟩ := ih (μ s') (hn ▸ hlt) s' a2 w2 rfl hI3 ((s2.weak hw3).sub hsb) (Step.sub hsb (hstep.trans k2))
        exact ⟨e3, a3, w3, hq3, .of_steps (StepsIn.trans harr (.one (fenced_calm hb hr rfl) stepR_inLoop)) harr3⟩
      | exit id => exact ⟨_, a2, w2, ⟨ds2, T2, H2, s2, hstep.trans k2, q2⟩, .pass (x := .inLoop c) rfl (fun _ _ => .inl (by simp)) harr⟩
      | goto l => exact ⟨_, a2, w2, ⟨ds2, T2, H2, s2, hstep.trans k2, q2⟩, .pass (x := .inLoop c) rfl (fun _ _ => .inl (by simp)) harr⟩
      | ret => exact ⟨_, a2, w2, ⟨ds2, T2, H2, s2, hstep.trans k2, q2⟩, .pass (x := .inLoop c) rfl (fun _ _ => .inl (by simp)) harr⟩
      | panic ch => exact ⟨_, a2, w2, ⟨ds2, T2, H2, s2, hstep.trans k2, q2⟩, .pass (x := .inLoop c) rfl (fun _ _ => .inl (by simp)) harr⟩
      | outgrown => exact ⟨_, a2, w2, ⟨ds2, T2, H2, s2, hstep.trans k2, q2⟩, .pass (x := .inLoop c) rfl (fun _ _ => .inl (by simp)) harr⟩
  obtain ⟨e, a', w', hq, harr⟩ := key _ s0 a w rfl h0 ((hst.weak hw).sub hH) (Step.sub hH (.refl _ _))
  exact ⟨e, a', w', hq, .of_steps (.one (fenced_calm hb hr rfl) stepR_loop) harr⟩

theorem AW_norm {T' : List AV} (e : T = T') (h : AW P ro c ds T' H Q) : AW P ro c ds T H Q := e ▸ h
theorem AL_norm {T' : List AV} (e : T = T') (h : AL P ro ops rest ds T' H Q) : AL P ro ops rest ds T H Q := e ▸ h
theorem Q_norm {T' : List AV} {e : Exit} (h0 : T = T') (h : Q e ds T' H) : Q e ds T H := h0 ▸ h
theorem AW_weaken {T' : List AV} (e : Weak T T') (h : AW P ro c ds T' H Q) : AW P ro c ds T H Q := fun a w hst => h a w (hst.weak e)
theorem AL_weaken {T' : List AV} (e : Weak T T') (h : AL P ro ops rest ds T' H Q) : AL P ro ops rest ds T H Q := fun a w hst => h a w (hst.weak e)
theorem AW_heap {H' : AH} (e : H = H') (h : AW P ro c ds T H' Q) : AW P ro c ds T H Q := e ▸ h
theorem AL_heap {H' : AH} (e : H = H') (h : AL P ro ops rest ds T H' Q) : AL P ro ops rest ds T H Q := e ▸ h

/-- A cut: c ends as R says. -/
theorem AW_cut {R : Post} (h : AW P ro c ds T H R) (hq : ∀ e ds T H, R e ds T H → Q e ds T H) : AW P ro c ds T H Q := h.mono hq

/-- WHAT WAS OURS IS FROM NOW ON READ ONLY. -/
theorem VR.frozen {w : World} {b c : Nat} {e : TypeId} {xs : List AV} (hh : HR P H w) (hb : H b = some (.row e c xs)) : VR P w (H.upd b none) (.sl e xs) (.slice (some ⟨b, 0, none⟩) xs.length c) := by
  obtain ⟨cs, fr, h1, h2, h3, h4, h5, h6⟩ := hh b _ hb
  have hsub : SubH (H.upd b none) H := fun k o hk => by
    by_cases e : k = b
    · subst e; rw [AH.upd_same] at hk; cases hk
    · rwa [AH.upd_ne _ _ e] at hk
  have hU : ∃ U : Nat → Value, ∀ k y, (flat xs)[k]? = some y → cs[k]? = some (U k) ∧ VR P w H y (U k) := ⟨fun k => (cs[k]?).getD undef, fun k y hy => by
    obtain ⟨u, q1, q2⟩ := h6 k y hy
    show cs[k]? = some ((cs[k]?).getD undef) ∧ VR P w H y ((cs[k]?).getD undef)
    rw [q1]; exact ⟨rfl, q2⟩⟩
  obtain ⟨U, hU⟩ := hU
  refine .sl U h5 h4 (fun k y hy => ⟨_, rfl, AH.upd_same _ _ _, ?_⟩) (fun k y hy => (hU k y hy).2.sub hsub)
  rw [addr_add]
  simp only [World.cell?, h1]
  simpa using (hU k y hy).1

theorem upd_none_sub (H : AH) (b : Nat) : SubH (H.upd b none) H := fun k o hk => by
  by_cases e : k = b
  · subst e; rw [AH.upd_same] at hk; cases hk
  · rwa [AH.upd_ne _ _ e] at hk

theorem St.freeze {a : Act} {w : World} (hst : St P ds T H a w) {k A : Nat} {e : TypeId} {c n : Nat} {xs : List AV} (hk : T[k]? = some (.own (some A) c n)) (hb : H A = some (.row e c xs)) (hn : n = xs.length) :
    St P ds (T.set k (.sl e xs)) (H.upd A none) a w := by
  have h1 := hst.sub (upd_none_sub H A)
  refine ⟨h1.defers, by simpa using h1.size, fun i x hx => ?_, h1.heap⟩
  rw [List.getElem?_set] at hx
  split at hx
  · rename_i e1
    subst e1
    split at hx
    · injection hx with hx
      subst hx
      obtain ⟨u, hu, hv⟩ := hst.vals _ _ hk
      obtain ⟨B, hu', hB, _⟩ := hv.own_inv
      obtain rfl := hB A rfl
      refine ⟨u, hu, ?_⟩
      rw [hu', hn]
      exact VR.frozen hst.heap hb
    · cases hx
  · exact h1.vals i x hx
theorem AL_freeze {A : Nat} {e : TypeId} {c n : Nat} {xs : List AV} (k : Nat) (hk : T[k]? = some (.own (some A) c n)) (hb : H A = some (.row e c xs)) (hn : n = xs.length) (h : AL P ro ops rest ds (T.set k (.sl e xs)) (H.upd A none) Q) : AL P ro ops rest ds T H Q :=
  fun a w hst => wpListIn_mono (fun _ _ _ p => post.back (Step.sub (upd_none_sub H A) (.refl _ _)) p) (fun _ => trivial) _ _ _ (h a w (hst.freeze hk hb hn))
theorem AW_freeze {c' : Code} {A : Nat} {e : TypeId} {c n : Nat} {xs : List AV} (k : Nat) (hk : T[k]? = some (.own (some A) c n)) (hb : H A = some (.row e c xs)) (hn : n = xs.length) (h : AW P ro c' ds (T.set k (.sl e xs)) (H.upd A none) Q) : AW P ro c' ds T H Q :=
  fun a w hst => wpIn_mono (h a w (hst.freeze hk hb hn)) fun _ _ _ p => post.back (Step.sub (upd_none_sub H A) (.refl _ _)) p
theorem St.nilsl {a : Act} {w : World} (hst : St P ds T H a w) {k : Nat} {e : TypeId} (hk : T[k]? = some (.own none 0 0)) : St P ds (T.set k (.sl e [])) H a w := by
  refine ⟨hst.defers, by simpa using hst.size, fun i x hx => ?_, hst.heap⟩
  rw [List.getElem?_set] at hx
  split at hx
  · rename_i e1
    subst e1
    split at hx
    · injection hx with hx
      subst hx
      obtain ⟨u, hu, hv⟩ := hst.vals _ _ hk
      obtain ⟨B, hu', _, _⟩ := hv.own_inv
      refine ⟨u, hu, ?_⟩
      rw [hu']
      exact .sl (xs := []) (c := 0) (fun _ => undef) (by simp) (by simp) (fun k y h => by simp [flat] at h) (fun k y h => by simp [flat] at h)
    · cases hx
  · exact hst.vals i x hx
theorem AL_nilsl {e : TypeId} (k : Nat) (hk : T[k]? = some (.own none 0 0)) (h : AL P ro ops rest ds (T.set k (.sl e [])) H Q) : AL P ro ops rest ds T H Q := fun a w hst => h a w (hst.nilsl hk)
theorem AW_nilsl {e : TypeId} (k : Nat) (hk : T[k]? = some (.own none 0 0)) (h : AW P ro c ds (T.set k (.sl e [])) H Q) : AW P ro c ds T H Q := fun a w hst => h a w (hst.nilsl hk)
end
end Go.AL

/- Small words for the generated texts. -/
set_option autoImplicit false
set_option linter.unusedVariables false
set_option linter.unusedSimpArgs false
namespace Go.AL
open Go Go.RowKit

theorem AH.look_other {H : AH} {b b' : Nat} {o o' : Option AO} (h : b ≠ b') (k : H b = o) : (H.upd b' o') b = o := by rw [AH.upd_ne _ _ h]; exact k
theorem AH.ne_of {H : AH} {b k : Nat} {o : AO} (h : (H.upd b (some o)) k = none) : k ≠ b := fun e => by subst e; rw [AH.upd_same] at h; cases h
theorem AH.old_of {H : AH} {b k : Nat} {o : AO} (h : (H.upd b (some o)) k = none) : H k = none := by
  have := AH.ne_of h
  rwa [AH.upd_ne _ _ this] at h
theorem SubH.new {A B : AH} {b : Nat} {o : Option AO} (h : SubH A B) (hb : B b = Option.none) : SubH A (B.upd b o) := h.upd (h.none hb)
theorem AH.rem_upd {H : AH} {b : Nat} {o : AO} (h : H b = none) : (H.upd b (some o)).rem (some b) = H := by
  funext k; simp only [AH.rem, AH.upd]; split
  · rename_i e; rw [e, h]
  · rfl
theorem AH.upd_none_eq {H : AH} {b : Nat} {o : Option AO} (h : H b = none) : (H.upd b o).upd b none = H := by
  funext k; simp only [AH.upd]; split
  · rename_i e; rw [e, h]
  · rfl

section
variable {P : Program} {ds : List Deferred} {T : List AV} {H : AH} {K : AV → AH → Prop}
theorem K_eq {x r : AV} (e : x = r) (h : K r H) : K x H := e ▸ h
theorem K_eqs {x r : AV} {H' : AH} (e : x = r) (e' : H = H') (h : K r H') : K x H := e ▸ e' ▸ h

/-- A result that lies in a cell. -/
theorem retQ_c {e0 : Exit} {H' : AH} {a : Tmp} {t e : TypeId} {b i sz o n c : Nat} {bg : Bool} {xs : List AV} {x y : AV} (he0 : e0 = .normal ∨ e0 = .ret) (ha : aggOf P t = some bg) (hs : szOf P t = some n) (he : szOf P e = some sz) (hn : bg = false → n = 1) (hx : T[a]? = some (.pt b i sz o)) (hH : H b = some (.row e c xs)) (hi : xs[i]? = some x)
    (hy : subAV bg n x o = some y) (hb : y.isAg = bg) (hsub : SubH H' H) (k : K y H') : retQ P [.cell a t] K e0 [] T H :=
  ⟨he0, rfl, [y], H', .cons (.cell hx hH he hi ha hs hy hb hn) .nil, hsub, k⟩
theorem retQ_cw {e0 : Exit} {H' : AH} {a : Tmp} {t : TypeId} {b sz c : Nat} {x : AV} (he0 : e0 = .normal ∨ e0 = .ret) (hs : szOf P t = some sz) (hx : T[a]? = some (.pt b 0 sz 0)) (hH : H b = some (.row t c [x])) (ha : aggOf P t = some x.isAg)
    (hc : x.cells.length = sz) (hsub : SubH H' H) (k : K x H') : retQ P [.cell a t] K e0 [] T H := by
  refine retQ_c (y := x) he0 ha hs hs (fun hb => ?_) hx hH rfl ?_ rfl hsub k
  · rw [AV.cells_of_not hb] at hc; simpa using hc.symm
  · unfold subAV
    cases hb : x.isAg with
    | true => rw [if_pos rfl, if_pos (by omega)]; rw [AV.of_isAg hb] at hc ⊢; simp only [AV.cells] at hc ⊢; rw [List.drop_zero, ← hc, List.take_length]
    | false => rw [if_neg (by simp), AV.cells_of_not hb]; rfl
theorem retQ_l {e0 : Exit} {H' : AH} {rs : List ResultVar} {xs : List AV} (he0 : e0 = .normal ∨ e0 = .ret) (h : RVL P T H rs xs) (hsub : SubH H' H) (k : K (pack xs) H') : retQ P rs K e0 [] T H :=
  ⟨he0, rfl, xs, H', h, hsub, k⟩
end
theorem decide_false_of {p : Prop} [Decidable p] (h : decide p = false) : ¬ p := by simpa using h
theorem decide_true_of {p : Prop} [Decidable p] (h : decide p = true) : p := by simpa using h
end Go.AL

/- Statements whose order is open. -/
set_option autoImplicit false
set_option linter.unusedVariables false
set_option linter.unusedSimpArgs false
namespace Go.AL
open Go Go.RowKit

def tmpsOf : List Operand → List Nat
  | [] => []
  | .tmp t :: l => t :: tmpsOf l
  | _ :: l => tmpsOf l
def dstOf (ops : Array Oper) (i : Nat) : Option Nat := (ops[i]?).bind (·.dst)
def readsOf (ops : Array Oper) (i : Nat) : List Nat :=
  match ops[i]? with
  | some o => tmpsOf o.op.operands.toList ++ (match o.guard with | some (j, _) => (dstOf ops j).toList | none => [])
  | none => []
/-- a direct edge that always binds -/
def depOf (ops : Array Oper) (i j : Nat) : Bool :=
  match ops[i]? with
  | some o => o.after.toList.any fun e => Nat.beq e.on j && Region.binds .any e
  | none => false
def downOk (ops : Array Oper) : Bool := (List.range ops.size).all fun i => match ops[i]? with
  | some o => o.after.toList.all fun e => !Region.binds .any e || Nat.ble (e.on + 1) i
  | none => true
def quietOk (ops : Array Oper) : Bool :=
  downOk ops && !Region.departs ops &&
  (List.range ops.size).all fun i =>
    (List.range ops.size).all fun j =>
      (Nat.beq i j || (match dstOf ops i, dstOf ops j with | some a, some b => !Nat.beq a b | _, _ => true)) &&
      (match dstOf ops j with
        | some d => !(readsOf ops i).contains d || (bif Nat.ble (j + 1) i then depOf ops i j else (!Nat.beq i j && depOf ops j i))
        | none => true)

/-- The state when the operations of S have been carried out. -/
def TS (ops : Array Oper) (X : Nat → AV) (T0 : List AV) (S : List Nat) : List AV :=
  T0.mapIdx fun k x => match S.find? (fun i => dstOf ops i == some k) with | some i => X i | none => x

theorem TS_nil (ops : Array Oper) (X : Nat → AV) (T0 : List AV) : TS ops X T0 [] = T0 := by
  unfold TS; apply List.ext_getElem? ; intro k; simp
theorem TS_length (ops : Array Oper) (X : Nat → AV) (T0 : List AV) (S : List Nat) : (TS ops X T0 S).length = T0.length := by simp [TS]
theorem TS_get (ops : Array Oper) (X : Nat → AV) (T0 : List AV) (S : List Nat) (k : Nat) : (TS ops X T0 S)[k]? = (T0[k]?).map fun x => match S.find? (fun i => dstOf ops i == some k) with | some i => X i | none => x := by
  simp [TS]

theorem TS_cons {ops : Array Oper} {X : Nat → AV} {T0 : List AV} {S : List Nat} {i : Nat} : TS ops X T0 (i :: S) = tput (TS ops X T0 S) (dstOf ops i) (X i) := by
  apply List.ext_getElem?
  intro k
  rw [TS_get]
  simp only [List.find?_cons]
  cases hd : dstOf ops i with
  | none => simp only [tput]; rw [TS_get]; rfl
  | some d =>
    simp only [tput]
    rw [List.getElem?_set, TS_length, TS_get]
    by_cases hk : d = k
    · subst hk
      simp only [beq_self_eq_true, if_true]
      by_cases hlt : d < T0.length
      · simp [hlt]
      · simp [hlt, List.getElem?_eq_none (Nat.le_of_not_lt hlt)]
    · have : (some d == some k) = false := by simpa using hk
      simp only [this, hk, if_false]

section
variable {P : Program} {ro : Option Nat} {ds : List Deferred} {T0 : List AV} {H : AH} {Q : Post} {ops : Array Oper}

def qpost (ds : List Deferred) (H : AH) (R : List AV) : Post := fun e ds' T' H' => e = .normal ∧ ds' = ds ∧ H' = H ∧ Weak T' R
theorem qpost_mk {T R : List AV} (h : Weak T R) : qpost ds H R .normal ds T H := ⟨rfl, rfl, rfl, h⟩

/-- What each operation owes: at any state that is as the text's order has it where the operation looks. -/
def Hops (P : Program) (ro : Option Nat) (ops : Array Oper) (ds : List Deferred) (H : AH) (n : Nat) : Nat → List AV → List Oper → List AV → Prop
  | _, _, [], [] => True
  | k, Tk, o :: l, x :: xs => (∀ T : List AV, T.length = n → (∀ s, (readsOf ops k).contains s = true → T[s]? = Tk[s]?) → AL P ro ops [o] ds T H (qpost ds H (tput T o.dst x))) ∧ Hops P ro ops ds H n (k + 1) (tput Tk o.dst x) l xs
  | _, _, _, _ => False

def Tfin (Tk : List AV) : List Oper → List AV → List AV
  | o :: l, x :: xs => Tfin (tput Tk o.dst x) l xs
  | _, _ => Tk

theorem Hops_get : ∀ (l : List Oper) (xs : List AV) (k : Nat) (Tk : List AV) (n : Nat), Hops P ro ops ds H n k Tk l xs → l.length = xs.length ∧
    ∀ i o, l[i]? = some o → ∃ x, xs[i]? = some x ∧ ∀ T : List AV, T.length = n → (∀ s, (readsOf ops (k + i)).contains s = true → T[s]? = (Tfin Tk (l.take i) (xs.take i))[s]?) → AL P ro ops [o] ds T H (qpost ds H (tput T o.dst x)) := by
  intro l
  induction l with
  | nil => intro xs k Tk n h; cases xs with | nil => exact ⟨rfl, fun i o h => by simp at h⟩ | cons x xs => exact h.elim
  | cons o l ih =>
    intro xs k Tk n h
    cases xs with
    | nil => exact h.elim
    | cons x xs =>
      obtain ⟨h1, h2⟩ := h
      obtain ⟨e, g⟩ := ih xs (k + 1) _ n h2
      refine ⟨by simp [e], fun i o' hi => ?_⟩
      cases i with
      | zero => simp at hi; subst hi; exact ⟨x, rfl, fun T hT hr => h1 T hT (by simpa [Tfin] using hr)⟩
      | succ i =>
        obtain ⟨y, hy, hg⟩ := g i o' (by simpa using hi)
        refine ⟨y, by simpa using hy, fun T hT hr => hg T hT fun s hs => ?_⟩
        have := hr s (by rw [show k + (i + 1) = k + 1 + i by omega]; exact hs)
        simpa [Tfin] using this

/-- The text's order, as a set. -/
theorem Tfin_TS {xs : List AV} (hl : ops.toList.length = xs.length) : ∀ i, i ≤ ops.size → Tfin T0 (ops.toList.take i) (xs.take i) = TS ops (fun i => xs.getD i .any) T0 (List.range i).reverse := by
  intro i
  induction i with
  | zero => intro _; simp [Tfin, TS_nil]
  | succ i ih =>
    intro hi
    have hi2 : i < ops.size := hi
    have hi' : i < ops.toList.length := by simpa using hi2
    have hx : i < xs.length := by omega
    have step : ∀ (l : List Oper) (xs : List AV) (Tk : List AV) (i : Nat) (o : Oper) (x : AV), l[i]? = some o → xs[i]? = some x → Tfin Tk (l.take (i + 1)) (xs.take (i + 1)) = tput (Tfin Tk (l.take i) (xs.take i)) o.dst x := by
      intro l
      induction l with
      | nil => intro xs Tk i o x h; simp at h
      | cons p l ihl =>
        intro xs Tk i o x ho hx
        cases xs with
        | nil => simp at hx
        | cons q xs =>
          cases i with
          | zero => simp at ho hx; subst ho; subst hx; simp [Tfin]
          | succ i => simpa [Tfin] using ihl xs (tput Tk p.dst q) i o x (by simpa using ho) (by simpa using hx)
    rw [step _ _ _ i _ _ (List.getElem?_eq_getElem hi') (List.getElem?_eq_getElem hx), ih (by omega), List.range_succ, List.reverse_append]
    simp only [List.reverse_cons, List.reverse_nil, List.nil_append, List.cons_append]
    rw [TS_cons]
    congr 1
    · simp [dstOf, hi2]
    · simp [List.getD_eq_getElem?_getD, hx]

theorem wpOpsIn_cons {F : Fence} {n i : Nat} {l : List Nat} {R : Exit → Act → World → Prop} {o : Oper} (ho : ops[i]? = some o) (a : Act) (w : World)
    (h : wpListIn F n P ops (Exit.then (wpOpsIn F n P ops R l) R) [o] a w) : wpOpsIn F n P ops R (i :: l) a w := by
  simp only [wpOpsIn, ho]
  simp only [wpListIn] at h
  split at h
  · rename_i hw; rw [if_pos hw]
    obtain ⟨h1, h2⟩ := h
    refine ⟨h1, ?_⟩
    revert h2
    cases (Oper.semAt F.round a.eval o).run P w with
    | halt x w' => cases x <;> exact fun h => h
    | ok nx w' =>
      have lo : LetsOut (Exit.then (wpOpsIn F n P ops R l) R) → LetsOut R := fun ⟨a0, w0, h0⟩ => ⟨a0, w0, h0⟩
      cases nx with
      | value v => exact fun h => h
      | skip => exact fun h => h
      | enter f args => exact fun h => ⟨h.1, h.2.mono fun e w'' r => by cases e <;> first | exact r | exact lo r⟩
      | row row args => exact fun h => h
      | round l f tmps assign body => exact fun h => ⟨h.1, h.2.mono fun e w'' r => by cases e <;> first | exact r | exact lo r⟩
      | _ => first | exact fun h => h | exact fun h => h
  · rename_i hw; rw [if_neg hw]; exact h

theorem wpOpsIn_back {H1 : AH} {w w1 : World} (k1 : Step H w H1 w1) : ∀ (l : List Nat) (a : Act) (w' : World), wpOpsIn (fen ro) 0 P ops (post P Q H1 w1) l a w' → wpOpsIn (fen ro) 0 P ops (post P Q H w) l a w' := by
  intro l
  induction l with
  | nil => intro a w' h; exact post.back k1 h
  | cons i l ihl =>
    intro a w' h
    cases ho' : ops[i]? with
    | none => simp only [wpOpsIn, ho'] at h ⊢; exact ihl a w' h
    | some o' =>
      refine wpOpsIn_cons ho' a w' ?_
      have h' : wpListIn (fen ro) 0 P ops (Exit.then (wpOpsIn (fen ro) 0 P ops (post P Q H1 w1) l) (post P Q H1 w1)) [o'] a w' := by
        simp only [wpOpsIn, ho'] at h
        simp only [wpListIn]
        split at h
        · rename_i hw; rw [if_pos hw]
          obtain ⟨h1, h2⟩ := h
          refine ⟨h1, ?_⟩
          revert h2
          cases (Oper.semAt (fen ro).round a.eval o').run P w' with
          | halt x w' => cases x <;> exact fun h => h
          | ok nx w' =>
            have lo : LetsOut (post P Q H1 w1) → LetsOut (Exit.then (wpOpsIn (fen ro) 0 P ops (post P Q H1 w1) l) (post P Q H1 w1)) := fun ⟨a0, w0, h0⟩ => ⟨a0, w0, h0⟩
            cases nx with
            | enter f args => exact fun h => ⟨h.1, h.2.mono fun e w'' r => by cases e <;> first | exact r | exact lo r⟩
            | round l f tmps assign body => exact fun h => ⟨h.1, h.2.mono fun e w'' r => by cases e <;> first | exact r | exact lo r⟩
            | _ => exact fun h => h
        · rename_i hw; rw [if_neg hw]; exact h
      refine wpListIn_mono (fun e a w h => ?_) (fun _ => trivial) _ _ _ h'
      cases e with
      | normal => exact ihl a w h
      | _ => exact post.back k1 h

theorem pig : ∀ (n : Nat) (S : List Nat), S.Nodup → (∀ i ∈ S, i < n) → S.length ≤ n := by
  intro n
  induction n with
  | zero => intro S _ h; cases S with | nil => simp | cons a S => exact absurd (h a (by simp)) (Nat.not_lt_zero _)
  | succ n ih =>
    intro S hn h
    have h1 := ih (S.erase n) (hn.erase n) (fun i hi => by
      have h2 := h i (List.mem_of_mem_erase hi)
      have h3 : i ≠ n := fun e => by subst e; exact (hn.mem_erase_iff.1 hi).1 rfl
      omega)
    rw [List.length_erase] at h1
    split at h1 <;> omega

theorem find_mem {S : List Nat} {k j : Nat} (hd : ∀ i j, dstOf ops i = some k → dstOf ops j = some k → i ∈ S → i = j) (hj : dstOf ops j = some k) : S.find? (fun i => dstOf ops i == some k) = if j ∈ S then some j else none := by
  by_cases h : j ∈ S
  · rw [if_pos h]
    cases hf : S.find? (fun i => dstOf ops i == some k) with
    | none => rw [List.find?_eq_none] at hf; exact absurd (by simpa using hj) (hf j h)
    | some i =>
      have h1 := List.find?_some hf
      have h2 := List.mem_of_find?_eq_some hf
      rw [hd i j (by simpa using h1) hj h2]
  · rw [if_neg h, List.find?_eq_none]
    intro i hi h1
    rw [hd i j (by simpa using h1) hj hi] at hi
    exact h hi

/-- What a schedule is made of. -/
theorem go_append (m : Region.Mode) : ∀ (fuel t : Nat) (listed : Array Bool) (acc : List Nat), Region.linearise.go m ops fuel t listed acc = acc.reverse ++ Region.linearise.go m ops fuel t listed [] := by
  intro fuel
  induction fuel with
  | zero => intro t listed acc; simp [Region.linearise.go]
  | succ fuel ih =>
    intro t listed acc
    simp only [Region.linearise.go]
    split
    · rename_i i hi
      rw [ih _ _ (i :: acc), ih _ _ [i]]
      simp
    · simp

theorem AW_draw {id : Nat} {xs : List AV} (hq : quietOk ops = true) (hop : Hops P ro ops ds H T0.length 0 T0 ops.toList xs) (h : Q .normal ds (Tfin T0 ops.toList xs) H) : AW P ro (.region id ops true) ds T0 H Q := by
  obtain ⟨hlen, hg⟩ := Hops_get _ _ _ _ _ hop
  simp only [Nat.zero_add] at hg
  simp only [quietOk, Bool.and_eq_true, Bool.not_eq_true', List.all_eq_true] at hq
  obtain ⟨⟨hdown, hdep⟩, hq⟩ := hq
  have hq1 : ∀ i j k, i < ops.size → j < ops.size → dstOf ops i = some k → dstOf ops j = some k → i = j := by
    intro i j k hi hj h1 h2
    have := (hq i (by simpa using hi) j (by simpa using hj)).1
    rw [h1, h2] at this
    simp only [Bool.or_eq_true, Bool.not_eq_true'] at this
    rcases this with h | h
    · exact Nat.eq_of_beq_eq_true h
    · simp at h
  have hq2 : ∀ i j d, i < ops.size → j < ops.size → dstOf ops j = some d → (readsOf ops i).contains d = true → (j < i → depOf ops i j = true) ∧ (¬ j < i → i ≠ j ∧ depOf ops j i = true) := by
    intro i j d hi hj h1 h2
    have := (hq i (by simpa using hi) j (by simpa using hj)).2
    rw [h1] at this
    simp only [h2, Bool.not_true, Bool.false_or] at this
    by_cases hlt : j < i
    · have hb : Nat.ble (j + 1) i = true := Nat.ble_eq_true_of_le hlt
      rw [hb] at this
      exact ⟨fun _ => this, fun h => absurd hlt h⟩
    · have hb : Nat.ble (j + 1) i = false := by
        cases hbb : Nat.ble (j + 1) i with
        | false => rfl
        | true => exact absurd (Nat.le_of_ble_eq_true hbb) hlt
      rw [hb] at this
      simp only [cond_false, Bool.and_eq_true, Bool.not_eq_true'] at this
      refine ⟨fun h => absurd h hlt, fun _ => ⟨fun e => ?_, this.2⟩⟩
      subst e
      have := this.1
      simp at this
  have hdst : ∀ i k, dstOf ops i = some k → i < ops.size := by
    intro i k hi
    unfold dstOf at hi
    rcases Nat.lt_or_ge i ops.size with h | h
    · exact h
    · simp [Array.getElem?_eq_none h] at hi
  have fin : ∀ (S : List Nat) (a : Act) (w : World), (∀ i ∈ S, i < ops.size) → (∀ i, i < ops.size → i ∈ S) → St P ds (TS ops (fun i => xs.getD i .any) T0 S) H a w → post P Q H w .normal a w := by
    intro S a w hS hall hst
    refine ⟨ds, _, H, hst, .refl _ _, ?_⟩
    have e1 : TS ops (fun i => xs.getD i .any) T0 S = Tfin T0 ops.toList xs := by
      have e2 := Tfin_TS (T0 := T0) hlen ops.size (Nat.le_refl _)
      rw [show ops.toList.take ops.size = ops.toList from List.take_of_length_le (by simp), show xs.take ops.size = xs from List.take_of_length_le (by rw [← hlen]; simp)] at e2
      rw [e2]
      apply List.ext_getElem?
      intro k
      rw [TS_get, TS_get]
      congr 1
      funext x
      by_cases hk : ∃ j, dstOf ops j = some k
      · obtain ⟨j, hj⟩ := hk
        rw [find_mem (fun i j h1 h2 _ => hq1 i j k (hdst _ _ h1) (hdst _ _ h2) h1 h2) hj, find_mem (fun i j h1 h2 _ => hq1 i j k (hdst _ _ h1) (hdst _ _ h2) h1 h2) hj, if_pos (hall j (hdst _ _ hj)), if_pos (by simpa using hdst _ _ hj)]
      · have hno : ∀ S : List Nat, S.find? (fun i => dstOf ops i == some k) = none := fun S => by
          rw [List.find?_eq_none]; intro i _ hi; exact hk ⟨i, by simpa using hi⟩
        rw [hno, hno]
    rw [e1]; exact h
  -- the walk over a schedule
  have key : ∀ (fuel t : Nat) (listed : Array Bool) (S : List Nat) (a : Act) (w : World), listed.size = ops.size → (∀ i, i < ops.size → (listed.getD i true = true ↔ i ∈ S)) → (∀ i ∈ S, i < ops.size) →
      (∀ i ∈ S, ∀ j, depOf ops i j = true → j ∈ S) → ops.size ≤ fuel + S.length → S.Nodup → St P ds (TS ops (fun i => xs.getD i .any) T0 S) H a w →
      wpOpsIn (fen ro) 0 P ops (post P Q H w) (Region.linearise.go .any ops fuel t listed []) a w := by
    intro fuel
    induction fuel with
    | zero =>
      intro t listed S a w hsz hls hS hcl hfuel hnd hst
      simp only [Region.linearise.go, List.reverse_nil, wpOpsIn]
      refine fin S a w hS (fun i hi => ?_) hst
      by_cases hm : i ∈ S
      · exact hm
      · exfalso
        have := pig ops.size (i :: S) (List.nodup_cons.2 ⟨hm, hnd⟩) (fun j hj => by simp only [List.mem_cons] at hj; rcases hj with rfl | hj; exact hi; exact hS j hj)
        simp at this; omega
    | succ fuel ih =>
      intro t listed S a w hsz hls hS hcl hfuel hnd hst
      simp only [Region.linearise.go]
      split
      · rename_i i hi
        rw [go_append]
        simp only [List.reverse_cons, List.reverse_nil, List.nil_append, List.cons_append]
        have hmem := List.mem_of_getElem? hi
        simp only [List.mem_filter, List.mem_range, Bool.and_eq_true, Bool.not_eq_true'] at hmem
        obtain ⟨hin, hnl, hdeps⟩ := hmem
        have hiS : i ∉ S := fun hm => by rw [(hls i hin).2 hm] at hnl; cases hnl
        obtain ⟨o, ho⟩ : ∃ o, ops[i]? = some o := ⟨ops[i], Array.getElem?_eq_getElem hin⟩
        rw [ho] at hdeps
        simp only [Option.map_some, Option.getD_some] at hdeps
        have hpre : ∀ j, depOf ops i j = true → j ∈ S := by
          intro j hj
          unfold depOf at hj
          rw [ho] at hj
          simp only [List.any_eq_true, Bool.and_eq_true] at hj
          obtain ⟨e, he, h1, h2⟩ := hj
          replace h1 : e.on = j := Nat.eq_of_beq_eq_true h1
          rw [Array.all_eq_true_iff_forall_mem] at hdeps
          have := hdeps e (by simpa using he)
          rw [h2] at this
          simp only [Bool.not_true, Bool.false_or] at this
          rw [h1] at this
          have hjlt : j < ops.size := by
            rcases Nat.lt_or_ge j ops.size with h | h
            · exact h
            · rw [Array.getD_eq_getD_getElem?, Array.getElem?_eq_none (by omega)] at this; simp at this
          have h3 : listed.getD j true = true := by
            rw [Array.getD_eq_getD_getElem?] at this ⊢
            rw [Array.getElem?_eq_getElem (by omega)] at this ⊢
            simpa using this
          exact (hls j hjlt).1 h3
        obtain ⟨x, hx, hop⟩ := hg i o (by simpa using ho)
        have hal := hop (TS ops (fun i => xs.getD i .any) T0 S) (TS_length _ _ _ _) (fun s hs => by
          rw [Tfin_TS hlen i (by omega), TS_get, TS_get]
          congr 1
          funext y
          by_cases hk : ∃ j, dstOf ops j = some s
          · obtain ⟨j, hj⟩ := hk
            have hjn := hdst _ _ hj
            rw [find_mem (fun i j h1 h2 _ => hq1 i j s (hdst _ _ h1) (hdst _ _ h2) h1 h2) hj, find_mem (fun i j h1 h2 _ => hq1 i j s (hdst _ _ h1) (hdst _ _ h2) h1 h2) hj]
            obtain ⟨q1, q2⟩ := hq2 i j s hin hjn hj hs
            by_cases hlt : j < i
            · rw [if_pos (hpre j (q1 hlt)), if_pos (by simpa using hlt)]
            · have := q2 hlt
              rw [if_neg (fun hm => hiS (hcl j hm i this.2)), if_neg (by simpa using hlt)]
          · have hno : ∀ S : List Nat, S.find? (fun i => dstOf ops i == some s) = none := fun S => by
              rw [List.find?_eq_none]; intro i _ hi; exact hk ⟨i, by simpa using hi⟩
            rw [hno, hno])
        refine wpOpsIn_cons ho a w ?_
        refine wpListIn_mono ?_ (fun _ => trivial) _ _ _ (hal a w hst)
        rintro e a1 w1 ⟨ds1, T1, H1, s1, k1, rfl, rfl, rfl, hw1⟩
        have s2 := s1.weak hw1
        have hd : o.dst = dstOf ops i := by simp [dstOf, ho]
        have hxe : x = xs.getD i .any := by simp [List.getD_eq_getElem?_getD, hx]
        rw [hd, hxe] at s2
        rw [← TS_cons (ops := ops) (X := fun i => xs.getD i .any)] at s2
        have hrun := fun t' => ih t' (listed.setIfInBounds i true) (i :: S) a1 w1 (by simpa using hsz) (fun j hj => by
            rw [Array.getD_eq_getD_getElem?, Array.getElem?_setIfInBounds]
            by_cases e : i = j
            · subst e; rw [if_pos rfl, if_pos (by omega)]; simp
            · rw [if_neg e]
              have := hls j hj
              rw [Array.getD_eq_getD_getElem?] at this
              rw [this]; simp [Ne.symm e])
          (fun j hj => by simp only [List.mem_cons] at hj; rcases hj with rfl | hj; exact hin; exact hS j hj)
          (fun j hj q hq => by
            simp only [List.mem_cons] at hj ⊢
            rcases hj with rfl | hj
            · exact .inr (hpre q hq)
            · exact .inr (hcl j hj q hq))
          (by simp; omega) (List.nodup_cons.2 ⟨hiS, hnd⟩) s2
        exact wpOpsIn_back k1 _ _ _ (hrun _)
      · -- nothing is ready: all has been carried out
        rename_i hnone
        simp only [List.reverse_nil, wpOpsIn]
        have hempty : ∀ i, i < ops.size → i ∈ S := by
          intro i
          induction i using Nat.strongRecOn with
          | _ i ihi =>
            intro hi
            by_cases hm : i ∈ S
            · exact hm
            · exfalso
              have hin : i ∈ (List.range ops.size).filter fun i => !listed.getD i true && ((ops[i]?).map (·.after.all fun e => !Region.binds .any e || listed.getD e.on false)).getD false := by
                simp only [List.mem_filter, List.mem_range, Bool.and_eq_true, Bool.not_eq_true']
                refine ⟨hi, ?_, ?_⟩
                · cases hb : listed.getD i true with
                  | false => rfl
                  | true => exact absurd ((hls i hi).1 hb) hm
                · have ho : ops[i]? = some ops[i] := Array.getElem?_eq_getElem hi
                  rw [ho]
                  simp only [Option.map_some, Option.getD_some]
                  rw [Array.all_eq_true_iff_forall_mem]
                  intro e he
                  cases hb : Region.binds .any e with
                  | false => rfl
                  | true =>
                    unfold downOk at hdown
                    rw [List.all_eq_true] at hdown
                    have hd := hdown i (by simpa using hi)
                    rw [ho] at hd
                    simp only [List.all_eq_true] at hd
                    have hd2 := hd e (by simpa using he)
                    rw [hb] at hd2
                    simp only [Bool.not_true, Bool.false_or] at hd2
                    have hlt : e.on < i := Nat.le_of_ble_eq_true hd2
                    have hmem := ihi e.on hlt (by omega)
                    have h3 := (hls e.on (by omega)).2 hmem
                    rw [Array.getD_eq_getD_getElem?, Array.getElem?_eq_getElem (by omega)] at h3 ⊢
                    simpa using h3
              rw [List.getElem?_eq_none_iff] at hnone
              have hpos := List.length_pos_of_mem hin
              have := Nat.mod_lt t hpos
              omega
        exact fin S a w hS hempty hst
  intro a w hst
  refine wpIn_region_draw fun t => ?_
  have hst1 : St P ds (TS ops (fun i => xs.getD i .any) T0 []) H a w.drew := by
    rw [TS_nil]
    exact ⟨hst.defers, hst.size, fun k x hx => let ⟨u, h1, h2⟩ := hst.vals k x hx; ⟨u, h1, h2.step (Step.drew' H w)⟩, fun b o hb => (hst.heap b o hb).keep (Step.drew' H w) rfl⟩
  have hsch : Region.schedule (P.follows .mixedOrders) ops t = Region.linearise .any ops t := by
    unfold Region.schedule
    rw [hdep]
    simp
  rw [hsch]
  have hrun := key ops.size t (Array.replicate ops.size false) [] a w.drew (by simp) (fun i hi => by simp [Array.getD_eq_getD_getElem?, hi]) (fun i hi => by simp at hi) (fun i hi => by simp at hi) (by simp) List.nodup_nil hst1
  have hback : ∀ (l : List Nat) a w', wpOpsIn (fen ro) 0 P ops (post P Q H w.drew) l a w' → wpOpsIn (fen ro) 0 P ops (post P Q H w) l a w' := fun l a w' h => wpOpsIn_back (Step.drew' H w) l a w' h
  exact hback _ _ _ hrun
end
end Go.AL

/- Maps with strings for keys; contracts of the library as calls of this logic; bools; what is forgotten. -/
set_option autoImplicit false
set_option linter.unusedVariables false
set_option linter.unusedSimpArgs false
namespace Go.AL
open Go Go.RowKit

section
variable {P : Program} {ro : Option Nat} {ds : List Deferred} {T : List AV} {H : AH} {Q : Post} {ops : Array Oper} {rest : List Oper}
variable {d : Option Tmp} {ty : TypeId} {pos : String} {af : Array Edge} {s s' : Operand} {x y : AV}

/-! bools -/
theorem AL_beql {tx ty' : TypeId} {p q : Bool} (hx : ev T s = some (.v (.bool p))) (hy : ev T s' = some (.v (.bool q))) (ht : P.underlying tx = some .bool)
    (h : AL P ro ops rest ds (tput T d (.v (.bool (p == q)))) H Q) : AL P ro ops (⟨d, .binOp .eql tx s s' ty', ty, pos, af, none⟩ :: rest) ds T H Q :=
  AL_pure (PV_bin hx hy fun w => ⟨by unfold eqGuard; simp, by simp [binOp, run_equal_bool _ _ _ _ ht]⟩) rfl (fun _ h => nomatch h) h
theorem AL_bneq {tx ty' : TypeId} {p q : Bool} (hx : ev T s = some (.v (.bool p))) (hy : ev T s' = some (.v (.bool q))) (ht : P.underlying tx = some .bool)
    (h : AL P ro ops rest ds (tput T d (.v (.bool (p != q)))) H Q) : AL P ro ops (⟨d, .binOp .neq tx s s' ty', ty, pos, af, none⟩ :: rest) ds T H Q :=
  AL_pure (PV_bin hx hy fun w => ⟨by unfold eqGuard; simp, by simp [binOp, run_equal_bool _ _ _ _ ht, bne]⟩) rfl (fun _ h => nomatch h) h

/-! shifts and the like, of two numbers of any kinds -/
theorem AL_bin {op : BinOp} {tx ty' : TypeId} {u v r : Value} (hx : ev T s = some (.v u)) (hy : ev T s' = some (.v v)) (hr : ∀ w, (eqGuard op tx s s' u v).run P w = .ok () w ∧ (binOp op tx u v).run P w = .ok r w)
    (h : AL P ro ops rest ds (tput T d (.v r)) H Q) : AL P ro ops (⟨d, .binOp op tx s s' ty', ty, pos, af, none⟩ :: rest) ds T H Q :=
  AL_pure (PV_bin hx hy hr) rfl (fun _ h => nomatch h) h

/-! what is forgotten -/
theorem AW_sub {c : Code} {H' : AH} (hs : SubH H' H) (h : AW P ro c ds T H' Q) : AW P ro c ds T H Q :=
  fun a w hst => wpIn_mono (h a w (hst.sub hs)) fun _ _ _ p => post.back (Step.sub hs (.refl _ _)) p
theorem AL_sub' {H' : AH} (hs : SubH H' H) (h : AL P ro ops rest ds T H' Q) : AL P ro ops rest ds T H Q :=
  fun a w hst => wpListIn_mono (fun _ _ _ p => post.back (Step.sub hs (.refl _ _)) p) (fun _ => trivial) _ _ _ (h a w (hst.sub hs))

/-! maps -/
def mapE (l : List (ByteArray × Value)) : Array MapEntry := (l.zipIdx.map fun p => (⟨.string p.1.1, p.1.2, p.2⟩ : MapEntry)).toArray
def mapObj (l : List (ByteArray × Value)) : Obj := .map (mapE l) l.length
def mapGet (l : List (ByteArray × Value)) (k : ByteArray) : Option Value := (l.find? fun p => decide (p.1 = k)).map (·.2)
def mapSet : List (ByteArray × Value) → ByteArray → Value → List (ByteArray × Value)
  | [], k, v => [(k, v)]
  | p :: l, k, v => if p.1 = k then (k, v) :: l else p :: mapSet l k v

theorem run_newObj' (o : Obj) (w : World) : (newObj o).run P w = .ok w.heap.size (w.alloc o) := rfl

theorem AL_makeMap {t : TypeId} (h : ∀ b, H b = none → AL P ro ops rest ds (tput T d (.v (.map (some b)))) (H.upd b (some (.raw (mapObj [])))) Q) : AL P ro ops (⟨d, .makeMap t none, ty, pos, af, none⟩ :: rest) ds T H Q :=
  AL_op rfl (fun _ h => nomatch h) fun a w hst => by
    have hn := HR.none_new hst.heap
    refine ⟨.map (some w.heap.size), w.alloc (mapObj []), .v (.map (some w.heap.size)), _, ?_, .v _, HR.alloc hst.heap ?_, Step.alloc w _ _ hn, h _ hn⟩
    · simp [execOp, Instr.makeMap, run_newObj', mapObj, mapE]
    · exact heap_alloc_new w _

theorem beq_string (a b : ByteArray) : (a == b) = decide (a = b) := by
  by_cases h : a = b
  · subst h; simp only [decide_true]; exact (Go.MapKept.bytes_beq a a).2 rfl
  · simp only [h, decide_false]; exact Bool.eq_false_iff.2 fun e => h ((Go.MapKept.bytes_beq a b).1 e)

theorem findNow_map (k : ByteArray) : ∀ (l : List (ByteArray × Value)) (j i : Nat), Instr.findNow .string (.string k) (l.zipIdx j |>.map fun p => (⟨.string p.1.1, p.1.2, p.2⟩ : MapEntry)) i =
    some ((l.findIdx? fun p => decide (p.1 = k)).map fun n => (i + n, ((l[n]?).map (·.2)).getD undef)) := by
  intro l
  induction l with
  | nil => intro j i; rfl
  | cons p l ih =>
    intro j i
    rw [List.zipIdx_cons, List.map_cons, List.findIdx?_cons]
    simp only [Instr.findNow, Instr.sameNow, beq_string]
    by_cases hp : p.1 = k
    · simp [hp]
    · have hp' : ¬ k = p.1 := fun e => hp e.symm
      simp only [hp', hp, decide_false, ih, Bool.false_eq_true, if_false]
      congr 1
      cases (List.findIdx? (fun p => decide (p.1 = k)) l) <;> simp [Nat.add_assoc, Nat.add_comm 1]

theorem findKey_map {kt : TypeId} (ht : P.underlying kt = some .string) (k : ByteArray) (l : List (ByteArray × Value)) (w : World) :
    (Instr.findKey kt (.string k) (mapE l).toList).run P w = .ok ((l.findIdx? fun p => decide (p.1 = k)).map fun n => (n, ((l[n]?).map (·.2)).getD undef)) w := by
  have := findNow_map k l 0 0
  simp only [Nat.zero_add] at this
  simp [Instr.findKey, run_underlying ht, mapE, this]

theorem checkKey_strn {kt : TypeId} (ht : P.underlying kt = some .string) (b : Bool) (k : ByteArray) (n : Nat) (w : World) : (Instr.checkKey b (n + 1) kt (.string k)).run P w = .ok () w := by
  simp only [Instr.checkKey, Sem.run_bind, run_underlying ht, Result.andThen_ok]
  simp
theorem checkKey_str {kt : TypeId} (ht : P.underlying kt = some .string) (b : Bool) (k : ByteArray) (w : World) : (Instr.checkKey b 10000 kt (.string k)).run P w = .ok () w := checkKey_strn ht b k 9999 w

theorem mapGet_idx (l : List (ByteArray × Value)) (k : ByteArray) : mapGet l k = (l.findIdx? fun p => decide (p.1 = k)).map fun n => ((l[n]?).map (·.2)).getD undef := by
  unfold mapGet
  induction l with
  | nil => rfl
  | cons p l ih =>
    rw [List.find?_cons, List.findIdx?_cons]
    by_cases hp : p.1 = k
    · simp [hp]
    · simp only [hp, decide_false, Bool.false_eq_true, if_false]
      rw [ih]
      cases (List.findIdx? (fun p => decide (p.1 = k)) l) <;> simp

theorem AL_lookup {t kt e : TypeId} {b : Nat} {k : ByteArray} {l : List (ByteArray × Value)} {z : Value} (ht : P.underlying t = some (.map kt e)) (hk : P.underlying kt = some .string) (hz : zeroOf P e = some z)
    (hx : ev T s = some (.v (.map (some b)))) (hy : ev T s' = some (.v (.string k))) (hH : H b = some (.raw (mapObj l)))
    (h : AL P ro ops rest ds (tput T d (.tup [.v ((mapGet l k).getD z), .v (.bool (mapGet l k).isSome)])) H Q) : AL P ro ops (⟨d, .lookup t s s' true, ty, pos, af, none⟩ :: rest) ds T H Q :=
  AL_op rfl (fun _ h => nomatch h) fun a w hst => by
    have hb : w.heap[b]? = some (mapObj l) := hst.heap b _ hH
    refine ⟨.tuple #[(mapGet l k).getD z, .bool (mapGet l k).isSome], w, _, H, ?_, .tup rfl fun i y u hy hu => ?_, hst.heap, .refl _ _, h⟩
    · have e1 : (execOp a.eval (⟨d, .lookup t s s' true, ty, pos, af, none⟩ : Oper)).run P w = ((Instr.lookup t (.map (some b)) (.string k) true).run P w).andThen fun v w => .ok (.value v) w := by
        simp [execOp, hst.evv hx, hst.evv hy]
      rw [e1]
      have e2 := findKey_map (P := P) hk k l w
      rw [mapGet_idx]
      simp only [Instr.lookup, Sem.run_bind, run_underlying ht, Result.andThen_ok, Go.MapKept.run_getObj_map (show w.heap[b]? = some (.map (mapE l) l.length) from hb), checkKey_str hk, e2]
      cases hf : (List.findIdx? (fun p => decide (p.1 = k)) l) <;> simp [e2, hf, run_zeroValue' hz]
    · match i with
      | 0 => simp at hy hu; subst hy; subst hu; exact .v _
      | 1 => simp at hy hu; subst hy; subst hu; exact .v _
      | i + 2 => simp at hy

theorem mapE_size (l : List (ByteArray × Value)) : (mapE l).size = l.length := by simp [mapE]
theorem mapE_push (l : List (ByteArray × Value)) (k : ByteArray) (v : Value) : (mapE l).push ⟨.string k, v, l.length⟩ = mapE (l ++ [(k, v)]) := by
  simp [mapE, List.zipIdx_append]
theorem mapSet_none : ∀ (l : List (ByteArray × Value)) (k : ByteArray) (v : Value), (l.findIdx? fun p => decide (p.1 = k)) = none → mapSet l k v = l ++ [(k, v)]
  | [], k, v, _ => rfl
  | p :: l, k, v, h => by
    rw [List.findIdx?_cons] at h
    by_cases hp : p.1 = k
    · simp [hp] at h
    · simp [hp] at h
      rw [mapSet, if_neg hp, mapSet_none l k v (by simpa using h)]; rfl
theorem mapSet_some : ∀ (l : List (ByteArray × Value)) (k : ByteArray) (v : Value) (i : Nat), (l.findIdx? fun p => decide (p.1 = k)) = some i → mapSet l k v = l.set i (k, v) ∧ (l[i]?).map (·.1) = some k
  | [], k, v, i, h => by simp at h
  | p :: l, k, v, i, h => by
    rw [List.findIdx?_cons] at h
    by_cases hp : p.1 = k
    · simp [hp] at h; subst h; simp [mapSet, hp]
    · simp only [hp, decide_false, Bool.false_eq_true, if_false, Option.map_eq_some_iff] at h
      obtain ⟨j, hj, rfl⟩ := h
      obtain ⟨h1, h2⟩ := mapSet_some l k v j hj
      rw [mapSet, if_neg hp, h1]
      exact ⟨rfl, by simpa using h2⟩

theorem mapE_get (l : List (ByteArray × Value)) (i : Nat) : (mapE l)[i]? = (l[i]?).map fun p => (⟨.string p.1, p.2, i⟩ : MapEntry) := by
  simp only [mapE, List.getElem?_toArray, List.getElem?_map, List.getElem?_zipIdx, Nat.zero_add]
  cases l[i]? <;> rfl
theorem mapE_set (l : List (ByteArray × Value)) (k : ByteArray) (v : Value) (i : Nat) (hi : i < l.length) :
    (mapE l).modify i (fun e => { e with key := .string k, val := v }) = mapE (l.set i (k, v)) := by
  apply Array.ext_getElem?
  intro j
  rw [Array.getElem?_modify, mapE_get, mapE_get, List.getElem?_set]
  by_cases hj : i = j
  · subst hj
    simp [hi]
  · simp only [hj, if_false]
    try cases l[j]? <;> rfl

theorem sameBits_str (n : Nat) (k : ByteArray) : Instr.sameBits n (.string k) (.string k) = true := by
  cases n <;> simp [Instr.sameBits, beq_string]
theorem run_keyThatStays (k : ByteArray) (w : World) : (Instr.keyThatStays (.string k) (.string k)).run P w = .ok (.string k) w := by
  simp only [Instr.keyThatStays, sameBits_str, if_true]; rfl

theorem AL_mapUpdate {t kt e : TypeId} {b : Nat} {k : ByteArray} {v : Value} {s'' : Operand} {l : List (ByteArray × Value)} (ht : P.underlying t = some (.map kt e)) (hk : P.underlying kt = some .string)
    (hx : ev T s = some (.v (.map (some b)))) (hy : ev T s' = some (.v (.string k))) (hv : ev T s'' = some (.v v)) (hH : H b = some (.raw (mapObj l)))
    (h : AL P ro ops rest ds (tput T d (.v undef)) (H.upd b (some (.raw (mapObj (mapSet l k v))))) Q) : AL P ro ops (⟨d, .mapUpdate t s s' s'', ty, pos, af, none⟩ :: rest) ds T H Q :=
  AL_opu rfl (fun _ h => nomatch h) fun a w hst => by
    have hb : w.heap[b]? = some (mapObj l) := hst.heap b _ hH
    have hlt : b < w.heap.size := (Array.getElem?_eq_some_iff.1 hb).1
    let w' : World := { w with heap := w.heap.setIfInBounds b (mapObj (mapSet l k v)) }
    have hb' : w'.heap[b]? = some (mapObj (mapSet l k v)) := by show (w.heap.setIfInBounds b (mapObj (mapSet l k v)))[b]? = _; rw [Array.getElem?_setIfInBounds, if_pos rfl, if_pos hlt]
    have hbut : But b w w' := ⟨rfl, rfl, rfl, by show _ ≤ (w.heap.setIfInBounds b (mapObj (mapSet l k v))).size; simp, fun j hj hne => by show (w.heap.setIfInBounds b (mapObj (mapSet l k v)))[j]? = _; rw [Array.getElem?_setIfInBounds, if_neg (Ne.symm hne)]⟩
    have hstep : Step H w (H.upd b (some (.raw (mapObj (mapSet l k v))))) w' := Step.of_but hbut (by rw [hH]; simp) fun j hj hn => by
      rw [AH.upd_ne _ _ (fun e => by rw [e, hH] at hn; cases hn)]; exact hn
    refine ⟨w', _, ?_, HR.of_but hst.heap hbut hstep (fun j o hj ho => by rwa [AH.upd_ne _ _ hj] at ho) (fun o ho => ?_), hstep, h⟩
    · have e2 := findKey_map (P := P) hk k l w
      have e3 : (execOp a.eval (⟨d, .mapUpdate t s s' s'', ty, pos, af, none⟩ : Oper)).run P w = ((Instr.mapUpdate t (.map (some b)) (.string k) v).run P w).andThen fun _ w => .ok .skip w := by
        simp [execOp, hst.evv hx, hst.evv hy, hst.evv hv]
      rw [e3]
      have e4 : ∀ o : Obj, (setObj b o).run P w = .ok () { w with heap := w.heap.setIfInBounds b o } := fun o => Go.MapKept.run_setObj_map o (show w.heap[b]? = some (.map (mapE l) l.length) from hb)
      simp only [Instr.mapUpdate, Sem.run_bind, run_underlying ht, Result.andThen_ok, Go.MapKept.run_getObj_map (show w.heap[b]? = some (.map (mapE l) l.length) from hb), checkKey_str hk, e2]
      cases hf : (List.findIdx? (fun p => decide (p.1 = k)) l) with
      | none =>
        simp only [Option.map_none, e4, Result.andThen_ok]
        rw [mapE_push]
        have e5 : mapObj (mapSet l k v) = .map (mapE (l ++ [(k, v)])) (l.length + 1) := by simp [mapObj, mapSet_none l k v hf]
        show Result.ok _ _ = Result.ok _ w'
        simp only [w', e5]
      | some i =>
        obtain ⟨h1, h2⟩ := mapSet_some l k v i hf
        have hi : i < l.length := by
          cases hl : l[i]? with
          | none => rw [hl] at h2; simp at h2
          | some p => exact (List.getElem?_eq_some_iff.1 hl).1
        have hke : ((((mapE l)[i]?).map (·.key)).getD (.string k)) = .string k := by
          rw [mapE_get]
          cases hl : l[i]? with
          | none => simp
          | some p => rw [hl] at h2; simp at h2; simp [h2]
        simp only [Option.map_some, Sem.run_bind, hke, run_keyThatStays, Result.andThen_ok, e4]
        rw [mapE_set l k v i hi]
        have e5 : mapObj (mapSet l k v) = .map (mapE (l.set i (k, v))) l.length := by simp [mapObj, h1]
        show Result.ok _ _ = Result.ok _ w'
        simp only [w', e5]
    · rw [AH.upd_same] at ho; injection ho with ho; subst ho; exact hb'

/-! contracts of the library's -/
theorem Step.ofBelow {w w' : World} (H : AH) (h : Below w.heap.size w w') : Step H w H w' := ⟨h.os, h.tape, h.output, h.size, fun b hb hn => ⟨h.block b hb, hn⟩⟩
theorem HR.ofBelow {w w' : World} (hh : HR P H w) (h : Below w.heap.size w w') : HR P H w' := fun b o hb => (hh b o hb).keep (Step.ofBelow H h) (h.block b (hh b o hb).lt)

/-- A contract whose answer is a plain value. -/
theorem AC_calls {f : FuncId} {args : List AV} {vs0 : Array Value} {r : Value} {K : AV → AH → Prop} (hv : ∀ w (vs : Array Value), args.length = vs.size → (∀ (k : Nat) (x : AV) (u : Value), args[k]? = some x → vs[k]? = some u → VR P w H x u) → vs = vs0)
    (hc : ∀ w, HR P H w → Calls P f vs0 w fun e w' => e = .returned r ∧ Below w.heap.size w w') (k : K (.v r) H) : AC P f args H K := fun w vs hl hvs hh => by
  rw [hv w vs hl hvs]
  rw [fen_none, callsIn_wide]
  refine (hc w hh).mono ?_
  rintro e w' ⟨rfl, hb⟩
  exact ⟨r, .v r, H, rfl, .v _, hh.ofBelow hb, Step.ofBelow H hb, k⟩

/-- Pure functions under a condition on what is ours. -/
def PI (I : AH → Prop) (P : Program) (f : FuncId) (args : List AV) (r : AV) : Prop := ∀ H (K : AV → AH → Prop), I H → K r H → AC P f args H K
theorem PF.pi {I : AH → Prop} {f : FuncId} {args : List AV} {r : AV} (h : PF P f args r) : PI I P f args r := fun H K _ hK => h H K hK
theorem AL_callpi {I : AH → Prop} {f : FuncId} {args : Array Operand} {ats : Array TypeId} {xs : List AV} {r : AV} (hf : entersOf P f = true) (hx : EvL T args.toList xs) (hI : I H) (hc : PI I P f xs r)
    (h : AL P ro ops rest ds (tput T d r) H Q) : AL P ro ops (⟨d, .call ⟨.value (.func f), args, ats⟩, ty, pos, af, none⟩ :: rest) ds T H Q :=
  AL_call (K := fun x H' => x = r ∧ H' = H) hf hx (hc H _ hI ⟨rfl, rfl⟩) (fun x H' ⟨e1, e2⟩ => by subst e1; subst e2; exact h)

/-- These raw blocks lie. -/
def Lies (bs : List (Nat × Obj)) (H : AH) : Prop := ∀ p ∈ bs, H p.1 = some (.raw p.2)
theorem Lies.upd {bs : List (Nat × Obj)} {b : Nat} {o : Option AO} (h : Lies bs H) (hb : H b = none) : Lies bs (H.upd b o) := fun p hp => by
  rw [AH.upd_ne _ _ (fun e => by have := h p hp; rw [e, hb] at this; cases this)]; exact h p hp
theorem Lies.sub {bs : List (Nat × Obj)} {H' : AH} (h : Lies bs H) (hs : SubH H H') : Lies bs H' := fun p hp => hs _ _ (h p hp)
theorem PI.below {I : AH → Prop} {f : FuncId} {args : List AV} {vs0 : Array Value} {r : Value} (hv : ∀ (H : AH) w (vs : Array Value), args.length = vs.size → (∀ (k : Nat) (x : AV) (u : Value), args[k]? = some x → vs[k]? = some u → VR P w H x u) → vs = vs0)
    (hc : ∀ H w, I H → HR P H w → Calls P f vs0 w fun e w' => e = .returned r ∧ Below w.heap.size w w') : PI I P f args (.v r) := fun H K hI hK => AC_calls (hv H) (fun w hh => hc H w hI hh) hK
end
end Go.AL

/- Tables that lie; values that are plain; bytes into strings; one accumulator. -/
set_option autoImplicit false
set_option linter.unusedVariables false
set_option linter.unusedSimpArgs false
namespace Go.AL
open Go Go.RowKit

section
variable {P : Program} {ro : Option Nat} {ds : List Deferred} {T : List AV} {H : AH} {Q : Post} {ops : Array Oper} {rest : List Oper}
variable {d : Option Tmp} {ty : TypeId} {pos : String} {af : Array Edge} {s s' : Operand} {x y : AV}

/-- The blocks bs lie, and of them φ holds. -/
def Holds (bs : List Nat) (φ : World → Prop) (H : AH) : Prop :=
  ∃ os : Nat → Obj, (∀ b, b ∈ bs → H b = some (.raw (os b))) ∧ ∀ w : World, (∀ b, b ∈ bs → w.heap[b]? = some (os b)) → φ w
theorem Holds.upd {bs : List Nat} {φ : World → Prop} {b : Nat} {o : Option AO} (h : Holds bs φ H) (hb : H b = none) : Holds bs φ (H.upd b o) :=
  let ⟨os, h1, h2⟩ := h; ⟨os, fun k hk => by rw [AH.upd_ne _ _ (fun e => by have := h1 k hk; rw [e, hb] at this; cases this)]; exact h1 k hk, h2⟩
theorem Holds.sub {bs : List Nat} {φ : World → Prop} {H' : AH} (h : Holds bs φ H) (hs : SubH H H') : Holds bs φ H' :=
  let ⟨os, h1, h2⟩ := h; ⟨os, fun k hk => hs _ _ (h1 k hk), h2⟩
theorem Holds.here {bs : List Nat} {φ : World → Prop} {w : World} (h : Holds bs φ H) (hh : HR P H w) : φ w :=
  let ⟨os, h1, h2⟩ := h; h2 w fun b hb => hh b _ (h1 b hb)

/-- The heap that owns just these blocks of w. -/
def tabH (bs : List Nat) (w : World) : AH := fun b => if b ∈ bs then (w.heap[b]?).map .raw else none
theorem tabH_HR (bs : List Nat) (w : World) : HR P (tabH bs w) w := fun b o hb => by
  unfold tabH at hb
  split at hb
  · obtain ⟨q, hq, rfl⟩ := Option.map_eq_some_iff.1 hb; exact hq
  · cases hb
theorem tabH_holds {bs : List Nat} {φ : World → Prop} {w : World} (hl : ∀ b, b ∈ bs → b < w.heap.size) (h : ∀ w' : World, (∀ b, b ∈ bs → w'.heap[b]? = w.heap[b]?) → φ w') : Holds bs φ (tabH bs w) := by
  refine ⟨fun b => (w.heap[b]?).getD default, fun b hb => ?_, fun w' hw => h w' fun b hb => ?_⟩
  · unfold tabH
    rw [if_pos hb]
    cases hx : w.heap[b]? with
    | none => have := hl b hb; rw [Array.getElem?_eq_none_iff] at hx; omega
    | some o => simp [hx]
  · rw [hw b hb]
    cases hx : w.heap[b]? with
    | none => have := hl b hb; rw [Array.getElem?_eq_none_iff] at hx; omega
    | some o => simp [hx]

/-- OUT OF THE LOGIC. -/
theorem AC.calls {f : FuncId} {args : List AV} {vs : Array Value} {w : World} {r : Value} (bs : List Nat) (hl : args.length = vs.size) (hv : ∀ (k : Nat) (x : AV) (u : Value), args[k]? = some x → vs[k]? = some u → VR P w (tabH bs w) x u)
    (h : AC P f args (tabH bs w) fun x H' => x = .v r ∧ H' = tabH bs w) : Calls P f vs w fun e w' => e = .returned r ∧ Below w.heap.size w w' := by
  have h1 := h w vs hl hv (tabH_HR bs w)
  rw [fen_none, callsIn_wide] at h1
  refine h1.mono ?_
  rintro e w' ⟨v, x, H', rfl, hx, hh, hst, rfl, rfl⟩
  cases hx
  refine ⟨rfl, hst.os, hst.tape, hst.output, hst.size, fun k hk => ?_⟩
  by_cases hb : k ∈ bs
  · have e1 : tabH bs w k = (w.heap[k]?).map .raw := by unfold tabH; rw [if_pos hb]
    cases hx : w.heap[k]? with
    | none => rw [Array.getElem?_eq_none_iff] at hx; omega
    | some o => rw [hx] at e1; exact hh k _ e1
  · exact (hst.keep k hk (by unfold tabH; rw [if_neg hb])).1

/-- Values that are told whole. -/
def concV : AV → Option Value
  | .v x => some x
  | .fn f [] [] => some (.func f #[] #[])
  | _ => none
theorem VR.conc {w : World} {u u0 : Value} (h : VR P w H x u) (hc : concV x = some u0) : u = u0 := by
  unfold concV at hc
  split at hc
  · injection hc with hc; subst hc; exact h.v_inv
  · injection hc with hc; subst hc
    obtain ⟨vf, vc, rfl, h1, h2, _, _⟩ := h.fn_inv
    have e1 : vf = #[] := by simpa using h1.symm
    have e2 : vc = #[] := by simpa using h2.symm
    rw [e1, e2]
  · cases hc
theorem VR.concs {w : World} {args : List AV} {vs vs0 : Array Value} (hl : args.length = vs.size) (hv : ∀ (k : Nat) (x : AV) (u : Value), args[k]? = some x → vs[k]? = some u → VR P w H x u)
    (hc : args.map concV = vs0.toList.map some) : vs = vs0 := by
  have hlen : vs.size = vs0.size := by
    have := congrArg List.length hc
    simp at this; omega
  apply Array.ext_getElem?
  intro k
  by_cases hk : k < vs.size
  · have e1 : args[k]? = some (args[k]'(by omega)) := List.getElem?_eq_getElem (by omega)
    have e2 : vs[k]? = some vs[k] := Array.getElem?_eq_getElem hk
    have hcv : (args.map concV)[k]? = (vs0.toList.map some)[k]? := by rw [hc]
    rw [List.getElem?_map, e1, List.getElem?_map] at hcv
    have e3 : vs0[k]? = some (vs0[k]'(by omega)) := Array.getElem?_eq_getElem (by omega)
    rw [Array.getElem?_toList, e3] at hcv
    simp only [Option.map_some, Option.some.injEq] at hcv
    rw [e2, e3, (hv k _ _ e1 e2).conc hcv]
  · rw [Array.getElem?_eq_none (by omega), Array.getElem?_eq_none (by omega)]

/-- A contract of the library's whose arguments are told whole. -/
theorem PI.contract {I : AH → Prop} {f : FuncId} {args : List AV} {r : Value} (vs0 : Array Value) (hc : args.map concV = vs0.toList.map some)
    (h : ∀ H w, I H → HR P H w → Calls P f vs0 w fun e w' => e = .returned r ∧ Below w.heap.size w w') : PI I P f args (.v r) :=
  PI.below (fun H w vs hl hv => VR.concs hl hv hc) h
theorem PF.contract {f : FuncId} {args : List AV} {r : Value} (vs0 : Array Value) (hc : args.map concV = vs0.toList.map some)
    (h : ∀ w, Calls P f vs0 w fun e w' => e = .returned r ∧ Below w.heap.size w w') : PF P f args (.v r) := fun H K hK =>
  AC_calls (fun w vs hl hv => VR.concs hl hv hc) (fun w _ => h w) hK
/-- A pure function, seen from outside. -/
theorem PF.calls {f : FuncId} {args : List AV} {r : Value} {vs0 : Array Value} (hc : args.map concV = vs0.toList.map some) (h : PF P f args (.v r)) (w : World) : Calls P f vs0 w fun e w' => e = .returned r ∧ Below w.heap.size w w' := by
  have hlen : args.length = vs0.size := by have := congrArg List.length hc; simpa using this
  refine AC.calls [] hlen (fun k x u hx hu => ?_) (h _ _ ⟨rfl, rfl⟩)
  have hcv : (args.map concV)[k]? = (vs0.toList.map some)[k]? := by rw [hc]
  rw [List.getElem?_map, hx, List.getElem?_map, Array.getElem?_toList, hu] at hcv
  simp only [Option.map_some, Option.some.injEq] at hcv
  unfold concV at hcv
  split at hcv
  · injection hcv with hcv; subst hcv; exact .v _
  · injection hcv with hcv; subst hcv; exact .fn rfl rfl (fun k y u h => by simp at h) (fun k y u h => by simp at h)
  · cases hcv

/-- A nil slice that is handed back reads as an empty one. -/
theorem AC_niled {e : TypeId} {f : FuncId} {args : List AV} {K : AV → AH → Prop} (h : AC P f args H fun x H' => K x H' ∨ (x = .own none 0 0 ∧ K (.sl e []) H')) : AC P f args H K := fun w vs hl hv hh => by
  refine (h w vs hl hv hh).mono ?_
  rintro e' w' ⟨v, x, H', rfl, hx, hr, hst, hk | ⟨rfl, hk⟩⟩
  · exact ⟨v, x, H', rfl, hx, hr, hst, hk⟩
  · exact ⟨v, .sl e [], H', rfl, hx.nilsl, hr, hst, hk⟩

/-! bytes into strings -/
def byteAV (b : UInt8) : AV := .v (.int .u8 b.toNat)
theorem flat_bytes (bs : List UInt8) : flat (bs.map byteAV) = bs.map byteAV := by
  induction bs with
  | nil => rfl
  | cons b bs ih => simp only [flat, List.map_cons, List.flatMap_cons] at ih ⊢; rw [ih]; rfl
theorem strOfNums_bytes (bs : List UInt8) : strOfNums (bs.map fun b => (b.toNat : Int)) = ⟨bs.toArray⟩ := by
  unfold strOfNums
  rw [List.map_map]
  have : ((fun n : Int => UInt8.ofNat n.toNat) ∘ fun b : UInt8 => (b.toNat : Int)) = id := by funext b; simp
  rw [this, List.map_id]
theorem AL_convBytes {src dst e : TypeId} {A : Option Nat} {c n : Nat} {bs : List UInt8} (hs : P.underlying src = some (.slice e)) (he : P.underlying e = some (.int .u8)) (hd : P.underlying dst = some .string) (hz : szOf P e = some 1)
    (hx : ev T s = some (.own A c n)) (hown : Own H A e c (bs.map byteAV)) (hn : n = bs.length)
    (h : AL P ro ops rest ds (tput T d (.v (.string ⟨bs.toArray⟩))) H Q) : AL P ro ops (⟨d, .convert src dst s, ty, pos, af, none⟩ :: rest) ds T H Q := by
  refine AL_pure ?_ rfl (fun _ h => nomatch h) h
  intro ds a w hst
  obtain ⟨B, hu, hB, hA⟩ := (hst.ev hx).own_inv
  refine ⟨_, ?_, .v _⟩
  simp only [execOp, hu, Sem.run_bind]
  cases A with
  | none =>
    obtain ⟨_, hb⟩ := hown
    have hb0 : bs = [] := by simpa using hb
    subst hb0
    obtain ⟨rfl, rfl⟩ := hA rfl
    cases B with
    | none => rw [run_convert_bytes_nil w src e hs he 0 0 dst hd]; rfl
    | some b0 =>
      have := run_convert_bytes_back (P := P) w src dst e b0 0 [] hs he hd (fun j hj => by simp at hj)
      rw [show ([] : List UInt8).length = 0 from rfl] at this
      rw [this]; rfl
  | some b =>
    obtain ⟨cs, fr, h1, h2, h3, h4, h5, h6⟩ := hst.heap b _ hown
    obtain rfl := hB b rfl
    rw [run_convert_bytes_arg w src e hs he b 0 n c (bs.map fun b => (b.toNat : Int)) (by simp [hn]) (fun i hi => ?_) dst hd]
    · rw [strOfNums_bytes]; rfl
    · rw [hn] at hi
      obtain ⟨u, hu1, hu2⟩ := h6 i (byteAV bs[i]) (by rw [flat_bytes]; simp [hi])
      have hu3 : u = .int .u8 (bs[i]).toNat := hu2.v_inv
      have e1 : w.cell? ⟨b, 0 + i, none⟩ = some u := by simp only [World.cell?, h1]; simpa using hu1
      rw [e1, hu3]; simp [hi]

/-- The byte at a place. -/
def bAt (p : ByteArray) (i : Nat) : UInt8 := p.data.toList.getD i 0
theorem bAt_eq {p : ByteArray} {i : Nat} (h : i < p.size) : p[i] = bAt p i := by
  unfold bAt
  rw [List.getD_eq_getElem?_getD, Array.getElem?_toList, Array.getElem?_eq_getElem h]; rfl
theorem AL_index_strb {tx : TypeId} {p : ByteArray} {k : IntKind} {i : Int} (ht : P.underlying tx = some .string) (hx : ev T s = some (.v (.string p))) (hi : ev T s' = some (.v (.int k i))) (h0 : 0 ≤ i) (h1 : i.toNat < p.size)
    (h : AL P ro ops rest ds (tput T d (.v (.int .u8 ((bAt p i.toNat).toNat : Int)))) H Q) : AL P ro ops (⟨d, .index tx s s', ty, pos, af, none⟩ :: rest) ds T H Q :=
  AL_index_str ht hx hi h0 h1 (by rw [bAt_eq h1]; exact h)

theorem AL_index_strn {tx : TypeId} {p : ByteArray} {k : IntKind} {i : Nat} (ht : P.underlying tx = some .string) (hx : ev T s = some (.v (.string p))) (hi : ev T s' = some (.v (.int k (i : Int)))) (h0 : 0 ≤ (i : Int)) (h1 : i < p.size)
    (h : AL P ro ops rest ds (tput T d (.v (.int .u8 ((bAt p i).toNat : Int)))) H Q) : AL P ro ops (⟨d, .index tx s s', ty, pos, af, none⟩ :: rest) ds T H Q :=
  AL_index_strb ht hx hi h0 (by simpa using h1) (by simpa using h)
theorem inc64 {i : Nat} (h : i < 9223372036854775807) : IntKind.i64.wrap ((i : Int) + 1) = ((i + 1 : Nat) : Int) := by
  rw [Go.IntWalk.i64_in _ (by omega)]; rfl

/-! one accumulator -/
def Fresh (H : AH) (A : Option Nat) (c : Nat) (xs : List AV) : Prop :=
  match A with
  | none => c = 0 ∧ xs = []
  | some b => H b = none
theorem Fresh.own {A : Option Nat} {e : TypeId} {c : Nat} {xs : List AV} (h : Fresh H A c xs) : Own (H.put A e c xs) A e c xs := by
  cases A with
  | none => exact h
  | some b => exact AH.upd_same _ _ _
theorem Fresh.rem {A : Option Nat} {e : TypeId} {c : Nat} {xs : List AV} (h : Fresh H A c xs) : (H.put A e c xs).rem A = H := by
  cases A with
  | none => rfl
  | some b => exact AH.rem_upd h
theorem Fresh.subH {A : Option Nat} {e : TypeId} {c : Nat} {xs : List AV} (h : Fresh H A c xs) : SubH H (H.put A e c xs) := by
  cases A with
  | none => exact .refl _
  | some b => exact (SubH.refl _).upd h
theorem AL_append1p {ty2 : TypeId} {pos2 : String} {af2 : Array Edge} {t e : TypeId} {q : Tmp} {A : Option Nat} {c n : Nat} {xs : List AV} {z : Value} {sz bytes : Nat}
    (ht : P.underlying t = some (.slice e)) (hi : infoOf P e = some (some z, sz, bytes)) (hzs : z.cells.size = sz) (hb0 : 0 < bytes) (hszb : sz ≤ 16777216) (hs0 : 0 < sz)
    (hs : ev T s = some (.own A c n)) (hy : ev T s' = some y) (hsq : s ≠ .tmp q) (hq : Nat.blt q T.length = true) (hm : y.mem = true) (hyn : y.cells.length = sz) (hf : Fresh H A c xs) (hn : n = xs.length) (hbound : (n + 1) * bytes ≤ 140737488355328)
    (h : ∀ b c', H b = none → AL P ro ops rest ds (tput (T.set q .any) d (.own (some b) c' (n + 1))) (H.put (some b) e c' (xs ++ [y])) Q) :
    AL P ro ops (⟨some q, .buildSlice t 1 #[(0, s')], ty, pos, af, none⟩ :: ⟨d, .call ⟨.builtin .append, #[s, .tmp q], #[t, t]⟩, ty2, pos2, af2, none⟩ :: rest) ds T (H.put A e c xs) Q :=
  AL_append1 hs hy hsq (by simpa using hq) hm hf.own hn ht hi hzs hb0 hyn hbound hszb hs0 (by rw [hf.rem]; exact h)
end
end Go.AL

/- From the logic to a row's post: laws whose arguments are left alone. -/
set_option autoImplicit false
set_option linter.unusedVariables false
namespace Go.AL
open Go Go.RowKit Go.ChangeShapes Go.WideShapes Go.ChangeAt

section
variable {H : Type} {enc : TypeId × Value → H} {P : Program}
theorem post_of_below {f : Func} {s : ChangeSpec} {apart fresh handsOn again : Bool} {W W' : World} {args : Array Value} {v : Value} {ds gs : List (DataW H)} {before pa pv : List MemPlace}
    (hW : DataW.Whole enc P f.params.toList s.vars apart W args.toList ds gs before)
    (hres : ∀ (b : Nat) (sp : Nat → Bool) (hd : Bool), DataW.TrodAll enc P W' b sp hd f.resultTypes.toList (v.resultList f.resultTypes.size) (s.fn H (ds ++ gs)).results [])
    (hargs : ∀ sp : Nat → Bool, (∀ p ∈ before, sp p.block = true) → DataW.TrodAll enc P W' 0 sp true f.params.toList args.toList (s.fn H (ds ++ gs)).args pa)
    (hvars : ∀ sp : Nat → Bool, (∀ p ∈ before, sp p.block = true) → DataW.TrodVars enc P W' sp s.vars (s.fn H (ds ++ gs)).vars pv)
    (hps : before = pa ++ pv) (hb : Below W.heap.size W W')
    (hok : ∀ (j : Nat) (t : TypeId) (r : Value), f.resultTypes[j]? = some t → (v.resultList f.resultTypes.size)[j]? = some r → Value.okWide P W' .any 0 t r) :
    s.post enc P f apart fresh handsOn again W args v W' := by
  have hlt : ∀ p ∈ before, p.block < W.heap.size := fun p hp => hW.lt p hp
  have hold : ∀ p ∈ before, (fun b => decide (b < W.heap.size)) p.block = true := fun p hp => by simpa using hlt p hp
  refine ⟨ds, gs, before, [], pa, pv, hW, hres _ _ _, hargs _ hold, hvars _ hold, hb.frame _, fun _ => ?_⟩
  obtain ⟨_, _, _, _, _, hz, hn⟩ := hW
  refine ⟨hok, _, _, ([] ++ pa) ++ pv, ⟨[] ++ pa, pv, trodAll_append (hargs _ (fun _ _ => rfl)) (hres _ _ _), hvars _ (fun _ _ => rfl), rfl, ?_, ?_⟩, ?_⟩
  · intro b off hp
    have hp' : MemPlace.cell b off ∈ before := by rw [hps]; simpa using hp
    have e := World.frozen?_of_block (w := W) (w' := W') (a := ⟨b, off, none⟩) (hb.block b (hlt _ hp'))
    rw [e]; exact hz b off hp'
  · intro ha
    have := hn ha
    rw [hps] at this
    simpa using this
  · intro p hp _
    rw [hps]
    simpa using hp
end

/-- The two tables of utf8, once they lie, are known. -/
theorem utf8_known {g3 g4 : Nat} {W : World} (h : Lib.Utf8Tabs g3 g4 W) : Holds [g3, g4] (Lib.Utf8Tabs g3 g4) (tabH [g3, g4] W) := by
  refine tabH_holds (fun b hb => ?_) (fun w' hw => ?_)
  · rcases List.mem_cons.1 hb with rfl | hb
    · exact World.block_lt_of_cell? W ⟨b, 0, none⟩ (h.1 0 (by decide))
    · obtain rfl : b = g4 := by simpa using hb
      exact World.block_lt_of_cell? W ⟨b, 2 * 0, none⟩ (h.2 0 (by decide)).1
  · have e3 : ∀ o, w'.cell? ⟨g3, o, none⟩ = W.cell? ⟨g3, o, none⟩ := fun o => World.cell?_of_block (w := W) (hw g3 (by simp))
    have e4 : ∀ o, w'.cell? ⟨g4, o, none⟩ = W.cell? ⟨g4, o, none⟩ := fun o => World.cell?_of_block (w := W) (hw g4 (by simp))
    exact ⟨fun c hc => by rw [e3]; exact h.1 c hc, fun i hi => by rw [e4, e4]; exact h.2 i hi⟩

theorem PI.calls_at {I : AH → Prop} {P : Program} {f : FuncId} {args : List AV} {r : Value} {vs0 : Array Value} {W : World} (bs : List Nat) (hc : args.map concV = vs0.toList.map some) (h : PI I P f args (.v r)) (hI : I (tabH bs W)) :
    Calls P f vs0 W fun e w' => e = .returned r ∧ Below W.heap.size W w' := by
  have hlen : args.length = vs0.size := by have := congrArg List.length hc; simpa using this
  refine AC.calls bs hlen (fun k x u hx hu => ?_) (h _ _ hI ⟨rfl, rfl⟩)
  have hcv : (args.map concV)[k]? = (vs0.toList.map some)[k]? := by rw [hc]
  rw [List.getElem?_map, hx, List.getElem?_map, Array.getElem?_toList, hu] at hcv
  simp only [Option.map_some, Option.some.injEq] at hcv
  unfold concV at hcv
  split at hcv
  · injection hcv with hcv; subst hcv; exact .v _
  · injection hcv with hcv; subst hcv; exact .fn rfl rfl (fun k y u h => by simp at h) (fun k y u h => by simp at h)
  · cases hcv
end Go.AL

/- Division, bits, shifts. -/
set_option autoImplicit false
set_option linter.unusedVariables false
set_option linter.unusedSimpArgs false
namespace Go.AL
open Go Go.RowKit

def intB (op : BinOp) (k : IntKind) (x y : Int) : Int :=
  match op with
  | .and => k.wrap ((BitVec.ofInt k.bits x &&& BitVec.ofInt k.bits y).toNat : Int)
  | .or => k.wrap ((BitVec.ofInt k.bits x ||| BitVec.ofInt k.bits y).toNat : Int)
  | .xor => k.wrap ((BitVec.ofInt k.bits x ^^^ BitVec.ofInt k.bits y).toNat : Int)
  | .andNot => k.wrap ((BitVec.ofInt k.bits x &&& ~~~(BitVec.ofInt k.bits y)).toNat : Int)
  | _ => 0

section
variable {P : Program} {ro : Option Nat} {ds : List Deferred} {T : List AV} {H : AH} {Q : Post} {ops : Array Oper} {rest : List Oper}
variable {d : Option Tmp} {ty : TypeId} {pos : String} {af : Array Edge} {s s' : Operand} {x y : AV}
theorem AL_rem {tx ty' : TypeId} {k : IntKind} {m n : Int} (hx : ev T s = some (.v (.int k m))) (hy : ev T s' = some (.v (.int k n))) (h0 : n ≠ 0)
    (h : AL P ro ops rest ds (tput T d (.v (.int k (m.tmod n)))) H Q) : AL P ro ops (⟨d, .binOp .rem tx s s' ty', ty, pos, af, none⟩ :: rest) ds T H Q :=
  AL_ibin hx hy (by simp [binOp, Op.intArith, Op.intDiv, h0]) h
theorem AL_quo {tx ty' : TypeId} {k : IntKind} {m n : Int} (hx : ev T s = some (.v (.int k m))) (hy : ev T s' = some (.v (.int k n))) (h0 : n ≠ 0)
    (h : AL P ro ops rest ds (tput T d (.v (.int k (k.wrap (m.tdiv n))))) H Q) : AL P ro ops (⟨d, .binOp .quo tx s s' ty', ty, pos, af, none⟩ :: rest) ds T H Q :=
  AL_ibin hx hy (by simp [binOp, Op.intArith, Op.intDiv, h0]) h
theorem AL_bits {op : BinOp} {tx ty' : TypeId} {k : IntKind} {m n : Int} (hx : ev T s = some (.v (.int k m))) (hy : ev T s' = some (.v (.int k n))) (ho : op = .and ∨ op = .or ∨ op = .xor ∨ op = .andNot)
    (h : AL P ro ops rest ds (tput T d (.v (.int k (intB op k m n)))) H Q) : AL P ro ops (⟨d, .binOp op tx s s' ty', ty, pos, af, none⟩ :: rest) ds T H Q := by
  refine AL_ibin hx hy ?_ h
  rcases ho with rfl | rfl | rfl | rfl <;> simp [binOp, Op.intBits, intB]
theorem AL_shr {tx ty' : TypeId} {k k' : IntKind} {m n : Int} (hx : ev T s = some (.v (.int k m))) (hy : ev T s' = some (.v (.int k' n))) (h0 : 0 ≤ n)
    (h : AL P ro ops rest ds (tput T d (.v (.int k (m.fdiv (2 ^ min n.toNat k.bits))))) H Q) : AL P ro ops (⟨d, .binOp .shr tx s s' ty', ty, pos, af, none⟩ :: rest) ds T H Q :=
  AL_bin hx hy (fun w => ⟨by simp [eqGuard], by
    have h0' : ¬ n < 0 := by omega
    simp [binOp, Op.shift, h0']⟩) h
end
end Go.AL

/- Append of a slice that is read. -/
set_option autoImplicit false
set_option linter.unusedVariables false
set_option linter.unusedSimpArgs false
namespace Go.AL
open Go Go.RowKit

theorem run_append_0 {P : Program} {t e ty : TypeId} {z : Value} {size bytes : Nat} (ht : P.underlying t = some (.slice e)) (hi : infoOf P e = some (some z, size, bytes))
    {w : World} {A : Option Nat} {B : Option Addr} (hB : Base A B) {cap n : Nat} {old : List Value} (hrow : RowC w A e cap n size old) (a : Option Addr) (c : Nat) :
    (Builtin.append_ #[t, t] ty #[.slice B n cap, .slice a 0 c]).run P w = .ok (.slice B n cap) w := by
  obtain ⟨i, hi', hzz⟩ := Option.map_eq_some_iff.1 hi
  cases A with
  | none =>
    obtain ⟨rfl, rfl, rfl⟩ := hrow
    cases B <;> cases a <;> simp [Builtin.append_, run_underlying ht, sizeOf, typeInfo, hi', Builtin.lenOf, Builtin.firstCells, loadCells, loadCellsFrom, storeCells]
  | some b =>
    obtain ⟨cs, fr, hb, hsz, hfr, hnc, rfl⟩ := hrow
    obtain rfl := hB b rfl
    cases a <;> simp [Builtin.append_, run_underlying ht, sizeOf, typeInfo, hi', Builtin.lenOf, hnc, Builtin.firstCells, loadCells, loadCellsFrom, storeCells]

section
variable {P : Program} {ro : Option Nat} {ds : List Deferred} {T : List AV} {H : AH} {Q : Post} {ops : Array Oper} {rest : List Oper}
variable {d : Option Tmp} {ty : TypeId} {pos : String} {af : Array Edge} {s s' : Operand} {x y : AV}

theorem AL_appendSl {t e : TypeId} {A : Option Nat} {c n : Nat} {xs ys : List AV} {z : Value} {sz bytes : Nat}
    (ht : P.underlying t = some (.slice e)) (hi : infoOf P e = some (some z, sz, bytes)) (hzs : z.cells.size = sz) (hb0 : 0 < bytes) (hs0 : 0 < sz)
    (hs : ev T s = some (.own A c n)) (hy : ev T s' = some (.sl e ys)) (hown : Own H A e c xs) (hn : n = xs.length) (hm : ∀ y ∈ ys, y.mem = true) (hbound : (n + ys.length) * bytes ≤ 140737488355328)
    (h : ∀ A' c', Fresh (H.rem A) A' c' (xs ++ ys) → AL P ro ops rest ds (tput T d (.own A' c' (n + ys.length))) ((H.rem A).put A' e c' (xs ++ ys)) Q) :
    AL P ro ops (⟨d, .call ⟨.builtin .append, #[s, s'], #[t, t]⟩, ty, pos, af, none⟩ :: rest) ds T H Q := fun a w hst => by
  subst hn
  have hso : szOf P e = some sz := by
    unfold infoOf at hi; unfold szOf
    obtain ⟨i, h1, h2⟩ := Option.map_eq_some_iff.1 hi
    simp at h2; rw [h1]; simp [h2.2.1]
  obtain ⟨B, hu, hB, hA⟩ := (hst.ev hs).own_inv
  obtain ⟨As, cs, U, hu2, hel, hc', hcell, hv⟩ := (hst.ev hy).sl_inv
  have hel' : ∀ x ∈ ys, x.cells.length = sz := fun x hx => by rw [hel x hx, szOf_cells hso]
  have hfl := flat_length ys sz hel'
  obtain ⟨old, hrow, hold, helx, hx⟩ := Own.rowC hst.heap hso hown
  have hnews : ((List.range (flat ys).length).map U).length = ys.length * sz := by simp [hfl]
  have h1 : ∀ u ∈ (List.range (flat ys).length).map U, u.oneCell' = true := by
    intro u hu
    obtain ⟨k, hk, rfl⟩ := List.mem_map.1 hu
    rw [List.mem_range] at hk
    have hyk := List.getElem?_eq_getElem hk
    have hmem : (flat ys)[k] ∈ flat ys := List.getElem_mem hk
    unfold flat at hmem
    rw [List.mem_flatMap] at hmem
    obtain ⟨y0, hy0, hin⟩ := hmem
    have hm0 := hm y0 hy0
    simp only [AV.mem, List.all_eq_true] at hm0
    exact (hv k _ hyk).one (hm0 _ hin)
  have hrun : ∃ A2 B2 cap2 w2, (Builtin.append_ #[t, t] ty #[.slice B xs.length c, .slice As ys.length cs]).run P w = .ok (.slice B2 (xs.length + ys.length) cap2) w2 ∧ Base A2 B2 ∧ RowC w2 A2 e cap2 (xs.length + ys.length) sz (old ++ (List.range (flat ys).length).map U) ∧
      (A2 = A ∨ A2 = some w.heap.size) ∧ w2.os = w.os ∧ w2.tape = w.tape ∧ w2.output = w.output ∧ w.heap.size ≤ w2.heap.size ∧ ∀ k, k < w.heap.size → some k ≠ A → w2.heap[k]? = w.heap[k]? := by
    cases As with
    | some a0 =>
      have hcl : ∀ j u, ((List.range (flat ys).length).map U)[j]? = some u → w.cell? (a0.add j) = some u := by
        intro j u hj
        rw [List.getElem?_map] at hj
        obtain ⟨k, hk, rfl⟩ := Option.map_eq_some_iff.1 hj
        rw [List.getElem?_range] at hk
        · injection hk with hk; subst hk
          have hlt : j < (flat ys).length := by
            rcases Nat.lt_or_ge j (flat ys).length with h | h
            · exact h
            · rw [List.getElem?_eq_none (by simpa using h)] at hj; cases hj
          obtain ⟨a1, ha1, _, h3⟩ := hcell j _ (List.getElem?_eq_getElem hlt)
          injection ha1 with ha1; subst ha1; exact h3
        · rcases Nat.lt_or_ge j (flat ys).length with h | h
          · exact h
          · rw [List.getElem?_eq_none (by simpa using h)] at hj; cases hj
      obtain ⟨A2, B2, cap2, w2, r1, rB, r2, r3, _, r5, r6, r7, r8, r9⟩ := run_append_c (ty := ty) ht hi hzs hb0 hB hrow a0 ys.length cs _ hnews hcl h1 hbound
      exact ⟨A2, B2, cap2, w2, r1, rB, r2, r3, r5, r6, r7, r8, r9⟩
    | none =>
      have hf0 : (flat ys).length = 0 := by
        cases hfy : flat ys with
        | nil => rfl
        | cons y0 l =>
          obtain ⟨a1, ha1, _⟩ := hcell 0 y0 (by rw [hfy]; rfl)
          cases ha1
      have hy0 : ys.length = 0 := by
        rw [hfl] at hf0
        rcases Nat.mul_eq_zero.1 hf0 with h | h
        · exact h
        · omega
      have := run_append_0 (ty := ty) ht hi hB hrow none cs
      rw [hy0]
      refine ⟨A, B, c, w, this, hB, ?_, .inl rfl, rfl, rfl, rfl, Nat.le_refl _, fun _ _ _ => rfl⟩
      rw [hf0]; simpa using hrow
  obtain ⟨A2, B2, cap2, w2, r1, rB, r2, r3, r5, r6, r7, r8, r9⟩ := hrun
  obtain ⟨q1, q2, q3⟩ := append_state (zs := ys) hst.heap hso hown r2 hold (fun x hx => by
      simp only [List.mem_append] at hx
      rcases hx with hx | hx
      · exact helx x hx
      · exact hel' x hx) (by simp) hx (fun k z hz => by
        have hlt := (List.getElem?_eq_some_iff.1 hz).1
        exact ⟨U k, by simp [hlt], hv k z hz⟩) r3 r5 r6 r7 r8 r9
  have hfresh : Fresh (H.rem A) A2 cap2 (xs ++ ys) := by
    cases A2 with
    | none =>
      obtain ⟨h1, h2, _⟩ := r2
      exact ⟨h2, List.length_eq_zero_iff.1 (by simpa using h1)⟩
    | some b => exact q3 b rfl
  have hown2 : VR P w2 ((H.rem A).put A2 e cap2 (xs ++ ys)) (.own A2 cap2 (xs.length + ys.length)) (.slice B2 (xs.length + ys.length) cap2) := VR.own_mk rB fun e => by
    subst e
    obtain ⟨h1, h2, _⟩ := r2
    exact ⟨h1, h2⟩
  refine wpListIn_plain rfl fun K hK => ⟨fun f _ => trivial, ?_⟩
  rw [Oper.semAt_eq _ _ _ (fun _ => by simp)]
  have hr : (execOp a.eval { dst := d, op := Op.call ⟨.builtin .append, #[s, s'], #[t, t]⟩, type := ty, pos := pos, after := af, guard := none }).run P w = .ok (.value (.slice B2 (xs.length + ys.length) cap2)) w2 := by
    simp only [execOp, resolve, invoke, builtin, Sem.run_bind, Sem.run_pure, Result.andThen_ok, List.map_toArray, List.map_cons, List.map_nil, hu, hu2, r1]
  rw [hr]
  exact hK _ _ (wpListIn_mono (fun _ _ _ p => post.back q1 p) (fun _ => trivial) _ _ _ (h A2 cap2 hfresh _ _ (hst.put q1 q2 hown2)))

/-- A row of ours, read from now on: in the whole. -/
theorem AL_freezeP {A : Option Nat} {e : TypeId} {c n : Nat} {xs : List AV} (k : Nat) (hk : T[k]? = some (.own A c n)) (hf : Fresh H A c xs) (hn : n = xs.length) (h : AL P ro ops rest ds (T.set k (.sl e xs)) H Q) : AL P ro ops rest ds T (H.put A e c xs) Q := by
  cases A with
  | none =>
    obtain ⟨rfl, rfl⟩ := hf
    subst hn
    exact AL_nilsl k hk h
  | some b => exact AL_freeze k hk (AH.upd_same _ _ _) hn (by
      have e1 : (H.upd b (some (.row e c xs))).upd b none = H := AH.upd_none_eq hf
      show AL P ro ops rest ds (T.set k (.sl e xs)) ((H.upd b (some (.row e c xs))).upd b none) Q
      rw [e1]; exact h)
theorem AW_freezeP {c' : Code} {A : Option Nat} {e : TypeId} {c n : Nat} {xs : List AV} (k : Nat) (hk : T[k]? = some (.own A c n)) (hf : Fresh H A c xs) (hn : n = xs.length) (h : AW P ro c' ds (T.set k (.sl e xs)) H Q) : AW P ro c' ds T (H.put A e c xs) Q := by
  cases A with
  | none =>
    obtain ⟨rfl, rfl⟩ := hf
    subst hn
    exact AW_nilsl k hk h
  | some b => exact AW_freeze k hk (AH.upd_same _ _ _) hn (by
      have e1 : (H.upd b (some (.row e c xs))).upd b none = H := AH.upd_none_eq hf
      show AW P ro c' ds (T.set k (.sl e xs)) ((H.upd b (some (.row e c xs))).upd b none) Q
      rw [e1]; exact h)
end
end Go.AL
namespace Go.AL
open Go Go.RowKit
section
variable {P : Program} {ro : Option Nat} {ds : List Deferred} {H : AH} {Q : Post}
theorem AW_drawl {id : Nat} {l : List Oper} {T0 xs : List AV} (hq : quietOk l.toArray = true) (hop : Hops P ro l.toArray ds H T0.length 0 T0 l xs) (h : Q .normal ds (Tfin T0 l xs) H) : AW P ro (.region id l.toArray true) ds T0 H Q :=
  AW_draw hq (by simpa using hop) (by simpa using h)
theorem Hops_nil {ops : Array Oper} {n k : Nat} {Tk : List AV} : Hops P ro ops ds H n k Tk [] [] := trivial
theorem Hops_cons {ops : Array Oper} {n k : Nat} {Tk : List AV} {o : Oper} {l : List Oper} {x : AV} {xs : List AV}
    (h1 : ∀ T : List AV, T.length = n → (∀ s, (readsOf ops k).contains s = true → T[s]? = Tk[s]?) → AL P ro ops [o] ds T H (qpost ds H (tput T o.dst x))) (h2 : Hops P ro ops ds H n (k + 1) (tput Tk o.dst x) l xs) :
    Hops P ro ops ds H n k Tk (o :: l) (x :: xs) := ⟨h1, h2⟩
end
end Go.AL

/- Rows with arguments in memory: they read as they did; slices of numbers as values of the logic. -/
set_option autoImplicit false
set_option linter.unusedVariables false
namespace Go.AL
open Go Go.RowKit Go.ChangeShapes Go.WideShapes Go.ChangeAt

section
variable {H : Type} {enc : TypeId × Value → H} {P : Program}
theorem trodAll_stays (hl : laidOutB P = true) {W W' : World} (hb : Below W.heap.size W W') {sp' : Nat → Bool} : ∀ (ts : List TypeId) (vs : List Value) (ds : List (DataW H)) (ps : List MemPlace),
    (∀ t ∈ ts, P.readableRec t = true ∧ t < P.types.size) → DataW.TrodAll enc P W 0 (fun _ => true) true ts vs ds ps → (∀ x ∈ ps, x.block < W.heap.size) → (∀ x ∈ ps, sp' x.block = true) → DataW.TrodAll enc P W' 0 sp' true ts vs ds ps
  | [], vs, ds, ps, _, h, _, _ => by
    obtain ⟨rfl, rfl, rfl⟩ := trodAll_nil h; exact trodAll_mk0
  | t :: ts, vs, ds, ps, ht, h, hlt, hs => by
    obtain ⟨v, vs', d, ds', p, q, rfl, rfl, rfl, h1, h2⟩ := trodAll_cons h
    have ht1 := ht t (by simp)
    exact trodAll_cons_mk (WideElems.Trod_stays hl ht1.1 ht1.2 h1 (fun x hx => hb.same (hlt x (by simp [hx]))) (fun x hx => hs x (by simp [hx])))
      (trodAll_stays hl hb ts vs' ds' q (fun t h => ht t (by simp [h])) h2 (fun x hx => hlt x (by simp [hx])) (fun x hx => hs x (by simp [hx])))

/-- The cells of these blocks are bytes. -/
def Bytes (bs : List Nat) (W : World) : Prop := ∀ (a : Addr) (u : Value), a.block ∈ bs → W.cell? a = some u → ∃ n, u = .int .u8 n

/-- A slice of numbers that is no slice of bytes: none of the tables' blocks is its. -/
theorem vr_ints {bs : List Nat} {W : World} (hby : Bytes bs W) {e : TypeId} {k : IntKind} (hk : k ≠ .u8) (hc : P.cellsOf e = 1) {a : Addr} {len cap : Nat} {zs : List Int} (hlc : len ≤ cap) (hz : zs.length = cap)
    (hcell : ∀ i, i < zs.length → W.cell? (a.add i) = some (.int k (zs.getD i 0))) : VR P W (tabH bs W) (.sl e ((zs.take len).map fun z => .v (.int k z))) (.slice (some a) len cap) := by
  have hlen : ((zs.take len).map fun z => AV.v (.int k z)).length = len := by simp; omega
  have hfl : ∀ l : List Int, flat (l.map fun z => AV.v (.int k z)) = l.map fun z => AV.v (.int k z) := by
    intro l
    induction l with
    | nil => rfl
    | cons z l ih => simp only [flat, List.map_cons, List.flatMap_cons] at ih ⊢; rw [ih]; rfl
  have key : VR P W (tabH bs W) (.sl e ((zs.take len).map fun z => .v (.int k z))) (.slice (some a) ((zs.take len).map fun z => AV.v (.int k z)).length cap) := by
    refine .sl (fun i => .int k (zs.getD i 0)) (fun x hx => ?_) (by omega) (fun i y hy => ?_) (fun i y hy => ?_)
    · obtain ⟨z, _, rfl⟩ := List.mem_map.1 hx; rw [hc]; rfl
    · rw [hfl] at hy
      have hi : i < zs.length := by have := (List.getElem?_eq_some_iff.1 hy).1; rw [hlen] at this; omega
      refine ⟨a, rfl, ?_, hcell i hi⟩
      unfold tabH
      rw [if_neg]
      intro hb
      obtain ⟨n, hn⟩ := hby (a.add i) _ (by rw [add_block]; exact hb) (hcell i hi)
      injection hn with hn _
      exact hk hn
    · rw [hfl] at hy
      rw [List.getElem?_map] at hy
      obtain ⟨z, hz1, rfl⟩ := Option.map_eq_some_iff.1 hy
      rw [List.getElem?_take] at hz1
      split at hz1
      · rw [List.getD_eq_getElem?_getD, hz1]; exact .v _
      · cases hz1
  rw [hlen] at key; exact key
theorem vr_nil {bs : List Nat} {W : World} {e : TypeId} : VR P W (tabH bs W) (.sl e []) (.slice none 0 0) :=
  .sl (xs := []) (c := 0) (fun _ => undef) (by simp) (by simp) (fun k y h => by simp [flat] at h) (fun k y h => by simp [flat] at h)

theorem PI.calls_vr {I : AH → Prop} {f : FuncId} {args : List AV} {r : Value} {vs : Array Value} {W : World} (bs : List Nat) (hl : args.length = vs.size) (hv : ∀ (k : Nat) (x : AV) (u : Value), args[k]? = some x → vs[k]? = some u → VR P W (tabH bs W) x u) (h : PI I P f args (.v r)) (hI : I (tabH bs W)) :
    Calls P f vs W fun e w' => e = .returned r ∧ Below W.heap.size W w' := AC.calls bs hl hv (h _ _ hI ⟨rfl, rfl⟩)
theorem vrs_nil {w : World} {K : AH} : ∀ (k : Nat) (x : AV) (u : Value), ([] : List AV)[k]? = some x → (#[] : Array Value)[k]? = some u → VR P w K x u := fun k x u h => by simp at h
theorem vrs_cons {w : World} {K : AH} {x : AV} {xs : List AV} {u : Value} {us : List Value} (h : VR P w K x u) (hs : ∀ (k : Nat) (x : AV) (u : Value), xs[k]? = some x → us.toArray[k]? = some u → VR P w K x u) :
    ∀ (k : Nat) (y : AV) (v : Value), (x :: xs)[k]? = some y → (u :: us).toArray[k]? = some v → VR P w K y v := fun k y v h1 h2 => by
  cases k with
  | zero => simp at h1 h2; subst h1; subst h2; exact h
  | succ k => exact hs k y v (by simpa using h1) (by simpa using h2)
end
end Go.AL
namespace Go.AL
open Go Go.RowKit Go.ChangeShapes Go.WideShapes Go.ChangeAt
section
variable {H : Type} {enc : TypeId × Value → H} {P : Program}
/-- A slice of numbers, as an argument. -/
theorem arg_ints {bs : List Nat} {W : World} (hby : Bytes bs W) {r : Reach} {base : Nat} {t e : TypeId} {k : IntKind} {v : Value} {d : DataW H} {ps : List MemPlace} (hk : k ≠ .u8) (ht : P.underlying t = some (.slice e)) (he : P.underlying e = some (.int k)) (hc : P.cellsOf e = 1)
    (hval : Value.okWide P W r base t v) (h : DataW.Trod enc P W 0 (fun _ => true) true t v d ps) : ∃ zs : List Int, VR P W (tabH bs W) (.sl e (zs.map fun z => .v (.int k z))) v := by
  obtain ⟨a, len, cap, rfl⟩ := okWide_slice ht hval
  obtain ⟨fuel, hf⟩ := h
  rcases open_ints ht he hc hf with ⟨h1, _⟩ | ⟨a', len', cap', zs, h1, _, hlc, _, hz, _, hcell, _⟩
  · simp [Value.cells] at h1
    obtain ⟨rfl, rfl, rfl⟩ := h1
    exact ⟨[], vr_nil⟩
  · simp [Value.cells] at h1
    obtain ⟨rfl, rfl, rfl⟩ := h1
    exact ⟨zs.take len, vr_ints hby hk hc hlc (by simpa using hz) hcell⟩
end
end Go.AL

/- A range over a function, said of abstract values: the caller's loop, the iterator's contract, a function that bears a mark. -/
set_option autoImplicit false
set_option linter.unusedVariables false
set_option linter.unusedSimpArgs false
namespace Go.AL
open Go Go.RowKit

theorem AH.upd_sub {A B : AH} {l : Nat} {o : Option AO} (h : SubH A B) : SubH (A.upd l o) (B.upd l o) := fun b q hb => by
  by_cases e : b = l
  · subst e; rw [AH.upd_same] at hb ⊢; exact hb
  · rw [AH.upd_ne _ _ e] at hb ⊢; exact h b q hb

section
variable {P : Program}

/-- What goes on but for one block. -/
structure StepX (l : Nat) (H : AH) (w : World) (H' : AH) (w' : World) : Prop where
  os : w'.os = w.os
  tape : w'.tape = w.tape
  output : w'.output = w.output
  size : w.heap.size ≤ w'.heap.size
  keep : ∀ b, b < w.heap.size → b ≠ l → H b = none → w'.heap[b]? = w.heap[b]? ∧ H' b = none

theorem Step.x {l : Nat} {H H' : AH} {w w' : World} (h : Step H w H' w') : StepX l H w H' w' := ⟨h.os, h.tape, h.output, h.size, fun b hb _ hn => h.keep b hb hn⟩
theorem StepX.trans {l : Nat} {H H1 H2 : AH} {w w1 w2 : World} (h : StepX l H w H1 w1) (k : StepX l H1 w1 H2 w2) : StepX l H w H2 w2 :=
  ⟨k.os.trans h.os, k.tape.trans h.tape, k.output.trans h.output, Nat.le_trans h.size k.size, fun b hb hl hn => by
    obtain ⟨e1, n1⟩ := h.keep b hb hl hn
    obtain ⟨e2, n2⟩ := k.keep b (Nat.lt_of_lt_of_le hb h.size) hl n1
    exact ⟨e2.trans e1, n2⟩⟩
theorem StepX.put (l : Nat) (H : AH) (w : World) (o : Obj) : StepX l H w H (w.putObj l o) :=
  ⟨rfl, rfl, rfl, by simp, fun b _ hl hn => ⟨World.putObj_heap_other hl, hn⟩⟩
theorem StepX.own {l : Nat} {H H' : AH} {w w' : World} {o o' : AO} (h : StepX l H w H' w') : Step (H.upd l (some o)) w (H'.upd l (some o')) w' :=
  ⟨h.os, h.tape, h.output, h.size, fun b hb hn => by
    have hl : b ≠ l := fun e => by subst e; rw [AH.upd_same] at hn; cases hn
    rw [AH.upd_ne _ _ hl] at hn
    obtain ⟨e, n⟩ := h.keep b hb hl hn
    exact ⟨e, by rw [AH.upd_ne _ _ hl]; exact n⟩⟩
theorem StepX.sub {l : Nat} {H0 H H' : AH} {w w' : World} (hs : SubH H H') (h : StepX l H0 w H' w') : StepX l H0 w H w' :=
  ⟨h.os, h.tape, h.output, h.size, fun b hb hl hn => ⟨(h.keep b hb hl hn).1, hs.none (h.keep b hb hl hn).2⟩⟩

/-- A block that holds no cells stands behind no value. -/
def NoCells (w : World) (l : Nat) : Prop := ∀ (a : Addr) (u : Value), a.block = l → w.cell? a ≠ some u
theorem NoCells.loop {w : World} {l : Nat} {r : Loop} (h : w.heap[l]? = some (.loop r)) : NoCells w l := fun a u e => by
  subst e; unfold World.cell?; rw [h]; simp
theorem NoCells.deferred {w : World} {l : Nat} {r : Option (List Deferred)} (h : w.heap[l]? = some (.deferred r)) : NoCells w l := fun a u e => by
  subst e; unfold World.cell?; rw [h]; simp

theorem VR.put {w : World} {A : AH} {l : Nat} {o : Obj} (hn : NoCells w l) {x : AV} {u : Value} (h : VR P w A x u) : VR P (w.putObj l o) A x u := by
  have cell : ∀ (a : Addr) (u : Value), w.cell? a = some u → (w.putObj l o).cell? a = some u := fun a u hc => by
    have hl : a.block ≠ l := fun e => hn a u e hc
    rw [← hc]; exact World.cell?_of_block (w := w) (World.putObj_heap_other hl)
  induction h with
  | v x => exact .v x
  | any x => exact .any x
  | sl U a b hcell hv ih => exact .sl U a b (fun k y hy => let ⟨a, hA, h1, h2⟩ := hcell k y hy; ⟨a, hA, h1, cell _ _ h2⟩) ih
  | ag hl hv ih => exact .ag hl ih
  | tup hl hv ih => exact .tup hl ih
  | own b c n => exact .own b c n
  | ownNil A => exact .ownNil A
  | part b z o c n => exact .part b z o c n
  | pt b i s o => exact .pt b i s o
  | rp U a hcell hv ih => exact .rp U a (fun k y hy => let ⟨h1, h2⟩ := hcell k y hy; ⟨h1, cell _ _ h2⟩) ih
  | fn hl hl' hf hc ihf ihc => exact .fn hl hl' ihf ihc
theorem VR.owned {w : World} {A : AH} {l : Nat} {o : Option AO} (hn : NoCells w l) {x : AV} {u : Value} (h : VR P w A x u) : VR P w (A.upd l o) x u := by
  induction h with
  | v x => exact .v x
  | any x => exact .any x
  | sl U a b hcell hv ih => exact .sl U a b (fun k y hy => let ⟨a, hA, h1, h2⟩ := hcell k y hy; ⟨a, hA, by rw [AH.upd_ne _ _ (fun e => hn (a.add k) _ (by rw [add_block]; exact e) h2)]; exact h1, h2⟩) ih
  | ag hl hv ih => exact .ag hl ih
  | tup hl hv ih => exact .tup hl ih
  | own b c n => exact .own b c n
  | ownNil A => exact .ownNil A
  | part b z o c n => exact .part b z o c n
  | pt b i s o => exact .pt b i s o
  | rp U a hcell hv ih => exact .rp U a (fun k y hy => let ⟨h1, h2⟩ := hcell k y hy; ⟨by rw [AH.upd_ne _ _ (fun e => hn (Addr.add _ k) _ (by rw [add_block]; exact e) h2)]; exact h1, h2⟩) ih
  | fn hl hl' hf hc ihf ihc => exact .fn hl hl' ihf ihc

theorem OR.map {w w' : World} {A A' : AH} {b : Nat} {o : AO} (h : OR P A w b o) (hb : w'.heap[b]? = w.heap[b]?) (hv : ∀ x u, VR P w A x u → VR P w' A' x u) : OR P A' w' b o := by
  cases o with
  | row e c xs =>
    obtain ⟨cs, fr, h1, h2, h3, h4, h5, h6⟩ := h
    exact ⟨cs, fr, hb.trans h1, h2, h3, h4, h5, fun k y hy => let ⟨u, hu, hv'⟩ := h6 k y hy; ⟨u, hu, hv _ _ hv'⟩⟩
  | raw o => exact hb.trans h
  | loop r T =>
    obtain ⟨ts, h1, h2, h3⟩ := h
    exact ⟨ts, hb.trans h1, h2, fun k x hx => let ⟨u, hu, hv'⟩ := h3 k x hx; ⟨u, hu, hv _ _ hv'⟩⟩

/-- Behind a turn of a block that is not ours and holds no cells. -/
theorem HR.put {w : World} {A : AH} {l : Nat} {o : Obj} (hn : NoCells w l) (hl : A l = none) (h : HR P A w) : HR P A (w.putObj l o) := fun b q hb =>
  (h b q hb).map (World.putObj_heap_other (fun e => by subst e; rw [hl] at hb; cases hb)) fun _ _ => VR.put hn
theorem HR.owned {w : World} {A : AH} {l : Nat} {o : AO} (hn : NoCells w l) (ho : OR P (A.upd l (some o)) w l o) (h : HR P A w) : HR P (A.upd l (some o)) w := fun b q hb => by
  by_cases e : b = l
  · subst e; rw [AH.upd_same] at hb; injection hb with hb; subst hb; exact ho
  · rw [AH.upd_ne _ _ e] at hb
    exact (h b q hb).map rfl fun _ _ => VR.owned hn

/-- yield, as a value. -/
def yv (l : Nat) : AV := .v (.func (.yield l) #[] #[])

/-- A call of yield. -/
def AY (P : Program) (l : Nat) (args : List AV) (H : AH) (K : Bool → AH → Prop) : Prop :=
  ∀ w (vs : Array Value), args.length = vs.size → (∀ (k : Nat) (x : AV) (u : Value), args[k]? = some x → vs[k]? = some u → VR P w H x u) → HR P H w →
    YieldAt (fen none) 0 P l vs w fun e w' => ∃ b H', e = .returned (.bool b) ∧ HR P H' w' ∧ Step H w H' w' ∧ K b H'

section
variable {ro : Option Nat} {ds : List Deferred} {T : List AV} {H : AH} {Q : Post} {ops : Array Oper} {rest : List Oper}
variable {d : Option Tmp} {ty : TypeId} {pos : String} {af : Array Edge} {s s' : Operand} {x y : AV}

theorem AL_yield {args : Array Operand} {ats : Array TypeId} {xs : List AV} {l : Nat} {K : Bool → AH → Prop} (hv : ev T s = some (yv l)) (hx : EvL T args.toList xs) (hc : AY P l xs H K)
    (h : ∀ b H', K b H' → AL P ro ops rest ds (tput T d (.v (.bool b))) H' Q) : AL P ro ops (⟨d, .call ⟨.value s, args, ats⟩, ty, pos, af, none⟩ :: rest) ds T H Q := fun a w hs => by
  obtain ⟨h1, h2⟩ := hx.args hs
  obtain ⟨fn, tmps, assign, body, hy, hR⟩ := hc w (args.map a.eval) h1 h2 hs.heap
  refine wpListIn_plain rfl fun K' hK => ?_
  refine ⟨fun f _ => trivial, ?_⟩
  have hr : (execOp a.eval ⟨d, .call ⟨.value s, args, ats⟩, ty, pos, af, none⟩).run P w = .ok (.round l fn tmps assign body) w := by
    have he : a.eval s = .func (.yield l) #[] #[] := hs.evv hv
    simp [execOp, resolve, Deferred.ofValue, he, invoke, hy]
  rw [Oper.semAt_eq _ _ _ (fun _ => by simp), hr]
  refine ⟨fun h => by simp [fen] at h, ?_⟩
  have hR' : RoundIn (fen ro) (0 - 1) P l fn tmps assign body w fun e w' => ∃ b H', e = .returned (.bool b) ∧ HR P H' w' ∧ Step H w H' w' ∧ K b H' := hR
  refine hR'.mono ?_
  rintro e w' ⟨b, H', rfl, hh, hst, k⟩
  exact hK _ _ (wpListIn_mono (fun _ _ _ p => post.back hst p) (fun _ => trivial) _ _ _ (h b H' k _ _ (hs.put hst hh (.v _))))

/-- The temporaries of a round: the parameters set. -/
def setP (T : List AV) : List Tmp → List AV → List AV
  | p :: ps, x :: xs => setP (T.set p x) ps xs
  | _, _ => T

theorem setP_vals {w : World} {A : AH} : ∀ (ps : List Tmp) (ys : List AV) (vs : List Value) (T : List AV) (ts : Array Value), ys.length = ps.length → ys.length = vs.length →
    (∀ (k : Nat) (x : AV) (u : Value), ys[k]? = some x → vs[k]? = some u → VR P w A x u) → ts.size = T.length → (∀ (k : Nat) (x : AV), T[k]? = some x → ∃ u, ts[k]? = some u ∧ VR P w A x u) →
    ((ps.zip vs).foldl (fun t (p : Tmp × Value) => t.setIfInBounds p.1 p.2) ts).size = (setP T ps ys).length ∧
      ∀ (k : Nat) (x : AV), (setP T ps ys)[k]? = some x → ∃ u, ((ps.zip vs).foldl (fun t (p : Tmp × Value) => t.setIfInBounds p.1 p.2) ts)[k]? = some u ∧ VR P w A x u := by
  intro ps
  induction ps with
  | nil => intro ys vs T ts h1 h2 h3 h4 h5; cases ys <;> simp_all [setP]
  | cons p ps ih =>
    intro ys vs T ts h1 h2 h3 h4 h5
    cases ys with
    | nil => simp at h1
    | cons y ys =>
      cases vs with
      | nil => simp at h2
      | cons v vs =>
        simp only [List.zip_cons_cons, List.foldl_cons, setP]
        refine ih ys vs (T.set p y) (ts.setIfInBounds p v) (by simpa using h1) (by simpa using h2) (fun k x u hx hu => h3 (k + 1) x u (by simpa using hx) (by simpa using hu)) (by simpa using h4) fun k x hx => ?_
        rw [List.getElem?_set] at hx
        rw [Array.getElem?_setIfInBounds]
        split at hx
        · rename_i e
          split at hx
          · rename_i hlt
            injection hx with hx; subst hx; subst e
            exact ⟨v, by rw [if_pos rfl, if_pos (by omega)], h3 0 _ _ rfl rfl⟩
          · cases hx
        · rename_i e
          rw [if_neg e]
          exact h5 k x hx

/-- An iterator's contract: it gives these, one behind the other, until a round says no. -/
def IterC (P : Program) (gf : FuncId) (caps : List AV) (xs : List (List AV)) (I : AH → Prop) : Prop :=
  ∀ (l : Nat) (J : Nat → AH → Prop) (Jx : AH → Prop), (∀ k H, J k H → I H) → (∀ k y H, xs[k]? = some y → J k H → AY P l y H fun b H' => if b = true then J (k + 1) H' else Jx H') →
    ∀ H (K : AV → AH → Prop), J 0 H → (∀ x H', (J xs.length H' ∨ Jx H') → K x H') → AC P gf (yv l :: caps) H K

def mark (D : Nat) : Deferred := { target := .collected D, args := #[] }

/-- How a round may end. -/
def roundQ (I : AH → Prop) (X : Code → AH → Prop) : Post := fun e _ _ H => match e with
  | .normal => I H
  | .ret => X .ret H
  | .exit id => X (.exit id) H
  | _ => False
theorem roundQ_n {I : AH → Prop} {X : Code → AH → Prop} (h : I H) : roundQ I X .normal ds T H := h
theorem roundQ_r {I : AH → Prop} {X : Code → AH → Prop} (h : X .ret H) : roundQ I X .ret ds T H := h
theorem roundQ_x {I : AH → Prop} {X : Code → AH → Prop} {id : Nat} (h : X (.exit id) H) : roundQ I X (.exit id) ds T H := h

def asgQ (P : Program) (l : Nat) (body : Code) (R : Post) : Post := fun e ds T H => e = .normal ∧ AW P (some l) body ds T H R
theorem asgQ_n {l : Nat} {body : Code} {R : Post} (h : AW P (some l) body ds T H R) : asgQ P l body R .normal ds T H := ⟨rfl, h⟩

/-- What is held while the loop runs. -/
structure RangeI (P : Program) (ps : List Tmp) (assign body : Code) (xs : List (List AV)) (IT : AH → Prop) (ds : List Deferred) (T : List AV) (H1 : AH) (D : Nat) (Q : Post) (α : Type) where
  HH : α → AH
  I : Nat → α → Prop
  X : Code → AH → Prop
  s0 : α
  sub0 : SubH (HH s0) H1
  i0 : I 0 s0
  it : ∀ k s, I k s → ∀ l r, (HH s) l = none → IT ((HH s).upd l (some (.loop r T)))
  round : ∀ l k y s, xs[k]? = some y → I k s → AW P (some l) assign [] (setP T ps y) (HH s) (asgQ P l body (roundQ (fun H' => ∃ s', I (k + 1) s' ∧ SubH (HH s') H') X))
  done : ∀ s, I xs.length s → Q .normal (mark D :: ds) T (HH s)
  stop : ∀ c H', X c H' → AW P none c (mark D :: ds) T H' Q

theorem AW_rangeFunc {α : Type} {g : Operand} {ps : Array Tmp} {assign body : Code} {gf : FuncId} {caps : List AV} {xs : List (List AV)} {IT : AH → Prop}
    (hg : ev T g = some (.fn (.func gf) [] caps)) (hen : entersOf P gf = true) (it : IterC P gf caps xs IT) (hps : ∀ y ∈ xs, y.length = ps.size)
    (h : ∀ D, H D = none → Nonempty (RangeI P ps.toList assign body xs IT ds T (H.upd D (some (.raw (.deferred (some []))))) D Q α)) :
    AW P none (.rangeFunc g ps assign body) ds T H Q := fun a w hs => by
  refine wpIn_rangeFunc ?_
  intro fn hfn
  have hD : H w.heap.size = none := hs.heap.none_new
  obtain ⟨⟨HH, I, X, s0, hsub0, hi0, hIT, hround, hdone, hstop⟩⟩ := h w.heap.size hD
  obtain ⟨D, hDe⟩ : ∃ D, w.heap.size = D := ⟨_, rfl⟩
  rw [hDe] at hsub0 hdone hstop
  obtain ⟨rec, hrec⟩ : ∃ rec : LoopState → Option Code → Array Value → Loop, rec = fun st pe ts => { state := st, pending := pe, fn, tmps := ts, params := ps, assign, body, defers := w.heap.size } := ⟨_, rfl⟩
  obtain ⟨l, hl⟩ : ∃ l, w.heap.size + 1 = l := ⟨_, rfl⟩
  -- the two new blocks
  have hr1 : HR P (H.upd w.heap.size (some (.raw (.deferred (some []))))) (w.alloc (.deferred (some []))) := hs.heap.alloc (World.alloc_heap_new w _)
  have hs1 : Step H w (H.upd w.heap.size (some (.raw (.deferred (some []))))) (w.alloc (.deferred (some []))) := Step.alloc w _ _ hD
  have hn1 : (H.upd w.heap.size (some (.raw (.deferred (some []))))) l = none := by
    have := hr1.none_new; rw [World.size_alloc, hl] at this; exact this
  rw [hDe] at hr1 hs1 hn1
  have hs2 : Step (H.upd D (some (.raw (.deferred (some []))))) (w.alloc (.deferred (some []))) ((H.upd D (some (.raw (.deferred (some []))))).upd l (some (.loop (rec .ready none #[]) T))) ((w.alloc (.deferred (some []))).alloc (.loop (rec .ready none a.tmps))) := by
    have := Step.alloc (H := H.upd D (some (.raw (.deferred (some []))))) (w.alloc (.deferred (some []))) (.loop (rec .ready none a.tmps)) (.loop (rec .ready none #[]) T) (by rw [World.size_alloc, hl]; exact hn1)
    rw [World.size_alloc, hl] at this; exact this
  have hr2 : HR P ((H.upd D (some (.raw (.deferred (some []))))).upd l (some (.loop (rec .ready none #[]) T))) ((w.alloc (.deferred (some []))).alloc (.loop (rec .ready none a.tmps))) := by
    have := HR.alloc (o := .loop (rec .ready none a.tmps)) (b' := .loop (rec .ready none #[]) T) hr1 (by
      rw [World.size_alloc, hl]
      refine ⟨a.tmps, ?_, hs.size, fun k x hx => ?_⟩
      · have := World.alloc_heap_new (w.alloc (.deferred (some []))) (.loop (rec .ready none a.tmps))
        rw [World.size_alloc, hl] at this
        rw [this, hrec]
      · obtain ⟨u, hu, hv⟩ := hs.vals k x hx
        exact ⟨u, hu, (hv.step hs1).step hs2⟩)
    rw [World.size_alloc, hl] at this; exact this
  have hl0 : (HH s0) l = none := hsub0.none hn1
  have hsubH : SubH ((HH s0).upd l (some (.loop (rec .ready none #[]) T))) ((H.upd D (some (.raw (.deferred (some []))))).upd l (some (.loop (rec .ready none #[]) T))) := AH.upd_sub hsub0
  obtain ⟨W1, hW1⟩ : ∃ W1, (w.alloc (.deferred (some []))).alloc (.loop (rec .ready none a.tmps)) = W1 := ⟨_, rfl⟩
  rw [hW1] at hs2 hr2
  have hstep1 : Step H w ((HH s0).upd l (some (.loop (rec .ready none #[]) T))) W1 := Step.sub hsubH (hs1.trans hs2)
  have hhr1 : HR P ((HH s0).upd l (some (.loop (rec .ready none #[]) T))) W1 := hr2.sub hsubH
  obtain ⟨vf, vc, hge, hlf, hlc, _, hcc⟩ := (hs.ev hg).fn_inv
  have hvf : vf = #[] := by simpa using hlf.symm
  subst hvf
  refine ⟨l, [mark D], W1, { target := .fn (.func gf) vc, args := #[.func (.yield l) #[] #[]] }, W1, gf, #[.func (.yield l) #[] #[]] ++ vc, W1, ?_, ?_, ?_, ?_, fun h => by simp [fen] at h, ?_⟩
  · rw [← hW1, hrec, ← hl, ← hDe]; exact run_enterLoop_outer _ _ _ _ _
  · simp [resolve, hge, Deferred.ofValue]; rfl
  · exact fun f' _ => trivial
  · simp [invoke, run_callFunc hen]
  -- the iterator's contract
  have hJl : ∀ {A : AH} {w1 : World} {st : LoopState} {pe : Option Code}, HR P (A.upd l (some (.loop (rec st pe #[]) T))) w1 → ∃ ts : Array Value, w1.heap[l]? = some (.loop (rec st pe ts)) ∧ ts.size = T.length ∧
      ∀ (k : Nat) (x : AV), T[k]? = some x → ∃ u, ts[k]? = some u ∧ VR P w1 (A.upd l (some (.loop (rec st pe #[]) T))) x u := by
    intro A w1 st pe hh
    obtain ⟨ts, h1, h2, h3⟩ := hh l _ (AH.upd_same _ _ _)
    exact ⟨ts, by rw [h1, hrec], h2, h3⟩
  have hcall := it l (fun k H' => ∃ s, I k s ∧ (HH s) l = none ∧ H' = (HH s).upd l (some (.loop (rec .ready none #[]) T)))
    (fun H' => ∃ c A, X c A ∧ A l = none ∧ H' = A.upd l (some (.loop (rec .done (some c) #[]) T)))
    (by rintro k H' ⟨s, hi, hls, rfl⟩; exact hIT k s hi l _ hls)
    (by
      rintro k y H' hy ⟨s, hi, hls, rfl⟩
      intro w1 vs hlv hvv hh
      obtain ⟨ts, hrecl, hts, hvT⟩ := hJl hh
      have hsubl : SubH (HH s) ((HH s).upd l (some (.loop (rec .ready none #[]) T))) := (SubH.refl _).upd hls
      have hyl : y.length = ps.size := hps y (List.mem_of_getElem? hy)
      refine ⟨fn, (ps.toList.zip vs.toList).foldl (fun t (p : Tmp × Value) => t.setIfInBounds p.1 p.2) ts, assign, body, ?_, ?_⟩
      · have hy := run_yield (P := P) (args := vs) hrecl (by rw [hrec]; show vs.size = ps.size; omega)
        rw [hy, hrec]
        show Result.ok (Next.round l fn (Array.foldl _ ts (ps.zip vs)) assign body) w1 = _
        rw [← Array.foldl_toList, Array.toList_zip]
      refine roundIn_of_wpIn (F := fen none) trivial ?_
      have hval := setP_vals (P := P) (w := w1) (A := HH s) ps.toList y vs.toList T ts (by simpa using hyl) (by simpa using hlv) (fun k x u hx hu => (hvv k x u hx (by simpa using hu)).sub hsubl) hts (fun k x hx => let ⟨u, h1, h2⟩ := hvT k x hx; ⟨u, h1, h2.sub hsubl⟩)
      have hst : St P [] (setP T ps.toList y) (HH s) { tmps := (ps.toList.zip vs.toList).foldl (fun t (p : Tmp × Value) => t.setIfInBounds p.1 p.2) ts, defers := [] } w1 := ⟨rfl, hval.1, hval.2, hh.sub hsubl⟩
      refine wpIn_mono (hround l k y s hy hi _ _ hst) ?_
      rintro e a1 w2 ⟨ds2, T2, H2, st2, k2, rfl, hbody⟩
      have hkeep2 := k2.keep l (Array.getElem?_eq_some_iff.1 hrecl).1 hls
      have hl2 : w2.heap[l]? = some (.loop (rec .ready none ts)) := hkeep2.1.trans hrecl
      have nc2 : NoCells w2 l := .loop hl2
      refine ⟨_, run_beginRound hl2 (by rw [hrec]), ?_⟩
      have st3 : St P ds2 T2 H2 a1 (w2.putObj l (.loop { rec .ready none ts with state := .busy })) :=
        ⟨st2.defers, st2.size, fun k x hx => let ⟨u, h1, h2⟩ := st2.vals k x hx; ⟨u, h1, h2.put nc2⟩, st2.heap.put nc2 hkeep2.2⟩
      refine wpIn_mono (hbody _ _ st3) ?_
      rintro e a3 w3 ⟨ds3, T3, H3, st3', k3, q3⟩
      have hl3' : (w2.putObj l (.loop { rec .ready none ts with state := .busy })).heap[l]? = some (.loop { rec .ready none ts with state := .busy }) := World.putObj_heap_same (Array.getElem?_eq_some_iff.1 hl2).1
      have hkeep3 := k3.keep l (Array.getElem?_eq_some_iff.1 hl3').1 hkeep2.2
      have hl3 : w3.heap[l]? = some (.loop { rec .ready none ts with state := .busy }) := hkeep3.1.trans hl3'
      have nc3 : NoCells w3 l := .loop hl3
      have kx : StepX l (HH s) w1 H3 w3 := (k2.x.trans (StepX.put l H2 w2 _)).trans k3.x
      -- the round's end
      have fin : ∀ (st : LoopState) (pe : Option Code) (A : AH), SubH A H3 → A l = none →
          HR P (A.upd l (some (.loop (rec st pe #[]) T))) (w3.putObj l (.loop (rec st pe ts))) ∧ Step ((HH s).upd l (some (.loop (rec .ready none #[]) T))) w1 (A.upd l (some (.loop (rec st pe #[]) T))) (w3.putObj l (.loop (rec st pe ts))) := by
        intro st pe A hA hAl
        have hstep : Step ((HH s).upd l (some (.loop (rec .ready none #[]) T))) w1 (A.upd l (some (.loop (rec st pe #[]) T))) (w3.putObj l (.loop (rec st pe ts))) :=
          StepX.own ((StepX.sub hA kx).trans (StepX.put l A w3 _))
        have hl4 : (w3.putObj l (.loop (rec st pe ts))).heap[l]? = some (.loop (rec st pe ts)) := World.putObj_heap_same (Array.getElem?_eq_some_iff.1 hl3).1
        refine ⟨HR.owned (.loop hl4) ⟨ts, by rw [hl4, hrec], hts, fun k x hx => ?_⟩ ((st3'.heap.sub hA).put nc3 hAl), hstep⟩
        obtain ⟨u, h1, h2⟩ := hvT k x hx
        exact ⟨u, h1, h2.step hstep⟩
      have hend : ∀ pe : Option Code, (Instr.endRound l pe).run P w3 = .ok (.bool pe.isNone) (w3.putObj l (.loop (rec (if pe.isNone then .ready else .done) pe ts))) := fun pe => (run_endRound pe hl3).trans (by rw [hrec])
      cases e with
      | normal =>
        obtain ⟨s', hi', hsub'⟩ := q3
        have hls' : (HH s') l = none := hsub'.none hkeep3.2
        have hf := fin .ready none (HH s') hsub' hls'
        exact ⟨_, _, hend none, true, (HH s').upd l (some (.loop (rec .ready none #[]) T)), rfl, hf.1, hf.2, by dsimp only; rw [if_pos rfl]; exact ⟨s', hi', hls', rfl⟩⟩
      | ret =>
        have hf := fin .done (some .ret) H3 (SubH.refl _) hkeep3.2
        exact ⟨_, _, hend (some .ret), false, H3.upd l (some (.loop (rec .done (some .ret) #[]) T)), rfl, hf.1, hf.2, by dsimp only; rw [if_neg (by decide)]; exact ⟨_, _, q3, hkeep3.2, rfl⟩⟩
      | exit id =>
        have hf := fin .done (some (.exit id)) H3 (SubH.refl _) hkeep3.2
        exact ⟨_, _, hend (some (.exit id)), false, H3.upd l (some (.loop (rec .done (some (.exit id)) #[]) T)), rfl, hf.1, hf.2, by dsimp only; rw [if_neg (by decide)]; exact ⟨_, _, q3, hkeep3.2, rfl⟩⟩
      | goto t => exact q3.elim
      | panic c => exact q3.elim
      | outgrown => exact q3.elim)
    ((HH s0).upd l (some (.loop (rec .ready none #[]) T)))
    (fun x H' => (∃ s, I xs.length s ∧ (HH s) l = none ∧ H' = (HH s).upd l (some (.loop (rec .ready none #[]) T))) ∨ ∃ c A, X c A ∧ A l = none ∧ H' = A.upd l (some (.loop (rec .done (some c) #[]) T)))
    ⟨s0, hi0, hl0, rfl⟩ (fun x H' hq => hq) W1 (#[.func (.yield l) #[] #[]] ++ vc) (by simp [hlc]; omega)
    (by
      intro k x u hx hu
      cases k with
      | zero =>
        rw [Array.getElem?_append_left (by simp)] at hu
        simp at hx hu; subst hx; subst hu; exact .v _
      | succ k =>
        have hu' : vc[k]? = some u := by
          rw [Array.getElem?_append] at hu
          simpa using hu
        exact (hcc k x u (by simpa using hx) hu').step hstep1)
    hhr1
  have hcall' := hcall
  refine CallsIn.mono (F := fen none) (n := 0 - 1) hcall' ?_
  rintro e w3 ⟨v, x, H', rfl, hx, hh, hst, hq⟩
  have leave : ∀ (st : LoopState) (pe : Option Code) (A : AH), st ≠ .busy → A l = none → H' = A.upd l (some (.loop (rec st pe #[]) T)) →
      ∃ w4, (Instr.endLoop l).run P w3 = .ok pe w4 ∧ St P (mark D :: ds) T A { a with defers := [mark D] ++ a.defers } w4 ∧ Step H w A w4 := by
    rintro st pe A hb hAl rfl
    obtain ⟨ts, hrecl, hts, hvT⟩ := hJl hh
    have nc : NoCells w3 l := .loop hrecl
    have hend : (Instr.endLoop l).run P w3 = .ok pe (w3.putObj l (.loop (rec .exhausted pe ts))) := (run_endLoop hrecl (by rw [hrec]; exact hb)).trans (by rw [hrec])
    have kk : Step H w A (w3.putObj l (.loop (rec .exhausted pe ts))) := by
      refine Step.trans (hstep1.trans hst) ⟨rfl, rfl, rfl, by simp, fun b hb hn => ?_⟩
      have hbl : b ≠ l := fun e => by subst e; rw [AH.upd_same] at hn; cases hn
      rw [AH.upd_ne _ _ hbl] at hn
      exact ⟨World.putObj_heap_other hbl, hn⟩
    refine ⟨_, hend, ⟨by show [mark D] ++ a.defers = _; rw [hs.defers]; rfl, hs.size, fun k x hx => ?_, ?_⟩, kk⟩
    · obtain ⟨u, h1, h2⟩ := hs.vals k x hx
      exact ⟨u, h1, h2.step kk⟩
    · have hsub : SubH A (A.upd l (some (.loop (rec st pe #[]) T))) := (SubH.refl _).upd hAl
      exact (hh.sub hsub).put nc hAl
  rcases hq with ⟨s, hi, hls, he⟩ | ⟨c, A, hX, hAl, he⟩
  · obtain ⟨w4, hr4, st4, k4⟩ := leave .ready none (HH s) (by decide) hls he
    exact ⟨none, w4, hr4, _, _, _, st4, k4, hdone s hi⟩
  · obtain ⟨w4, hr4, st4, k4⟩ := leave .done (some c) A (by decide) hAl he
    exact ⟨some c, w4, hr4, wpIn_mono (hstop c A hX _ _ st4) fun _ _ _ p => p.back k4⟩

/-- A function that bears the mark of a range over a function. -/
def retQM (P : Program) (rs : List ResultVar) (K : AV → AH → Prop) : Post := fun e ds T H =>
  (e = .normal ∨ e = .ret) ∧ ∃ D, ds = [mark D] ∧ H D = some (.raw (.deferred (some []))) ∧ ∃ xs H1 H', RVL P T H1 rs xs ∧ SubH H1 H ∧ H1 D = none ∧ SubH H' H1 ∧ K (pack xs) H'

theorem AC_ofM {f : FuncId} {fn : Func} {c : Code} {args T0 : List AV} {K : AV → AH → Prop} (hf : P.funcs[f]? = some fn) (hb : fn.body = some c) {rs : List ResultVar} (hrs : fn.results = rs.toArray) {n : Nat} (hn : fn.ntmps = n)
    (hT : args ++ List.replicate (n - args.length) (.v undef) = T0) (h : AW P none c [] T0 H (retQM P rs K)) : AC P f args H K := fun w vs hl hv hh => by
  refine callsIn_of_wp_marks hf hb trivial ?_ rfl
  have hst : St P [] T0 H { tmps := vs ++ Array.replicate (fn.ntmps - vs.size) undef, defers := [] } w := by
    refine ⟨rfl, by rw [← hT, hn]; simp [hl], fun k x hx => ?_, hh⟩
    rw [← hT, List.getElem?_append] at hx
    simp only [Array.getElem?_append]
    rw [hl] at hx
    split at hx
    · rename_i hlt
      rw [if_pos hlt]
      exact ⟨vs[k], Array.getElem?_eq_getElem hlt, hv k x _ hx (Array.getElem?_eq_getElem hlt)⟩
    · rename_i hlt
      rw [if_neg hlt, hn]
      rw [List.getElem?_replicate] at hx
      split at hx
      · rename_i h2
        injection hx with hx
        subst hx
        exact ⟨undef, by rw [Array.getElem?_replicate, if_pos h2], .v _⟩
      · cases hx
  refine wpIn_mono (h _ _ hst) ?_
  rintro e a1 w1 ⟨ds1, T1, H1, s1, k1, he, D, rfl, hHD, xs, H2, H3, hr, hsub, hD2, hsub3, hK⟩
  have hDw : w1.heap[D]? = some (.deferred (some [])) := s1.heap D _ hHD
  have nc : NoCells w1 D := .deferred hDw
  have s2 : St P [mark D] T1 H2 a1 (w1.putObj D (.deferred none)) :=
    ⟨s1.defers, s1.size, fun k x hx => let ⟨u, h1, h2⟩ := s1.vals k x hx; ⟨u, h1, (h2.sub hsub).put nc⟩, (s1.heap.sub hsub).put nc hD2⟩
  have k2 : Step H w H2 (w1.putObj D (.deferred none)) := by
    refine ⟨k1.os, k1.tape, k1.output, by simpa using k1.size, fun b hb hn => ?_⟩
    obtain ⟨e1, n1⟩ := k1.keep b hb hn
    have hbD : b ≠ D := fun e => by subst e; rw [hHD] at n1; cases n1
    exact ⟨(World.putObj_heap_other hbD).trans e1, hsub.none n1⟩
  obtain ⟨us, hrun, hlen, hus⟩ := RVL.run s2 hr
  have hres : (results fn a1.tmps).run P (w1.putObj D (.deferred none)) = .ok (if h : us.length = 1 then us[0] else .tuple us.toArray) (w1.putObj D (.deferred none)) := by
    have e0 : results fn a1.tmps = (do let vs ← fn.results.mapM (resOf a1.tmps); pure (if h : vs.size = 1 then vs[0] else .tuple vs)) := rfl
    rw [e0, hrs]
    simp only [Sem.run_bind]
    have e1 : ∀ g : ResultVar → Sem Value, (rs.toArray.mapM g) = (List.toArray <$> rs.mapM g) := fun g => by simp
    rw [e1]
    have e2 : ∀ (m : Sem (List Value)) (w : World), (List.toArray <$> m).run P w = (m.run P w).andThen fun l w => .ok l.toArray w := by
      intro m w
      have := Sem.run_bind P w m (fun l : List Value => (pure l.toArray : Sem (Array Value)))
      simp only [Sem.run_pure] at this
      exact this
    rw [e2, hrun]
    simp
  have hR : ∃ v x H', Ending.returned (if h : us.length = 1 then us[0] else .tuple us.toArray) = .returned v ∧ VR P (w1.putObj D (.deferred none)) H' x v ∧ HR P H' (w1.putObj D (.deferred none)) ∧ Step H w H' (w1.putObj D (.deferred none)) ∧ K x H' := by
    refine ⟨_, _, H3, rfl, ?_, s2.heap.sub hsub3, k2.sub hsub3, hK⟩
    refine VR.sub hsub3 ?_
    match xs, us, hlen, hus with
    | [], [], _, _ => exact .tup rfl (fun k y u h => by simp at h)
    | [x], [u], _, hus => exact hus 0 x u rfl rfl
    | x :: x' :: xs, u :: u' :: us, hlen, hus =>
      rw [dif_neg (by simp)]
      exact .tup (by simpa using hlen) (fun k y u hy hu => hus k y u hy (by simpa using hu))
  have hleave : LeavesInM (fen none) 0 P fn a1.tmps (fun e w' => ∃ v x H', e = .returned v ∧ VR P w' H' x v ∧ HR P H' w' ∧ Step H w H' w' ∧ K x H') a1.defers .returning w1 := by
    have hd : a1.defers = [mark D] := s1.defers
    rw [hd]
    exact ⟨by simp, .inl ⟨D, _, rfl, run_takeDeferred hDw, _, hres, hR⟩⟩
  rcases he with rfl | rfl
  · exact hleave
  · exact hleave

theorem retQM_mk {e : Exit} {D : Nat} {rs : List ResultVar} {xs : List AV} {H1 H' : AH} {K : AV → AH → Prop} (he : e = .normal ∨ e = .ret) (hD : H D = some (.raw (.deferred (some [])))) (hr : RVL P T H1 rs xs) (hs : SubH H1 H) (hn : H1 D = none) (hs2 : SubH H' H1) (k : K (pack xs) H') : retQM P rs K e [mark D] T H :=
  ⟨he, D, rfl, hD, xs, H1, H', hr, hs, hn, hs2, k⟩
end
end
end Go.AL
