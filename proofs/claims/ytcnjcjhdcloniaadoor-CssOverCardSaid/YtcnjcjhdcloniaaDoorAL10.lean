/- Ways out, loops, what is read from now on. -/
import Derived.Test.YtcnjcjhdcloniaaDoorAL9
set_option autoImplicit false
set_option linter.unusedVariables false
set_option linter.unusedSimpArgs false
namespace Go.AL
open Go Go.RowKit

def setAll (T : List AV) (l : List (Nat × AV)) : List AV := l.foldl (fun T p => T.set p.1 p.2) T

theorem Weak.consE {x y : AV} {T T' : List AV} (e : x = y) (h : Weak T T') : Weak (x :: T) (y :: T') := e ▸ h.cons

section
variable {P : Program} {ro : Option Nat} {ds : List Deferred} {T : List AV} {H : AH} {Q : Post} {ops : Array Oper} {rest : List Oper} {c : Code} {id j : Nat}

theorem seqQ_n (h : AW P ro c ds T H Q) : seqQ P ro c Q .normal ds T H := h
theorem seqQ_x (h : Q (.exit j) ds T H) : seqQ P ro c Q (.exit j) ds T H := h
theorem seqQ_r (h : Q .ret ds T H) : seqQ P ro c Q .ret ds T H := h
theorem blockQ_n (h : Q .normal ds T H) : blockQ id Q .normal ds T H := h
theorem blockQ_r (h : Q .ret ds T H) : blockQ id Q .ret ds T H := h

def loopQ {α : Type} (ds : List Deferred) (TT : α → List AV) (HH : α → AH) (I : α → Prop) (μ : α → Nat) (s : α) (Q : Post) : Post
  | .normal, ds', T', H' => ds' = ds ∧ ∃ s', I s' ∧ μ s' < μ s ∧ Weak T' (TT s') ∧ SubH (HH s') H'
  | e, ds', T', H' => Q e ds' T' H'
section
variable {α : Type} {TT : α → List AV} {HH : α → AH} {I : α → Prop} {μ : α → Nat} {s : α}
theorem loopQ_x (h : Q (.exit j) ds T H) : loopQ ds TT HH I μ s Q (.exit j) ds T H := h
theorem loopQ_r (h : Q .ret ds T H) : loopQ ds TT HH I μ s Q .ret ds T H := h
theorem loopQ_n (s' : α) (hI : I s') (hm : μ s' < μ s) (hH : SubH (HH s') H) (hw : Weak T (TT s')) : loopQ ds TT HH I μ s Q .normal ds T H := ⟨rfl, s', hI, hm, hw, hH⟩
end

/-- A loop, its states told by a parameter. -/
theorem AW_loops {α : Type} (D : List Nat) (upds : α → List (Nat × AV)) (HH : α → AH) (I : α → Prop) (μ : α → Nat) (s0 : α) (h0 : I s0) (hH : SubH (HH s0) H) (hw : Weak T (setAll (anyAt T D) (upds s0)))
    (round : ∀ s, I s → AW P ro c ds (setAll (anyAt T D) (upds s)) (HH s) (loopQ ds (fun s => setAll (anyAt T D) (upds s)) HH I μ s Q)) : AW P ro (.loop c) ds T H Q := by
  have hex : ∃ f : List AV → AH → Nat, ∀ s, I s → True := ⟨fun _ _ => 0, fun _ _ => trivial⟩
  -- the measure goes by the least parameter that fits
  intro a w hst b k cs hro hb hr
  have key : ∀ j s a1 w1, μ s = j → I s → St P ds (setAll (anyAt T D) (upds s)) (HH s) a1 w1 → Step H w (HH s) w1 →
      ∃ e a' w', post P Q H w e a' w' ∧ ArrivesIn (Machine.fenced P (fen ro)) P (lone (b.atR a1 (.code c :: .inLoop c :: k)) cs w1) b k cs e a' w' := by
    intro j
    induction j using Nat.strongRecOn with
    | _ j ih =>
      intro s a1 w1 hn hI hst hstep
      obtain ⟨e, a2, w2, hq, harr⟩ := round s hI a1 w1 hst b (.inLoop c :: k) cs hro hb hr
      obtain ⟨ds2, T2, H2, s2, k2, q2⟩ := hq
      cases e with
      | normal =>
        obtain ⟨rfl, s', hI3, hlt, hw3, hsb⟩ := q2
        obtain ⟨e3, a3, w3, hq3, harr3⟩ := ih (μ s') (hn ▸ hlt) s' a2 w2 rfl hI3 ((s2.weak hw3).sub hsb) (Step.sub hsb (hstep.trans k2))
        exact ⟨e3, a3, w3, hq3, .of_steps (StepsIn.trans harr (.one (fenced_calm hb hr rfl) stepR_inLoop)) harr3⟩
      | exit id => exact ⟨_, a2, w2, ⟨ds2, T2, H2, s2, hstep.trans k2, q2⟩, .pass (x := .inLoop c) rfl (fun _ _ => .inl (by simp)) harr⟩
      | goto l => exact ⟨_, a2, w2, ⟨ds2, T2, H2, s2, hstep.trans k2, q2⟩, .pass (x := .inLoop c) rfl (fun _ _ => .inl (by simp)) harr⟩
      | ret => exact ⟨_, a2, w2, ⟨ds2, T2, H2, s2, hstep.trans k2, q2⟩, .pass (x := .inLoop c) rfl (fun _ _ => .inl (by simp)) harr⟩
      | panic ch => exact ⟨_, a2, w2, ⟨ds2, T2, H2, s2, hstep.trans k2, q2⟩, .pass (x := .inLoop c) rfl (fun _ _ => .inl (by simp)) harr⟩
      | outgrown => exact ⟨_, a2, w2, ⟨ds2, T2, H2, s2, hstep.trans k2, q2⟩, .pass (x := .inLoop c) rfl (fun _ _ => .inl (by simp)) harr⟩
  obtain ⟨e, a', w', hq, harr⟩ := key _ s0 a w rfl h0 ((hst.weak hw).sub hH) (Step.sub hH (.refl _ _))
  exact ⟨e, a', w', hq, .of_steps (.one (fenced_calm hb hr rfl) stepR_loop) harr⟩

theorem AW_norm {T' : List AV} (e : T = T') (h : AW P ro c ds T' H Q) : AW P ro c ds T H Q := e ▸ h
theorem AL_norm {T' : List AV} (e : T = T') (h : AL P ro ops rest ds T' H Q) : AL P ro ops rest ds T H Q := e ▸ h
theorem Q_norm {T' : List AV} {e : Exit} (h0 : T = T') (h : Q e ds T' H) : Q e ds T H := h0 ▸ h
theorem AW_weaken {T' : List AV} (e : Weak T T') (h : AW P ro c ds T' H Q) : AW P ro c ds T H Q := fun a w hst => h a w (hst.weak e)
theorem AL_weaken {T' : List AV} (e : Weak T T') (h : AL P ro ops rest ds T' H Q) : AL P ro ops rest ds T H Q := fun a w hst => h a w (hst.weak e)
theorem AW_heap {H' : AH} (e : H = H') (h : AW P ro c ds T H' Q) : AW P ro c ds T H Q := e ▸ h
theorem AL_heap {H' : AH} (e : H = H') (h : AL P ro ops rest ds T H' Q) : AL P ro ops rest ds T H Q := e ▸ h

/-- A cut: c ends as R says. -/
theorem AW_cut {R : Post} (h : AW P ro c ds T H R) (hq : ∀ e ds T H, R e ds T H → Q e ds T H) : AW P ro c ds T H Q := h.mono hq

/-- WHAT WAS OURS IS FROM NOW ON READ ONLY. -/
theorem VR.frozen {w : World} {b c : Nat} {e : TypeId} {xs : List AV} (hh : HR P H w) (hb : H b = some (.row e c xs)) : VR P w (H.upd b none) (.sl e xs) (.slice (some ⟨b, 0, none⟩) xs.length c) := by
  obtain ⟨cs, fr, h1, h2, h3, h4, h5, h6⟩ := hh b _ hb
  have hsub : SubH (H.upd b none) H := fun k o hk => by
    by_cases e : k = b
    · subst e; rw [AH.upd_same] at hk; cases hk
    · rwa [AH.upd_ne _ _ e] at hk
  have hU : ∃ U : Nat → Value, ∀ k y, (flat xs)[k]? = some y → cs[k]? = some (U k) ∧ VR P w H y (U k) := ⟨fun k => (cs[k]?).getD undef, fun k y hy => by
    obtain ⟨u, q1, q2⟩ := h6 k y hy
    show cs[k]? = some ((cs[k]?).getD undef) ∧ VR P w H y ((cs[k]?).getD undef)
    rw [q1]; exact ⟨rfl, q2⟩⟩
  obtain ⟨U, hU⟩ := hU
  refine .sl U h5 h4 (fun k y hy => ⟨_, rfl, AH.upd_same _ _ _, ?_⟩) (fun k y hy => (hU k y hy).2.sub hsub)
  rw [addr_add]
  simp only [World.cell?, h1]
  simpa using (hU k y hy).1

theorem upd_none_sub (H : AH) (b : Nat) : SubH (H.upd b none) H := fun k o hk => by
  by_cases e : k = b
  · subst e; rw [AH.upd_same] at hk; cases hk
  · rwa [AH.upd_ne _ _ e] at hk

theorem St.freeze {a : Act} {w : World} (hst : St P ds T H a w) {k A : Nat} {e : TypeId} {c n : Nat} {xs : List AV} (hk : T[k]? = some (.own (some A) c n)) (hb : H A = some (.row e c xs)) (hn : n = xs.length) :
    St P ds (T.set k (.sl e xs)) (H.upd A none) a w := by
  have h1 := hst.sub (upd_none_sub H A)
  refine ⟨h1.defers, by simpa using h1.size, fun i x hx => ?_, h1.heap⟩
  rw [List.getElem?_set] at hx
  split at hx
  · rename_i e1
    subst e1
    split at hx
    · injection hx with hx
      subst hx
      obtain ⟨u, hu, hv⟩ := hst.vals _ _ hk
      obtain ⟨hu', _⟩ := hv.own_inv
      refine ⟨u, hu, ?_⟩
      rw [hu', hn]
      exact VR.frozen hst.heap hb
    · cases hx
  · exact h1.vals i x hx
theorem AL_freeze {A : Nat} {e : TypeId} {c n : Nat} {xs : List AV} (k : Nat) (hk : T[k]? = some (.own (some A) c n)) (hb : H A = some (.row e c xs)) (hn : n = xs.length) (h : AL P ro ops rest ds (T.set k (.sl e xs)) (H.upd A none) Q) : AL P ro ops rest ds T H Q :=
  fun a w hst => wpListIn_mono (fun _ _ _ p => post.back (Step.sub (upd_none_sub H A) (.refl _ _)) p) (fun _ => trivial) _ _ _ (h a w (hst.freeze hk hb hn))
theorem AW_freeze {c' : Code} {A : Nat} {e : TypeId} {c n : Nat} {xs : List AV} (k : Nat) (hk : T[k]? = some (.own (some A) c n)) (hb : H A = some (.row e c xs)) (hn : n = xs.length) (h : AW P ro c' ds (T.set k (.sl e xs)) (H.upd A none) Q) : AW P ro c' ds T H Q :=
  fun a w hst => wpIn_mono (h a w (hst.freeze hk hb hn)) fun _ _ _ p => post.back (Step.sub (upd_none_sub H A) (.refl _ _)) p
theorem St.nilsl {a : Act} {w : World} (hst : St P ds T H a w) {k : Nat} {e : TypeId} (hk : T[k]? = some (.own none 0 0)) : St P ds (T.set k (.sl e [])) H a w := by
  refine ⟨hst.defers, by simpa using hst.size, fun i x hx => ?_, hst.heap⟩
  rw [List.getElem?_set] at hx
  split at hx
  · rename_i e1
    subst e1
    split at hx
    · injection hx with hx
      subst hx
      obtain ⟨u, hu, hv⟩ := hst.vals _ _ hk
      obtain ⟨hu', _⟩ := hv.own_inv
      refine ⟨u, hu, ?_⟩
      rw [hu']
      exact .sl (xs := []) (c := 0) (fun _ => undef) (by simp) (by simp) (fun k y h => by simp [flat] at h) (fun k y h => by simp [flat] at h)
    · cases hx
  · exact hst.vals i x hx
theorem AL_nilsl {e : TypeId} (k : Nat) (hk : T[k]? = some (.own none 0 0)) (h : AL P ro ops rest ds (T.set k (.sl e [])) H Q) : AL P ro ops rest ds T H Q := fun a w hst => h a w (hst.nilsl hk)
theorem AW_nilsl {e : TypeId} (k : Nat) (hk : T[k]? = some (.own none 0 0)) (h : AW P ro c ds (T.set k (.sl e [])) H Q) : AW P ro c ds T H Q := fun a w hst => h a w (hst.nilsl hk)
end
end Go.AL
