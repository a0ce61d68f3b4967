/- Append of a slice that is read. -/
import Derived.Test.YtcnjcjhdcloniaaDoorAL16
set_option autoImplicit false
set_option linter.unusedVariables false
set_option linter.unusedSimpArgs false
namespace Go.AL
open Go Go.RowKit

theorem run_append_0 {P : Program} {t e ty : TypeId} {z : Value} {size bytes : Nat} (ht : P.underlying t = some (.slice e)) (hi : infoOf P e = some (some z, size, bytes))
    {w : World} {A : Option Nat} {cap n : Nat} {old : List Value} (hrow : RowC w A e cap n size old) (a : Option Addr) (c : Nat) :
    (Builtin.append_ #[t, t] ty #[.slice (A.map fun b => ⟨b, 0, none⟩) n cap, .slice a 0 c]).run P w = .ok (.slice (A.map fun b => ⟨b, 0, none⟩) n cap) w := by
  obtain ⟨i, hi', hzz⟩ := Option.map_eq_some_iff.1 hi
  cases A with
  | none =>
    obtain ⟨rfl, rfl, rfl⟩ := hrow
    cases a <;> simp [Builtin.append_, run_underlying ht, sizeOf, typeInfo, hi', Builtin.lenOf, Builtin.firstCells, loadCells, loadCellsFrom]
  | some b =>
    obtain ⟨cs, fr, hb, hsz, hfr, hnc, rfl⟩ := hrow
    cases a <;> simp [Builtin.append_, run_underlying ht, sizeOf, typeInfo, hi', Builtin.lenOf, hnc, Builtin.firstCells, loadCells, loadCellsFrom, storeCells]

section
variable {P : Program} {ro : Option Nat} {ds : List Deferred} {T : List AV} {H : AH} {Q : Post} {ops : Array Oper} {rest : List Oper}
variable {d : Option Tmp} {ty : TypeId} {pos : String} {af : Array Edge} {s s' : Operand} {x y : AV}

theorem AL_appendSl {t e : TypeId} {A : Option Nat} {c n : Nat} {xs ys : List AV} {z : Value} {sz bytes : Nat}
    (ht : P.underlying t = some (.slice e)) (hi : infoOf P e = some (some z, sz, bytes)) (hzs : z.cells.size = sz) (hb0 : 0 < bytes) (hs0 : 0 < sz)
    (hs : ev T s = some (.own A c n)) (hy : ev T s' = some (.sl e ys)) (hown : Own H A e c xs) (hn : n = xs.length) (hm : ∀ y ∈ ys, y.mem = true) (hbound : (n + ys.length) * bytes ≤ 140737488355328)
    (h : ∀ A' c', Fresh (H.rem A) A' c' (xs ++ ys) → AL P ro ops rest ds (tput T d (.own A' c' (n + ys.length))) ((H.rem A).put A' e c' (xs ++ ys)) Q) :
    AL P ro ops (⟨d, .call ⟨.builtin .append, #[s, s'], #[t, t]⟩, ty, pos, af, none⟩ :: rest) ds T H Q := fun a w hst => by
  subst hn
  have hso : szOf P e = some sz := by
    unfold infoOf at hi; unfold szOf
    obtain ⟨i, h1, h2⟩ := Option.map_eq_some_iff.1 hi
    simp at h2; rw [h1]; simp [h2.2.1]
  obtain ⟨hu, hA⟩ := (hst.ev hs).own_inv
  obtain ⟨As, cs, U, hu2, hel, hc', hcell, hv⟩ := (hst.ev hy).sl_inv
  have hel' : ∀ x ∈ ys, x.cells.length = sz := fun x hx => by rw [hel x hx, szOf_cells hso]
  have hfl := flat_length ys sz hel'
  obtain ⟨old, hrow, hold, helx, hx⟩ := Own.rowC hst.heap hso hown
  have hnews : ((List.range (flat ys).length).map U).length = ys.length * sz := by simp [hfl]
  have h1 : ∀ u ∈ (List.range (flat ys).length).map U, u.oneCell' = true := by
    intro u hu
    obtain ⟨k, hk, rfl⟩ := List.mem_map.1 hu
    rw [List.mem_range] at hk
    have hyk := List.getElem?_eq_getElem hk
    have hmem : (flat ys)[k] ∈ flat ys := List.getElem_mem hk
    unfold flat at hmem
    rw [List.mem_flatMap] at hmem
    obtain ⟨y0, hy0, hin⟩ := hmem
    have hm0 := hm y0 hy0
    simp only [AV.mem, List.all_eq_true] at hm0
    exact (hv k _ hyk).one (hm0 _ hin)
  have hrun : ∃ A2 cap2 w2, (Builtin.append_ #[t, t] ty #[.slice (A.map fun b => ⟨b, 0, none⟩) xs.length c, .slice As ys.length cs]).run P w = .ok (.slice (A2.map fun b => ⟨b, 0, none⟩) (xs.length + ys.length) cap2) w2 ∧ RowC w2 A2 e cap2 (xs.length + ys.length) sz (old ++ (List.range (flat ys).length).map U) ∧
      (A2 = A ∨ A2 = some w.heap.size) ∧ w2.os = w.os ∧ w2.tape = w.tape ∧ w2.output = w.output ∧ w.heap.size ≤ w2.heap.size ∧ ∀ k, k < w.heap.size → some k ≠ A → w2.heap[k]? = w.heap[k]? := by
    cases As with
    | some a0 =>
      have hcl : ∀ j u, ((List.range (flat ys).length).map U)[j]? = some u → w.cell? (a0.add j) = some u := by
        intro j u hj
        rw [List.getElem?_map] at hj
        obtain ⟨k, hk, rfl⟩ := Option.map_eq_some_iff.1 hj
        rw [List.getElem?_range] at hk
        · injection hk with hk; subst hk
          have hlt : j < (flat ys).length := by
            rcases Nat.lt_or_ge j (flat ys).length with h | h
            · exact h
            · rw [List.getElem?_eq_none (by simpa using h)] at hj; cases hj
          obtain ⟨a1, ha1, _, h3⟩ := hcell j _ (List.getElem?_eq_getElem hlt)
          injection ha1 with ha1; subst ha1; exact h3
        · rcases Nat.lt_or_ge j (flat ys).length with h | h
          · exact h
          · rw [List.getElem?_eq_none (by simpa using h)] at hj; cases hj
      obtain ⟨A2, cap2, w2, r1, r2, r3, _, r5, r6, r7, r8, r9⟩ := run_append_c (ty := ty) ht hi hzs hb0 hrow a0 ys.length cs _ hnews hcl h1 hbound
      exact ⟨A2, cap2, w2, r1, r2, r3, r5, r6, r7, r8, r9⟩
    | none =>
      have hf0 : (flat ys).length = 0 := by
        cases hfy : flat ys with
        | nil => rfl
        | cons y0 l =>
          obtain ⟨a1, ha1, _⟩ := hcell 0 y0 (by rw [hfy]; rfl)
          cases ha1
      have hy0 : ys.length = 0 := by
        rw [hfl] at hf0
        rcases Nat.mul_eq_zero.1 hf0 with h | h
        · exact h
        · omega
      have := run_append_0 (ty := ty) ht hi hrow none cs
      rw [hy0]
      refine ⟨A, c, w, this, ?_, .inl rfl, rfl, rfl, rfl, Nat.le_refl _, fun _ _ _ => rfl⟩
      rw [hf0]; simpa using hrow
  obtain ⟨A2, cap2, w2, r1, r2, r3, r5, r6, r7, r8, r9⟩ := hrun
  obtain ⟨q1, q2, q3⟩ := append_state (zs := ys) hst.heap hso hown r2 hold (fun x hx => by
      simp only [List.mem_append] at hx
      rcases hx with hx | hx
      · exact helx x hx
      · exact hel' x hx) (by simp) hx (fun k z hz => by
        have hlt := (List.getElem?_eq_some_iff.1 hz).1
        exact ⟨U k, by simp [hlt], hv k z hz⟩) r3 r5 r6 r7 r8 r9
  have hfresh : Fresh (H.rem A) A2 cap2 (xs ++ ys) := by
    cases A2 with
    | none =>
      obtain ⟨h1, h2, _⟩ := r2
      exact ⟨h2, List.length_eq_zero_iff.1 (by simpa using h1)⟩
    | some b => exact q3 b rfl
  have hown2 : VR P w2 ((H.rem A).put A2 e cap2 (xs ++ ys)) (.own A2 cap2 (xs.length + ys.length)) (.slice (A2.map fun b => ⟨b, 0, none⟩) (xs.length + ys.length) cap2) := by
    cases A2 with
    | some b => exact .own b cap2 _
    | none =>
      obtain ⟨h1, h2, _⟩ := r2
      rw [h1, h2]; exact .ownNil
  refine wpListIn_plain rfl fun K hK => ⟨fun f _ => trivial, ?_⟩
  rw [Oper.semAt_eq _ _ _ (fun _ => by simp)]
  have hr : (execOp a.eval { dst := d, op := Op.call ⟨.builtin .append, #[s, s'], #[t, t]⟩, type := ty, pos := pos, after := af, guard := none }).run P w = .ok (.value (.slice (A2.map fun b => ⟨b, 0, none⟩) (xs.length + ys.length) cap2)) w2 := by
    simp only [execOp, resolve, invoke, builtin, Sem.run_bind, Sem.run_pure, Result.andThen_ok, List.map_toArray, List.map_cons, List.map_nil, hu, hu2, r1]
  rw [hr]
  exact hK _ _ (wpListIn_mono (fun _ _ _ p => post.back q1 p) (fun _ => trivial) _ _ _ (h A2 cap2 hfresh _ _ (hst.put q1 q2 hown2)))

/-- A row of ours, read from now on: in the whole. -/
theorem AL_freezeP {A : Option Nat} {e : TypeId} {c n : Nat} {xs : List AV} (k : Nat) (hk : T[k]? = some (.own A c n)) (hf : Fresh H A c xs) (hn : n = xs.length) (h : AL P ro ops rest ds (T.set k (.sl e xs)) H Q) : AL P ro ops rest ds T (H.put A e c xs) Q := by
  cases A with
  | none =>
    obtain ⟨rfl, rfl⟩ := hf
    subst hn
    exact AL_nilsl k hk h
  | some b => exact AL_freeze k hk (AH.upd_same _ _ _) hn (by
      have e1 : (H.upd b (some (.row e c xs))).upd b none = H := AH.upd_none_eq hf
      show AL P ro ops rest ds (T.set k (.sl e xs)) ((H.upd b (some (.row e c xs))).upd b none) Q
      rw [e1]; exact h)
theorem AW_freezeP {c' : Code} {A : Option Nat} {e : TypeId} {c n : Nat} {xs : List AV} (k : Nat) (hk : T[k]? = some (.own A c n)) (hf : Fresh H A c xs) (hn : n = xs.length) (h : AW P ro c' ds (T.set k (.sl e xs)) H Q) : AW P ro c' ds T (H.put A e c xs) Q := by
  cases A with
  | none =>
    obtain ⟨rfl, rfl⟩ := hf
    subst hn
    exact AW_nilsl k hk h
  | some b => exact AW_freeze k hk (AH.upd_same _ _ _) hn (by
      have e1 : (H.upd b (some (.row e c xs))).upd b none = H := AH.upd_none_eq hf
      show AW P ro c' ds (T.set k (.sl e xs)) ((H.upd b (some (.row e c xs))).upd b none) Q
      rw [e1]; exact h)
end
end Go.AL
namespace Go.AL
open Go Go.RowKit
section
variable {P : Program} {ro : Option Nat} {ds : List Deferred} {H : AH} {Q : Post}
theorem AW_drawl {id : Nat} {l : List Oper} {T0 xs : List AV} (hq : quietOk l.toArray = true) (hop : Hops P ro l.toArray ds H T0.length 0 T0 l xs) (h : Q .normal ds (Tfin T0 l xs) H) : AW P ro (.region id l.toArray true) ds T0 H Q :=
  AW_draw hq (by simpa using hop) (by simpa using h)
theorem Hops_nil {ops : Array Oper} {n k : Nat} {Tk : List AV} : Hops P ro ops ds H n k Tk [] [] := trivial
theorem Hops_cons {ops : Array Oper} {n k : Nat} {Tk : List AV} {o : Oper} {l : List Oper} {x : AV} {xs : List AV}
    (h1 : ∀ T : List AV, T.length = n → (∀ s, (readsOf ops k).contains s = true → T[s]? = Tk[s]?) → AL P ro ops [o] ds T H (qpost ds H (tput T o.dst x))) (h2 : Hops P ro ops ds H n (k + 1) (tput Tk o.dst x) l xs) :
    Hops P ro ops ds H n k Tk (o :: l) (x :: xs) := ⟨h1, h2⟩
end
end Go.AL
