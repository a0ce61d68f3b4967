/- Append; rows made anew; what is owned handed on as read. -/
import Derived.Test.YtcnjcjhdcloniaaDoorAL6
set_option autoImplicit false
set_option linter.unusedVariables false
set_option linter.unusedSimpArgs false
namespace Go.AL
open Go Go.RowKit

/-- A row of ours in memory: its first n elements' cells. -/
def RowC (w : World) (A : Option Nat) (e : TypeId) (cap n size : Nat) (old : List Value) : Prop :=
  match A with
  | none => n = 0 ∧ cap = 0 ∧ old = []
  | some b => ∃ cs fr, w.heap[b]? = some (.cells cs e fr) ∧ cs.size = cap * size ∧ (∀ i, i < cs.size → ¬ (fr.1 ≤ i ∧ i < fr.2)) ∧ n ≤ cap ∧ old = cs.toList.take (n * size)

def infoOf (P : Program) (e : TypeId) : Option (Option Value × Nat × Nat) := (P.info? e).map fun i => (i.zero, i.size, i.bytes)

theorem run_append_c {P : Program} {t e ty : TypeId} {z : Value} {size bytes : Nat} (ht : P.underlying t = some (.slice e)) (hi : infoOf P e = some (some z, size, bytes)) (hzs : z.cells.size = size) (hb0 : 0 < bytes)
    {w : World} {A : Option Nat} {cap n : Nat} {old : List Value} (hrow : RowC w A e cap n size old)
    (a : Addr) (m c : Nat) (news : List Value) (hl : news.length = m * size) (hnews : ∀ j u, news[j]? = some u → w.cell? (a.add j) = some u) (h1 : ∀ u ∈ news, u.oneCell' = true)
    (hbytes : (n + m) * bytes ≤ 140737488355328) :
    ∃ A2 cap2 w2, (Builtin.append_ #[t, t] ty #[.slice (A.map fun b => ⟨b, 0, none⟩) n cap, .slice (some a) m c]).run P w = .ok (.slice (A2.map fun b => ⟨b, 0, none⟩) (n + m) cap2) w2 ∧ RowC w2 A2 e cap2 (n + m) size (old ++ news) ∧
      (A2 = A ∨ A2 = some w.heap.size) ∧ (0 < m → A2 ≠ none) ∧ w2.os = w.os ∧ w2.tape = w.tape ∧ w2.output = w.output ∧ w.heap.size ≤ w2.heap.size ∧ ∀ k, k < w.heap.size → some k ≠ A → w2.heap[k]? = w.heap[k]? := by
  obtain ⟨i, hi', hzz⟩ := Option.map_eq_some_iff.1 hi
  simp only [Prod.mk.injEq] at hzz
  obtain ⟨hz, hs, hby⟩ := hzz
  subst hs
  subst hby
  have hnm : n + m ≤ 140737488355328 := Nat.le_trans (Nat.le_mul_of_pos_right _ hb0) hbytes
  cases A with
  | none =>
    obtain ⟨rfl, rfl, rfl⟩ := hrow
    by_cases hm : m = 0
    · subst hm
      have hn : news = [] := List.eq_nil_of_length_eq_zero (by simpa using hl)
      subst hn
      refine ⟨none, 0, w, ?_, ⟨rfl, rfl, rfl⟩, .inl rfl, fun h => absurd h (by omega), rfl, rfl, rfl, Nat.le_refl _, fun _ _ _ => rfl⟩
      simp [Builtin.append_, run_underlying ht, sizeOf, typeInfo, hi', Builtin.lenOf, Builtin.firstCells, loadCells, loadCellsFrom]
    · have hr := run_append_nil (P := P) w t ty e i z ht hi' hz a m c news hl hnews (by omega) (by omega) (by simp at hbytes; omega)
      have hge := grownCap_ge w m 0 e
      refine ⟨some w.heap.size, grownCap w m 0 e, w.drew.alloc (.cells (news.toArray ++ Builtin.zeroCells z.cells (grownCap w m 0 e - m)) e), by simpa using hr, ?_, .inr rfl, fun _ => by simp, rfl, rfl, rfl, by simp, fun k hk _ => heap_alloc_old w.drew _ k hk⟩
      refine ⟨_, (0, 0), heap_alloc_new w.drew _, ?_, fun i _ h => by simp at h, by simpa using hge, ?_⟩
      · simp only [Array.size_append, List.size_toArray, size_zeroCells, hzs, hl, ← Nat.add_mul]
        congr 1; omega
      · simp only [Array.toList_append, List.nil_append, Nat.zero_add]
        rw [← hl]; simp
  | some b =>
    obtain ⟨cs, fr, hb, hsz, hfr, hnc, rfl⟩ := hrow
    by_cases hroom : n + m ≤ cap
    · have hlt : n * i.size + news.length ≤ cs.size := by rw [hl, hsz, ← Nat.add_mul]; exact Nat.mul_le_mul_right _ hroom
      have hst := run_storeCells_cells (P := P) b (n * i.size) news 0 w
        (fun j hj => by
          have : n * i.size + j < cs.size := by omega
          simp [World.cell?, hb, this])
        (fun j hj => by
          have := hfr (n * i.size + j) (by omega)
          simp only [World.frozen?, hb, Nat.add_zero]
          simp only [Bool.and_eq_false_iff, decide_eq_false_iff_not]
          exact Decidable.not_and_iff_not_or_not.1 this) h1
      obtain ⟨cs', k1, k2, k3, k4, k5, k6⟩ := setCells_row news (n * i.size) w cs hb
      refine ⟨some b, cap, w.setCells b (n * i.size) news, ?_, ⟨cs', fr, k1, by rw [k2, hsz], fun i hi => hfr i (by omega), hroom, ?_⟩, .inl rfl, fun _ => by simp, k5.os, k5.tape, k5.output, k5.size, fun k hk hne => k5.block k hk (fun e => hne (by rw [e]))⟩
      · have hf := run_firstCells_some (P := P) w i.size m a m c news hl hnews
        simp only [Nat.add_zero] at hst
        simp [Builtin.append_, run_underlying ht, sizeOf, typeInfo, hi', Builtin.lenOf, hroom, hf, addr_add, hst]
      · apply List.ext_getElem?
        intro k
        by_cases hk : k < n * i.size
        · rw [List.getElem?_append_left (by simp; omega), List.getElem?_take, if_pos hk, List.getElem?_take, if_pos (by rw [Nat.add_mul]; omega), Array.getElem?_toList, Array.getElem?_toList, k3 k (by omega)]
        · have hlen : (List.take (n * i.size) cs.toList).length = n * i.size := by simp; omega
          rw [List.getElem?_append_right (by omega), hlen]
          by_cases hk2 : k < n * i.size + news.length
          · have hj : k - n * i.size < news.length := by omega
            have e1 := k4 (k - n * i.size) _ (List.getElem?_eq_getElem hj) (by omega)
            rw [show n * i.size + (k - n * i.size) = k by omega] at e1
            rw [List.getElem?_eq_getElem hj, List.getElem?_take, if_pos (by rw [Nat.add_mul]; omega), Array.getElem?_toList, e1]
          · rw [List.getElem?_eq_none (by omega), List.getElem?_take, if_neg (by rw [Nat.add_mul]; omega)]
    · have hlen : (cs.toList.take (n * i.size)).length = n * i.size := by
        have : n * i.size ≤ cap * i.size := Nat.mul_le_mul_right _ hnc
        simp; omega
      have holds : ∀ j u, (cs.toList.take (n * i.size))[j]? = some u → w.cell? ((⟨b, 0, none⟩ : Addr).add j) = some u := by
        intro j u hj
        rw [List.getElem?_take] at hj
        split at hj
        · rw [addr_add]; simp [World.cell?, hb]; simpa using hj
        · cases hj
      have hr := run_append_grow (P := P) w t ty e i z ht hi' hz ⟨b, 0, none⟩ n cap _ hlen holds a m c news hl hnews (by omega) (by omega) (growslice_fits (by omega) hbytes)
      have hge := grownCap_ge w (n + m) cap e
      refine ⟨some w.heap.size, _, _, hr, ?_, .inr rfl, fun _ => by simp, rfl, rfl, rfl, by simp, fun k hk _ => heap_alloc_old w.drew _ k hk⟩
      refine ⟨_, (0, 0), heap_alloc_new w.drew _, ?_, fun i _ h => by simp at h, hge, ?_⟩
      · simp only [Array.size_append, List.size_toArray, size_zeroCells, hzs, hlen, hl, ← Nat.add_mul]
        congr 1; omega
      · simp only [Array.toList_append]
        have : (n + m) * i.size = (cs.toList.take (n * i.size) ++ news).length := by rw [List.length_append, hlen, hl, Nat.add_mul]
        rw [this]
        exact List.take_left.symm

/-- A row of ours, nil or not. -/
def Own (H : AH) (A : Option Nat) (e : TypeId) (c : Nat) (xs : List AV) : Prop :=
  match A with
  | none => c = 0 ∧ xs = []
  | some b => H b = some (.row e c xs)
def AH.rem (H : AH) (A : Option Nat) : AH := match A with | none => H | some b => H.upd b none
def AH.put (H : AH) (A : Option Nat) (e : TypeId) (c : Nat) (xs : List AV) : AH := match A with | none => H | some b => H.upd b (some (.row e c xs))

theorem Own.rowC {P : Program} {H : AH} {w : World} (hh : HR P H w) {A : Option Nat} {e : TypeId} {c sz : Nat} {xs : List AV} (hs : szOf P e = some sz) (h : Own H A e c xs) :
    ∃ old, RowC w A e c xs.length sz old ∧ old.length = xs.length * sz ∧ (∀ x ∈ xs, x.cells.length = sz) ∧ ∀ (k : Nat) (y : AV), (flat xs)[k]? = some y → ∃ u, old[k]? = some u ∧ VR P w H y u := by
  cases A with
  | none => obtain ⟨rfl, rfl⟩ := h; exact ⟨[], ⟨rfl, rfl, rfl⟩, by simp, fun x hx => by simp at hx, fun k y hy => by simp [flat] at hy⟩
  | some b =>
    obtain ⟨cs, fr, h1, h2, h3, h4, h5, h6⟩ := hh b _ h
    rw [szOf_cells hs] at h2 h5
    have hle : xs.length * sz ≤ c * sz := Nat.mul_le_mul_right _ h4
    refine ⟨_, ⟨cs, fr, h1, h2, h3, h4, rfl⟩, by simp; omega, h5, fun k y hy => ?_⟩
    obtain ⟨u, hu, hv⟩ := h6 k y hy
    have hk : k < xs.length * sz := by rw [← flat_length xs sz h5]; exact (List.getElem?_eq_some_iff.1 hy).1
    exact ⟨u, by rw [List.getElem?_take, if_pos hk, Array.getElem?_toList]; exact hu, hv⟩

theorem flat_append (xs ys : List AV) : flat (xs ++ ys) = flat xs ++ flat ys := by simp [flat]

section ops
variable {P : Program} {ro : Option Nat} {ds : List Deferred} {T : List AV} {H : AH} {Q : Post} {ops : Array Oper} {rest : List Oper}
variable {d : Option Tmp} {ty ty2 : TypeId} {pos pos2 : String} {af af2 : Array Edge} {s s' : Operand} {x y : AV}

theorem Step.unowned (H : AH) (w : World) (o : Obj) (hh : HR P H w) : Step H w H (w.alloc o) := ⟨rfl, rfl, rfl, by simp, fun k hk h0 => ⟨Below.heap_alloc _ _ _ hk, h0⟩⟩
theorem HR.unowned {w : World} (hh : HR P H w) (o : Obj) : HR P H (w.alloc o) := fun b q hb => ((hh b q hb)).keep (Step.unowned H w o hh) (Below.heap_alloc _ _ _ (hh b q hb).lt)

/-- The state behind an append. -/
theorem append_state {e : TypeId} {c sz : Nat} {A A2 : Option Nat} {cap2 n2 : Nat} {xs zs : List AV} {old news : List Value} {w w2 : World} (hh : HR P H w) (hs : szOf P e = some sz) (hown : Own H A e c xs)
    (hrow : RowC w2 A2 e cap2 n2 sz (old ++ news)) (hold : old.length = xs.length * sz) (hel : ∀ x ∈ xs ++ zs, x.cells.length = sz) (hn2 : n2 = (xs ++ zs).length)
    (hx : ∀ (k : Nat) (y : AV), (flat xs)[k]? = some y → ∃ u, old[k]? = some u ∧ VR P w H y u) (hz : ∀ (k : Nat) (y : AV), (flat zs)[k]? = some y → ∃ u, news[k]? = some u ∧ VR P w H y u)
    (hA2 : A2 = A ∨ A2 = some w.heap.size) (hos : w2.os = w.os) (htape : w2.tape = w.tape) (hout : w2.output = w.output) (hsz : w.heap.size ≤ w2.heap.size) (hk : ∀ k, k < w.heap.size → some k ≠ A → w2.heap[k]? = w.heap[k]?) :
    Step H w ((H.rem A).put A2 e cap2 (xs ++ zs)) w2 ∧ HR P ((H.rem A).put A2 e cap2 (xs ++ zs)) w2 ∧ ∀ b, A2 = some b → (H.rem A) b = none := by
  have hrem : ∀ b, b < w.heap.size → H b = none → (H.rem A) b = none := by
    intro b hb h0
    cases A with
    | none => exact h0
    | some a => simp only [AH.rem, AH.upd]; split <;> first | rfl | exact h0
  have hnewb : ∀ b, A2 = some b → (H.rem A) b = none := by
    intro b hb
    rcases hA2 with h | h
    · rw [h] at hb; subst hb; simp [AH.rem, AH.upd_same]
    · rw [h] at hb; injection hb with hb; subst hb
      cases A with
      | none => exact hh.none_new
      | some a => simp only [AH.rem, AH.upd]; split <;> first | rfl | exact hh.none_new
  have hneA : ∀ b, H b = none → some b ≠ A := by
    intro b h0 e
    subst e
    rw [show H b = some _ from hown] at h0; cases h0
  have hstep : Step H w ((H.rem A).put A2 e cap2 (xs ++ zs)) w2 := by
    refine ⟨hos, htape, hout, hsz, fun b hb h0 => ⟨hk b hb (hneA b h0), ?_⟩⟩
    have hne : A2 ≠ some b := by
      rintro rfl
      rcases hA2 with h | h
      · exact hneA b h0 h
      · injection h with h; omega
    cases A2 with
    | none => exact hrem b hb h0
    | some a => simp only [AH.put]; rw [AH.upd_ne _ _ (fun e => hne (by rw [e]))]; exact hrem b hb h0
  refine ⟨hstep, ?_, hnewb⟩
  have hother : ∀ b o, (H.rem A) b = some o → OR P ((H.rem A).put A2 e cap2 (xs ++ zs)) w2 b o := by
    intro b o hb
    have hbA : some b ≠ A := by rintro rfl; simp [AH.rem, AH.upd_same] at hb
    have hb' : H b = some o := by
      cases A with
      | none => exact hb
      | some a => simp only [AH.rem] at hb; rwa [AH.upd_ne _ _ (fun e => hbA (by rw [e]))] at hb
    exact (hh b o hb').keep hstep (hk b (hh b o hb').lt hbA)
  intro b o hb
  cases A2 with
  | none => exact hother b o hb
  | some a =>
    simp only [AH.put] at hb
    by_cases hba : b = a
    · subst hba
      rw [AH.upd_same] at hb
      injection hb with hb
      subst hb
      obtain ⟨cs, fr, q1, q2, q3, q4, q5⟩ := hrow
      refine ⟨cs, fr, q1, by rw [szOf_cells hs]; exact q2, q3, by omega, fun x hx => by rw [szOf_cells hs]; exact hel x hx, fun k y hy => ?_⟩
      have hlx : ∀ x ∈ xs, x.cells.length = sz := fun x hx => hel x (by simp [hx])
      have hfin : ∀ u, (old ++ news)[k]? = some u → cs[k]? = some u := by
        intro u hu
        rw [q5, List.getElem?_take] at hu
        split at hu
        · rwa [Array.getElem?_toList] at hu
        · cases hu
      rw [flat_append] at hy
      by_cases hkk : k < (flat xs).length
      · rw [List.getElem?_append_left hkk] at hy
        obtain ⟨u, hu, hv⟩ := hx k y hy
        refine ⟨u, hfin u ?_, hv.step hstep⟩
        rw [List.getElem?_append_left (List.getElem?_eq_some_iff.1 hu).1]; exact hu
      · rw [List.getElem?_append_right (by omega)] at hy
        obtain ⟨u, hu, hv⟩ := hz _ y hy
        refine ⟨u, hfin u ?_, hv.step hstep⟩
        rw [flat_length xs sz hlx] at hkk hu
        rw [List.getElem?_append_right (by omega), hold]; exact hu
    · rw [AH.upd_ne _ _ hba] at hb
      exact hother b o hb

/-- What is put together out of parts. -/
theorem foldl_set (off : Nat) : ∀ (l : List Value) (j : Nat) (cs : Array Value), ((l.zipIdx j).foldl (fun cs (p : Value × Nat) => cs.setIfInBounds (off + p.2) p.1) cs).size = cs.size ∧
    ∀ k, ((l.zipIdx j).foldl (fun cs (p : Value × Nat) => cs.setIfInBounds (off + p.2) p.1) cs)[k]? = if off + j ≤ k ∧ k < off + j + l.length ∧ k < cs.size then l[k - (off + j)]? else cs[k]? := by
  intro l
  induction l with
  | nil => intro j cs; refine ⟨rfl, fun k => ?_⟩; simp; omega
  | cons v l ih =>
    intro j cs
    obtain ⟨h1, h2⟩ := ih (j + 1) (cs.setIfInBounds (off + j) v)
    simp only [List.zipIdx_cons, List.foldl_cons]
    refine ⟨by rw [h1]; simp, fun k => ?_⟩
    rw [h2, Array.size_setIfInBounds, Array.getElem?_setIfInBounds]
    by_cases hk : off + j = k
    · subst hk
      rw [if_neg (by omega), if_pos rfl]
      by_cases hlt : off + j < cs.size
      · rw [if_pos hlt, if_pos ⟨by omega, by simp, hlt⟩]; simp
      · rw [if_neg hlt, if_neg (by omega)]; simp; omega
    · rw [if_neg hk]
      by_cases hc : off + (j + 1) ≤ k ∧ k < off + (j + 1) + l.length ∧ k < cs.size
      · rw [if_pos hc, if_pos ⟨by omega, by simp; omega, hc.2.2⟩]
        obtain ⟨m, rfl⟩ : ∃ m, k = off + j + (m + 1) := ⟨k - (off + j) - 1, by omega⟩
        rw [show off + j + (m + 1) - (off + j) = m + 1 by omega, show off + j + (m + 1) - (off + (j + 1)) = m by omega]; simp
      · rw [if_neg hc, if_neg (fun hc' => hc ⟨by omega, by have := hc'.2.1; simp at this; omega, hc'.2.2⟩)]

/-- The same of abstract cells. -/
def fillA (place : Nat → Option (Nat × Nat)) (cells : List AV) : List (Nat × AV) → Option (List AV)
  | [] => some cells
  | (i, y) :: rest =>
    match place i with
    | none => none
    | some (off, size) => if y.cells.length = size ∧ off + size ≤ cells.length then fillA place (cells.take off ++ y.cells ++ cells.drop (off + size)) rest else none

theorem fill_run {w : World} {place : Nat → Option (Nat × Nat)} : ∀ (parts : List (Nat × AV)) (vals : List (Nat × Value)) (zs zs' : List AV) (cs : Array Value), fillA place zs parts = some zs' → zs.length = cs.size → (∀ (k : Nat) (y : AV) (u : Value), zs[k]? = some y → cs[k]? = some u → VR P w H y u) →
    parts.length = vals.length → (∀ (k : Nat) (p : Nat × AV) (q : Nat × Value), parts[k]? = some p → vals[k]? = some q → p.1 = q.1 ∧ VR P w H p.2 q.2 ∧ p.2.mem = true) →
    ∃ cs', Instr.fill place cs vals = some cs' ∧ zs'.length = cs'.size ∧ ∀ (k : Nat) (y : AV) (u : Value), zs'[k]? = some y → cs'[k]? = some u → VR P w H y u := by
  intro parts
  induction parts with
  | nil =>
    intro vals zs zs' cs hf hl hv hlen _
    cases vals with
    | nil => simp only [fillA] at hf; injection hf with hf; subst hf; exact ⟨cs, rfl, hl, hv⟩
    | cons q vals => simp at hlen
  | cons p parts ih =>
    intro vals zs zs' cs hf hl hv hlen hp
    cases vals with
    | nil => simp at hlen
    | cons q vals =>
      obtain ⟨i, y⟩ := p
      obtain ⟨i', v⟩ := q
      obtain ⟨he, hy, hm⟩ := hp 0 _ _ rfl rfl
      simp only at he hy hm
      subst he
      obtain ⟨hcl, hcv, _⟩ := hy.mem_cells hm
      simp only [fillA] at hf
      cases hpl : place i with
      | none => simp [hpl] at hf
      | some os =>
        obtain ⟨off, size⟩ := os
        simp only [hpl] at hf
        split at hf
        · rename_i hc
          have hvs : v.cells.size = size := by rw [← hc.1, ← hcl]; simp
          have hfold : v.cells.zipIdx.foldl (fun cs (p : Value × Nat) => cs.setIfInBounds (off + p.2) p.1) cs = (v.cells.toList.zipIdx 0).foldl (fun cs (p : Value × Nat) => cs.setIfInBounds (off + p.2) p.1) cs := by
            rw [← Array.foldl_toList]; simp
          obtain ⟨g1, g2⟩ := foldl_set off v.cells.toList 0 cs
          rw [← hfold] at g1 g2
          obtain ⟨cs', r1, r2, r3⟩ := ih vals _ zs' (v.cells.zipIdx.foldl (fun cs (p : Value × Nat) => cs.setIfInBounds (off + p.2) p.1) cs) hf
            (by rw [g1, ← hl]; simp; omega)
            (fun k z u hz hu => by
              rw [g2] at hu
              simp only [Nat.add_zero, Array.length_toList, hvs] at hu
              rw [List.append_assoc] at hz
              have hto : (zs.take off).length = off := by simp; omega
              by_cases h1 : k < off
              · rw [List.getElem?_append_left (by omega), List.getElem?_take, if_pos h1] at hz
                rw [if_neg (by omega)] at hu
                exact hv k z u hz hu
              · rw [List.getElem?_append_right (by omega), hto] at hz
                by_cases h2 : k < off + size
                · rw [List.getElem?_append_left (by omega)] at hz
                  rw [if_pos ⟨by omega, h2, by omega⟩] at hu
                  exact hcv _ z u hz hu
                · rw [List.getElem?_append_right (by omega), List.getElem?_drop, hc.1, show off + size + (k - off - size) = k by omega] at hz
                  rw [if_neg (by omega)] at hu
                  exact hv k z u hz hu)
            (by simpa using hlen) (fun k p q h1 h2 => hp (k + 1) p q (by simpa using h1) (by simpa using h2))
          refine ⟨cs', ?_, r2, r3⟩
          simp only [Instr.fill, hpl]
          rw [if_neg (by simp [hvs]; omega)]
          exact r1
        · cases hf

inductive EvP (T : List AV) : List (Nat × Operand) → List (Nat × AV) → Prop
  | nil : EvP T [] []
  | cons {i : Nat} {s : Operand} {x : AV} {ss : List (Nat × Operand)} {xs : List (Nat × AV)} (h : EVR T s x) (hm : x.mem = true) (hs : EvP T ss xs) : EvP T ((i, s) :: ss) ((i, x) :: xs)
theorem EvP.vals {a : Act} {w : World} (hst : St P ds T H a w) {ss : List (Nat × Operand)} {xs : List (Nat × AV)} (h : EvP T ss xs) :
    xs.length = (ss.map fun p => (p.1, a.eval p.2)).length ∧ ∀ (k : Nat) (p : Nat × AV) (q : Nat × Value), xs[k]? = some p → (ss.map fun p => (p.1, a.eval p.2))[k]? = some q → p.1 = q.1 ∧ VR P w H p.2 q.2 ∧ p.2.mem = true := by
  induction h with
  | nil => exact ⟨rfl, fun k x o h => by simp at h⟩
  | cons h hm hs ih =>
    refine ⟨by simp [ih.1], fun k p q hx ho => ?_⟩
    cases k with
    | zero => simp at hx ho; subst hx; subst ho; exact ⟨rfl, hst.evr h, hm⟩
    | succ k => exact ih.2 k p q (by simpa using hx) (by simpa using ho)

/-- The rows of a slice literal. -/
theorem buildSlice_run {a : Act} {w : World} (hst : St P ds T H a w) {t e : TypeId} {n sz : Nat} {z : Value} {parts : List (Nat × Operand)} {ys : List (Nat × AV)} {zs' : List AV} (ht : P.underlying t = some (.slice e)) (hs : szOf P e = some sz) (hz : zeroOf P e = some z) (hzs : z.cells.size = sz) (hszn : n * sz ≤ 16777216) (hs0 : 0 < sz)
    (hp : EvP T parts ys) (hf : fillA (fun i => some (i * sz, sz)) (List.replicate (n * sz) .any) ys = some zs') :
    ∃ cs, (Instr.buildSlice t n (parts.toArray.map fun p => (p.1, a.eval p.2))).run P w = .ok (.slice (some ⟨w.heap.size, 0, none⟩) n n) (w.alloc (.cells cs e)) ∧ cs.size = n * sz ∧ ∀ (k : Nat) (y : AV) (u : Value), zs'[k]? = some y → cs[k]? = some u → VR P w H y u := by
  obtain ⟨hl, hv⟩ := hp.vals hst
  have hlim : ¬ (n * sz > 2 ^ 24) := by omega
  by_cases h0 : n = 0
  · subst h0
    obtain ⟨cs', h1, h2, h3⟩ := fill_run (P := P) (H := H) (w := w) (place := fun i => some (i * sz, sz)) ys (parts.map fun p => (p.1, a.eval p.2)) (List.replicate (0 * sz) .any) zs' #[] hf (by simp) (fun k y u h => by simp at h) hl hv
    refine ⟨cs', ?_, ?_, h3⟩
    · simp only [Instr.buildSlice, Sem.run_bind, run_underlying ht, Result.andThen_ok, run_sizeOf' hs]
      rw [if_neg hlim]
      have e0 : ∀ g : Nat → Value, (Array.range 0).map g = #[] := fun g => by simp [Array.range]
      simp [e0, h1, newRow]
    · rw [← h2]
      have : ∀ (ys : List (Nat × AV)) (zs zs' : List AV), fillA (fun i => some (i * sz, sz)) zs ys = some zs' → zs'.length = zs.length := by
        intro ys
        induction ys with
        | nil => intro zs zs' h; simp only [fillA] at h; injection h with h; rw [h]
        | cons p ys ih =>
          intro zs zs' h
          simp only [fillA] at h
          split at h
          · rename_i hc; rw [ih _ _ h]; simp [hc.1]; omega
          · cases h
      rw [this _ _ _ hf]; simp
  · have hne : ¬ (n * sz = 0) := fun h => by rcases Nat.mul_eq_zero.1 h with h | h <;> omega
    obtain ⟨cs', h1, h2, h3⟩ := fill_run (P := P) (H := H) (w := w) (place := fun i => some (i * sz, sz)) ys (parts.map fun p => (p.1, a.eval p.2)) (List.replicate (n * sz) .any) zs' ((Array.range (n * sz)).map (z.cells[· % z.cells.size]!)) hf (by simp) (fun k y u h _ => by
      rw [List.getElem?_replicate] at h; split at h
      · injection h with h; subst h; exact .any _
      · cases h) hl hv
    refine ⟨cs', ?_, ?_, h3⟩
    · simp only [Instr.buildSlice, Sem.run_bind, run_underlying ht, Result.andThen_ok, run_sizeOf' hs]
      rw [if_neg hlim, if_neg hne]
      simp [h1, newRow, run_zeroValue' hz]
    · rw [← h2]
      have : ∀ (ys : List (Nat × AV)) (zs zs' : List AV), fillA (fun i => some (i * sz, sz)) zs ys = some zs' → zs'.length = zs.length := by
        intro ys
        induction ys with
        | nil => intro zs zs' h; simp only [fillA] at h; injection h with h; rw [h]
        | cons p ys ih =>
          intro zs zs' h
          simp only [fillA] at h
          split at h
          · rename_i hc; rw [ih _ _ h]; simp [hc.1]; omega
          · cases h
      rw [this _ _ _ hf]; simp

/-- The parts of a literal, one behind the other. -/
inductive EvS (T : List AV) : Nat → List (Nat × Operand) → List AV → Prop
  | nil {k : Nat} : EvS T k [] []
  | cons {k : Nat} {s : Operand} {x : AV} {ss : List (Nat × Operand)} {xs : List AV} (h : EVR T s x) (hm : x.mem = true) (hs : EvS T (k + 1) ss xs) : EvS T k ((k, s) :: ss) (x :: xs)
def enum : Nat → List AV → List (Nat × AV)
  | _, [] => []
  | k, x :: xs => (k, x) :: enum (k + 1) xs
theorem EvS.evP {k : Nat} {ss : List (Nat × Operand)} {xs : List AV} (h : EvS T k ss xs) : EvP T ss (enum k xs) := by
  induction h with
  | nil => exact .nil
  | cons h hm hs ih => exact .cons h hm ih
theorem EvS.len {k : Nat} {ss : List (Nat × Operand)} {xs : List AV} (h : EvS T k ss xs) : ss.length = xs.length := by
  induction h with
  | nil => rfl
  | cons h hm hs ih => simp [ih]
theorem fill_enum (sz : Nat) : ∀ (xs : List AV) (k : Nat) (pre rest : List AV), pre.length = k * sz → rest.length = xs.length * sz → (∀ x ∈ xs, x.cells.length = sz) → fillA (fun i => some (i * sz, sz)) (pre ++ rest) (enum k xs) = some (pre ++ flat xs) := by
  intro xs
  induction xs with
  | nil => intro k pre rest hp hr _; obtain rfl : rest = [] := List.eq_nil_of_length_eq_zero (by simpa using hr); simp [enum, fillA, flat]
  | cons x xs ih =>
    intro k pre rest hp hr hs
    have hx := hs x (by simp)
    simp only [List.length_cons, Nat.succ_mul] at hr
    simp only [enum, fillA]
    rw [if_pos ⟨hx, by simp [hp]; omega⟩]
    have e1 : (pre ++ rest).take (k * sz) = pre := by rw [← hp]; simp
    have e2 : (pre ++ rest).drop (k * sz + sz) = rest.drop sz := by rw [← hp, ← List.drop_drop]; simp
    rw [e1, e2, ih (k + 1) (pre ++ x.cells) (rest.drop sz) (by simp [hp, hx, Nat.succ_mul]) (by simp; omega) (fun y hy => hs y (by simp [hy]))]
    simp [flat]

/-- A slice literal: a row of our own. -/
theorem AL_buildSlice {t e : TypeId} {n sz : Nat} {z : Value} {parts : List (Nat × Operand)} {xs : List AV} (ht : P.underlying t = some (.slice e)) (hs : szOf P e = some sz) (hz : zeroOf P e = some z) (hzs : z.cells.size = sz) (hszn : n * sz ≤ 16777216) (hs0 : 0 < sz)
    (hps : EvS T 0 parts xs) (hxn : parts.length = n) (hel0 : xs.all (fun x => Nat.beq x.cells.length sz) = true)
    (h : ∀ b, H b = none → AL P ro ops rest ds (tput T d (.own (some b) n n)) (H.upd b (some (.row e n xs))) Q) :
    AL P ro ops (⟨d, .buildSlice t n parts.toArray, ty, pos, af, none⟩ :: rest) ds T H Q := by
  have hel : ∀ x ∈ xs, x.cells.length = sz := fun x hx => by
    simp only [List.all_eq_true] at hel0
    exact Nat.eq_of_beq_eq_true (hel0 x hx)
  have hp := hps.evP
  have hxn : xs.length = n := by rw [← hxn, hps.len]
  have hf := fill_enum sz xs 0 [] (List.replicate (n * sz) .any) (by simp) (by simp [hxn]) hel
  simp only [List.nil_append] at hf
  refine AL_op rfl (fun _ => by simp) fun a w hst => ?_
  obtain ⟨cs, hr, hc, hv⟩ := buildSlice_run hst ht hs hz hzs hszn hs0 hp hf
  have hnew := hst.heap.none_new
  refine ⟨_, _, .own (some w.heap.size) n n, _, by simp only [execOp, Sem.run_bind, hr]; rfl, .own _ _ _, hst.heap.alloc (OR.new hs hc (by omega) hel (fun k y hy => ?_) hnew), Step.alloc w _ _ hnew, h _ hnew⟩
  have hk : k < cs.size := by rw [hc, ← hxn, ← flat_length xs sz hel]; exact (List.getElem?_eq_some_iff.1 hy).1
  exact ⟨cs[k], Array.getElem?_eq_getElem hk, hv k y _ hy (Array.getElem?_eq_getElem hk)⟩

/-- A slice literal that is read only. -/
theorem AL_buildSl {t e : TypeId} {n sz : Nat} {z : Value} {parts : List (Nat × Operand)} {xs : List AV} (ht : P.underlying t = some (.slice e)) (hs : szOf P e = some sz) (hz : zeroOf P e = some z) (hzs : z.cells.size = sz) (hszn : n * sz ≤ 16777216) (hs0 : 0 < sz)
    (hps : EvS T 0 parts xs) (hxn : parts.length = n) (hel : xs.all (fun x => Nat.beq x.cells.length sz) = true)
    (h : AL P ro ops rest ds (tput T d (.sl e xs)) H Q) :
    AL P ro ops (⟨d, .buildSlice t n parts.toArray, ty, pos, af, none⟩ :: rest) ds T H Q := by
  have hel' : ∀ x ∈ xs, x.cells.length = sz := fun x hx => by
    simp only [List.all_eq_true] at hel
    exact Nat.eq_of_beq_eq_true (hel x hx)
  have hp := hps.evP
  have hxn : xs.length = n := by rw [← hxn, hps.len]
  have hf := fill_enum sz xs 0 [] (List.replicate (n * sz) .any) (by simp) (by simp [hxn]) hel'
  simp only [List.nil_append] at hf
  refine AL_op rfl (fun _ => by simp) fun a w hst => ?_
  obtain ⟨cs, hr, hc, hv⟩ := buildSlice_run hst ht hs hz hzs hszn hs0 hp hf
  have hnew := hst.heap.none_new
  refine ⟨_, _, .sl e xs, H, by simp only [execOp, Sem.run_bind, hr]; rfl, ?_, hst.heap.unowned _, Step.unowned H w _ hst.heap, h⟩
  rw [← hxn]
  have hfl := flat_length xs sz hel'
  refine .sl (A := some ⟨w.heap.size, 0, none⟩) (c := xs.length) (fun k => (cs[k]?).getD undef) (fun x hx => by rw [szOf_cells hs]; exact hel' x hx) (Nat.le_refl _) (fun k y hy => ⟨_, rfl, hnew, ?_⟩) (fun k y hy => ?_)
  · have hk : k < cs.size := by rw [hc, ← hxn, ← hfl]; exact (List.getElem?_eq_some_iff.1 hy).1
    rw [addr_add]
    simp only [World.cell?, heap_alloc_new w (.cells cs e)]
    simp [hk]
  · have hk : k < cs.size := by rw [hc, ← hxn, ← hfl]; exact (List.getElem?_eq_some_iff.1 hy).1
    rw [Array.getElem?_eq_getElem hk]
    exact (hv k y _ hy (Array.getElem?_eq_getElem hk)).step (Step.unowned H w _ hst.heap)

/-- A slice literal of one element, appended. -/
theorem AL_append1 {t e : TypeId} {q : Tmp} {A : Option Nat} {c n : Nat} {xs : List AV} {z : Value} {sz bytes : Nat}
    (hs : ev T s = some (.own A c n)) (hy : ev T s' = some y) (hsq : s ≠ .tmp q) (hq : q < T.length) (hm : y.mem = true) (hown : Own H A e c xs) (hn : n = xs.length) (ht : P.underlying t = some (.slice e)) (hi : infoOf P e = some (some z, sz, bytes)) (hzs : z.cells.size = sz) (hb0 : 0 < bytes)
    (hyn : y.cells.length = sz) (hbound : (n + 1) * bytes ≤ 140737488355328) (hszb : sz ≤ 16777216) (hs0 : 0 < sz)
    (h : ∀ b c', (H.rem A) b = none → AL P ro ops rest ds (tput (T.set q .any) d (.own (some b) c' (n + 1))) ((H.rem A).upd b (some (.row e c' (xs ++ [y])))) Q) :
    AL P ro ops (⟨some q, .buildSlice t 1 #[(0, s')], ty, pos, af, none⟩ :: ⟨d, .call ⟨.builtin .append, #[s, .tmp q], #[t, t]⟩, ty2, pos2, af2, none⟩ :: rest) ds T H Q := fun a w hst => by
  subst hn
  have hso : szOf P e = some sz := by
    unfold infoOf at hi; unfold szOf
    obtain ⟨i, h1, h2⟩ := Option.map_eq_some_iff.1 hi
    simp at h2; rw [h1]; simp [h2.2.1]
  have hzo : zeroOf P e = some z := by
    unfold infoOf at hi; unfold zeroOf
    obtain ⟨i, h1, h2⟩ := Option.map_eq_some_iff.1 hi
    simp at h2; rw [h1]; simp [h2.1]
  obtain ⟨cs, hr, hc, hv⟩ := buildSlice_run hst (n := 1) (parts := [(0, s')]) (ys := [(0, y)]) (zs' := y.cells) ht hso hzo hzs (by omega) hs0 (.cons (.ev hy) hm .nil) (by simp [fillA, hyn])
  simp only [Nat.one_mul] at hc
  obtain ⟨hu, hA⟩ := (hst.ev hs).own_inv
  refine wpListIn_plain rfl fun K hK => ⟨fun f _ => trivial, ?_⟩
  rw [Oper.semAt_eq _ _ _ (fun _ => by simp)]
  have hr1 : (execOp a.eval { dst := some q, op := Op.buildSlice t 1 #[(0, s')], type := ty, pos := pos, after := af, guard := none }).run P w = .ok (.value (.slice (some ⟨w.heap.size, 0, none⟩) 1 1)) (w.alloc (.cells cs e)) := by
    simp only [execOp, Sem.run_bind]
    rw [show (#[(0, s')] : Array (Nat × Operand)) = [(0, s')].toArray from rfl, hr]; rfl
  rw [hr1]
  refine hK _ _ ?_
  -- the second operation
  have hst1 : St P ds (T.set q .any) H (a.put (some q) (.slice (some ⟨w.heap.size, 0, none⟩) 1 1)) (w.alloc (.cells cs e)) := hst.put (Step.unowned H w _ hst.heap) (hst.heap.unowned _) (d := some q) (.any _)
  have he1 : (a.put (some q) (.slice (some ⟨w.heap.size, 0, none⟩) 1 1)).eval s = a.eval s := by
    cases s with
    | tmp t =>
      have hne : q ≠ t := fun e => hsq (by rw [e])
      simp [Act.eval, Act.put, Array.getD_eq_getD_getElem?, Array.getElem?_setIfInBounds, hne]
    | _ => rfl
  have he2 : (a.put (some q) (.slice (some ⟨w.heap.size, 0, none⟩) 1 1)).eval (.tmp q) = .slice (some ⟨w.heap.size, 0, none⟩) 1 1 := by
    have hlt : q < a.tmps.size := by rw [hst.size]; exact hq
    simp [Act.eval, Act.put, Array.getD_eq_getD_getElem?, Array.getElem?_setIfInBounds, hlt]
  obtain ⟨old, hrow, hold, hel, hx⟩ := Own.rowC hst1.heap hso hown
  have hcell : ∀ j u, cs.toList[j]? = some u → (w.alloc (.cells cs e)).cell? ((⟨w.heap.size, 0, none⟩ : Addr).add j) = some u := by
    intro j u hj
    rw [addr_add]
    simp only [World.cell?, heap_alloc_new w (.cells cs e)]
    simpa using hj
  have hyc : ∀ (k : Nat) (z : AV), y.cells[k]? = some z → ∃ u, cs.toList[k]? = some u ∧ VR P (w.alloc (.cells cs e)) H z u := by
    intro k z hz
    have hk : k < cs.size := by rw [hc, ← hyn]; exact (List.getElem?_eq_some_iff.1 hz).1
    exact ⟨cs[k], by simp [hk], (hv k z _ hz (Array.getElem?_eq_getElem hk)).step (Step.unowned H w _ hst.heap)⟩
  have h1 : ∀ u ∈ cs.toList, u.oneCell' = true := by
    intro u hu
    obtain ⟨k, hk, rfl⟩ := List.mem_iff_getElem.1 hu
    have hk' : k < y.cells.length := by simp at hk; omega
    have hk2 : k < cs.size := by simpa using hk
    have := hv k _ _ (List.getElem?_eq_getElem hk') (Array.getElem?_eq_getElem hk2)
    simp only [AV.mem, List.all_eq_true] at hm
    simpa using this.one (hm _ (List.getElem_mem hk'))
  obtain ⟨A2, cap2, w2, r1, r2, r3, r4, r5, r6, r7, r8, r9⟩ := run_append_c (ty := ty2) ht hi hzs hb0 hrow ⟨w.heap.size, 0, none⟩ 1 1 cs.toList (by simp [hc]) hcell h1 hbound
  obtain ⟨q1, q2, q3⟩ := append_state (zs := [y]) hst1.heap hso hown r2 hold (fun x hx => by
      simp only [List.mem_append, List.mem_singleton] at hx
      rcases hx with hx | rfl
      · exact hel x hx
      · exact hyn) (by simp) hx (fun k z hz => hyc k z (by simpa [flat] using hz)) r3 r5 r6 r7 r8 r9
  cases A2 with
  | none => exact absurd rfl (r4 (by omega))
  | some b2 =>
    refine wpListIn_plain rfl fun K' hK' => ⟨fun f _ => trivial, ?_⟩
    rw [Oper.semAt_eq _ _ _ (fun _ => by simp)]
    have hr2 : (execOp (a.put (some q) (.slice (some ⟨w.heap.size, 0, none⟩) 1 1)).eval { dst := d, op := Op.call ⟨.builtin .append, #[s, .tmp q], #[t, t]⟩, type := ty2, pos := pos2, after := af2, guard := none }).run P (w.alloc (.cells cs e)) = .ok (.value (.slice (some ⟨b2, 0, none⟩) (xs.length + 1) cap2)) w2 := by
      simp only [execOp, resolve, invoke, builtin, Sem.run_bind, Sem.run_pure, Result.andThen_ok, List.map_toArray, List.map_cons, List.map_nil, he1, he2, hu, r1]
      rfl
    rw [hr2]
    have hlen : (xs ++ [y]).length = xs.length + 1 := by simp
    refine hK' _ _ (wpListIn_mono (fun _ _ _ p => post.back ((Step.unowned H w _ hst.heap).trans q1) p) (fun _ => trivial) _ _ _ (h b2 cap2 (q3 b2 rfl) _ _ (hst1.put q1 q2 (.own b2 cap2 (xs.length + 1)))))
end ops
end Go.AL
