/- Statements whose order is open, memory written in them: the writers stand in one order. -/
import Derived.Test.YtcnjcjhdcloniaaDoorAL17
set_option autoImplicit false
set_option linter.unusedVariables false
set_option linter.unusedSimpArgs false
namespace Go.AL
open Go Go.RowKit

/-- Each operation stands behind what it waits for, by these ranks. -/
def rankOk (ops : Array Oper) (m : Region.Mode) (rk : List Nat) : Bool := (List.range ops.size).all fun i => match ops[i]? with
  | some o => o.after.toList.all fun e => !Region.binds m e || (Nat.ble (e.on + 1) ops.size && Nat.ble (rk.getD e.on 0 + 1) (rk.getD i 0))
  | none => true
/-- What it reads, and where: as 'quietOk' has it. -/
def tmpsOk (ops : Array Oper) : Bool :=
  (List.range ops.size).all fun i =>
    (List.range ops.size).all fun j =>
      (Nat.beq i j || (match dstOf ops i, dstOf ops j with | some a, some b => !Nat.beq a b | _, _ => true)) &&
      (match dstOf ops j with
        | some d => !(readsOf ops i).contains d || (bif Nat.ble (j + 1) i then depOf ops i j else (!Nat.beq i j && depOf ops j i))
        | none => true)
/-- How many writers have been, at least and at most, when an operation's turn comes. -/
def loOf (ops : Array Oper) (louds : List Nat) (i : Nat) : Nat := (louds.filter fun j => depOf ops i j).length
def hiOf (ops : Array Oper) (louds : List Nat) (i : Nat) : Nat := (louds.filter fun j => !(Nat.beq i j || depOf ops j i)).length
def nodupB : List Nat → Bool
  | [] => true
  | a :: l => !l.contains a && nodupB l
def loudOk (ops : Array Oper) (louds : List Nat) (rk : List Nat) : Bool :=
  rankOk ops .any (List.range ops.size) && rankOk ops .text (List.range ops.size) && rankOk ops .gc rk && tmpsOk ops && nodupB louds && louds.all fun i => Nat.ble (i + 1) ops.size

theorem binds_any (m : Region.Mode) (e : Edge) (h : Region.binds .any e = true) : Region.binds m e = true := by
  obtain ⟨o, g⟩ := e
  cases g <;> first | rfl | (exact absurd (show false = true from h) Bool.false_ne_true)
theorem nodupB_iff : ∀ (l : List Nat), nodupB l = true → l.Nodup
  | [], _ => List.nodup_nil
  | a :: l, h => by
    simp only [nodupB, Bool.and_eq_true, Bool.not_eq_true'] at h
    refine List.nodup_cons.2 ⟨fun hm => ?_, nodupB_iff l h.2⟩
    rw [List.contains_iff_mem.2 hm] at h
    cases h.1

section
variable {P : Program} {ro : Option Nat} {ds : List Deferred} {T0 : List AV} {H : AH} {Q : Post} {ops : Array Oper}

def qpostL (ds : List Deferred) (H : AH) (R : List AV) : Post := fun e ds' T' H' => e = .normal ∧ ds' = ds ∧ SubH H H' ∧ Weak T' R
theorem qpostL_mk {T R : List AV} {H' : AH} (hs : SubH H' H) (h : Weak T R) : qpostL ds H' R .normal ds T H := ⟨rfl, rfl, hs, h⟩

/-- What each operation owes, at the memory that is then. -/
def HopsL (P : Program) (ro : Option Nat) (ops : Array Oper) (ds : List Deferred) (louds : List Nat) (HL : Nat → AH) (n : Nat) : Nat → List AV → List Oper → List AV → Prop
  | _, _, [], [] => True
  | k, Tk, o :: l, x :: xs => (∀ (m : Nat) (T : List AV), T.length = n → (∀ s, (readsOf ops k).contains s = true → T[s]? = Tk[s]?) → loOf ops louds k ≤ m → m ≤ hiOf ops louds k →
      AL P ro ops [o] ds T (HL m) (qpostL ds (HL (bif louds.contains k then m + 1 else m)) (tput T o.dst x))) ∧ HopsL P ro ops ds louds HL n (k + 1) (tput Tk o.dst x) l xs
  | _, _, _, _ => False

theorem HopsL_get {louds : List Nat} {HL : Nat → AH} : ∀ (l : List Oper) (xs : List AV) (k : Nat) (Tk : List AV) (n : Nat), HopsL P ro ops ds louds HL n k Tk l xs → l.length = xs.length ∧
    ∀ i o, l[i]? = some o → ∃ x, xs[i]? = some x ∧ ∀ (m : Nat) (T : List AV), T.length = n → (∀ s, (readsOf ops (k + i)).contains s = true → T[s]? = (Tfin Tk (l.take i) (xs.take i))[s]?) → loOf ops louds (k + i) ≤ m → m ≤ hiOf ops louds (k + i) →
      AL P ro ops [o] ds T (HL m) (qpostL ds (HL (bif louds.contains (k + i) then m + 1 else m)) (tput T o.dst x)) := by
  intro l
  induction l with
  | nil => intro xs k Tk n h; cases xs with | nil => exact ⟨rfl, fun i o h => by simp at h⟩ | cons x xs => exact h.elim
  | cons o l ih =>
    intro xs k Tk n h
    cases xs with
    | nil => exact h.elim
    | cons x xs =>
      obtain ⟨h1, h2⟩ := h
      obtain ⟨e, g⟩ := ih xs (k + 1) _ n h2
      refine ⟨by simp [e], fun i o' hi => ?_⟩
      cases i with
      | zero => simp at hi; subst hi; exact ⟨x, rfl, fun m T hT hr hm hf => h1 m T hT (by simpa [Tfin] using hr) hm hf⟩
      | succ i =>
        obtain ⟨y, hy, hg⟩ := g i o' (by simpa using hi)
        rw [show k + 1 + i = k + (i + 1) by omega] at hg
        refine ⟨y, by simpa using hy, fun m T hT hr hm hf => hg m T hT (fun s hs => ?_) hm hf⟩
        have := hr s hs
        simpa [Tfin] using this

def cntS (louds S : List Nat) : Nat := (louds.filter fun j => decide (j ∈ S)).length
theorem cntS_le (louds S : List Nat) : cntS louds S ≤ louds.length := List.length_filter_le _ _
theorem cntS_cons {louds S : List Nat} {i : Nat} (hn : louds.Nodup) (hi : i ∉ S) : cntS louds (i :: S) = bif louds.contains i then cntS louds S + 1 else cntS louds S := by
  unfold cntS
  induction louds with
  | nil => rfl
  | cons a l ih =>
    rw [List.nodup_cons] at hn
    have ih := ih hn.2
    by_cases ha : a = i
    · subst ha
      have e1 : l.contains a = false := by
        cases h : l.contains a with
        | false => rfl
        | true => exact absurd (List.contains_iff_mem.1 h) hn.1
      rw [e1, cond_false] at ih
      have e2 : (a :: l).contains a = true := by simp
      rw [e2, cond_true, List.filter_cons_of_pos (by simp), List.filter_cons_of_neg (by simpa using hi), List.length_cons, ih]
    · have e2 : (a :: l).contains i = l.contains i := by
        have : (i == a) = false := by simpa using fun e => ha e.symm
        rw [List.contains_cons, this, Bool.false_or]
      rw [e2]
      by_cases hm : a ∈ S
      · rw [List.filter_cons_of_pos (by simp [hm]), List.filter_cons_of_pos (by simpa using hm), List.length_cons, List.length_cons, ih]
        cases l.contains i <;> rfl
      · rw [List.filter_cons_of_neg (by simp [hm, ha]), List.filter_cons_of_neg (by simpa using hm), ih]

theorem AW_drawL' {id : Nat} {xs : List AV} (louds rk : List Nat) (HL : Nat → AH) (hq : loudOk ops louds rk = true) (hop : HopsL P ro ops ds louds HL T0.length 0 T0 ops.toList xs) (h : Q .normal ds (Tfin T0 ops.toList xs) (HL louds.length)) : AW P ro (.region id ops true) ds T0 (HL 0) Q := by
  obtain ⟨hlen, hg⟩ := HopsL_get _ _ _ _ _ hop
  simp only [Nat.zero_add] at hg
  simp only [loudOk, tmpsOk, Bool.and_eq_true, List.all_eq_true] at hq
  obtain ⟨⟨⟨⟨⟨hra, hrt⟩, hrg⟩, hq⟩, hnd0⟩, hloud⟩ := hq
  have hndl : louds.Nodup := nodupB_iff _ hnd0
  have hlsz : ∀ j ∈ louds, j < ops.size := fun j hj => Nat.le_of_ble_eq_true (hloud j hj)
  have hq1 : ∀ i j k, i < ops.size → j < ops.size → dstOf ops i = some k → dstOf ops j = some k → i = j := by
    intro i j k hi hj h1 h2
    have := (hq i (by simpa using hi) j (by simpa using hj)).1
    rw [h1, h2] at this
    simp only [Bool.or_eq_true, Bool.not_eq_true'] at this
    rcases this with h | h
    · exact Nat.eq_of_beq_eq_true h
    · simp at h
  have hq2 : ∀ i j d, i < ops.size → j < ops.size → dstOf ops j = some d → (readsOf ops i).contains d = true → (j < i → depOf ops i j = true) ∧ (¬ j < i → i ≠ j ∧ depOf ops j i = true) := by
    intro i j d hi hj h1 h2
    have := (hq i (by simpa using hi) j (by simpa using hj)).2
    rw [h1] at this
    simp only [h2, Bool.not_true, Bool.false_or] at this
    by_cases hlt : j < i
    · have hb : Nat.ble (j + 1) i = true := Nat.ble_eq_true_of_le hlt
      rw [hb] at this
      exact ⟨fun _ => this, fun h => absurd hlt h⟩
    · have hb : Nat.ble (j + 1) i = false := by
        cases hbb : Nat.ble (j + 1) i with
        | false => rfl
        | true => exact absurd (Nat.le_of_ble_eq_true hbb) hlt
      rw [hb] at this
      simp only [cond_false, Bool.and_eq_true, Bool.not_eq_true'] at this
      refine ⟨fun h => absurd h hlt, fun _ => ⟨fun e => ?_, this.2⟩⟩
      subst e
      have := this.1
      simp at this
  have hdst : ∀ i k, dstOf ops i = some k → i < ops.size := by
    intro i k hi
    unfold dstOf at hi
    rcases Nat.lt_or_ge i ops.size with h | h
    · exact h
    · simp [Array.getElem?_eq_none h] at hi
  have fin : ∀ (S : List Nat) (a : Act) (w : World), (∀ i ∈ S, i < ops.size) → (∀ i, i < ops.size → i ∈ S) → St P ds (TS ops (fun i => xs.getD i .any) T0 S) (HL (cntS louds S)) a w → post P Q (HL (cntS louds S)) w .normal a w := by
    intro S a w hS hall hst
    refine ⟨ds, _, _, hst, .refl _ _, ?_⟩
    have e1 : TS ops (fun i => xs.getD i .any) T0 S = Tfin T0 ops.toList xs := by
      have e2 := Tfin_TS (T0 := T0) hlen ops.size (Nat.le_refl _)
      rw [show ops.toList.take ops.size = ops.toList from List.take_of_length_le (by simp), show xs.take ops.size = xs from List.take_of_length_le (by rw [← hlen]; simp)] at e2
      rw [e2]
      apply List.ext_getElem?
      intro k
      rw [TS_get, TS_get]
      congr 1
      funext x
      by_cases hk : ∃ j, dstOf ops j = some k
      · obtain ⟨j, hj⟩ := hk
        rw [find_mem (fun i j h1 h2 _ => hq1 i j k (hdst _ _ h1) (hdst _ _ h2) h1 h2) hj, find_mem (fun i j h1 h2 _ => hq1 i j k (hdst _ _ h1) (hdst _ _ h2) h1 h2) hj, if_pos (hall j (hdst _ _ hj)), if_pos (by simpa using hdst _ _ hj)]
      · have hno : ∀ S : List Nat, S.find? (fun i => dstOf ops i == some k) = none := fun S => by
          rw [List.find?_eq_none]; intro i _ hi; exact hk ⟨i, by simpa using hi⟩
        rw [hno, hno]
    have e3 : cntS louds S = louds.length := by
      unfold cntS
      rw [List.filter_eq_self.2 (fun j hj => ?_)]
      have hjl := hall j
      by_cases hjs : j < ops.size
      · simpa using hall j hjs
      · exfalso; exact hjs (hlsz j hj)
    rw [e1, e3]; exact h
  -- the walk over a schedule
  have key : ∀ (md : Region.Mode) (rkm : List Nat), rankOk ops md rkm = true → (∀ e, Region.binds .any e = true → Region.binds md e = true) → ∀ (fuel t : Nat) (listed : Array Bool) (S : List Nat) (a : Act) (w : World), listed.size = ops.size → (∀ i, i < ops.size → (listed.getD i true = true ↔ i ∈ S)) → (∀ i ∈ S, i < ops.size) →
      (∀ i ∈ S, ∀ j, depOf ops i j = true → j ∈ S) → ops.size ≤ fuel + S.length → S.Nodup → St P ds (TS ops (fun i => xs.getD i .any) T0 S) (HL (cntS louds S)) a w →
      wpOpsIn (fen ro) 0 P ops (post P Q (HL (cntS louds S)) w) (Region.linearise.go md ops fuel t listed []) a w := by
    intro md rkm hrk hbind fuel
    induction fuel with
    | zero =>
      intro t listed S a w hsz hls hS hcl hfuel hnd hst
      simp only [Region.linearise.go, List.reverse_nil, wpOpsIn]
      refine fin S a w hS (fun i hi => ?_) hst
      by_cases hm : i ∈ S
      · exact hm
      · exfalso
        have := pig ops.size (i :: S) (List.nodup_cons.2 ⟨hm, hnd⟩) (fun j hj => by simp only [List.mem_cons] at hj; rcases hj with rfl | hj; exact hi; exact hS j hj)
        simp at this; omega
    | succ fuel ih =>
      intro t listed S a w hsz hls hS hcl hfuel hnd hst
      simp only [Region.linearise.go]
      split
      · rename_i i hi
        rw [go_append]
        simp only [List.reverse_cons, List.reverse_nil, List.nil_append, List.cons_append]
        have hmem := List.mem_of_getElem? hi
        simp only [List.mem_filter, List.mem_range, Bool.and_eq_true, Bool.not_eq_true'] at hmem
        obtain ⟨hin, hnl, hdeps⟩ := hmem
        have hiS : i ∉ S := fun hm => by rw [(hls i hin).2 hm] at hnl; cases hnl
        obtain ⟨o, ho⟩ : ∃ o, ops[i]? = some o := ⟨ops[i], Array.getElem?_eq_getElem hin⟩
        rw [ho] at hdeps
        simp only [Option.map_some, Option.getD_some] at hdeps
        have hpre : ∀ j, depOf ops i j = true → j ∈ S := by
          intro j hj
          unfold depOf at hj
          rw [ho] at hj
          simp only [List.any_eq_true, Bool.and_eq_true] at hj
          obtain ⟨e, he, h1, h2⟩ := hj
          replace h1 : e.on = j := Nat.eq_of_beq_eq_true h1
          rw [Array.all_eq_true_iff_forall_mem] at hdeps
          have := hdeps e (by simpa using he)
          rw [hbind e h2] at this
          simp only [Bool.not_true, Bool.false_or] at this
          rw [h1] at this
          have hjlt : j < ops.size := by
            rcases Nat.lt_or_ge j ops.size with h | h
            · exact h
            · rw [Array.getD_eq_getD_getElem?, Array.getElem?_eq_none (by omega)] at this; simp at this
          have h3 : listed.getD j true = true := by
            rw [Array.getD_eq_getD_getElem?] at this ⊢
            rw [Array.getElem?_eq_getElem (by omega)] at this ⊢
            simpa using this
          exact (hls j hjlt).1 h3
        obtain ⟨x, hx, hop⟩ := hg i o (by simpa using ho)
        have hflen : ∀ {p q : Nat → Bool} (l : List Nat), (∀ j ∈ l, p j = true → q j = true) → (l.filter p).length ≤ (l.filter q).length := by
          intro p q l
          induction l with
          | nil => intro _; exact Nat.le_refl _
          | cons a l ihl =>
            intro h
            have ih2 := ihl fun j hj => h j (by simp [hj])
            by_cases hp : p a = true
            · rw [List.filter_cons_of_pos hp, List.filter_cons_of_pos (h a (by simp) hp)]; simp; omega
            · rw [List.filter_cons_of_neg hp]
              by_cases hq : q a = true
              · rw [List.filter_cons_of_pos hq]; simp; omega
              · rw [List.filter_cons_of_neg hq]; exact ih2
        have hlo : loOf ops louds i ≤ cntS louds S := hflen louds fun j _ hj => by simpa using hpre j hj
        have hhi : cntS louds S ≤ hiOf ops louds i := hflen louds fun j _ hj => by
          have hjS : j ∈ S := by simpa using hj
          have h1 : depOf ops j i = false := by
            cases hd : depOf ops j i with
            | false => rfl
            | true => exact absurd (hcl j hjS i hd) hiS
          have h2 : Nat.beq i j = false := by
            cases hb : Nat.beq i j with
            | false => rfl
            | true => exact absurd (Nat.eq_of_beq_eq_true hb ▸ hjS) hiS
          rw [h1, h2]; rfl
        have hal := hop (cntS louds S) (TS ops (fun i => xs.getD i .any) T0 S) (TS_length _ _ _ _) (fun s hs => by
          rw [Tfin_TS hlen i (by omega), TS_get, TS_get]
          congr 1
          funext y
          by_cases hk : ∃ j, dstOf ops j = some s
          · obtain ⟨j, hj⟩ := hk
            have hjn := hdst _ _ hj
            rw [find_mem (fun i j h1 h2 _ => hq1 i j s (hdst _ _ h1) (hdst _ _ h2) h1 h2) hj, find_mem (fun i j h1 h2 _ => hq1 i j s (hdst _ _ h1) (hdst _ _ h2) h1 h2) hj]
            obtain ⟨q1, q2⟩ := hq2 i j s hin hjn hj hs
            by_cases hlt : j < i
            · rw [if_pos (hpre j (q1 hlt)), if_pos (by simpa using hlt)]
            · have := q2 hlt
              rw [if_neg (fun hm => hiS (hcl j hm i this.2)), if_neg (by simpa using hlt)]
          · have hno : ∀ S : List Nat, S.find? (fun i => dstOf ops i == some s) = none := fun S => by
              rw [List.find?_eq_none]; intro i _ hi; exact hk ⟨i, by simpa using hi⟩
            rw [hno, hno]) hlo hhi
        rw [← cntS_cons hndl hiS] at hal
        refine wpOpsIn_cons ho a w ?_
        refine wpListIn_mono ?_ (fun _ => trivial) _ _ _ (hal a w hst)
        rintro e a1 w1 ⟨ds1, T1, H1, s1, k1, rfl, rfl, hs1, hw1⟩
        have s2 := (s1.weak hw1).sub hs1
        have k1 := Step.sub hs1 k1
        have hd : o.dst = dstOf ops i := by simp [dstOf, ho]
        have hxe : x = xs.getD i .any := by simp [List.getD_eq_getElem?_getD, hx]
        rw [hd, hxe] at s2
        rw [← TS_cons (ops := ops) (X := fun i => xs.getD i .any)] at s2
        have hrun := fun t' => ih t' (listed.setIfInBounds i true) (i :: S) a1 w1 (by simpa using hsz) (fun j hj => by
            rw [Array.getD_eq_getD_getElem?, Array.getElem?_setIfInBounds]
            by_cases e : i = j
            · subst e; rw [if_pos rfl, if_pos (by omega)]; simp
            · rw [if_neg e]
              have := hls j hj
              rw [Array.getD_eq_getD_getElem?] at this
              rw [this]; simp [Ne.symm e])
          (fun j hj => by simp only [List.mem_cons] at hj; rcases hj with rfl | hj; exact hin; exact hS j hj)
          (fun j hj q hq => by
            simp only [List.mem_cons] at hj ⊢
            rcases hj with rfl | hj
            · exact .inr (hpre q hq)
            · exact .inr (hcl j hj q hq))
          (by simp; omega) (List.nodup_cons.2 ⟨hiS, hnd⟩) s2
        exact wpOpsIn_back k1 _ _ _ (hrun _)
      · -- nothing is ready: all has been carried out
        rename_i hnone
        simp only [List.reverse_nil, wpOpsIn]
        have hempty : ∀ i, i < ops.size → i ∈ S := by
          intro i
          generalize hrki : rkm.getD i 0 = r
          induction r using Nat.strongRecOn generalizing i with
          | _ r ihi =>
            intro hi
            by_cases hm : i ∈ S
            · exact hm
            · exfalso
              have hin : i ∈ (List.range ops.size).filter fun i => !listed.getD i true && ((ops[i]?).map (·.after.all fun e => !Region.binds md e || listed.getD e.on false)).getD false := by
                simp only [List.mem_filter, List.mem_range, Bool.and_eq_true, Bool.not_eq_true']
                refine ⟨hi, ?_, ?_⟩
                · cases hb : listed.getD i true with
                  | false => rfl
                  | true => exact absurd ((hls i hi).1 hb) hm
                · have ho : ops[i]? = some ops[i] := Array.getElem?_eq_getElem hi
                  rw [ho]
                  simp only [Option.map_some, Option.getD_some]
                  rw [Array.all_eq_true_iff_forall_mem]
                  intro e he
                  cases hb : Region.binds md e with
                  | false => rfl
                  | true =>
                    unfold rankOk at hrk
                    rw [List.all_eq_true] at hrk
                    have hd := hrk i (by simpa using hi)
                    rw [ho] at hd
                    simp only [List.all_eq_true] at hd
                    have hd2 := hd e (by simpa using he)
                    rw [hb] at hd2
                    simp only [Bool.not_true, Bool.false_or, Bool.and_eq_true] at hd2
                    have hsz2 : e.on < ops.size := Nat.le_of_ble_eq_true hd2.1
                    have hlt : rkm.getD e.on 0 < rkm.getD i 0 := Nat.le_of_ble_eq_true hd2.2
                    have hmem := ihi _ (hrki ▸ hlt) e.on rfl hsz2
                    have h3 := (hls e.on hsz2).2 hmem
                    rw [Array.getD_eq_getD_getElem?, Array.getElem?_eq_getElem (by omega)] at h3 ⊢
                    simpa using h3
              rw [List.getElem?_eq_none_iff] at hnone
              have hpos := List.length_pos_of_mem hin
              have := Nat.mod_lt t hpos
              omega
        exact fin S a w hS hempty hst
  intro a w hst
  refine wpIn_region_draw fun t => ?_
  have hst1 : St P ds (TS ops (fun i => xs.getD i .any) T0 []) (HL (cntS louds [])) a w.drew := by
    have e0 : cntS louds [] = 0 := by simp [cntS]
    rw [TS_nil, e0]
    exact ⟨hst.defers, hst.size, fun k x hx => let ⟨u, h1, h2⟩ := hst.vals k x hx; ⟨u, h1, h2.step (Step.drew' _ w)⟩, fun b o hb => (hst.heap b o hb).keep (Step.drew' _ w) rfl⟩
  have hrun : ∀ (md : Region.Mode) (rkm : List Nat), rankOk ops md rkm = true → (∀ e, Region.binds .any e = true → Region.binds md e = true) → ∀ t, wpOpsIn (fen ro) 0 P ops (post P Q (HL 0) w) (Region.linearise md ops t) a w.drew := fun md rkm hrk hb t => by
    have e0 : cntS louds [] = 0 := by simp [cntS]
    have hk := key md rkm hrk hb ops.size t (Array.replicate ops.size false) [] a w.drew (by simp) (fun i hi => by simp [Array.getD_eq_getD_getElem?, hi]) (fun i hi => by simp at hi) (fun i hi => by simp at hi) (by simp) List.nodup_nil hst1
    rw [e0] at hk
    exact wpOpsIn_back (Step.drew' _ w) _ _ _ hk
  unfold Region.schedule
  split
  · exact hrun .any _ hra (fun _ h => h) t
  · split
    · exact hrun .text _ hrt (fun e h => binds_any _ e h) _
    · exact hrun .gc _ hrg (fun e h => binds_any _ e h) _

theorem AW_drawL {id : Nat} {l : List Oper} {xs : List AV} (louds rk : List Nat) (HL : Nat → AH) (hH : HL 0 = H) (hq : loudOk l.toArray louds rk = true) (hop : HopsL P ro l.toArray ds louds HL T0.length 0 T0 l xs) (h : Q .normal ds (Tfin T0 l xs) (HL louds.length)) : AW P ro (.region id l.toArray true) ds T0 H Q := by
  subst hH
  exact AW_drawL' louds rk HL hq (by simpa using hop) (by simpa using h)
theorem HopsL_nil {louds : List Nat} {HL : Nat → AH} {n k : Nat} {Tk : List AV} : HopsL P ro ops ds louds HL n k Tk [] [] := trivial
theorem HopsL_cons {louds : List Nat} {HL : Nat → AH} {n k : Nat} {Tk : List AV} {o : Oper} {l : List Oper} {x : AV} {xs : List AV}
    (h1 : ∀ (m : Nat) (T : List AV), T.length = n → (∀ s, (readsOf ops k).contains s = true → T[s]? = Tk[s]?) → loOf ops louds k ≤ m → m ≤ hiOf ops louds k →
      AL P ro ops [o] ds T (HL m) (qpostL ds (HL (bif louds.contains k then m + 1 else m)) (tput T o.dst x))) (h2 : HopsL P ro ops ds louds HL n (k + 1) (tput Tk o.dst x) l xs) :
    HopsL P ro ops ds louds HL n k Tk (o :: l) (x :: xs) := ⟨h1, h2⟩
end
end Go.AL
