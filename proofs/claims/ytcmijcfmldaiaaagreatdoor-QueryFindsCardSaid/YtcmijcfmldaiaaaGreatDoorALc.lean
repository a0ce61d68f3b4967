/- Statements whose order is open, memory written in them: the writers stand in one order. -/
import Derived.Test.YtcmijcfmldaiaaaGreatDoorALb
import Derived.Laws.RangeAny
import Derived.Laws.Cover4
import Derived.Laws.CopyRow
import Derived.Laws.MakeOwn
set_option autoImplicit false
set_option linter.unusedVariables false
set_option linter.unusedSimpArgs false
namespace Go.AL
open Go Go.RowKit

/-- Each operation stands behind what it waits for, by these ranks. -/
def rankOk (ops : Array Oper) (m : Region.Mode) (rk : List Nat) : Bool := (List.range ops.size).all fun i => match ops[i]? with
  | some o => o.after.toList.all fun e => !Region.binds m e || (Nat.ble (e.on + 1) ops.size && Nat.ble (rk.getD e.on 0 + 1) (rk.getD i 0))
  | none => true
/-- What it reads, and where: as 'quietOk' has it. -/
def tmpsOk (ops : Array Oper) : Bool :=
  (List.range ops.size).all fun i =>
    (List.range ops.size).all fun j =>
      (Nat.beq i j || (match dstOf ops i, dstOf ops j with | some a, some b => !Nat.beq a b | _, _ => true)) &&
      (match dstOf ops j with
        | some d => !(readsOf ops i).contains d || (bif Nat.ble (j + 1) i then depOf ops i j else (!Nat.beq i j && depOf ops j i))
        | none => true)
/-- How many writers have been, at least and at most, when an operation's turn comes. -/
def loOf (ops : Array Oper) (louds : List Nat) (i : Nat) : Nat := (louds.filter fun j => depOf ops i j).length
def hiOf (ops : Array Oper) (louds : List Nat) (i : Nat) : Nat := (louds.filter fun j => !(Nat.beq i j || depOf ops j i)).length
def nodupB : List Nat → Bool
  | [] => true
  | a :: l => !l.contains a && nodupB l
def loudOk (ops : Array Oper) (louds : List Nat) (rk : List Nat) : Bool :=
  rankOk ops .any (List.range ops.size) && rankOk ops .text (List.range ops.size) && rankOk ops .gc rk && tmpsOk ops && nodupB louds && louds.all fun i => Nat.ble (i + 1) ops.size

theorem binds_any (m : Region.Mode) (e : Edge) (h : Region.binds .any e = true) : Region.binds m e = true := by
  obtain ⟨o, g⟩ := e
  cases g <;> first | rfl | (exact absurd (show false = true from h) Bool.false_ne_true)
theorem nodupB_iff : ∀ (l : List Nat), nodupB l = true → l.Nodup
  | [], _ => List.nodup_nil
  | a :: l, h => by
    simp only [nodupB, Bool.and_eq_true, Bool.not_eq_true'] at h
    refine List.nodup_cons.2 ⟨fun hm => ?_, nodupB_iff l h.2⟩
    rw [List.contains_iff_mem.2 hm] at h
    cases h.1

section
variable {P : Program} {ro : Option Nat} {ds : List Deferred} {T0 : List AV} {H : AH} {Q : Post} {ops : Array Oper}

def qpostL (ds : List Deferred) (H : AH) (R : List AV) : Post := fun e ds' T' H' => e = .normal ∧ ds' = ds ∧ SubH H H' ∧ Weak T' R
theorem qpostL_mk {T R : List AV} {H' : AH} (hs : SubH H' H) (h : Weak T R) : qpostL ds H' R .normal ds T H := ⟨rfl, rfl, hs, h⟩

/-- What each operation owes, at the memory that is then. -/
def HopsL (P : Program) (ro : Option Nat) (ops : Array Oper) (ds : List Deferred) (louds : List Nat) (HL : Nat → AH) (n : Nat) : Nat → List AV → List Oper → List AV → Prop
  | _, _, [], [] => True
  | k, Tk, o :: l, x :: xs => (∀ (m : Nat) (T : List AV), T.length = n → (∀ s, (readsOf ops k).contains s = true → T[s]? = Tk[s]?) → loOf ops louds k ≤ m → m ≤ hiOf ops louds k →
      AL P ro ops [o] ds T (HL m) (qpostL ds (HL (bif louds.contains k then m + 1 else m)) (tput T o.dst x))) ∧ HopsL P ro ops ds louds HL n (k + 1) (tput Tk o.dst x) l xs
  | _, _, _, _ => False

theorem HopsL_get {louds : List Nat} {HL : Nat → AH} : ∀ (l : List Oper) (xs : List AV) (k : Nat) (Tk : List AV) (n : Nat), HopsL P ro ops ds louds HL n k Tk l xs → l.length = xs.length ∧
    ∀ i o, l[i]? = some o → ∃ x, xs[i]? = some x ∧ ∀ (m : Nat) (T : List AV), T.length = n → (∀ s, (readsOf ops (k + i)).contains s = true → T[s]? = (Tfin Tk (l.take i) (xs.take i))[s]?) → loOf ops louds (k + i) ≤ m → m ≤ hiOf ops louds (k + i) →
      AL P ro ops [o] ds T (HL m) (qpostL ds (HL (bif louds.contains (k + i) then m + 1 else m)) (tput T o.dst x)) := by
  intro l
  induction l with
  | nil => intro xs k Tk n h; cases xs with | nil => exact ⟨rfl, fun i o h => by simp at h⟩ | cons x xs => exact h.elim
  | cons o l ih =>
    intro xs k Tk n h
    cases xs with
    | nil => exact h.elim
    | cons x xs =>
      obtain ⟨h1, h2⟩ := h
      obtain ⟨e, g⟩ := ih xs (k + 1) _ n h2
      refine ⟨by simp [e], fun i o' hi => ?_⟩
      cases i with
      | zero => simp at hi; subst hi; exact ⟨x, rfl, fun m T hT hr hm hf => h1 m T hT (by simpa [Tfin] using hr) hm hf⟩
      | succ i =>
        obtain ⟨y, hy, hg⟩ := g i o' (by simpa using hi)
        rw [show k + 1 + i = k + (i + 1) by omega] at hg
        refine ⟨y, by simpa using hy, fun m T hT hr hm hf => hg m T hT (fun s hs => ?_) hm hf⟩
        have := hr s hs
        simpa [Tfin] using this

def cntS (louds S : List Nat) : Nat := (louds.filter fun j => decide (j ∈ S)).length
theorem cntS_le (louds S : List Nat) : cntS louds S ≤ louds.length := List.length_filter_le _ _
theorem cntS_cons {louds S : List Nat} {i : Nat} (hn : louds.Nodup) (hi : i ∉ S) : cntS louds (i :: S) = bif louds.contains i then cntS louds S + 1 else cntS louds S := by
  unfold cntS
  induction louds with
  | nil => rfl
  | cons a l ih =>
    rw [List.nodup_cons] at hn
    have ih := ih hn.2
    by_cases ha : a = i
    · subst ha
      have e1 : l.contains a = false := by
        cases h : l.contains a with
        | false => rfl
        | true => exact absurd (List.contains_iff_mem.1 h) hn.1
      rw [e1, cond_false] at ih
      have e2 : (a :: l).contains a = true := by simp
      rw [e2, cond_true, List.filter_cons_of_pos (by simp), List.filter_cons_of_neg (by simpa using hi), List.length_cons, ih]
    · have e2 : (a :: l).contains i = l.contains i := by
        have : (i == a) = false := by simpa using fun e => ha e.symm
        rw [List.contains_cons, this, Bool.false_or]
      rw [e2]
      by_cases hm : a ∈ S
      · rw [List.filter_cons_of_pos (by simp [hm]), List.filter_cons_of_pos (by simpa using hm), List.length_cons, List.length_cons, ih]
        cases l.contains i <;> rfl
      · rw [List.filter_cons_of_neg (by simp [hm, ha]), List.filter_cons_of_neg (by simpa using hm), ih]

theorem AW_drawL' {id : Nat} {xs : List AV} (louds rk : List Nat) (HL : Nat → AH) (hq : loudOk ops louds rk = true) (hop : HopsL P ro ops ds louds HL T0.length 0 T0 ops.toList xs) (h : Q .normal ds (Tfin T0 ops.toList xs) (HL louds.length)) : AW P ro (.region id ops true) ds T0 (HL 0) Q := by
  obtain ⟨hlen, hg⟩ := HopsL_get _ _ _ _ _ hop
  simp only [Nat.zero_add] at hg
  simp only [loudOk, tmpsOk, Bool.and_eq_true, List.all_eq_true] at hq
  obtain ⟨⟨⟨⟨⟨hra, hrt⟩, hrg⟩, hq⟩, hnd0⟩, hloud⟩ := hq
  have hndl : louds.Nodup := nodupB_iff _ hnd0
  have hlsz : ∀ j ∈ louds, j < ops.size := fun j hj => Nat.le_of_ble_eq_true (hloud j hj)
  have hq1 : ∀ i j k, i < ops.size → j < ops.size → dstOf ops i = some k → dstOf ops j = some k → i = j := by
    intro i j k hi hj h1 h2
    have := (hq i (by simpa using hi) j (by simpa using hj)).1
    rw [h1, h2] at this
    simp only [Bool.or_eq_true, Bool.not_eq_true'] at this
    rcases this with h | h
    · exact Nat.eq_of_beq_eq_true h
    · simp at h
  have hq2 : ∀ i j d, i < ops.size → j < ops.size → dstOf ops j = some d → (readsOf ops i).contains d = true → (j < i → depOf ops i j = true) ∧ (¬ j < i → i ≠ j ∧ depOf ops j i = true) := by
    intro i j d hi hj h1 h2
    have := (hq i (by simpa using hi) j (by simpa using hj)).2
    rw [h1] at this
    simp only [h2, Bool.not_true, Bool.false_or] at this
    by_cases hlt : j < i
    · have hb : Nat.ble (j + 1) i = true := Nat.ble_eq_true_of_le hlt
      rw [hb] at this
      exact ⟨fun _ => this, fun h => absurd hlt h⟩
    · have hb : Nat.ble (j + 1) i = false := by
        cases hbb : Nat.ble (j + 1) i with
        | false => rfl
        | true => exact absurd (Nat.le_of_ble_eq_true hbb) hlt
      rw [hb] at this
      simp only [cond_false, Bool.and_eq_true, Bool.not_eq_true'] at this
      refine ⟨fun h => absurd h hlt, fun _ => ⟨fun e => ?_, this.2⟩⟩
      subst e
      have := this.1
      simp at this
  have hdst : ∀ i k, dstOf ops i = some k → i < ops.size := by
    intro i k hi
    unfold dstOf at hi
    rcases Nat.lt_or_ge i ops.size with h | h
    · exact h
    · simp [Array.getElem?_eq_none h] at hi
  have fin : ∀ (S : List Nat) (a : Act) (w : World), (∀ i ∈ S, i < ops.size) → (∀ i, i < ops.size → i ∈ S) → St P ds (TS ops (fun i => xs.getD i .any) T0 S) (HL (cntS louds S)) a w → post P Q (HL (cntS louds S)) w .normal a w := by
    intro S a w hS hall hst
    refine ⟨ds, _, _, hst, .refl _ _, ?_⟩
    have e1 : TS ops (fun i => xs.getD i .any) T0 S = Tfin T0 ops.toList xs := by
      have e2 := Tfin_TS (T0 := T0) hlen ops.size (Nat.le_refl _)
      rw [show ops.toList.take ops.size = ops.toList from List.take_of_length_le (by simp), show xs.take ops.size = xs from List.take_of_length_le (by rw [← hlen]; simp)] at e2
      rw [e2]
      apply List.ext_getElem?
      intro k
      rw [TS_get, TS_get]
      congr 1
      funext x
      by_cases hk : ∃ j, dstOf ops j = some k
      · obtain ⟨j, hj⟩ := hk
        rw [find_mem (fun i j h1 h2 _ => hq1 i j k (hdst _ _ h1) (hdst _ _ h2) h1 h2) hj, find_mem (fun i j h1 h2 _ => hq1 i j k (hdst _ _ h1) (hdst _ _ h2) h1 h2) hj, if_pos (hall j (hdst _ _ hj)), if_pos (by simpa using hdst _ _ hj)]
      · have hno : ∀ S : List Nat, S.find? (fun i => dstOf ops i == some k) = none := fun S => by
          rw [List.find?_eq_none]; intro i _ hi; exact hk ⟨i, by simpa using hi⟩
        rw [hno, hno]
    have e3 : cntS louds S = louds.length := by
      unfold cntS
      rw [List.filter_eq_self.2 (fun j hj => ?_)]
      have hjl := hall j
      by_cases hjs : j < ops.size
      · simpa using hall j hjs
      · exfalso; exact hjs (hlsz j hj)
    rw [e1, e3]; exact h
  -- the walk over a schedule
  have key : ∀ (md : Region.Mode) (rkm : List Nat), rankOk ops md rkm = true → (∀ e, Region.binds .any e = true → Region.binds md e = true) → ∀ (fuel t : Nat) (listed : Array Bool) (S : List Nat) (a : Act) (w : World), listed.size = ops.size → (∀ i, i < ops.size → (listed.getD i true = true ↔ i ∈ S)) → (∀ i ∈ S, i < ops.size) →
      (∀ i ∈ S, ∀ j, depOf ops i j = true → j ∈ S) → ops.size ≤ fuel + S.length → S.Nodup → St P ds (TS ops (fun i => xs.getD i .any) T0 S) (HL (cntS louds S)) a w →
      wpOpsIn (fen ro) 0 P ops (post P Q (HL (cntS louds S)) w) (Region.linearise.go md ops fuel t listed []) a w := by
    intro md rkm hrk hbind fuel
    induction fuel with
    | zero =>
      intro t listed S a w hsz hls hS hcl hfuel hnd hst
      simp only [Region.linearise.go, List.reverse_nil, wpOpsIn]
      refine fin S a w hS (fun i hi => ?_) hst
      by_cases hm : i ∈ S
      · exact hm
      · exfalso
        have := pig ops.size (i :: S) (List.nodup_cons.2 ⟨hm, hnd⟩) (fun j hj => by simp only [List.mem_cons] at hj; rcases hj with rfl | hj; exact hi; exact hS j hj)
        simp at this; omega
    | succ fuel ih =>
      intro t listed S a w hsz hls hS hcl hfuel hnd hst
      simp only [Region.linearise.go]
      split
      · rename_i i hi
        rw [go_append]
        simp only [List.reverse_cons, List.reverse_nil, List.nil_append, List.cons_append]
        have hmem := List.mem_of_getElem? hi
        simp only [List.mem_filter, List.mem_range, Bool.and_eq_true, Bool.not_eq_true'] at hmem
        obtain ⟨hin, hnl, hdeps⟩ := hmem
        have hiS : i ∉ S := fun hm => by rw [(hls i hin).2 hm] at hnl; cases hnl
        obtain ⟨o, ho⟩ : ∃ o, ops[i]? = some o := ⟨ops[i], Array.getElem?_eq_getElem hin⟩
        rw [ho] at hdeps
        simp only [Option.map_some, Option.getD_some] at hdeps
        have hpre : ∀ j, depOf ops i j = true → j ∈ S := by
          intro j hj
          unfold depOf at hj
          rw [ho] at hj
          simp only [List.any_eq_true, Bool.and_eq_true] at hj
          obtain ⟨e, he, h1, h2⟩ := hj
          replace h1 : e.on = j := Nat.eq_of_beq_eq_true h1
          rw [Array.all_eq_true_iff_forall_mem] at hdeps
          have := hdeps e (by simpa using he)
          rw [hbind e h2] at this
          simp only [Bool.not_true, Bool.false_or] at this
          rw [h1] at this
          have hjlt : j < ops.size := by
            rcases Nat.lt_or_ge j ops.size with h | h
            · exact h
            · rw [Array.getD_eq_getD_getElem?, Array.getElem?_eq_none (by omega)] at this; simp at this
          have h3 : listed.getD j true = true := by
            rw [Array.getD_eq_getD_getElem?] at this ⊢
            rw [Array.getElem?_eq_getElem (by omega)] at this ⊢
            simpa using this
          exact (hls j hjlt).1 h3
        obtain ⟨x, hx, hop⟩ := hg i o (by simpa using ho)
        have hflen : ∀ {p q : Nat → Bool} (l : List Nat), (∀ j ∈ l, p j = true → q j = true) → (l.filter p).length ≤ (l.filter q).length := by
          intro p q l
          induction l with
          | nil => intro _; exact Nat.le_refl _
          | cons a l ihl =>
            intro h
            have ih2 := ihl fun j hj => h j (by simp [hj])
            by_cases hp : p a = true
            · rw [List.filter_cons_of_pos hp, List.filter_cons_of_pos (h a (by simp) hp)]; simp; omega
            · rw [List.filter_cons_of_neg hp]
              by_cases hq : q a = true
              · rw [List.filter_cons_of_pos hq]; simp; omega
              · rw [List.filter_cons_of_neg hq]; exact ih2
        have hlo : loOf ops louds i ≤ cntS louds S := hflen louds fun j _ hj => by simpa using hpre j hj
        have hhi : cntS louds S ≤ hiOf ops louds i := hflen louds fun j _ hj => by
          have hjS : j ∈ S := by simpa using hj
          have h1 : depOf ops j i = false := by
            cases hd : depOf ops j i with
            | false => rfl
            | true => exact absurd (hcl j hjS i hd) hiS
          have h2 : Nat.beq i j = false := by
            cases hb : Nat.beq i j with
            | false => rfl
            | true => exact absurd (Nat.eq_of_beq_eq_true hb ▸ hjS) hiS
          rw [h1, h2]; rfl
        have hal := hop (cntS louds S) (TS ops (fun i => xs.getD i .any) T0 S) (TS_length _ _ _ _) (fun s hs => by
          rw [Tfin_TS hlen i (by omega), TS_get, TS_get]
          congr 1
          funext y
          by_cases hk : ∃ j, dstOf ops j = some s
          · obtain ⟨j, hj⟩ := hk
            have hjn := hdst _ _ hj
            rw [find_mem (fun i j h1 h2 _ => hq1 i j s (hdst _ _ h1) (hdst _ _ h2) h1 h2) hj, find_mem (fun i j h1 h2 _ => hq1 i j s (hdst _ _ h1) (hdst _ _ h2) h1 h2) hj]
            obtain ⟨q1, q2⟩ := hq2 i j s hin hjn hj hs
            by_cases hlt : j < i
            · rw [if_pos (hpre j (q1 hlt)), if_pos (by simpa using hlt)]
            · have := q2 hlt
              rw [if_neg (fun hm => hiS (hcl j hm i this.2)), if_neg (by simpa using hlt)]
          · have hno : ∀ S : List Nat, S.find? (fun i => dstOf ops i == some s) = none := fun S => by
              rw [List.find?_eq_none]; intro i _ hi; exact hk ⟨i, by simpa using hi⟩
            rw [hno, hno]) hlo hhi
        rw [← cntS_cons hndl hiS] at hal
        refine wpOpsIn_cons ho a w ?_
        refine wpListIn_mono ?_ (fun _ => trivial) _ _ _ (hal a w hst)
        rintro e a1 w1 ⟨ds1, T1, H1, s1, k1, rfl, rfl, hs1, hw1⟩
        have s2 := (s1.weak hw1).sub hs1
        have k1 := Step.sub hs1 k1
        have hd : o.dst = dstOf ops i := by simp [dstOf, ho]
        have hxe : x = xs.getD i .any := by simp [List.getD_eq_getElem?_getD, hx]
        rw [hd, hxe] at s2
        rw [← TS_cons (ops := ops) (X := fun i => xs.getD i .any)] at s2
        have hrun := fun t' => ih t' (listed.setIfInBounds i true) (i :: S) a1 w1 (by simpa using hsz) (fun j hj => by
            rw [Array.getD_eq_getD_getElem?, Array.getElem?_setIfInBounds]
            by_cases e : i = j
            · subst e; rw [if_pos rfl, if_pos (by omega)]; simp
            · rw [if_neg e]
              have := hls j hj
              rw [Array.getD_eq_getD_getElem?] at this
              rw [this]; simp [Ne.symm e])
          (fun j hj => by simp only [List.mem_cons] at hj; rcases hj with rfl | hj; exact hin; exact hS j hj)
          (fun j hj q hq => by
            simp only [List.mem_cons] at hj ⊢
            rcases hj with rfl | hj
            · exact .inr (hpre q hq)
            · exact .inr (hcl j hj q hq))
          (by simp; omega) (List.nodup_cons.2 ⟨hiS, hnd⟩) s2
        exact wpOpsIn_back k1 _ _ _ (hrun _)
      · -- nothing is ready: all has been carried out
        rename_i hnone
        simp only [List.reverse_nil, wpOpsIn]
        have hempty : ∀ i, i < ops.size → i ∈ S := by
          intro i
          generalize hrki : rkm.getD i 0 = r
          induction r using Nat.strongRecOn generalizing i with
          | _ r ihi =>
            intro hi
            by_cases hm : i ∈ S
            · exact hm
            · exfalso
              have hin : i ∈ (List.range ops.size).filter fun i => !listed.getD i true && ((ops[i]?).map (·.after.all fun e => !Region.binds md e || listed.getD e.on false)).getD false := by
                simp only [List.mem_filter, List.mem_range, Bool.and_eq_true, Bool.not_eq_true']
                refine ⟨hi, ?_, ?_⟩
                · cases hb : listed.getD i true with
                  | false => rfl
                  | true => exact absurd ((hls i hi).1 hb) hm
                · have ho : ops[i]? = some ops[i] := Array.getElem?_eq_getElem hi
                  rw [ho]
                  simp only [Option.map_some, Option.getD_some]
                  rw [Array.all_eq_true_iff_forall_mem]
                  intro e he
                  cases hb : Region.binds md e with
                  | false => rfl
                  | true =>
                    unfold rankOk at hrk
                    rw [List.all_eq_true] at hrk
                    have hd := hrk i (by simpa using hi)
                    rw [ho] at hd
                    simp only [List.all_eq_true] at hd
                    have hd2 := hd e (by simpa using he)
                    rw [hb] at hd2
                    simp only [Bool.not_true, Bool.false_or, Bool.and_eq_true] at hd2
                    have hsz2 : e.on < ops.size := Nat.le_of_ble_eq_true hd2.1
                    have hlt : rkm.getD e.on 0 < rkm.getD i 0 := Nat.le_of_ble_eq_true hd2.2
                    have hmem := ihi _ (hrki ▸ hlt) e.on rfl hsz2
                    have h3 := (hls e.on hsz2).2 hmem
                    rw [Array.getD_eq_getD_getElem?, Array.getElem?_eq_getElem (by omega)] at h3 ⊢
                    simpa using h3
              rw [List.getElem?_eq_none_iff] at hnone
              have hpos := List.length_pos_of_mem hin
              have := Nat.mod_lt t hpos
              omega
        exact fin S a w hS hempty hst
  intro a w hst
  refine wpIn_region_draw fun t => ?_
  have hst1 : St P ds (TS ops (fun i => xs.getD i .any) T0 []) (HL (cntS louds [])) a w.drew := by
    have e0 : cntS louds [] = 0 := by simp [cntS]
    rw [TS_nil, e0]
    exact ⟨hst.defers, hst.size, fun k x hx => let ⟨u, h1, h2⟩ := hst.vals k x hx; ⟨u, h1, h2.step (Step.drew' _ w)⟩, fun b o hb => (hst.heap b o hb).keep (Step.drew' _ w) rfl⟩
  have hrun : ∀ (md : Region.Mode) (rkm : List Nat), rankOk ops md rkm = true → (∀ e, Region.binds .any e = true → Region.binds md e = true) → ∀ t, wpOpsIn (fen ro) 0 P ops (post P Q (HL 0) w) (Region.linearise md ops t) a w.drew := fun md rkm hrk hb t => by
    have e0 : cntS louds [] = 0 := by simp [cntS]
    have hk := key md rkm hrk hb ops.size t (Array.replicate ops.size false) [] a w.drew (by simp) (fun i hi => by simp [Array.getD_eq_getD_getElem?, hi]) (fun i hi => by simp at hi) (fun i hi => by simp at hi) (by simp) List.nodup_nil hst1
    rw [e0] at hk
    exact wpOpsIn_back (Step.drew' _ w) _ _ _ hk
  unfold Region.schedule
  split
  · exact hrun .any _ hra (fun _ h => h) t
  · split
    · exact hrun .text _ hrt (fun e h => binds_any _ e h) _
    · exact hrun .gc _ hrg (fun e h => binds_any _ e h) _

theorem AW_drawL {id : Nat} {l : List Oper} {xs : List AV} (louds rk : List Nat) (HL : Nat → AH) (hH : HL 0 = H) (hq : loudOk l.toArray louds rk = true) (hop : HopsL P ro l.toArray ds louds HL T0.length 0 T0 l xs) (h : Q .normal ds (Tfin T0 l xs) (HL louds.length)) : AW P ro (.region id l.toArray true) ds T0 H Q := by
  subst hH
  exact AW_drawL' louds rk HL hq (by simpa using hop) (by simpa using h)
theorem HopsL_nil {louds : List Nat} {HL : Nat → AH} {n k : Nat} {Tk : List AV} : HopsL P ro ops ds louds HL n k Tk [] [] := trivial
theorem HopsL_cons {louds : List Nat} {HL : Nat → AH} {n k : Nat} {Tk : List AV} {o : Oper} {l : List Oper} {x : AV} {xs : List AV}
    (h1 : ∀ (m : Nat) (T : List AV), T.length = n → (∀ s, (readsOf ops k).contains s = true → T[s]? = Tk[s]?) → loOf ops louds k ≤ m → m ≤ hiOf ops louds k →
      AL P ro ops [o] ds T (HL m) (qpostL ds (HL (bif louds.contains k then m + 1 else m)) (tput T o.dst x))) (h2 : HopsL P ro ops ds louds HL n (k + 1) (tput Tk o.dst x) l xs) :
    HopsL P ro ops ds louds HL n k Tk (o :: l) (x :: xs) := ⟨h1, h2⟩
end
end Go.AL

/- Further rules: a string's bytes as a row of our own; a boxed value read from now on; a case of a flag; bits with a name; library calls that draw. -/
set_option autoImplicit false
set_option linter.unusedVariables false
set_option linter.unusedSimpArgs false
namespace Go.AL
open Go Go.RowKit

section
variable {P : Program} {ro : Option Nat} {ds : List Deferred} {T : List AV} {H : AH} {Q : Post} {ops : Array Oper} {rest : List Oper}
variable {d : Option Tmp} {ty : TypeId} {pos : String} {af : Array Edge} {s s' : Operand} {x y : AV}

/-- A string's bytes as a new row. -/
theorem AL_convStr {src dst e : TypeId} {p : ByteArray} (hs : P.underlying src = some .string) (hd : P.underlying dst = some (.slice e)) (he : P.underlying e = some (.int .u8)) (hz : szOf P e = some 1)
    (hx : ev T s = some (.v (.string p)))
    (h : ∀ b c, H b = none → p.size ≤ c → AL P ro ops rest ds (tput T d (.own (some b) c p.size)) (H.upd b (some (.row e c (p.data.toList.map byteAV)))) Q) : AL P ro ops (⟨d, .convert src dst s, ty, pos, af, none⟩ :: rest) ds T H Q := by
  refine AL_op rfl (fun _ h => nomatch h) fun a w hst => ?_
  have hu : a.eval s = .string p := hst.evv hx
  obtain ⟨cap, hcap⟩ : ∃ cap, grownCap w p.size 0 e = cap := ⟨_, rfl⟩
  have hge : p.size ≤ cap := hcap ▸ grownCap_ge w p.size 0 e
  have hr := run_bytes_of_string (P := P) w src dst e p hs hd he
  rw [hcap] at hr
  have hhd : HR P H w.drew := fun b o hb => (hst.heap b o hb).keep (Step.drew' H w) rfl
  have hnew : H w.drew.heap.size = none := hhd.none_new
  have hsz : (bytesRow p cap).size = cap := by
    unfold bytesRow
    rw [Array.size_append, Array.size_map, Array.size_replicate]
    show p.size + _ = _
    omega
  have hcells : ∀ x ∈ p.data.toList.map byteAV, x.cells.length = 1 := by
    intro x hx
    obtain ⟨z, _, rfl⟩ := List.mem_map.1 hx
    rfl
  refine ⟨.slice (some ⟨w.heap.size, 0, none⟩) p.size cap, w.drew.alloc (.cells (bytesRow p cap) e ((bytesRow p cap).size, (bytesRow p cap).size + 1)), .own (some w.heap.size) cap p.size, _, ?_, .own _ _ _, ?_, (Step.drew' H w).trans (Step.alloc w.drew _ (.row e cap (p.data.toList.map byteAV)) hnew), h w.heap.size cap hnew hge⟩
  · simp only [execOp, hu, Sem.run_bind, hr, Result.andThen_ok, Sem.run_pure]
  · refine hhd.alloc ⟨bytesRow p cap, _, heap_alloc_new _ _, ?_, ?_, ?_, ?_, ?_⟩
    · rw [hsz, szOf_cells hz, Nat.mul_one]
    · intro i hi ⟨h1, h2⟩
      have h1' : (bytesRow p cap).size ≤ i := h1
      omega
    · rw [List.length_map, Array.length_toList]; exact hge
    · intro x hx; rw [szOf_cells hz]; exact hcells x hx
    · intro k y hy
      rw [flat_bytes, List.getElem?_map] at hy
      cases hk : p.data.toList[k]? with
      | none => rw [hk] at hy; simp at hy
      | some b =>
        rw [hk] at hy
        simp only [Option.map_some, Option.some.injEq] at hy
        subst hy
        refine ⟨.int .u8 b.toNat, ?_, .v _⟩
        have hlt : k < p.data.size := by
          have := (List.getElem?_eq_some_iff.1 hk).1; simpa using this
        unfold bytesRow
        rw [Array.getElem?_append_left (by simpa using hlt), Array.getElem?_map]
        rw [← Array.getElem?_toList, hk]; rfl

/-- What a box holds is read from now on. -/
theorem St.frzpt {a : Act} {w : World} (hst : St P ds T H a w) {k b n c : Nat} {e : TypeId} (hk : T[k]? = some (.pt b 0 n 0)) (hb : H b = some (.row e c [x])) : St P ds (T.set k (.rp e x)) (H.upd b none) a w := by
  refine ⟨hst.defers, by simpa using hst.size, fun i y hy => ?_, hst.heap.sub (upd_none_sub H b)⟩
  rw [List.getElem?_set] at hy
  split at hy
  · rename_i e1
    subst e1
    split at hy
    · injection hy with hy
      subst hy
      obtain ⟨u, hu, hv⟩ := hst.vals _ _ hk
      cases hv
      refine ⟨_, hu, ?_⟩
      obtain ⟨cs, fr, h1, h2, h3, h4, h5, h6⟩ := hst.heap b _ hb
      have hU : ∃ U : Nat → Value, ∀ k y, x.cells[k]? = some y → cs[k]? = some (U k) ∧ VR P w H y (U k) := ⟨fun k => (cs[k]?).getD undef, fun k y hy => by
        obtain ⟨u, q1, q2⟩ := h6 k y (by simpa [flat] using hy)
        show cs[k]? = some ((cs[k]?).getD undef) ∧ VR P w H y ((cs[k]?).getD undef)
        rw [q1]; exact ⟨rfl, q2⟩⟩
      obtain ⟨U, hU⟩ := hU
      refine .rp U (h5 x (by simp)) (fun k y hy => ⟨AH.upd_same _ _ _, ?_⟩) (fun k y hy => (hU k y hy).2.sub (upd_none_sub H b))
      rw [addr_add]
      simp only [World.cell?, h1]
      simpa using (hU k y hy).1
    · cases hy
  · obtain ⟨u, h1, h2⟩ := hst.vals i y hy
    exact ⟨u, h1, h2.sub (upd_none_sub H b)⟩
theorem AL_frzpt {b n c : Nat} {e : TypeId} (k : Nat) (hk : T[k]? = some (.pt b 0 n 0)) (hb : H b = some (.row e c [x])) (h : AL P ro ops rest ds (T.set k (.rp e x)) (H.upd b none) Q) : AL P ro ops rest ds T H Q :=
  fun a w hst => wpListIn_mono (fun _ _ _ p => post.back (Step.sub (upd_none_sub H b) (.refl _ _)) p) (fun _ => trivial) _ _ _ (h a w (hst.frzpt hk hb))
theorem AW_frzpt {c' : Code} {b n c : Nat} {e : TypeId} (k : Nat) (hk : T[k]? = some (.pt b 0 n 0)) (hb : H b = some (.row e c [x])) (h : AW P ro c' ds (T.set k (.rp e x)) (H.upd b none) Q) : AW P ro c' ds T H Q :=
  fun a w hst => wpIn_mono (h a w (hst.frzpt hk hb)) fun _ _ _ p => post.back (Step.sub (upd_none_sub H b) (.refl _ _)) p

/-- A flag's two cases. -/
theorem AL_bcase {b : Bool} (c : Nat) (hc : T[c]? = some (.v (.bool b))) (ht : b = true → AL P ro ops rest ds (T.set c (.v (.bool true))) H Q) (hf : b = false → AL P ro ops rest ds (T.set c (.v (.bool false))) H Q) : AL P ro ops rest ds T H Q := by
  have e : T.set c (.v (.bool b)) = T := by
    apply List.ext_getElem?
    intro i
    rw [List.getElem?_set]
    split
    · rename_i e; subst e; rw [hc, if_pos (List.getElem?_eq_some_iff.1 hc).1]
    · rfl
  cases b with
  | true => have := ht rfl; rwa [e] at this
  | false => have := hf rfl; rwa [e] at this

theorem AL_bitsz {op : BinOp} {tx ty' : TypeId} {k : IntKind} {m n : Int} (z : Int) (hx : ev T s = some (.v (.int k m))) (hy : ev T s' = some (.v (.int k n))) (ho : op = .and ∨ op = .or ∨ op = .xor ∨ op = .andNot) (hz : intB op k m n = z)
    (h : AL P ro ops rest ds (tput T d (.v (.int k z))) H Q) : AL P ro ops (⟨d, .binOp op tx s s' ty', ty, pos, af, none⟩ :: rest) ds T H Q :=
  AL_bits hx hy ho (hz ▸ h)
end


theorem SubH.of_eq {A B : AH} (h : A = B) : SubH A B := h ▸ SubH.refl _
theorem Fresh.look {H : AH} {A : Option Nat} {e : TypeId} {c : Nat} {xs : List AV} (h : Fresh H A c xs) {b : Nat} {o : AO} (hb : H b = some o) : (H.put A e c xs) b = some o := h.subH b o hb
theorem AH.put_upd {H : AH} {A : Option Nat} {e : TypeId} {c : Nat} {xs : List AV} {b : Nat} {o o' : AO} (h : Fresh H A c xs) (hb : H b = some o') : (H.put A e c xs).upd b (some o) = (H.upd b (some o)).put A e c xs := by
  cases A with
  | none => rfl
  | some a =>
    have h0 : H a = none := h
    have hne : a ≠ b := fun e => by subst e; rw [h0] at hb; cases hb
    exact AH.upd_comm H hne _ _
theorem Fresh.up {H : AH} {A : Option Nat} {c : Nat} {xs : List AV} {b : Nat} {o o' : AO} (h : Fresh H A c xs) (hb : H b = some o') : Fresh (H.upd b (some o)) A c xs := by
  cases A with
  | none => exact h
  | some a =>
    have h0 : H a = none := h
    have hne : a ≠ b := fun e => by subst e; rw [h0] at hb; cases hb
    show (H.upd b (some o)) a = none
    rw [AH.upd_ne _ _ hne]; exact h0
section
variable {P : Program} {H : AH}
/-- A row of its own that a function hands back is read from then on. -/
theorem AC_frzS {f : FuncId} {args : List AV} {K : AV → AH → Prop} (e : TypeId) (xs : List AV) (h : AC P f args H fun x H' => ∃ A c, Fresh H A c xs ∧ x = .own A c xs.length ∧ H' = H.put A e c xs ∧ K (.sl e xs) H) : AC P f args H K := fun w vs hl hv hh => by
  refine (h w vs hl hv hh).mono ?_
  rintro e' w' ⟨v, x, H', rfl, hx, hr, hst, A, c, hF, rfl, rfl, hk⟩
  cases A with
  | none =>
    obtain ⟨rfl, rfl⟩ := hF
    exact ⟨v, .sl e [], H, rfl, hx.nilsl, hr, hst, hk⟩
  | some b =>
    have hb : (H.upd b (some (.row e c xs))) b = some (.row e c xs) := AH.upd_same _ _ _
    have e1 : (H.upd b (some (.row e c xs))).upd b none = H := AH.upd_none_eq hF
    have hs : SubH H (H.put (some b) e c xs) := (SubH.refl _).upd hF
    obtain ⟨B, hu, hB, _⟩ := hx.own_inv
    obtain rfl := hB b rfl
    refine ⟨v, .sl e xs, H, rfl, ?_, hr.sub hs, Step.sub hs hst, hk⟩
    have hfz : VR P w' ((H.upd b (some (.row e c xs))).upd b none) (.sl e xs) (.slice (some ⟨b, 0, none⟩) xs.length c) := VR.frozen (P := P) hr hb
    rw [e1] at hfz
    rw [hu]; exact hfz
end
theorem PI.contractK {P : Program} {I : AH → Prop} {f : FuncId} {args : List AV} {r : AV} (vs0 : Array Value) (hc : args.map concV = vs0.toList.map some)
    (h : ∀ H w, I H → HR P H w → Calls P f vs0 w fun e w' => ∃ v, e = .returned v ∧ Below w.heap.size w w' ∧ VR P w' H r v) : PI I P f args r := fun H K hI hK w vs hl hv hh => by
  obtain rfl := VR.concs hl hv hc
  rw [fen_none, callsIn_wide]
  refine (h H w hI hh).mono ?_
  rintro e w' ⟨v, rfl, hb, hx⟩
  exact ⟨v, r, H, rfl, hx, hh.ofBelow hb, Step.ofBelow H hb, hK⟩

theorem flat_strs : ∀ xs : List ByteArray, flat (xs.map fun b => AV.v (.string b)) = xs.map fun b => .v (.string b)
  | [] => rfl
  | x :: xs => by
    have := flat_strs xs
    unfold flat at this ⊢
    rw [List.map_cons, List.flatMap_cons, this]; rfl
/-- A slice of strings, where it lies. -/
theorem VR.strs {P : Program} {w : World} {H : AH} {e : TypeId} {xs : List ByteArray} {u : Value} (he : P.cellsOf e = 1) (h : VR P w H (.sl e (xs.map fun b => .v (.string b))) u) :
    ∃ A c, u = .slice A xs.length c ∧ xs.length ≤ c ∧ (xs ≠ [] → ∃ bk o, A = some ⟨bk, o, none⟩ ∧ bk < w.heap.size ∧ ∀ (j : Nat) (x : ByteArray), xs[j]? = some x → w.cell? ⟨bk, o + j, none⟩ = some (.string x)) := by
  obtain ⟨A, c, U, rfl, hs, hc, hcell, hv⟩ := h.sl_inv
  have hfl := flat_strs xs
  rw [hfl] at hcell hv
  refine ⟨A, c, by rw [List.length_map], by simpa using hc, fun hne => ?_⟩
  obtain ⟨x0, xs', rfl⟩ : ∃ x0 xs', xs = x0 :: xs' := by cases xs with | nil => exact absurd rfl hne | cons a b => exact ⟨a, b, rfl⟩
  obtain ⟨a, rfl, hn, hcl⟩ := hcell 0 (.v (.string x0)) rfl
  have e0 : a.add 0 = a := by simp [Addr.add]
  rw [e0] at hcl
  have hsp : a.spot = none := by
    unfold World.cell? at hcl
    split at hcl
    · split at hcl
      · cases hcl
      · rename_i h; simpa using h
    · cases hcl
  obtain ⟨bk, o, sp⟩ := a
  obtain rfl : sp = none := hsp
  refine ⟨bk, o, rfl, cell_lt hcl, fun j x hj => ?_⟩
  have hj' : ((x0 :: xs').map fun b => AV.v (.string b))[j]? = some (.v (.string x)) := by rw [List.getElem?_map, hj]; rfl
  obtain ⟨a2, ha2, _, hc2⟩ := hcell j _ hj'
  injection ha2 with ha2
  subst ha2
  rw [addr_add] at hc2
  rw [hc2, (hv j _ hj').v_inv]
end Go.AL

/- Slices of strings and of slices, their bounds plain numbers. -/
set_option autoImplicit false
set_option linter.unusedVariables false
set_option linter.unusedSimpArgs false
namespace Go.AL
open Go Go.RowKit
section
variable {P : Program} {ro : Option Nat} {ds : List Deferred} {T : List AV} {H : AH} {Q : Post} {ops : Array Oper} {rest : List Oper}
variable {d : Option Tmp} {ty : TypeId} {pos : String} {af : Array Edge} {s s' : Operand} {x y : AV}

theorem HopsL_norm {louds : List Nat} {HL : Nat → AH} {n k : Nat} {Tk Tk' : List AV} {l : List Oper} {xs : List AV} (e : Tk = Tk') (h : HopsL P ro ops ds louds HL n k Tk' l xs) : HopsL P ro ops ds louds HL n k Tk l xs := e ▸ h
theorem Hops_norm {n k : Nat} {Tk Tk' : List AV} {l : List Oper} {xs : List AV} (e : Tk = Tk') (h : Hops P ro ops ds H n k Tk' l xs) : Hops P ro ops ds H n k Tk l xs := e ▸ h
/-- Ways that come together again. -/
def mQ (ds : List Deferred) (T1 : List AV) (H1 : AH) : Post := fun e ds' T' H' => e = .normal ∧ ds' = ds ∧ SubH H1 H' ∧ Weak T' T1
theorem mQ_mk {T1 : List AV} {H1 : AH} (hs : SubH H1 H) (hw : Weak T T1) : mQ ds T1 H1 .normal ds T H := ⟨rfl, rfl, hs, hw⟩
theorem AW_merge {c1 c2 : Code} (D : List Nat) (upds : List (Nat × AV)) (H1 : AH) (h1 : AW P ro c1 ds T H (mQ ds (setAll (anyAt T D) upds) H1)) (h2 : AW P ro c2 ds (setAll (anyAt T D) upds) H1 Q) : AW P ro (.seq c1 c2) ds T H Q :=
  AW_seq (AW_cut h1 fun e ds' T' H' ⟨he, hd, hs, hw⟩ => by
    subst he; subst hd
    exact AW_sub hs (AW_weaken hw h2))
theorem AW_join {c1 c2 : Code} (D : List Nat) (upds : List (Nat × AV)) (H1 : AH) (h1 : AW P ro c1 ds T H (mQ ds (setAll (anyAt T D) upds) H1)) (h2 : AW P ro c2 ds (setAll (anyAt T D) upds) H1 Q) : AW P ro c1 ds T H (seqQ P ro c2 Q) :=
  AW_cut h1 fun e ds' T' H' ⟨he, hd, hs, hw⟩ => by
    subst he; subst hd
    exact AW_sub hs (AW_weaken hw h2)
def bdN (T : List AV) (o : Option Operand) (dflt : Nat) (n : Nat) : Prop :=
  match o with
  | none => n = dflt
  | some o => ∃ k, ev T o = some (.v (.int k (n : Int)))
theorem bdN.bd {o : Option Operand} {dflt n : Nat} (h : bdN T o dflt n) : Go.AL.bd T o dflt n := by
  cases o with
  | none => exact h
  | some o => obtain ⟨k, hk⟩ := h; exact ⟨k, _, hk, by omega, rfl⟩
theorem AL_slice_strN {tx : TypeId} {p : ByteArray} {lo hi : Option Operand} {l h : Nat} (ht : P.underlying tx = some .string) (hx : ev T s = some (.v (.string p))) (hh : bdN T hi p.size h) (hl : bdN T lo 0 l) (h1 : h ≤ p.size) (h2 : l ≤ h)
    (hr : AL P ro ops rest ds (tput T d (.v (.string (p.extract l h)))) H Q) : AL P ro ops (⟨d, .slice tx s lo hi none, ty, pos, af, none⟩ :: rest) ds T H Q := AL_slice_str ht hx hh.bd hl.bd h1 h2 hr
theorem AL_slice_slN {tx e : TypeId} {sz : Nat} {xs : List AV} {lo hi : Option Operand} {l h : Nat} (ht : P.underlying tx = some (.slice e)) (hs : szOf P e = some sz) (hx : ev T s = some (.sl e xs)) (hh : bdN T hi xs.length h) (hl : bdN T lo 0 l) (h1 : h ≤ xs.length) (h2 : l ≤ h)
    (hr : AL P ro ops rest ds (tput T d (.sl e ((xs.drop l).take (h - l)))) H Q) : AL P ro ops (⟨d, .slice tx s lo hi none, ty, pos, af, none⟩ :: rest) ds T H Q := AL_slice_sl ht hs hx hh.bd hl.bd h1 h2 hr
end
end Go.AL

/- A text's characters: a range over it; its conversion to a row of characters, and back. -/
set_option autoImplicit false
set_option linter.unusedVariables false
set_option linter.unusedSimpArgs false
namespace Go.AL
open Go Go.RowKit

/-- A text's characters from a place on. -/
def runesAt (s : ByteArray) : Nat → Nat → List Int
  | 0, _ => []
  | n + 1, i => if i < s.size then ((Utf8.decode s i).1 : Int) :: runesAt s n (i + (Utf8.decode s i).2) else []
def runesOf (s : ByteArray) : List Int := runesAt s s.size 0
theorem runesAt_len (s : ByteArray) : ∀ n i, (runesAt s n i).length ≤ n
  | 0, _ => Nat.le_refl _
  | n + 1, i => by
    unfold runesAt
    split
    · have := runesAt_len s n (i + (Utf8.decode s i).2); simp; omega
    · simp
theorem runesFrom_eq (s : ByteArray) : ∀ n i acc, Conv.runesFrom s n i acc = acc ++ ((runesAt s n i).map (Value.int .i32)).toArray
  | 0, i, acc => by simp [Conv.runesFrom, runesAt]
  | n + 1, i, acc => by
    unfold Conv.runesFrom runesAt
    split
    · show Conv.runesFrom s n (i + (Utf8.decode s i).2) (acc.push (.int .i32 (Int.ofNat (Utf8.decode s i).1))) = _
      rw [runesFrom_eq s n]
      simp
    · simp
theorem decode_pos (s : ByteArray) (i : Nat) : 1 ≤ (Utf8.decode s i).2 := by
  simp only [Utf8.decode]
  repeat' split
  all_goals simp
theorem runesAt_more (s : ByteArray) : ∀ n m i, s.size ≤ i + n → s.size ≤ i + m → runesAt s n i = runesAt s m i
  | 0, 0, i, _, _ => rfl
  | 0, m + 1, i, h, _ => by unfold runesAt; rw [if_neg (by omega)]
  | n + 1, 0, i, _, h => by unfold runesAt; rw [if_neg (by omega)]
  | n + 1, m + 1, i, h1, h2 => by
    unfold runesAt
    split
    · have := decode_pos s i
      rw [runesAt_more s n m _ (by omega) (by omega)]
    · rfl
/-- What is left from a place on. -/
def runesR (s : ByteArray) (i : Nat) : List Int := runesAt s s.size i
theorem runesR_zero (s : ByteArray) : runesR s 0 = runesOf s := rfl
theorem runesR_end {s : ByteArray} {i : Nat} (h : ¬ i < s.size) : runesR s i = [] := by
  unfold runesR
  cases hs : s.size with
  | zero => rfl
  | succ n => unfold runesAt; rw [if_neg h]
theorem runesR_step {s : ByteArray} {i : Nat} (h : i < s.size) : runesR s i = ((Utf8.decode s i).1 : Int) :: runesR s (i + (Utf8.decode s i).2) := by
  unfold runesR
  obtain ⟨n, hn⟩ : ∃ n, s.size = n + 1 := ⟨s.size - 1, by omega⟩
  have e1 : runesAt s (n + 1) i = ((Utf8.decode s i).1 : Int) :: runesAt s n (i + (Utf8.decode s i).2) := by
    rw [runesAt, if_pos h]
  have := decode_pos s i
  rw [hn, e1, runesAt_more s n (n + 1) _ (by omega) (by omega)]

section
variable {P : Program} {ro : Option Nat} {ds : List Deferred} {T : List AV} {H : AH} {Q : Post} {ops : Array Oper} {rest : List Oper}
variable {d : Option Tmp} {ty : TypeId} {pos : String} {af : Array Edge} {s s' : Operand} {x y : AV}

theorem AL_range {t : TypeId} {p : ByteArray} (ht : P.underlying t = some .string) (hx : ev T s = some (.v (.string p)))
    (h : ∀ b, H b = none → AL P ro ops rest ds (tput T d (.pt b 0 1 0)) (H.upd b (some (.raw (.stringIter p 0)))) Q) : AL P ro ops (⟨d, .range t s, ty, pos, af, none⟩ :: rest) ds T H Q :=
  AL_op rfl (fun _ h => nomatch h) fun a w hst => by
    have hu : a.eval s = .string p := hst.evv hx
    have hnew := hst.heap.none_new
    refine ⟨.pointer (some ⟨w.heap.size, 0, none⟩), w.alloc (.stringIter p 0), .pt w.heap.size 0 1 0, _, by simp [execOp, hu, run_range_string w t p ht, World.iter], .pt w.heap.size 0 1 0, hst.heap.alloc (b' := .raw (.stringIter p 0)) (World.alloc_heap_new w _), Step.alloc w _ _ hnew, h _ hnew⟩

theorem setObj_iter {w : World} {b : Nat} {p : ByteArray} {i : Nat} (o : Obj) (hb : w.heap[b]? = some (.stringIter p i)) : (setObj b o).run P w = .ok () (w.putObj b o) := by
  simp [setObj, Sem.run, hb, World.putObj]

theorem AL_next {b i : Nat} {p : ByteArray} (hx : ev T s = some (.pt b 0 1 0)) (hH : H b = some (.raw (.stringIter p i)))
    (h1 : i < p.size → AL P ro ops rest ds (tput T d (.tup [.v (.bool true), .v (.int .i64 (i : Int)), .v (.int .i32 ((Utf8.decode p i).1 : Int))])) (H.upd b (some (.raw (.stringIter p (i + (Utf8.decode p i).2))))) Q)
    (h2 : ¬ i < p.size → AL P ro ops rest ds (tput T d (.tup [.v (.bool false)])) H Q) : AL P ro ops (⟨d, .next s true, ty, pos, af, none⟩ :: rest) ds T H Q := by
  by_cases hi : i < p.size
  · refine AL_op rfl (fun _ h => nomatch h) fun a w hst => ?_
    have hv := hst.ev hx
    generalize hu : a.eval s = u at hv
    cases hv
    have hbk : w.heap[b]? = some (.stringIter p i) := hst.heap b _ hH
    have nc : NoCells w b := fun a u e => by subst e; unfold World.cell?; rw [hbk]; simp
    have hlt := (Array.getElem?_eq_some_iff.1 hbk).1
    refine ⟨.tuple #[.bool true, .int .i64 i, .int .i32 (Utf8.decode p i).1], w.putObj b (.stringIter p (i + (Utf8.decode p i).2)), _, H.upd b (some (.raw (.stringIter p (i + (Utf8.decode p i).2)))), ?_, ?_, ?_, ?_, h1 hi⟩
    · simp only [execOp, hu, Sem.run_bind, Instr.next, Nat.zero_mul, Nat.zero_add, getObj, Sem.run, hbk, Result.andThen_ok, hi, if_true]
      have := setObj_iter (P := P) (.stringIter p (i + (Utf8.decode p i).2)) hbk
      simp [Sem.run_bind, this, goInt]
    · refine .tup rfl fun k y u hy hu => ?_
      match k with
      | 0 => simp at hy hu; subst hy; subst hu; exact .v _
      | 1 => simp at hy hu; subst hy; subst hu; exact .v _
      | 2 => simp at hy hu; subst hy; subst hu; exact .v _
      | k + 3 => simp at hy
    · intro k o hk
      by_cases e : k = b
      · subst e; rw [AH.upd_same] at hk; injection hk with hk; subst hk; exact World.putObj_heap_same hlt
      · rw [AH.upd_ne _ _ e] at hk
        exact (hst.heap k o hk).map (World.putObj_heap_other e) fun x u hx => VR.owned (fun a u e => by
          subst e; unfold World.cell?; rw [World.putObj_heap_same hlt]; simp) (hx.put nc)
    · exact ⟨rfl, rfl, rfl, by simp, fun k hk hn => by
        have e : k ≠ b := fun e => by subst e; rw [hH] at hn; cases hn
        exact ⟨World.putObj_heap_other e, by rw [AH.upd_ne _ _ e]; exact hn⟩⟩
  · refine AL_pure ?_ rfl (fun _ h => nomatch h) (h2 hi)
    intro ds a w hst
    have hv := hst.ev hx
    generalize hu : a.eval s = u at hv
    cases hv
    have hbk : w.heap[b]? = some (.stringIter p i) := hst.heap b _ hH
    refine ⟨.tuple #[.bool false], by simp [execOp, hu, Instr.next, getObj, Sem.run, Sem.run_bind, hbk, hi], .tup rfl fun k y u hy hu => ?_⟩
    match k with
    | 0 => simp at hy hu; subst hy; subst hu; exact .v _
    | k + 1 => simp at hy

def runeAV (r : Int) : AV := .v (.int .i32 r)
theorem flat_runes : ∀ bs : List Int, flat (bs.map runeAV) = bs.map runeAV
  | [] => rfl
  | b :: bs => by
    have := flat_runes bs
    unfold flat at this ⊢
    rw [List.map_cons, List.flatMap_cons, this]; rfl
/-- A text's characters as a new row. -/
theorem AL_convRunes {src dst e : TypeId} {p : ByteArray} (hs : P.underlying src = some .string) (hd : P.underlying dst = some (.slice e)) (he : P.underlying e = some (.int .i32)) (hz : szOf P e = some 1)
    (hx : ev T s = some (.v (.string p))) (hp : p.size ≤ 70368744177664)
    (h : ∀ b c, H b = none → (runesOf p).length ≤ c → AL P ro ops rest ds (tput T d (.own (some b) c (runesOf p).length)) (H.upd b (some (.row e c ((runesOf p).map runeAV)))) Q) : AL P ro ops (⟨d, .convert src dst s, ty, pos, af, none⟩ :: rest) ds T H Q := by
  refine AL_op rfl (fun _ h => nomatch h) fun a w hst => ?_
  have hu : a.eval s = .string p := hst.evv hx
  have hrf : Conv.runesFrom p p.size 0 #[] = ((runesOf p).map (Value.int .i32)).toArray := by rw [runesFrom_eq]; simp [runesOf]
  have hlen : (Conv.runesFrom p p.size 0 #[]).size = (runesOf p).length := by rw [hrf]; simp
  have hle : (runesOf p).length ≤ p.size := runesAt_len p p.size 0
  have hr := run_runes_of_string (P := P) w src dst e p hs hd he (by rw [hlen]; omega)
  rw [hlen, hrf] at hr
  obtain ⟨cap, hcap⟩ : ∃ cap, grownCap w (runesOf p).length 0 e = cap := ⟨_, rfl⟩
  have hge : (runesOf p).length ≤ cap := hcap ▸ grownCap_ge w _ 0 e
  rw [hcap] at hr
  have hhd : HR P H w.drew := fun b o hb => (hst.heap b o hb).keep (Step.drew' H w) rfl
  have hnew : H w.drew.heap.size = none := hhd.none_new
  refine ⟨.slice (some ⟨w.heap.size, 0, none⟩) (runesOf p).length cap, w.drew.alloc (.cells (((runesOf p).map (Value.int .i32)).toArray ++ Array.replicate (cap - (runesOf p).length) (.int .i32 0)) e), .own (some w.heap.size) cap (runesOf p).length, H.upd w.heap.size (some (.row e cap ((runesOf p).map runeAV))), by simp only [execOp, hu, Sem.run_bind, hr, Result.andThen_ok, Sem.run_pure], .own _ _ _, ?_, (Step.drew' H w).trans (Step.alloc w.drew _ (.row e cap ((runesOf p).map runeAV)) hnew), h w.heap.size cap hnew hge⟩
  refine hhd.alloc (OR.new hz (by simp; omega) (by simpa using hge) (fun x hx => by obtain ⟨z, _, rfl⟩ := List.mem_map.1 hx; rfl) (fun k y hy => ?_) hnew)
  rw [flat_runes, List.getElem?_map] at hy
  cases hk : (runesOf p)[k]? with
  | none => rw [hk] at hy; simp at hy
  | some r =>
    rw [hk] at hy
    simp only [Option.map_some, Option.some.injEq] at hy
    subst hy
    have hlt := (List.getElem?_eq_some_iff.1 hk).1
    exact ⟨.int .i32 r, by rw [Array.getElem?_append_left (by simpa using hlt)]; simp [hk], .v _⟩

/-- A row of characters that is read, as a text. -/
theorem AL_runesStr {src dst e : TypeId} {zs : List Int} (hs : P.underlying src = some (.slice e)) (he : P.underlying e = some (.int .i32)) (hd : P.underlying dst = some .string)
    (hx : ev T s = some (.sl e (zs.map runeAV))) (h : AL P ro ops rest ds (tput T d (.v (.string (runesBytes zs)))) H Q) : AL P ro ops (⟨d, .convert src dst s, ty, pos, af, none⟩ :: rest) ds T H Q := by
  refine AL_pure ?_ rfl (fun _ h => nomatch h) h
  intro ds a w hst
  obtain ⟨A, c, U, hu, hel, hc, hcell, hv⟩ := (hst.ev hx).sl_inv
  rw [flat_runes] at hcell hv
  refine ⟨_, ?_, .v _⟩
  simp only [execOp, hu, Sem.run_bind, List.length_map]
  cases A with
  | none =>
    have hz : zs = [] := by
      cases zs with
      | nil => rfl
      | cons z zs => obtain ⟨a, ha, _⟩ := hcell 0 (runeAV z) rfl; cases ha
    subst hz
    rw [run_convert_runes_nil w src dst e _ _ hs he hd]; rfl
  | some a0 =>
    have := run_convert_runes (P := P) w src dst e a0 zs.length c zs (Nat.le_refl _) hs he hd (fun j hj => by
      have hj' : (zs.map runeAV)[j]? = some (runeAV (zs.getD j 0)) := by rw [List.getElem?_map, List.getElem?_eq_getElem hj]; simp [List.getD_eq_getElem?_getD, hj]
      obtain ⟨a1, ha1, _, h3⟩ := hcell j _ hj'
      injection ha1 with ha1; subst ha1
      rw [h3, (hv j _ hj').v_inv])
    rw [List.take_length] at this
    rw [this]; rfl
end
end Go.AL

/- Rows of ours: parts of them, many cells written, copy, append in place, clear; slices against nil; structs against each other. -/
set_option autoImplicit false
set_option linter.unusedVariables false
set_option linter.unusedSimpArgs false
namespace Go.AL
open Go Go.RowKit

/-! a row of ours, said of anew -/
theorem Step.rerow {H : AH} {b : Nat} {w : World} {o : AO} (hb : H b ≠ none) : Step H w (H.upd b (some o)) w :=
  ⟨rfl, rfl, rfl, Nat.le_refl _, fun k _ h0 => ⟨rfl, by rw [AH.upd_ne _ _ (fun e => hb (by rw [← e]; exact h0))]; exact h0⟩⟩
theorem HR.rerow {P : Program} {H : AH} {b : Nat} {w : World} {o : AO} (hh : HR P H w) (hb : H b ≠ none) (ho : OR P H w b o) : HR P (H.upd b (some o)) w := fun k q hk => by
  by_cases e : k = b
  · subst e; rw [AH.upd_same] at hk; injection hk with hk; subst hk; exact ho.keep (Step.rerow hb) rfl
  · rw [AH.upd_ne _ _ e] at hk; exact (hh k q hk).keep (Step.rerow hb) rfl
theorem St.rerow {P : Program} {ds : List Deferred} {T : List AV} {H : AH} {a : Act} {w : World} {b : Nat} {o : AO} (hst : St P ds T H a w) (hb : H b ≠ none) (ho : OR P H w b o) : St P ds T (H.upd b (some o)) a w :=
  ⟨hst.defers, hst.size, fun k x hx => let ⟨u, h1, h2⟩ := hst.vals k x hx; ⟨u, h1, h2.step (Step.rerow hb)⟩, hst.heap.rerow hb ho⟩
theorem flat_take {xs : List AV} {m k : Nat} {y : AV} (h : (flat (xs.take m))[k]? = some y) : (flat xs)[k]? = some y := by
  have e : flat xs = flat (xs.take m) ++ flat (xs.drop m) := by rw [← flat_append, List.take_append_drop]
  rw [e, List.getElem?_append_left (List.getElem?_eq_some_iff.1 h).1]; exact h
theorem OR.take {P : Program} {H : AH} {w : World} {b : Nat} {e : TypeId} {c : Nat} {xs : List AV} (h : OR P H w b (.row e c xs)) (m : Nat) : OR P H w b (.row e c (xs.take m)) := by
  obtain ⟨cs, fr, h1, h2, h3, h4, h5, h6⟩ := h
  exact ⟨cs, fr, h1, h2, h3, by rw [List.length_take]; omega, fun x hx => h5 x (List.mem_of_mem_take hx), fun k y hy => h6 k y (flat_take hy)⟩

section
variable {P : Program} {ro : Option Nat} {ds : List Deferred} {T : List AV} {H : AH} {Q : Post} {ops : Array Oper} {rest : List Oper}
variable {d : Option Tmp} {ty : TypeId} {pos : String} {af : Array Edge} {s s' : Operand} {x y : AV}

/-- Of a row less is said. -/
theorem AL_shrink {b c : Nat} {e : TypeId} {xs : List AV} (m : Nat) (hb : H b = some (.row e c xs)) (h : AL P ro ops rest ds T (H.upd b (some (.row e c (xs.take m)))) Q) : AL P ro ops rest ds T H Q :=
  fun a w hst => wpListIn_mono (fun _ _ _ p => post.back (Step.rerow (by rw [hb]; simp)) p) (fun _ => trivial) _ _ _ (h a w (hst.rerow (by rw [hb]; simp) ((hst.heap b _ hb).take m)))
theorem AW_shrink {c' : Code} {b c : Nat} {e : TypeId} {xs : List AV} (m : Nat) (hb : H b = some (.row e c xs)) (h : AW P ro c' ds T (H.upd b (some (.row e c (xs.take m)))) Q) : AW P ro c' ds T H Q :=
  fun a w hst => wpIn_mono (h a w (hst.rerow (by rw [hb]; simp) ((hst.heap b _ hb).take m))) fun _ _ _ p => post.back (Step.rerow (by rw [hb]; simp)) p

/-- What a slice is read from: memory that is read only, a row of ours, a part of one. -/
inductive SrcOK (H : AH) (e : TypeId) (sz : Nat) : AV → List AV → Prop
  | sl (xs : List AV) : SrcOK H e sz (.sl e xs) xs
  | nil : SrcOK H e sz (.own none 0 0) []
  | own {b c c' n : Nat} {xs : List AV} (hb : H b = some (.row e c xs)) (hn : n ≤ xs.length) : SrcOK H e sz (.own (some b) c' n) (xs.take n)
  | sub {b c c' o n : Nat} {xs : List AV} (hb : H b = some (.row e c xs)) (hn : o + n ≤ xs.length) : SrcOK H e sz (.sub b sz o c' n) ((xs.drop o).take n)
theorem SrcOK.ownAll {e : TypeId} {sz b c c' n : Nat} {xs : List AV} (hb : H b = some (.row e c xs)) (hn : n = xs.length) : SrcOK H e sz (.own (some b) c' n) xs := by
  have := SrcOK.own (sz := sz) (c' := c') (n := n) hb (by omega)
  rwa [List.take_of_length_le (by omega)] at this

theorem VR.sub_inv {w : World} {b z o c n : Nat} {u : Value} (h : VR P w H (.sub b z o c n) u) : u = .slice (some ⟨b, o * z, none⟩) n c := by
  cases h with | part => rfl

theorem SrcOK.inv {w : World} (hh : HR P H w) {e : TypeId} {sz : Nat} (hs : szOf P e = some sz) {ys : List AV} {u : Value} (hx : VR P w H x u) (h : SrcOK H e sz x ys) :
    ∃ (A : Option Addr) (c : Nat) (U : Nat → Value), u = .slice A ys.length c ∧ (∀ y ∈ ys, y.cells.length = sz) ∧ (∀ (k : Nat) (y : AV), (flat ys)[k]? = some y → ∃ a, A = some a ∧ w.cell? (a.add k) = some (U k)) ∧
      ∀ (k : Nat) (y : AV), (flat ys)[k]? = some y → VR P w H y (U k) := by
  cases h with
  | sl xs =>
    obtain ⟨A, c, U, hu, hel, hc, hcell, hv⟩ := hx.sl_inv
    exact ⟨A, c, U, hu, fun y hy => by rw [hel y hy, szOf_cells hs], fun k y hy => let ⟨a, h1, _, h3⟩ := hcell k y hy; ⟨a, h1, h3⟩, hv⟩
  | nil =>
    obtain ⟨B, hu, _, hA⟩ := hx.own_inv
    exact ⟨B, 0, fun _ => undef, hu, by simp, fun k y hy => by simp [flat] at hy, fun k y hy => by simp [flat] at hy⟩
  | own hb hn =>
    rename_i b c c' n xs
    obtain ⟨B, hu, hB, _⟩ := hx.own_inv
    obtain rfl := hB b rfl
    obtain ⟨cs, fr, h1, h2, h3, h4, h5, h6⟩ := hh b _ hb
    have hlen : (xs.take n).length = n := by rw [List.length_take]; omega
    have hU : ∀ (k : Nat) (y : AV), (flat (xs.take n))[k]? = some y → cs[k]? = some ((cs[k]?).getD undef) ∧ VR P w H y ((cs[k]?).getD undef) := fun k y hy => by
      obtain ⟨u, q1, q2⟩ := h6 k y (flat_take hy)
      rw [q1]; exact ⟨rfl, q2⟩
    refine ⟨_, c', fun k => (cs[k]?).getD undef, by rw [hlen]; exact hu, fun y hy => by rw [h5 y (List.mem_of_mem_take hy), szOf_cells hs], fun k y hy => ⟨_, rfl, ?_⟩, fun k y hy => (hU k y hy).2⟩
    rw [addr_add]
    simp only [World.cell?, h1]
    simpa using (hU k y hy).1
  | sub hb hn =>
    rename_i b c c' o n xs
    have hu := hx.sub_inv
    obtain ⟨cs, fr, h1, h2, h3, h4, h5, h6⟩ := hh b _ hb
    have hel : ∀ x ∈ xs, x.cells.length = sz := fun x hx => by rw [h5 x hx, szOf_cells hs]
    have hlen : ((xs.drop o).take n).length = n := by rw [List.length_take, List.length_drop]; omega
    have hU : ∀ (k : Nat) (y : AV), (flat ((xs.drop o).take n))[k]? = some y → cs[o * sz + k]? = some ((cs[o * sz + k]?).getD undef) ∧ VR P w H y ((cs[o * sz + k]?).getD undef) := fun k y hy => by
      obtain ⟨u, q1, q2⟩ := h6 _ y (flat_drop_take xs sz o n hel k y hy)
      rw [q1]; exact ⟨rfl, q2⟩
    refine ⟨_, c', fun k => (cs[o * sz + k]?).getD undef, by rw [hlen]; exact hu, fun y hy => hel y (List.mem_of_mem_drop (List.mem_of_mem_take hy)), fun k y hy => ⟨_, rfl, ?_⟩, fun k y hy => (hU k y hy).2⟩
    rw [addr_add]
    simp only [World.cell?, h1]
    simpa using (hU k y hy).1

theorem one_of_mem {w : World} {ys : List AV} {U : Nat → Value} (hv : ∀ (k : Nat) (y : AV), (flat ys)[k]? = some y → VR P w H y (U k)) (hm : ∀ y ∈ ys, y.mem = true) : ∀ u ∈ (List.range (flat ys).length).map U, u.oneCell' = true := by
  intro u hu
  obtain ⟨k, hk, rfl⟩ := List.mem_map.1 hu
  rw [List.mem_range] at hk
  have hyk := List.getElem?_eq_getElem hk
  have hmem : (flat ys)[k] ∈ flat ys := List.getElem_mem hk
  unfold flat at hmem
  rw [List.mem_flatMap] at hmem
  obtain ⟨y0, hy0, hin⟩ := hmem
  have hm0 := hm y0 hy0
  simp only [AV.mem, List.all_eq_true] at hm0
  exact (hv k _ hyk).one (hm0 _ hin)

/-- The append, with the room that there is. -/
theorem run_append_r {t e ty : TypeId} {z : Value} {size bytes : Nat} (ht : P.underlying t = some (.slice e)) (hi : infoOf P e = some (some z, size, bytes)) (hzs : z.cells.size = size) (hb0 : 0 < bytes)
    {w : World} {A : Option Nat} {B : Option Addr} (hB : Base A B) {cap n : Nat} {old : List Value} (hrow : RowC w A e cap n size old)
    (a : Addr) (m c : Nat) (news : List Value) (hl : news.length = m * size) (hnews : ∀ j u, news[j]? = some u → w.cell? (a.add j) = some u) (h1 : ∀ u ∈ news, u.oneCell' = true)
    (hbytes : (n + m) * bytes ≤ 140737488355328) :
    ∃ A2 B2 cap2 w2, (Builtin.append_ #[t, t] ty #[.slice B n cap, .slice (some a) m c]).run P w = .ok (.slice B2 (n + m) cap2) w2 ∧ Base A2 B2 ∧ RowC w2 A2 e cap2 (n + m) size (old ++ news) ∧
      (A2 = A ∨ A2 = some w.heap.size) ∧ (n + m ≤ cap → A2 = A ∧ cap2 = cap) ∧ w2.os = w.os ∧ w2.tape = w.tape ∧ w2.output = w.output ∧ w.heap.size ≤ w2.heap.size ∧ ∀ k, k < w.heap.size → some k ≠ A → w2.heap[k]? = w.heap[k]? := by
  by_cases hroom : n + m ≤ cap
  · obtain ⟨i, hi', hzz⟩ := Option.map_eq_some_iff.1 hi
    simp only [Prod.mk.injEq] at hzz
    obtain ⟨hz, hs, hby⟩ := hzz
    subst hs
    subst hby
    cases A with
    | none =>
      obtain ⟨rfl, rfl, rfl⟩ := hrow
      obtain rfl : m = 0 := by omega
      have hn : news = [] := List.eq_nil_of_length_eq_zero (by simpa using hl)
      subst hn
      refine ⟨none, B, 0, w, ?_, hB, ⟨rfl, rfl, rfl⟩, .inl rfl, fun _ => ⟨rfl, rfl⟩, rfl, rfl, rfl, Nat.le_refl _, fun _ _ _ => rfl⟩
      cases B <;> simp [Builtin.append_, run_underlying ht, sizeOf, typeInfo, hi', Builtin.lenOf, Builtin.firstCells, loadCells, loadCellsFrom, storeCells]
    | some b =>
      obtain ⟨cs, fr, hb, hsz, hfr, hnc, rfl⟩ := hrow
      obtain rfl := hB b rfl
      have hlt : n * i.size + news.length ≤ cs.size := by rw [hl, hsz, ← Nat.add_mul]; exact Nat.mul_le_mul_right _ hroom
      have hst := run_storeCells_cells (P := P) b (n * i.size) news 0 w
        (fun j hj => by
          have : n * i.size + j < cs.size := by omega
          simp [World.cell?, hb, this])
        (fun j hj => by
          have := hfr (n * i.size + j) (by omega)
          simp only [World.frozen?, hb, Nat.add_zero]
          simp only [Bool.and_eq_false_iff, decide_eq_false_iff_not]
          exact Decidable.not_and_iff_not_or_not.1 this) h1
      obtain ⟨cs', k1, k2, k3, k4, k5, k6⟩ := setCells_row news (n * i.size) w cs hb
      refine ⟨some b, _, cap, w.setCells b (n * i.size) news, ?_, hB, ⟨cs', fr, k1, by rw [k2, hsz], fun i hi => hfr i (by omega), hroom, ?_⟩, .inl rfl, fun _ => ⟨rfl, rfl⟩, k5.os, k5.tape, k5.output, k5.size, fun k hk hne => k5.block k hk (fun e => hne (by rw [e]))⟩
      · have hf := run_firstCells_some (P := P) w i.size m a m c news hl hnews
        simp only [Nat.add_zero] at hst
        simp [Builtin.append_, run_underlying ht, sizeOf, typeInfo, hi', Builtin.lenOf, hroom, hf, addr_add, hst]
      · apply List.ext_getElem?
        intro k
        by_cases hk : k < n * i.size
        · rw [List.getElem?_append_left (by simp; omega), List.getElem?_take, if_pos hk, List.getElem?_take, if_pos (by rw [Nat.add_mul]; omega), Array.getElem?_toList, Array.getElem?_toList, k3 k (by omega)]
        · have hlen : (List.take (n * i.size) cs.toList).length = n * i.size := by simp; omega
          rw [List.getElem?_append_right (by omega), hlen]
          by_cases hk2 : k < n * i.size + news.length
          · have hj : k - n * i.size < news.length := by omega
            have e1 := k4 (k - n * i.size) _ (List.getElem?_eq_getElem hj) (by omega)
            rw [show n * i.size + (k - n * i.size) = k by omega] at e1
            rw [List.getElem?_eq_getElem hj, List.getElem?_take, if_pos (by rw [Nat.add_mul]; omega), Array.getElem?_toList, e1]
          · rw [List.getElem?_eq_none (by omega), List.getElem?_take, if_neg (by rw [Nat.add_mul]; omega)]
  · obtain ⟨A2, B2, cap2, w2, r1, rB, r2, r3, _, r5, r6, r7, r8, r9⟩ := run_append_c (ty := ty) ht hi hzs hb0 hB hrow a m c news hl hnews h1 hbytes
    exact ⟨A2, B2, cap2, w2, r1, rB, r2, r3, fun h => absurd h hroom, r5, r6, r7, r8, r9⟩

/-- APPEND: to the beginning of a row of ours; in place, if there is room. -/
theorem AL_append {t e : TypeId} {A : Option Nat} {c n : Nat} {xs ys : List AV} {z : Value} {sz bytes : Nat}
    (ht : P.underlying t = some (.slice e)) (hi : infoOf P e = some (some z, sz, bytes)) (hzs : z.cells.size = sz) (hb0 : 0 < bytes) (hs0 : 0 < sz)
    (hs : ev T s = some (.own A c n)) (hy : ev T s' = some y) (hsrc : SrcOK H e sz y ys) (hown : Own H A e c xs) (hn : n ≤ xs.length) (hm : ∀ y ∈ ys, y.mem = true) (hbound : (n + ys.length) * bytes ≤ 140737488355328)
    (h : ∀ A' c', Fresh (H.rem A) A' c' (xs.take n ++ ys) → (n + ys.length ≤ c → A' = A ∧ c' = c) → AL P ro ops rest ds (tput T d (.own A' c' (n + ys.length))) ((H.rem A).put A' e c' (xs.take n ++ ys)) Q) :
    AL P ro ops (⟨d, .call ⟨.builtin .append, #[s, s'], #[t, t]⟩, ty, pos, af, none⟩ :: rest) ds T H Q := fun a w hst => by
  have hso : szOf P e = some sz := by
    unfold infoOf at hi; unfold szOf
    obtain ⟨i, h1, h2⟩ := Option.map_eq_some_iff.1 hi
    simp at h2; rw [h1]; simp [h2.2.1]
  obtain ⟨B, hu, hB, hA⟩ := (hst.ev hs).own_inv
  obtain ⟨As, cs, U, hu2, hel', hcell, hv⟩ := SrcOK.inv hst.heap hso (hst.ev hy) hsrc
  have hfl := flat_length ys sz hel'
  -- the row's beginning
  have hrer : ∃ H1, Step H w H1 w ∧ HR P H1 w ∧ Own H1 A e c (xs.take n) ∧ H1.rem A = H.rem A := by
    cases A with
    | none => obtain ⟨rfl, rfl⟩ := hown; exact ⟨H, .refl _ _, hst.heap, ⟨rfl, by simp⟩, rfl⟩
    | some b =>
      have hb : H b = some (.row e c xs) := hown
      exact ⟨_, Step.rerow (by rw [hb]; simp), hst.heap.rerow (by rw [hb]; simp) ((hst.heap b _ hb).take n), AH.upd_same _ _ _, AH.upd_upd _ _ _ _⟩
  obtain ⟨H1, hs1, hh1, hown1, hrem⟩ := hrer
  obtain ⟨old, hrow, hold, helx, hx⟩ := Own.rowC hh1 hso hown1
  have hlx : (xs.take n).length = n := by rw [List.length_take]; omega
  rw [hlx] at hrow hold
  have hnews : ((List.range (flat ys).length).map U).length = ys.length * sz := by simp [hfl]
  have h1 := one_of_mem hv hm
  have hrun : ∃ A2 B2 cap2 w2, (Builtin.append_ #[t, t] ty #[.slice B n c, .slice As ys.length cs]).run P w = .ok (.slice B2 (n + ys.length) cap2) w2 ∧ Base A2 B2 ∧ RowC w2 A2 e cap2 (n + ys.length) sz (old ++ (List.range (flat ys).length).map U) ∧
      (A2 = A ∨ A2 = some w.heap.size) ∧ (n + ys.length ≤ c → A2 = A ∧ cap2 = c) ∧ w2.os = w.os ∧ w2.tape = w.tape ∧ w2.output = w.output ∧ w.heap.size ≤ w2.heap.size ∧ ∀ k, k < w.heap.size → some k ≠ A → w2.heap[k]? = w.heap[k]? := by
    cases As with
    | some a0 =>
      have hcl : ∀ j u, ((List.range (flat ys).length).map U)[j]? = some u → w.cell? (a0.add j) = some u := by
        intro j u hj
        rw [List.getElem?_map] at hj
        obtain ⟨k, hk, rfl⟩ := Option.map_eq_some_iff.1 hj
        have hlt : j < (flat ys).length := by
          rcases Nat.lt_or_ge j (flat ys).length with h | h
          · exact h
          · rw [List.getElem?_eq_none (by simpa using h)] at hj; cases hj
        rw [List.getElem?_range hlt] at hk
        injection hk with hk; subst hk
        obtain ⟨a1, ha1, h3⟩ := hcell j _ (List.getElem?_eq_getElem hlt)
        injection ha1 with ha1; subst ha1; exact h3
      exact run_append_r (ty := ty) ht hi hzs hb0 hB hrow a0 ys.length cs _ hnews hcl h1 hbound
    | none =>
      have hf0 : (flat ys).length = 0 := by
        cases hfy : flat ys with
        | nil => rfl
        | cons y0 l =>
          obtain ⟨a1, ha1, _⟩ := hcell 0 y0 (by rw [hfy]; rfl)
          cases ha1
      have hy0 : ys.length = 0 := by
        rw [hfl] at hf0
        rcases Nat.mul_eq_zero.1 hf0 with h | h
        · exact h
        · omega
      have := run_append_0 (ty := ty) ht hi hB hrow none cs
      rw [hy0]
      refine ⟨A, B, c, w, this, hB, ?_, .inl rfl, fun _ => ⟨rfl, rfl⟩, rfl, rfl, rfl, Nat.le_refl _, fun _ _ _ => rfl⟩
      rw [hf0]; simpa using hrow
  obtain ⟨A2, B2, cap2, w2, r1, rB, r2, r3, r4, r5, r6, r7, r8, r9⟩ := hrun
  obtain ⟨q1, q2, q3⟩ := append_state (zs := ys) hh1 hso hown1 r2 (by rw [hlx]; exact hold) (fun x hx => by
      simp only [List.mem_append] at hx
      rcases hx with hx | hx
      · exact helx x hx
      · exact hel' x hx) (by rw [List.length_append, hlx]) hx (fun k z hz => by
        have hlt := (List.getElem?_eq_some_iff.1 hz).1
        exact ⟨U k, by simp [hlt], (hv k z hz).step hs1⟩) r3 r5 r6 r7 r8 r9
  rw [hrem] at q1 q2 q3
  have hfresh : Fresh (H.rem A) A2 cap2 (xs.take n ++ ys) := by
    cases A2 with
    | none =>
      obtain ⟨h1, h2, _⟩ := r2
      exact ⟨h2, List.length_eq_zero_iff.1 (by rw [List.length_append, hlx]; exact h1)⟩
    | some b => exact q3 b rfl
  have hown2 : VR P w2 ((H.rem A).put A2 e cap2 (xs.take n ++ ys)) (.own A2 cap2 (n + ys.length)) (.slice B2 (n + ys.length) cap2) := VR.own_mk rB fun e => by
    subst e
    obtain ⟨h1, h2, _⟩ := r2
    exact ⟨h1, h2⟩
  have q1' := hs1.trans q1
  refine wpListIn_plain rfl fun K hK => ⟨fun f _ => trivial, ?_⟩
  rw [Oper.semAt_eq _ _ _ (fun _ => by simp)]
  have hr : (execOp a.eval { dst := d, op := Op.call ⟨.builtin .append, #[s, s'], #[t, t]⟩, type := ty, pos := pos, after := af, guard := none }).run P w = .ok (.value (.slice B2 (n + ys.length) cap2)) w2 := by
    simp only [execOp, resolve, invoke, builtin, Sem.run_bind, Sem.run_pure, Result.andThen_ok, List.map_toArray, List.map_cons, List.map_nil, hu, hu2, r1]
  rw [hr]
  exact hK _ _ (wpListIn_mono (fun _ _ _ p => post.back q1' p) (fun _ => trivial) _ _ _ (h A2 cap2 hfresh r4 _ _ (hst.put q1' q2 hown2)))

/-! many cells written -/
theorem flat_splice {xs zs : List AV} {sz o : Nat} (hx : ∀ x ∈ xs, x.cells.length = sz) (hz : ∀ z ∈ zs, z.cells.length = sz) (ho : o ≤ xs.length) {k : Nat} {y : AV} (h : (flat (xs.take o ++ zs ++ xs.drop (o + zs.length)))[k]? = some y) :
    (o * sz ≤ k ∧ k < o * sz + zs.length * sz ∧ (flat zs)[k - o * sz]? = some y) ∨ ((k < o * sz ∨ o * sz + zs.length * sz ≤ k) ∧ (flat xs)[k]? = some y) := by
  have l1 : (flat (xs.take o)).length = o * sz := by
    rw [flat_length _ sz (fun x h => hx x (List.mem_of_mem_take h)), List.length_take]; congr 1; omega
  have l2 : (flat zs).length = zs.length * sz := flat_length _ sz hz
  rw [flat_append, flat_append] at h
  by_cases h1 : k < o * sz
  · right
    rw [List.append_assoc, List.getElem?_append_left (by omega)] at h
    exact ⟨.inl h1, flat_take h⟩
  · by_cases h2 : k < o * sz + zs.length * sz
    · left
      rw [List.append_assoc, List.getElem?_append_right (by omega), List.getElem?_append_left (by omega), l1] at h
      exact ⟨by omega, h2, h⟩
    · right
      rw [List.getElem?_append_right (by simp; omega)] at h
      have e : flat xs = flat (xs.take (o + zs.length)) ++ flat (xs.drop (o + zs.length)) := by rw [← flat_append, List.take_append_drop]
      have hlt := (List.getElem?_eq_some_iff.1 h).1
      have hne : o + zs.length ≤ xs.length := by
        rcases Nat.lt_or_ge xs.length (o + zs.length) with h | h
        · rw [List.drop_eq_nil_of_le (by omega)] at hlt; simp [flat] at hlt
        · exact h
      have l3 : (flat (xs.take (o + zs.length))).length = o * sz + zs.length * sz := by
        rw [flat_length _ sz (fun x h => hx x (List.mem_of_mem_take h)), List.length_take, ← Nat.add_mul]; congr 1; omega
      rw [List.length_append, l1, l2] at h
      refine ⟨.inr (by omega), ?_⟩
      rw [e, List.getElem?_append_right (by omega), l3]; exact h

theorem row_write {w : World} {b c sz o : Nat} {e : TypeId} {xs zs : List AV} {us : List Value} (hh : HR P H w) (hH : H b = some (.row e c xs)) (he : szOf P e = some sz) (hus : us.length = zs.length * sz) (helz : ∀ z ∈ zs, z.cells.length = sz)
    (hv : ∀ (k : Nat) (y : AV), (flat zs)[k]? = some y → ∃ u, us[k]? = some u ∧ VR P w H y u) (h1 : ∀ u ∈ us, u.oneCell' = true) (ho : o ≤ xs.length) (hom : o + zs.length ≤ c) :
    (storeCells ⟨b, o * sz, none⟩ us).run P w = .ok () (w.setCells b (o * sz) us) ∧ Step H w (H.upd b (some (.row e c (xs.take o ++ zs ++ xs.drop (o + zs.length))))) (w.setCells b (o * sz) us) ∧
      HR P (H.upd b (some (.row e c (xs.take o ++ zs ++ xs.drop (o + zs.length))))) (w.setCells b (o * sz) us) := by
  obtain ⟨cs, fr, hbk, hsz, hfr, hc, hel, hcv⟩ := hh b _ hH
  rw [szOf_cells he] at hsz hel
  have hin : o * sz + us.length ≤ cs.size := by rw [hus, hsz, ← Nat.add_mul]; exact Nat.mul_le_mul_right _ hom
  obtain ⟨cs', k1, k2, k3, k4, k5, k6⟩ := setCells_row us (o * sz) w cs hbk
  have hrun : (storeCells ⟨b, o * sz, none⟩ us).run P w = .ok () (w.setCells b (o * sz) us) := by
    have := run_storeCells_cells (P := P) b (o * sz) us 0 w
      (fun j hj => by
        have : o * sz + j < cs.size := by omega
        simp [World.cell?, hbk, this])
      (fun j hj => by
        have := hfr (o * sz + j) (by omega)
        simp only [World.frozen?, hbk, Nat.add_zero]
        simp only [Bool.and_eq_false_iff, decide_eq_false_iff_not]
        exact Decidable.not_and_iff_not_or_not.1 this) h1
    simpa using this
  have hstep : Step H w (H.upd b (some (.row e c (xs.take o ++ zs ++ xs.drop (o + zs.length))))) (w.setCells b (o * sz) us) :=
    .of_but k5 (by rw [hH]; simp) (fun k hk hk0 => by rw [AH.upd_ne _ _ (fun e => by rw [e, hH] at hk0; cases hk0)]; exact hk0)
  refine ⟨hrun, hstep, HR.of_but hh k5 hstep (fun k o hk hko => by rwa [AH.upd_ne _ _ hk] at hko) ?_⟩
  intro o' ho'
  rw [AH.upd_same] at ho'
  injection ho' with ho'
  subst ho'
  refine ⟨cs', fr, k1, by rw [k2, hsz, szOf_cells he], fun i hi => hfr i (by omega), by simp; omega, ?_, fun k z hz => ?_⟩
  · intro q hq
    rw [szOf_cells he]
    simp only [List.mem_append] at hq
    rcases hq with (hq | hq) | hq
    · exact hel q (List.mem_of_mem_take hq)
    · exact helz q hq
    · exact hel q (List.mem_of_mem_drop hq)
  · rcases flat_splice hel helz ho hz with ⟨q1, q2, q3⟩ | ⟨q1, q2⟩
    · obtain ⟨u, hu1, hu2⟩ := hv _ _ q3
      have e1 := k4 _ _ hu1 (by have := (List.getElem?_eq_some_iff.1 hu1).1; omega)
      rw [show o * sz + (k - o * sz) = k by omega] at e1
      exact ⟨u, e1, hu2.step hstep⟩
    · obtain ⟨u, hu1, hu2⟩ := hcv _ _ q2
      exact ⟨u, by rw [k3 k (by rw [hus]; omega)]; exact hu1, hu2.step hstep⟩

/-- What is written through a slice. -/
inductive DstOK (b sz : Nat) : AV → Nat → Nat → Prop
  | own (c n : Nat) : DstOK b sz (.own (some b) c n) 0 n
  | sub (o c n : Nat) : DstOK b sz (.sub b sz o c n) o n
theorem DstOK.inv {w : World} {b sz o n : Nat} {u : Value} (hx : VR P w H x u) (h : DstOK b sz x o n) : ∃ c, u = .slice (some ⟨b, o * sz, none⟩) n c := by
  cases h with
  | own c n =>
    obtain ⟨B, hu, hB, _⟩ := hx.own_inv
    obtain rfl := hB b rfl
    exact ⟨c, by simpa using hu⟩
  | sub o c n => exact ⟨c, hx.sub_inv⟩

theorem AL_copy {t t' e : TypeId} {b c o n m sz : Nat} {xs ys : List AV} (ht : P.underlying t = some (.slice e)) (he : szOf P e = some sz) (hs0 : 0 < sz) (hx : ev T s = some x) (hd : DstOK b sz x o n) (hH : H b = some (.row e c xs))
    (hy : ev T s' = some y) (hsrc : SrcOK H e sz y ys) (hm : ∀ y ∈ ys, y.mem = true) (hmm : min ys.length n = m) (ho : o ≤ xs.length) (hom : o + m ≤ c)
    (h : AL P ro ops rest ds (tput T d (.v (.int .i64 m))) (H.upd b (some (.row e c (xs.take o ++ ys.take m ++ xs.drop (o + m))))) Q) : AL P ro ops (⟨d, .call ⟨.builtin .copy, #[s, s'], #[t, t']⟩, ty, pos, af, none⟩ :: rest) ds T H Q := by
  refine AL_op rfl (fun _ => by simp) fun a w hst => ?_
  obtain ⟨cd, hu⟩ := hd.inv (hst.ev hx)
  obtain ⟨As, cs, U, hu2, hel', hcell, hv⟩ := SrcOK.inv hst.heap he (hst.ev hy) hsrc
  have hzl : (ys.take m).length = m := by rw [List.length_take]; omega
  have helz : ∀ z ∈ ys.take m, z.cells.length = sz := fun z hz => hel' z (List.mem_of_mem_take hz)
  have hfl := flat_length (ys.take m) sz helz
  have hul : ((List.range (flat (ys.take m)).length).map U).length = (ys.take m).length * sz := by simp [hfl]
  have hone := one_of_mem (ys := ys.take m) (U := U) (fun k y hy => hv k y (flat_take hy)) (fun y hy => hm y (List.mem_of_mem_take hy))
  obtain ⟨g1, g2, g3⟩ := row_write (o := o) hst.heap hH he hul helz (fun k z hz => by
    have hlt := (List.getElem?_eq_some_iff.1 hz).1
    exact ⟨U k, by simp [hlt], hv k z (flat_take hz)⟩) hone ho (by omega)
  rw [hzl] at g2 g3
  have hload : (Builtin.firstCells sz m (.slice As ys.length cs)).run P w = .ok ((List.range (flat (ys.take m)).length).map U).toArray w := by
    cases As with
    | some a0 =>
      refine run_firstCells_some (P := P) w sz m a0 ys.length cs _ (by rw [hul, hzl]) fun j u hj => ?_
      rw [List.getElem?_map] at hj
      obtain ⟨k, hk, rfl⟩ := Option.map_eq_some_iff.1 hj
      have hlt : j < (flat (ys.take m)).length := by
        rcases Nat.lt_or_ge j (flat (ys.take m)).length with h | h
        · exact h
        · rw [List.getElem?_eq_none (by simpa using h)] at hj; cases hj
      rw [List.getElem?_range hlt] at hk
      injection hk with hk; subst hk
      obtain ⟨a1, ha1, h3⟩ := hcell j _ (flat_take (List.getElem?_eq_getElem hlt))
      injection ha1 with ha1; subst ha1; exact h3
    | none =>
      have hf0 : (flat (ys.take m)).length = 0 := by
        cases hfy : flat (ys.take m) with
        | nil => rfl
        | cons y0 l =>
          obtain ⟨a1, ha1, _⟩ := hcell 0 y0 (flat_take (m := m) (by rw [hfy]; rfl))
          cases ha1
      rw [run_firstCells_none]; simp [hf0]
  have hmin : Nat.min ys.length n = m := hmm
  refine ⟨.int .i64 m, w.setCells b (o * sz) ((List.range (flat (ys.take m)).length).map U), .v (.int .i64 m), _, ?_, .v _, g3, g2, h⟩
  simp only [execOp, resolve, invoke, builtin, Builtin.copy_, hu, hu2, Sem.run_bind, Sem.run_pure, Result.andThen_ok, List.map_toArray, List.map_cons, List.map_nil, run_underlying ht, run_sizeOf' he]
  simp [run_underlying ht, run_sizeOf' he, Builtin.lenOf, hmin, hload, g1, goInt]

/-- The cells behind a place are cleared: nothing is said of them from then on. -/
theorem AL_clear {t e : TypeId} {b c o n sz : Nat} {xs : List AV} {z : Value} (ht : P.underlying t = some (.slice e)) (he : szOf P e = some sz) (hz : zeroOf P e = some z) (hzs : z.cells.size = sz) (hz1 : z.cells.toList.all (·.oneCell') = true)
    (hx : ev T s = some x) (hd : DstOK b sz x o n) (hH : H b = some (.row e c xs)) (ho : o ≤ xs.length) (hom : o + n ≤ c)
    (h : AL P ro ops rest ds (tput T d (.tup [])) (H.upd b (some (.row e c (xs.take o)))) Q) : AL P ro ops (⟨d, .call ⟨.builtin .clear, #[s], #[t]⟩, ty, pos, af, none⟩ :: rest) ds T H Q := by
  refine AL_op rfl (fun _ => by simp) fun a w hst => ?_
  obtain ⟨cd, hu⟩ := hd.inv (hst.ev hx)
  have hempty : VR P w H (.tup []) (.tuple #[]) := .tup rfl (fun k y u h => by simp at h)
  by_cases h0 : n = 0
  · subst h0
    refine ⟨.tuple #[], w, .tup [], _, ?_, .tup rfl (fun k y u h => by simp at h), hst.heap.rerow (by rw [hH]; simp) ((hst.heap b _ hH).take o), Step.rerow (by rw [hH]; simp), h⟩
    simp [execOp, resolve, invoke, builtin, Builtin.clear_, hu, run_underlying ht]
  · have hul : (Builtin.zeroCells z.cells n).toList.length = (List.replicate n (AV.ag (List.replicate sz .any))).length * sz := by simp [size_zeroCells, hzs]
    obtain ⟨g1, g2, g3⟩ := row_write (o := o) (zs := List.replicate n (AV.ag (List.replicate sz .any))) hst.heap hH he hul (fun q hq => by rw [(List.mem_replicate.1 hq).2]; simp [AV.cells]) (fun k y hy => by
        have hlt := (List.getElem?_eq_some_iff.1 hy).1
        have hmem := List.mem_of_getElem? hy
        unfold flat at hmem
        rw [List.mem_flatMap] at hmem
        obtain ⟨q, hq, hin⟩ := hmem
        rw [(List.mem_replicate.1 hq).2] at hin
        simp only [AV.cells] at hin
        rw [(List.mem_replicate.1 hin).2]
        rw [flat_length _ sz (fun q hq => by rw [(List.mem_replicate.1 hq).2]; simp [AV.cells]), ← hul] at hlt
        exact ⟨_, List.getElem?_eq_getElem hlt, .any _⟩) (fun u hu => by
          simp only [List.all_eq_true] at hz1
          simp only [Builtin.zeroCells, Array.mem_toList_iff, Array.mem_map] at hu
          obtain ⟨k, hk, rfl⟩ := hu
          have hk' : k < n * z.cells.size := by simpa using hk
          have hp : 0 < z.cells.size := by
            rcases Nat.eq_zero_or_pos z.cells.size with h | h
            · rw [h] at hk'; omega
            · exact h
          have hlt : k % z.cells.size < z.cells.size := Nat.mod_lt _ hp
          rw [getElem!_pos z.cells _ hlt]
          exact hz1 _ (by simp)) ho (by simpa using hom)
    refine ⟨.tuple #[], w.setCells b (o * sz) (Builtin.zeroCells z.cells n).toList, .tup [], _, ?_, .tup rfl (fun k y u h => by simp at h), ?_, ?_, h⟩
    · obtain ⟨n', rfl⟩ : ∃ n', n = n' + 1 := ⟨n - 1, by omega⟩
      simp only [execOp, resolve, invoke, builtin, Builtin.clear_, hu, Sem.run_bind, Sem.run_pure, Result.andThen_ok, List.map_toArray, List.map_cons, List.map_nil, run_underlying ht]
      simp [run_underlying ht, run_zeroValue' hz, g1]
    · have := g3.rerow (b := b) (o := .row e c (xs.take o)) (by rw [AH.upd_same]; simp) (by
        have q := (g3 b _ (AH.upd_same _ _ _)).take o
        have e : (xs.take o ++ List.replicate n (AV.ag (List.replicate sz .any)) ++ xs.drop (o + (List.replicate n (AV.ag (List.replicate sz .any))).length)).take o = xs.take o := by
          rw [List.append_assoc, List.take_append_of_le_length (by rw [List.length_take]; omega), List.take_take, Nat.min_self]
        rw [e] at q; exact q)
      rwa [AH.upd_upd] at this
    · have := g2.trans (Step.rerow (b := b) (o := .row e c (xs.take o)) (by rw [AH.upd_same]; simp))
      rwa [AH.upd_upd] at this

/-! slices of our rows -/
theorem sliceBounds3 {lo hi mx : Option Operand} {len cap l h m : Nat} {a : Act} {w' : World} (hst : St P ds T H a w') (hh : bdN T hi len h) (hl : bdN T lo 0 l) (hx : bdN T mx cap m) (hmx : mx = none ∨ hi ≠ none) (h0 : m ≤ cap) (h1 : h ≤ m) (h2 : l ≤ h) (w : World) :
    (Instr.sliceBounds true len cap (lo.map a.eval) (hi.map a.eval) (mx.map a.eval)).run P w = .ok (l, h, m) w := by
  cases mx with
  | none => simp only [bdN] at hx; subst hx; exact sliceBounds_run hst hh.bd hl.bd h1 h2 w
  | some om =>
    obtain ⟨km, hm⟩ := hx
    have e1 := hst.evv hm
    cases hi with
    | none => rcases hmx with h | h <;> simp at h
    | some oh =>
      obtain ⟨kh, hh⟩ := hh
      have e2 := hst.evv hh
      have b1 : ∀ code (w : World), (Instr.sliceBound (.int km (m : Int)) cap code).run P w = .ok m w := fun code w => by rw [run_sliceBound_in (by omega) (by omega)]; simp
      have b2 : ∀ code (w : World), (Instr.sliceBound (.int kh (h : Int)) m code).run P w = .ok h w := fun code w => by rw [run_sliceBound_in (by omega) (by omega)]; simp
      cases lo with
      | none => simp only [bdN] at hl; subst hl; simp [Instr.sliceBounds, e1, e2, b1, b2]
      | some ol =>
        obtain ⟨kl, hl⟩ := hl
        have e3 := hst.evv hl
        have b3 : ∀ code (w : World), (Instr.sliceBound (.int kl (l : Int)) h code).run P w = .ok l w := fun code w => by rw [run_sliceBound_in (by omega) (by omega)]; simp
        simp [Instr.sliceBounds, e1, e2, e3, b1, b2, b3]

/-- A part of a slice of ours. -/
def partAV (sz : Nat) : AV → Nat → Nat → Nat → AV
  | .own (some b) c n, l, h, m => if m = l then (if l = 0 then .own (some b) 0 0 else .own none 0 0) else if l = 0 then .own (some b) m h else .sub b sz l (m - l) (h - l)
  | .sub b z o c n, l, h, m => if m = l then .own none 0 0 else .sub b z (o + l) (m - l) (h - l)
  | _, l, h, m => .own none 0 0
inductive OwnSl (sz : Nat) : AV → Nat → Nat → Prop
  | own (b c n : Nat) : OwnSl sz (.own (some b) c n) n c
  | nil : OwnSl sz (.own none 0 0) 0 0
  | sub (b o c n : Nat) : OwnSl sz (.sub b sz o c n) n c
theorem AL_slice_own {tx e : TypeId} {sz n c l h m : Nat} {lo hi mx : Option Operand} (ht : P.underlying tx = some (.slice e)) (hs : szOf P e = some sz) (hx : ev T s = some x) (ho : OwnSl sz x n c) (hh : bdN T hi n h) (hl : bdN T lo 0 l) (hm : bdN T mx c m)
    (hmx : mx = none ∨ hi ≠ none) (h0 : m ≤ c) (h1 : h ≤ m) (h2 : l ≤ h) (hr : AL P ro ops rest ds (tput T d (partAV sz x l h m)) H Q) : AL P ro ops (⟨d, .slice tx s lo hi mx, ty, pos, af, none⟩ :: rest) ds T H Q := by
  refine AL_pure (x := partAV sz x l h m) (fun ds a w hst => ?_) rfl (fun _ => by simp) hr
  have key : ∃ A, a.eval s = .slice A n c ∧ VR P w H (partAV sz x l h m) (.slice (if m = l then A else A.map (·.add (l * sz))) (h - l) (m - l)) := by
    have hv := hst.ev hx
    cases ho with
    | own b c n =>
      obtain ⟨B, hu, hB, _⟩ := hv.own_inv
      obtain rfl := hB b rfl
      refine ⟨_, hu, ?_⟩
      simp only [partAV]
      by_cases e1 : m = l
      · subst e1
        obtain rfl : h = m := by omega
        simp only [if_true, Nat.sub_self]
        split
        · exact .own b 0 0
        · exact .ownNil _
      · rw [if_neg e1, if_neg e1]
        by_cases e2 : l = 0
        · subst e2
          rw [if_pos rfl]
          simpa [addr_add] using VR.own (P := P) (w := w) (H := H) b m h
        · rw [if_neg e2]
          simpa [addr_add] using VR.part (P := P) (w := w) (H := H) b sz l (m - l) (h - l)
    | nil =>
      obtain ⟨B, hu, _, _⟩ := hv.own_inv
      obtain rfl : m = 0 := by omega
      obtain rfl : h = 0 := by omega
      obtain rfl : l = 0 := by omega
      exact ⟨B, hu, .ownNil _⟩
    | sub b o c n =>
      refine ⟨_, hv.sub_inv, ?_⟩
      simp only [partAV]
      by_cases e1 : m = l
      · subst e1
        obtain rfl : h = m := by omega
        simp only [if_true, Nat.sub_self]
        exact .ownNil _
      · rw [if_neg e1, if_neg e1]
        have := VR.part (P := P) (w := w) (H := H) b sz (o + l) (m - l) (h - l)
        rw [Nat.add_mul] at this
        simpa [addr_add] using this
  obtain ⟨A, hu, hv⟩ := key
  have e1 := sliceBounds3 hst hh hl hm hmx h0 h1 h2
  exact ⟨_, by simp [execOp, Instr.sliceAt, Instr.slice, run_underlying ht, hu, e1, run_sizeOf' hs], hv⟩

theorem AL_slice_sl3 {tx e : TypeId} {sz : Nat} {xs : List AV} {lo hi mx : Option Operand} {l h m : Nat} (ht : P.underlying tx = some (.slice e)) (hs : szOf P e = some sz) (hx : ev T s = some (.sl e xs)) (hh : bdN T hi xs.length h) (hl : bdN T lo 0 l) (hm : ∃ o k, mx = some o ∧ ev T o = some (.v (.int k (m : Int))))
    (hmx : hi ≠ none) (h0 : m ≤ xs.length) (h1 : h ≤ m) (h2 : l ≤ h)
    (hr : AL P ro ops rest ds (tput T d (.sl e ((xs.drop l).take (h - l)))) H Q) : AL P ro ops (⟨d, .slice tx s lo hi mx, ty, pos, af, none⟩ :: rest) ds T H Q := by
  refine AL_pure (x := .sl e ((xs.drop l).take (h - l))) (fun ds a w hst => ?_) rfl (fun _ => by simp) hr
  obtain ⟨A, c, U, hu, hel, hc', hcell, hv⟩ := (hst.ev hx).sl_inv
  have hel' : ∀ x ∈ xs, x.cells.length = sz := fun x hx => by rw [hel x hx, szOf_cells hs]
  obtain ⟨om, km, rfl, hm⟩ := hm
  have e1 := sliceBounds3 (mx := some om) hst hh hl (cap := c) ⟨km, hm⟩ (.inr hmx) (by omega) h1 h2
  have hlen : ((xs.drop l).take (h - l)).length = h - l := by simp; omega
  have hfl := flat_drop_take xs sz l (h - l) hel'
  refine ⟨.slice (if m = l then A else A.map (·.add (l * sz))) (h - l) (m - l), by
    have e1' := e1
    simp only [Option.map_some] at e1'
    simp [execOp, Instr.sliceAt, Instr.slice, run_underlying ht, hu, e1', run_sizeOf' hs], ?_⟩
  have key : VR P w H (.sl e ((xs.drop l).take (h - l))) (.slice (if m = l then A else A.map (·.add (l * sz))) ((xs.drop l).take (h - l)).length (m - l)) := ?_
  · rw [hlen] at key; exact key
  refine .sl (c := m - l) (fun k => U (l * sz + k)) (fun x hx => hel x (List.mem_of_mem_drop (List.mem_of_mem_take hx))) (by rw [hlen]; omega) (fun k y hy => ?_) (fun k y hy => hv _ _ (hfl k y hy))
  obtain ⟨a0, hA, h3, h4⟩ := hcell _ _ (hfl k y hy)
  have hlt : l < m := by
    have := (List.getElem?_eq_some_iff.1 hy).1
    have h0 : ((xs.drop l).take (h - l)).length ≠ 0 := fun h0 => by rw [List.length_eq_zero_iff.1 h0] at this; simp [flat] at this
    omega
  rw [if_neg (by omega), hA]
  exact ⟨_, rfl, by rw [add_block]; exact h3, by rw [add_add]; exact h4⟩

theorem AL_len_sub {t e : TypeId} {b z o c n : Nat} (ht : P.underlying t = some (.slice e)) (hx : ev T s = some (.sub b z o c n)) (hr : AL P ro ops rest ds (tput T d (.v (.int .i64 n))) H Q) :
    AL P ro ops (⟨d, .call ⟨.builtin .len, #[s], #[t]⟩, ty, pos, af, none⟩ :: rest) ds T H Q :=
  AL_pure (x := .v (.int .i64 n)) (fun ds a w hst => by
    have hu := (hst.ev hx).sub_inv
    exact ⟨_, by simp [execOp, resolve, invoke, builtin, hu, run_len_slice ht], .v _⟩) rfl (fun _ => by simp) hr
theorem AL_cap_own {t e : TypeId} {A : Option Nat} {c n : Nat} (ht : P.underlying t = some (.slice e)) (hx : ev T s = some (.own A c n)) (hr : AL P ro ops rest ds (tput T d (.v (.int .i64 c))) H Q) :
    AL P ro ops (⟨d, .call ⟨.builtin .cap, #[s], #[t]⟩, ty, pos, af, none⟩ :: rest) ds T H Q :=
  AL_pure (x := .v (.int .i64 c)) (fun ds a w hst => by
    obtain ⟨B, hu, _, _⟩ := (hst.ev hx).own_inv
    exact ⟨_, by simp [execOp, resolve, invoke, builtin, hu, Builtin.cap_, run_underlying ht, goInt], .v _⟩) rfl (fun _ => by simp) hr
theorem AL_indexAddr_sub {t e : TypeId} {sz b o c n : Nat} {k : IntKind} {i : Int} (ht : P.underlying t = some (.slice e)) (hs : szOf P e = some sz) (hx : ev T s = some (.sub b sz o c n)) (hi : ev T s' = some (.v (.int k i)))
    (h0 : 0 ≤ i) (h1 : i < n) (hr : AL P ro ops rest ds (tput T d (.pt b (o + i.toNat) sz 0)) H Q) : AL P ro ops (⟨d, .indexAddr t s s', ty, pos, af, none⟩ :: rest) ds T H Q :=
  AL_pure (x := .pt b (o + i.toNat) sz 0) (fun ds a w hst => by
    have hu := (hst.ev hx).sub_inv
    refine ⟨.pointer (some ⟨b, o * sz + i.toNat * sz, none⟩), by simp [execOp, hu, hst.evv hi, run_indexAt_slice ht hs ⟨b, o * sz, none⟩ c h0 h1, addr_add], ?_⟩
    have := VR.pt (P := P) (w := w) (H := H) b (o + i.toNat) sz 0
    rw [Nat.add_mul] at this
    simpa using this) rfl (fun _ => by simp) hr

/-! against nil -/
theorem AL_eqnil {t e : TypeId} {ty' : TypeId} {xs : List AV} {sz : Nat} (ht : P.underlying t = some (.slice e)) (hs : szOf P e = some sz) (hs0 : 0 < sz) (hx : ev T s = some (.sl e xs)) (hy : ev T s' = some (.own none 0 0)) (hc : s' = .const (.slice none 0 0))
    (hr : ∀ b : Bool, (b = true → xs = []) → AL P ro ops rest ds (tput T d (.v (.bool b))) H Q) : AL P ro ops (⟨d, .binOp .eql t s s' ty', ty, pos, af, none⟩ :: rest) ds T H Q := by
  subst hc
  refine AL_op rfl (fun _ => by simp) fun a w hst => ?_
  obtain ⟨A, c, U, hu, hel, hc', hcell, hv⟩ := (hst.ev hx).sl_inv
  have e1 : a.eval (.const (.slice none 0 0)) = .slice none 0 0 := rfl
  have heq : ∀ w, (Op.equal t (.slice A xs.length c) (.slice none 0 0)).run P w = .ok A.isNone w := fun w => by
    unfold Op.equal Op.maxDepth
    rw [show (10000 : Nat) = 9999 + 1 from rfl]
    unfold Op.equalIn
    cases A <;> simp [run_underlying ht]
  refine ⟨.bool A.isNone, w, .v (.bool A.isNone), H, ?_, .v _, hst.heap, .refl _ _, hr _ fun hA => ?_⟩
  · simp [execOp, hu, e1, eqGuard, binOp, heq]
  · cases A with
    | some a => simp at hA
    | none =>
      cases xs with
      | nil => rfl
      | cons x xs =>
        have hx0 : 0 < x.cells.length := by rw [hel x (by simp), szOf_cells hs]; exact hs0
        obtain ⟨a, h1, _⟩ := hcell 0 _ (by unfold flat; rw [List.flatMap_cons, List.getElem?_append_left hx0]; exact List.getElem?_eq_getElem hx0)
        cases h1

/-! structs -/
theorem VR.ags {w : World} {vs : List Value} {u : Value} (h : VR P w H (.ag (vs.map .v)) u) : u = .agg vs.toArray := by
  obtain ⟨us, rfl, hl, hv⟩ := h.agg_inv
  congr 1
  apply Array.ext'
  apply List.ext_getElem?
  intro k
  rw [Array.getElem?_toList]
  cases hk : vs[k]? with
  | none =>
    have : us.size ≤ k := by rw [← hl, List.length_map]; exact List.getElem?_eq_none_iff.1 hk
    simp [hk, this]
  | some x =>
    have hlt : k < us.size := by rw [← hl, List.length_map]; exact (List.getElem?_eq_some_iff.1 hk).1
    have := (hv k (.v x) us[k] (by rw [List.getElem?_map, hk]; rfl) (Array.getElem?_eq_getElem hlt)).v_inv
    simp [hk, hlt, this]
theorem AL_eqst {t : TypeId} {ty' : TypeId} {vs us : List Value} {b : Bool} (hx : ev T s = some (.ag (vs.map .v))) (hy : ev T s' = some (.ag (us.map .v))) (hg : P.eqGuardType P.depth t = false) (he : ∀ w, (Op.equalIn 10000 t (.agg vs.toArray) (.agg us.toArray)).run P w = .ok b w)
    (hr : AL P ro ops rest ds (tput T d (.v (.bool b))) H Q) : AL P ro ops (⟨d, .binOp .eql t s s' ty', ty, pos, af, none⟩ :: rest) ds T H Q :=
  AL_pure (x := .v (.bool b)) (fun ds a w hst => by
    have h1 := (hst.ev hx).ags
    have h2 := (hst.ev hy).ags
    exact ⟨_, by simp [execOp, h1, h2, run_eqGuard_agg w _ t _ _ _ _ hg, run_eql_struct, he], .v _⟩) rfl (fun _ => by simp) hr
theorem AL_nest {t : TypeId} {ty' : TypeId} {vs us : List Value} {b : Bool} (hx : ev T s = some (.ag (vs.map .v))) (hy : ev T s' = some (.ag (us.map .v))) (hg : P.eqGuardType P.depth t = false) (he : ∀ w, (Op.equalIn 10000 t (.agg vs.toArray) (.agg us.toArray)).run P w = .ok b w)
    (hr : AL P ro ops rest ds (tput T d (.v (.bool !b))) H Q) : AL P ro ops (⟨d, .binOp .neq t s s' ty', ty, pos, af, none⟩ :: rest) ds T H Q :=
  AL_pure (x := .v (.bool !b)) (fun ds a w hst => by
    have h1 := (hst.ev hx).ags
    have h2 := (hst.ev hy).ags
    exact ⟨_, by simp [execOp, h1, h2, run_eqGuard_agg w _ t _ _ _ _ hg, run_neq_struct, he], .v _⟩) rfl (fun _ => by simp) hr

/-! a value, seen otherwise -/
theorem AL_recast {H' : AH} (k : Nat) (hk : T[k]? = some x) (hs : SubH H H') (hy : ∀ w u, HR P H' w → VR P w H' x u → VR P w H y u) (h : AL P ro ops rest ds (T.set k y) H Q) : AL P ro ops rest ds T H' Q := fun a w hst => by
  have h1 := hst.sub hs
  have hst' : St P ds (T.set k y) H a w := ⟨h1.defers, by simpa using h1.size, fun i z hz => by
    rw [List.getElem?_set] at hz
    split at hz
    · rename_i e1
      subst e1
      split at hz
      · injection hz with hz
        subst hz
        obtain ⟨u, hu, hv⟩ := hst.vals _ _ hk
        exact ⟨u, hu, hy w u hst.heap hv⟩
      · cases hz
    · exact h1.vals i z hz, h1.heap⟩
  exact wpListIn_mono (fun _ _ _ p => post.back (Step.sub hs (.refl _ _)) p) (fun _ => trivial) _ _ _ (h a w hst')
theorem AW_recast {c' : Code} {H' : AH} (k : Nat) (hk : T[k]? = some x) (hs : SubH H H') (hy : ∀ w u, HR P H' w → VR P w H' x u → VR P w H y u) (h : AW P ro c' ds (T.set k y) H Q) : AW P ro c' ds T H' Q := fun a w hst => by
  have h1 := hst.sub hs
  have hst' : St P ds (T.set k y) H a w := ⟨h1.defers, by simpa using h1.size, fun i z hz => by
    rw [List.getElem?_set] at hz
    split at hz
    · rename_i e1
      subst e1
      split at hz
      · injection hz with hz
        subst hz
        obtain ⟨u, hu, hv⟩ := hst.vals _ _ hk
        exact ⟨u, hu, hy w u hst.heap hv⟩
      · cases hz
    · exact h1.vals i z hz, h1.heap⟩
  exact wpIn_mono (h a w hst') fun _ _ _ p => post.back (Step.sub hs (.refl _ _)) p
theorem AC_recast {f : FuncId} {args : List AV} {K : AV → AH → Prop} (h : AC P f args H fun x H' => ∃ y H2, SubH H2 H' ∧ (∀ w u, HR P H' w → VR P w H' x u → VR P w H2 y u) ∧ K y H2) : AC P f args H K := fun w vs hl hv hh => by
  refine (h w vs hl hv hh).mono ?_
  rintro e' w' ⟨v, x, H', rfl, hx, hr, hst, y, H2, hs, hy, hk⟩
  exact ⟨v, y, H2, rfl, hy _ _ hr hx, hr.sub hs, Step.sub hs hst, hk⟩

/-- A row of ours that is read from now on. -/
theorem VR.frzP {w : World} {A : Option Nat} {e : TypeId} {c n : Nat} {xs : List AV} {u : Value} (hF : Fresh H A c xs) (hn : n = xs.length) (hh : HR P (H.put A e c xs) w) (h : VR P w (H.put A e c xs) (.own A c n) u) : VR P w H (.sl e xs) u := by
  subst hn
  cases A with
  | none => obtain ⟨rfl, rfl⟩ := hF; exact h.nilsl
  | some b =>
    obtain ⟨B, hu, hB, _⟩ := h.own_inv
    obtain rfl := hB b rfl
    have hb : (H.upd b (some (.row e c xs))) b = some (.row e c xs) := AH.upd_same _ _ _
    have e1 : (H.upd b (some (.row e c xs))).upd b none = H := AH.upd_none_eq hF
    have hz : VR P w ((H.upd b (some (.row e c xs))).upd b none) (.sl e xs) (.slice (some ⟨b, 0, none⟩) xs.length c) := VR.frozen (P := P) hh hb
    rw [e1] at hz
    rw [hu]; exact hz
theorem VR.ag_at {H' : AH} {w : World} {cs : List AV} {u : Value} (k : Nat) (hs : SubH H H') (hk : cs[k]? = some x) (hy : ∀ u, VR P w H' x u → VR P w H y u) (h : VR P w H' (.ag cs) u) : VR P w H (.ag (cs.set k y)) u := by
  obtain ⟨us, rfl, hl, hv⟩ := h.agg_inv
  refine .ag (by simpa using hl) fun i z v hz hu => ?_
  rw [List.getElem?_set] at hz
  split at hz
  · rename_i e1
    subst e1
    split at hz
    · injection hz with hz
      subst hz
      exact hy _ (hv _ _ _ hk hu)
    · cases hz
  · exact (hv _ _ _ hz hu).sub hs
theorem VR.tup_at {H' : AH} {w : World} {cs : List AV} {u : Value} (k : Nat) (hs : SubH H H') (hk : cs[k]? = some x) (hy : ∀ u, VR P w H' x u → VR P w H y u) (h : VR P w H' (.tup cs) u) : VR P w H (.tup (cs.set k y)) u := by
  cases h with
  | tup hl hv =>
    refine .tup (by simpa using hl) fun i z v hz hu => ?_
    rw [List.getElem?_set] at hz
    split at hz
    · rename_i e1
      subst e1
      split at hz
      · injection hz with hz
        subst hz
        exact hy _ (hv _ _ _ hk hu)
      · cases hz
    · exact (hv _ _ _ hz hu).sub hs
end
end Go.AL

/- Results seen otherwise; beginnings of rows; against nil; results in cells. -/
set_option autoImplicit false
set_option linter.unusedVariables false
set_option linter.unusedSimpArgs false
namespace Go.AL
open Go Go.RowKit

section
variable {P : Program} {ro : Option Nat} {ds : List Deferred} {T : List AV} {H : AH} {Q : Post} {ops : Array Oper} {rest : List Oper}
variable {d : Option Tmp} {ty : TypeId} {pos : String} {af : Array Edge} {s s' : Operand} {x y : AV}

/-- What x is in H' is y in H, where less is ours. -/
def Rc (P : Program) (H H' : AH) (x y : AV) : Prop := SubH H H' ∧ ∀ w u, HR P H' w → VR P w H' x u → VR P w H y u
theorem Rc.refl (H : AH) (x : AV) : Rc P H H x x := ⟨SubH.refl _, fun _ _ _ h => h⟩
theorem Rc.trans {H1 H2 H3 : AH} {x y z : AV} (h : Rc P H1 H2 y z) (k : Rc P H2 H3 x y) : Rc P H1 H3 x z :=
  ⟨h.1.trans k.1, fun w u hh hv => h.2 w u (hh.sub k.1) (k.2 w u hh hv)⟩
theorem Rc.own {A : Option Nat} {e : TypeId} {c n : Nat} {xs : List AV} (hF : Fresh H A c xs) (hn : n = xs.length) : Rc P H (H.put A e c xs) (.own A c n) (.sl e xs) :=
  ⟨hF.subH, fun w u hh h => VR.frzP hF hn hh h⟩
theorem Rc.nil (H : AH) (e : TypeId) : Rc P H H (.own none 0 0) (.sl e []) := ⟨SubH.refl _, fun w u hh h => h.nilsl⟩
theorem Rc.sub {H' : AH} (x : AV) (h : SubH H H') : Rc P H H' x x := ⟨h, fun w u hh hv => hv.sub h⟩
theorem Rc.ag {H' : AH} {cs : List AV} (k : Nat) (hk : cs[k]? = some x) (h : Rc P H H' x y) : Rc P H H' (.ag cs) (.ag (cs.set k y)) := ⟨h.1, fun w u hh hv => VR.ag_at k h.1 hk (fun u hu => h.2 w u hh hu) hv⟩
theorem Rc.tup {H' : AH} {cs : List AV} (k : Nat) (hk : cs[k]? = some x) (h : Rc P H H' x y) : Rc P H H' (.tup cs) (.tup (cs.set k y)) := ⟨h.1, fun w u hh hv => VR.tup_at k h.1 hk (fun u hu => h.2 w u hh hu) hv⟩
theorem AC_rc {f : FuncId} {args : List AV} {K : AV → AH → Prop} (h : AC P f args H fun x H' => ∃ y H2, Rc P H2 H' x y ∧ K y H2) : AC P f args H K :=
  AC_recast (h.mono fun x H' ⟨y, H2, h1, h2⟩ => ⟨y, H2, h1.1, h1.2, h2⟩)
theorem AL_rc {H' : AH} (k : Nat) (hk : T[k]? = some x) (hr : Rc P H H' x y) (h : AL P ro ops rest ds (T.set k y) H Q) : AL P ro ops rest ds T H' Q := AL_recast k hk hr.1 hr.2 h
theorem AW_rc {c' : Code} {H' : AH} (k : Nat) (hk : T[k]? = some x) (hr : Rc P H H' x y) (h : AW P ro c' ds (T.set k y) H Q) : AW P ro c' ds T H' Q := AW_recast k hk hr.1 hr.2 h

/-- A tuple whose first part is a row of ours, or nil, is read from then on. -/
theorem AC_tup0 {f : FuncId} {args : List AV} {K : AV → AH → Prop} (e : TypeId) (h : AC P f args H fun x H' => K x H' ∨ ∃ A c xs r, Fresh H A c xs ∧ x = .tup (.own A c xs.length :: r) ∧ H' = H.put A e c xs ∧ K (.tup (.sl e xs :: r)) H) : AC P f args H K := by
  refine AC_rc (h.mono ?_)
  rintro x H' (hk | ⟨A, c, xs, r, hF, rfl, rfl, hk⟩)
  · exact ⟨x, H', Rc.refl _ _, hk⟩
  · exact ⟨.tup (.sl e xs :: r), H, Rc.tup 0 rfl (Rc.own hF rfl), hk⟩

/-- The beginning of a row of ours. -/
theorem AL_slice_pre {tx e : TypeId} {sz n c h m : Nat} {A : Option Nat} {lo hi mx : Option Operand} (ht : P.underlying tx = some (.slice e)) (hs : szOf P e = some sz) (hx : ev T s = some (.own A c n)) (hA : A = none → c = 0) (hh : bdN T hi n h) (hl : bdN T lo 0 0) (hm : bdN T mx c m)
    (hmx : mx = none ∨ hi ≠ none) (h0 : m ≤ c) (h1 : h ≤ m) (hr : AL P ro ops rest ds (tput T d (.own A m h)) H Q) : AL P ro ops (⟨d, .slice tx s lo hi mx, ty, pos, af, none⟩ :: rest) ds T H Q := by
  refine AL_pure (x := .own A m h) (fun ds a w hst => ?_) rfl (fun _ => by simp) hr
  obtain ⟨B, hu, hB, _⟩ := (hst.ev hx).own_inv
  have e1 := sliceBounds3 hst hh hl hm hmx h0 h1 (Nat.zero_le _)
  refine ⟨.slice (if m = 0 then B else B.map (·.add (0 * sz))) (h - 0) (m - 0), by simp [execOp, Instr.sliceAt, Instr.slice, run_underlying ht, hu, e1, run_sizeOf' hs], ?_⟩
  have e2 : (if m = 0 then B else B.map (·.add (0 * sz))) = B ∨ A = none := by
    cases A with
    | none => exact .inr rfl
    | some b =>
      obtain rfl := hB b rfl
      left
      split
      · rfl
      · simp [addr_add]
  rcases e2 with e2 | rfl
  · rw [e2]
    refine VR.own_mk hB fun e => ?_
    have := hA e
    omega
  · obtain rfl := hA rfl
    obtain rfl : m = 0 := by omega
    obtain rfl : h = 0 := by omega
    exact .ownNil _
/-- A part of a slice of ours, its name given. -/
theorem AL_slice_ownz {tx e : TypeId} {sz n c l h m : Nat} {lo hi mx : Option Operand} (z : AV) (hz : partAV sz x l h m = z) (ht : P.underlying tx = some (.slice e)) (hs : szOf P e = some sz) (hx : ev T s = some x) (ho : OwnSl sz x n c) (hh : bdN T hi n h) (hl : bdN T lo 0 l) (hm : bdN T mx c m)
    (hmx : mx = none ∨ hi ≠ none) (h0 : m ≤ c) (h1 : h ≤ m) (h2 : l ≤ h) (hr : AL P ro ops rest ds (tput T d z) H Q) : AL P ro ops (⟨d, .slice tx s lo hi mx, ty, pos, af, none⟩ :: rest) ds T H Q :=
  AL_slice_own ht hs hx ho hh hl hm hmx h0 h1 h2 (hz.symm ▸ hr)
/-- All of an array, as a slice. -/
theorem AL_nenil {t e : TypeId} {ty' : TypeId} {xs : List AV} {sz : Nat} (ht : P.underlying t = some (.slice e)) (hs : szOf P e = some sz) (hs0 : 0 < sz) (hx : ev T s = some (.sl e xs)) (hc : s' = .const (.slice none 0 0))
    (hr : ∀ b : Bool, (b = false → xs = []) → AL P ro ops rest ds (tput T d (.v (.bool b))) H Q) : AL P ro ops (⟨d, .binOp .neq t s s' ty', ty, pos, af, none⟩ :: rest) ds T H Q := by
  subst hc
  refine AL_op rfl (fun _ => by simp) fun a w hst => ?_
  obtain ⟨A, c, U, hu, hel, hc', hcell, hv⟩ := (hst.ev hx).sl_inv
  have e1 : a.eval (.const (.slice none 0 0)) = .slice none 0 0 := rfl
  have heq : ∀ w, (Op.equal t (.slice A xs.length c) (.slice none 0 0)).run P w = .ok A.isNone w := fun w => by
    unfold Op.equal Op.maxDepth
    rw [show (10000 : Nat) = 9999 + 1 from rfl]
    unfold Op.equalIn
    cases A <;> simp [run_underlying ht]
  refine ⟨.bool !A.isNone, w, .v (.bool !A.isNone), H, ?_, .v _, hst.heap, .refl _ _, hr _ fun hA => ?_⟩
  · simp [execOp, hu, e1, eqGuard, binOp, heq]
  · cases A with
    | some a => simp at hA
    | none =>
      cases xs with
      | nil => rfl
      | cons x xs =>
        have hx0 : 0 < x.cells.length := by rw [hel x (by simp), szOf_cells hs]; exact hs0
        obtain ⟨a, h1, _⟩ := hcell 0 _ (by unfold flat; rw [List.flatMap_cons, List.getElem?_append_left hx0]; exact List.getElem?_eq_getElem hx0)
        cases h1

/-- Results, of whatever kind. -/
theorem retQ_g {rs : List ResultVar} {e : Exit} {xs : List AV} {H' : AH} {K : AV → AH → Prop} (he : e = .normal ∨ e = .ret) (hr : RVL P T H rs xs) (hs : SubH H' H) (k : K (pack xs) H') : retQ P rs K e [] T H := ⟨he, rfl, xs, H', hr, hs, k⟩
end

/-- What a change of an element, behind a pointer, does. -/
def ChgC (P : Program) (f : FuncId) (caps : List AV) (e : TypeId) (sz : Nat) (x y : AV) : Prop :=
  ∀ (H : AH) (K : AV → AH → Prop) (b c i : Nat) (xs : List AV), H b = some (.row e c xs) → xs[i]? = some x → K (.tup []) (H.upd b (some (.row e c (xs.set i y)))) → AC P f (.pt b i sz 0 :: caps) H K

/-- The place of the first that is so; -1: there is none. -/
def idxI {α : Type} (p : α → Bool) (l : List α) : Int := match l.findIdx? p with | some i => (i : Int) | none => -1
theorem idxI_some {α : Type} {p : α → Bool} {l : List α} {d : α} {i : Nat} (hi : i < l.length) (hp : p (l.getD i d) = true) (hn : ∀ j, j < i → p (l.getD j d) = false) : idxI p l = (i : Int) := by
  have : l.findIdx? p = some i := by
    rw [List.findIdx?_eq_some_iff_getElem]
    refine ⟨hi, ?_, fun j hj => ?_⟩
    · simpa [List.getD_eq_getElem?_getD, hi] using hp
    · have := hn j hj
      have hl : j < l.length := by omega
      simpa [List.getD_eq_getElem?_getD, hl] using this
  unfold idxI; rw [this]
theorem idxI_none {α : Type} {p : α → Bool} {l : List α} {d : α} {i : Nat} (hi : l.length ≤ i) (hn : ∀ j, j < i → p (l.getD j d) = false) : idxI p l = -1 := by
  have : l.findIdx? p = none := by
    rw [List.findIdx?_eq_none_iff]
    intro x hx
    obtain ⟨j, hj, rfl⟩ := List.mem_iff_getElem.1 hx
    have := hn j (by omega)
    simpa [List.getD_eq_getElem?_getD, hj] using this
  unfold idxI; rw [this]
theorem idxI_any {α : Type} (p : α → Bool) (l : List α) : decide (0 ≤ idxI p l) = l.any p := by
  unfold idxI
  cases h : l.findIdx? p with
  | none =>
    rw [List.findIdx?_eq_none_iff] at h
    rw [eq_comm]
    simpa using h
  | some i =>
    obtain ⟨hi, hp, _⟩ := List.findIdx?_eq_some_iff_getElem.1 h
    rw [show decide (0 ≤ (i : Int)) = true from decide_eq_true (by omega), eq_comm, List.any_eq_true]
    exact ⟨_, List.getElem_mem hi, hp⟩
theorem upto_no2 {α : Type} {p : α → Bool} {l : List α} {d : α} {i : Nat} (h : ∀ j, j < i → p (l.getD j d) = false) (hn : p (l.getD i d) = false) : ∀ j, j < i + 1 → p (l.getD j d) = false := fun j hj => by
  rcases Nat.lt_or_ge j i with h' | h'
  · exact h j h'
  · rw [show j = i by omega]; exact hn
theorem map_getD {α : Type} {g : α → AV} {l : List α} (d : α) {i : Nat} (h : i < l.length) : (l.map g)[i]? = some (g (l.getD i d)) := by
  rw [List.getElem?_map, List.getD_eq_getElem?_getD, List.getElem?_eq_getElem h]; rfl
theorem getD_mem {α : Type} {l : List α} (d : α) {i : Nat} (h : i < l.length) : l.getD i d ∈ l := by
  rw [List.getD_eq_getElem?_getD, List.getElem?_eq_getElem h]; exact List.getElem_mem h
theorem mem_map_all {α : Type} {g : α → AV} (l : List α) (h : ∀ x, (g x).mem = true) : ∀ y ∈ l.map g, y.mem = true := fun y hy => by
  obtain ⟨x, _, rfl⟩ := List.mem_map.1 hy; exact h x
end Go.AL

/- Arrays behind pointers: their elements, and all of one as a slice. -/
set_option autoImplicit false
set_option linter.unusedVariables false
set_option linter.unusedSimpArgs false
namespace Go.AL
open Go Go.RowKit

section
variable {P : Program} {ro : Option Nat} {ds : List Deferred} {T : List AV} {H : AH} {Q : Post} {ops : Array Oper} {rest : List Oper}
variable {d : Option Tmp} {ty : TypeId} {pos : String} {af : Array Edge} {s s' : Operand} {x y : AV}

theorem run_indexAt_array {t e : TypeId} {sz n : Nat} (ht : P.underlying t = some (.array n e)) (hs : szOf P e = some sz) (a : Addr) {k : IntKind} {i : Int} (h0 : 0 ≤ i) (h1 : i < n) (w : World) :
    (Instr.indexAt t (.pointer (some a)) (.int k i)).run P w = .ok (.pointer (some (a.add (i.toNat * sz)))) w := by
  simp [Instr.indexAt, Instr.sureAddr, asIntOf, run_underlying ht, h0, h1, run_sizeOf' hs]
theorem AL_indexAddr_pa {t e : TypeId} {sz n b i z o : Nat} {k : IntKind} {j : Int} (ht : P.underlying t = some (.array n e)) (hs : szOf P e = some sz) (hx : ev T s = some (.pt b i z o)) (hi : ev T s' = some (.v (.int k j)))
    (h0 : 0 ≤ j) (h1 : j < n) (hr : AL P ro ops rest ds (tput T d (.pt b i z (o + j.toNat * sz))) H Q) : AL P ro ops (⟨d, .indexAddr t s s', ty, pos, af, none⟩ :: rest) ds T H Q :=
  AL_pure (x := .pt b i z (o + j.toNat * sz)) (fun ds a w hst => by
    have h := hst.ev hx
    generalize hu : a.eval s = u at h
    cases h
    refine ⟨.pointer (some ⟨b, i * z + o + j.toNat * sz, none⟩), by simp [execOp, hu, hst.evv hi, run_indexAt_array ht hs ⟨b, i * z + o, none⟩ h0 h1, addr_add], ?_⟩
    have := VR.pt (P := P) (w := w) (H := H) b i z (o + j.toNat * sz)
    rw [← Nat.add_assoc] at this
    exact this) rfl (fun _ => by simp) hr

theorem AL_nilCheck {x : AV} (hx : ev T s = some x) (hp : match x with | .pt .. => True | .rp .. => True | _ => False) (hr : AL P ro ops rest ds (tput T d x) H Q) : AL P ro ops (⟨d, .nilCheck s, ty, pos, af, none⟩ :: rest) ds T H Q :=
  AL_pure (x := x) (fun ds a w hst => by
    have h := hst.ev hx
    generalize hu : a.eval s = u at h
    cases h with
    | pt b i s o => exact ⟨_, by simp [execOp, hu], .pt b i s o⟩
    | rp U a b c => exact ⟨_, by simp [execOp, hu], .rp U a b c⟩
    | _ => exact hp.elim) rfl (fun _ => by simp) hr
/-- All of an array that is read only, as a slice. -/
theorem AL_slice_arr {t e : TypeId} {sz n : Nat} {cs xs : List AV} (ht : P.underlying t = some (.array n e)) (hs : szOf P e = some sz) (hx : ev T s = some (.rp t (.ag cs))) (hf : flat xs = cs) (hl : xs.length = n) (hel : xs.all (fun x => Nat.beq x.cells.length sz) = true)
    (hr : AL P ro ops rest ds (tput T d (.sl e xs)) H Q) : AL P ro ops (⟨d, .slice t s none none none, ty, pos, af, none⟩ :: rest) ds T H Q :=
  AL_pure (x := .sl e xs) (fun ds a w hst => by
    have h := hst.ev hx
    generalize hu : a.eval s = u at h
    cases h with
    | rp U hs' hcell hv =>
      rename_i p
      subst hf
      subst hl
      simp only [AV.cells] at hcell hv
      refine ⟨.slice (some p) xs.length xs.length, ?_, .sl U (fun x hx => ?_) (Nat.le_refl _) (fun k y hy => ⟨p, rfl, ?_, (hcell k y hy).2⟩) hv⟩
      · by_cases h0 : xs.length = 0
        · simp [execOp, Instr.sliceAt, Instr.sureAddr, Instr.sliceBounds, run_underlying ht, hu, run_sizeOf' hs, h0]
        · simp [execOp, Instr.sliceAt, Instr.sureAddr, Instr.sliceBounds, run_underlying ht, hu, run_sizeOf' hs, h0]
          unfold Addr.add; obtain ⟨bk, o, sp⟩ := p; cases sp <;> simp_all
      · rw [szOf_cells hs]
        simp only [List.all_eq_true] at hel
        exact Nat.eq_of_beq_eq_true (hel x hx)
      · exact (hcell k y hy).1) rfl (fun _ => by simp) hr
end
/-- A row with elements is somewhere. -/
theorem Fresh.some {H : AH} {A : Option Nat} {c : Nat} {xs : List AV} (h : Fresh H A c xs) (hl : 0 < xs.length) : ∃ b, A = some b := by
  cases A with
  | none => obtain ⟨_, rfl⟩ := h; simp at hl
  | some b => exact ⟨b, rfl⟩
theorem Fresh.len {H : AH} {A : Option Nat} {c : Nat} {xs ys : List AV} (h : Fresh H A c xs) (hl : ys.length = xs.length) : Fresh H A c ys := by
  cases A with
  | none => obtain ⟨h1, rfl⟩ := h; exact ⟨h1, List.length_eq_zero_iff.1 hl⟩
  | some b => exact h
theorem Fresh.sub {X Y : AH} {A : Option Nat} {c : Nat} {xs : List AV} (h : Fresh Y A c xs) (hs : SubH X Y) : Fresh X A c xs := by
  cases A with
  | none => exact h
  | some b => exact hs.none h
theorem PI.toAC {I : AH → Prop} {P : Program} {f : FuncId} {args : List AV} {r : AV} (h : PI I P f args r) {H : AH} (hI : I H) : AC P f args H fun x H1 => x = r ∧ H = H1 := h H _ hI ⟨rfl, rfl⟩
end Go.AL

/- A function that may bear the mark of a range over a function, or leave before it has one. -/
set_option autoImplicit false
set_option linter.unusedVariables false
set_option linter.unusedSimpArgs false
namespace Go.AL
open Go Go.RowKit

theorem AH.fresh_ne {X : AH} {b k : Nat} {o : AO} (h : X b = none) (hk : X k = some o) : b ≠ k := fun e => by rw [e, hk] at h; cases h
section
variable {P : Program} {ro : Option Nat} {ds : List Deferred} {T : List AV} {H : AH} {Q : Post} {ops : Array Oper} {rest : List Oper}
variable {d : Option Tmp} {ty : TypeId} {pos : String} {af : Array Edge} {s s' : Operand}
theorem AL_leave_u {op : Op} {j dj : Nat} {c : Bool} (hj : (ops[j]?).bind (·.dst) = some dj) (hb : T[dj]? = some (.v undef)) (h : AL P ro ops rest ds (tput T d (.v undef)) H Q) :
    AL P ro ops (⟨d, op, ty, pos, af, some (j, c)⟩ :: rest) ds T H Q := fun a w hst => by
  have hy : Go.yielded ops a.tmps j = none := by
    obtain ⟨u, hu, hv⟩ := hst.vals _ _ hb
    have := hv.v_inv
    subst this
    unfold Go.yielded
    rw [hj]
    simp only [Option.bind_some, hu]
    rfl
  have hne : ((none : Option Bool) == some c) = false := rfl
  simp only [wpListIn, Region.wanted, hy, hne, Bool.false_eq_true, if_false]
  exact ⟨fun f _ => trivial, h _ _ (hst.put (.refl _ _) hst.heap (.v _))⟩
theorem AL_max {t t' : TypeId} {k : IntKind} {m n : Int} (hx : ev T s = some (.v (.int k m))) (hy : ev T s' = some (.v (.int k n))) (h : AL P ro ops rest ds (tput T d (.v (.int k (max m n)))) H Q) :
    AL P ro ops (⟨d, .call ⟨.builtin .max, #[s, s'], #[t, t']⟩, ty, pos, af, none⟩ :: rest) ds T H Q :=
  AL_pure (x := .v (.int k (max m n))) (fun ds a w hst => by
    refine ⟨_, ?_, .v _⟩
    have e : (if n > m then n else m) = max m n := by split <;> omega
    simp [execOp, resolve, invoke, builtin, Builtin.max_, Builtin.max2, hst.evv hx, hst.evv hy, ← e]) rfl (fun _ => by simp) h
end
section
variable {P : Program} {ds : List Deferred} {T : List AV} {H : AH} {K : AV → AH → Prop}

def retQN (P : Program) (rs : List ResultVar) (K : AV → AH → Prop) : Post := fun e ds T H => retQ P rs K e ds T H ∨ retQM P rs K e ds T H
theorem retQN_l {rs : List ResultVar} {e : Exit} (h : retQ P rs K e ds T H) : retQN P rs K e ds T H := .inl h
theorem retQN_r {rs : List ResultVar} {e : Exit} (h : retQM P rs K e ds T H) : retQN P rs K e ds T H := .inr h

theorem res_run {fn : Func} {rs : List ResultVar} (hrs : fn.results = rs.toArray) {a : Act} {w : World} {us : List Value} (hrun : (rs.mapM (resOf a.tmps)).run P w = .ok us w) :
    (results fn a.tmps).run P w = .ok (if h : us.length = 1 then us[0] else .tuple us.toArray) w := by
  have e0 : results fn a.tmps = (do let vs ← fn.results.mapM (resOf a.tmps); pure (if h : vs.size = 1 then vs[0] else .tuple vs)) := rfl
  rw [e0, hrs]
  simp only [Sem.run_bind]
  have e1 : ∀ g : ResultVar → Sem Value, (rs.toArray.mapM g) = (List.toArray <$> rs.mapM g) := fun g => by simp
  rw [e1]
  have e2 : ∀ (m : Sem (List Value)) (w : World), (List.toArray <$> m).run P w = (m.run P w).andThen fun l w => .ok l.toArray w := by
    intro m w
    have := Sem.run_bind P w m (fun l : List Value => (pure l.toArray : Sem (Array Value)))
    simp only [Sem.run_pure] at this
    exact this
  rw [e2, hrun]
  simp
theorem res_vr {w : World} {xs : List AV} {us : List Value} (hlen : xs.length = us.length) (hus : ∀ (k : Nat) (x : AV) (u : Value), xs[k]? = some x → us[k]? = some u → VR P w H x u) : VR P w H (pack xs) (if h : us.length = 1 then us[0] else .tuple us.toArray) := by
  match xs, us, hlen, hus with
  | [], [], _, _ => exact .tup rfl (fun k y u h => by simp at h)
  | [x], [u], _, hus => exact hus 0 x u rfl rfl
  | x :: x' :: xs, u :: u' :: us, hlen, hus =>
    rw [dif_neg (by simp)]
    exact .tup (by simpa using hlen) (fun k y u hy hu => hus k y u hy (by simpa using hu))

theorem AC_ofN {f : FuncId} {fn : Func} {c : Code} {args T0 : List AV} {K : AV → AH → Prop} (hf : P.funcs[f]? = some fn) (hb : fn.body = some c) {rs : List ResultVar} (hrs : fn.results = rs.toArray) {n : Nat} (hn : fn.ntmps = n)
    (hT : args ++ List.replicate (n - args.length) (.v undef) = T0) (h : AW P none c [] T0 H (retQN P rs K)) : AC P f args H K := fun w vs hl hv hh => by
  refine callsIn_of_wp_marks hf hb trivial ?_ rfl
  have hst : St P [] T0 H { tmps := vs ++ Array.replicate (fn.ntmps - vs.size) undef, defers := [] } w := by
    refine ⟨rfl, by rw [← hT, hn]; simp [hl], fun k x hx => ?_, hh⟩
    rw [← hT, List.getElem?_append] at hx
    simp only [Array.getElem?_append]
    rw [hl] at hx
    split at hx
    · rename_i hlt
      rw [if_pos hlt]
      exact ⟨vs[k], Array.getElem?_eq_getElem hlt, hv k x _ hx (Array.getElem?_eq_getElem hlt)⟩
    · rename_i hlt
      rw [if_neg hlt, hn]
      rw [List.getElem?_replicate] at hx
      split at hx
      · rename_i h2
        injection hx with hx
        subst hx
        exact ⟨undef, by rw [Array.getElem?_replicate, if_pos h2], .v _⟩
      · cases hx
  refine wpIn_mono (h _ _ hst) ?_
  rintro e a1 w1 ⟨ds1, T1, H1, s1, k1, ⟨he, rfl, xs, H3, hr, hsub3, hK⟩ | ⟨he, D, rfl, hHD, xs, H2, H3, hr, hsub, hD2, hsub3, hK⟩⟩
  · obtain ⟨us, hrun, hlen, hus⟩ := RVL.run s1 hr
    have hleave : LeavesInM (fen none) 0 P fn a1.tmps (fun e w' => ∃ v x H', e = .returned v ∧ VR P w' H' x v ∧ HR P H' w' ∧ Step H w H' w' ∧ K x H') a1.defers .returning w1 := by
      have hd : a1.defers = [] := s1.defers
      rw [hd]
      exact ⟨_, res_run hrs hrun, _, _, H3, rfl, (res_vr hlen hus).sub hsub3, s1.heap.sub hsub3, k1.sub hsub3, hK⟩
    rcases he with rfl | rfl
    · exact hleave
    · exact hleave
  · have hDw : w1.heap[D]? = some (.deferred (some [])) := s1.heap D _ hHD
    have nc : NoCells w1 D := .deferred hDw
    have s2 : St P [mark D] T1 H2 a1 (w1.putObj D (.deferred none)) :=
      ⟨s1.defers, s1.size, fun k x hx => let ⟨u, h1, h2⟩ := s1.vals k x hx; ⟨u, h1, (h2.sub hsub).put nc⟩, (s1.heap.sub hsub).put nc hD2⟩
    have k2 : Step H w H2 (w1.putObj D (.deferred none)) := by
      refine ⟨k1.os, k1.tape, k1.output, by simpa using k1.size, fun b hb hn => ?_⟩
      obtain ⟨e1, n1⟩ := k1.keep b hb hn
      have hbD : b ≠ D := fun e => by subst e; rw [hHD] at n1; cases n1
      exact ⟨(World.putObj_heap_other hbD).trans e1, hsub.none n1⟩
    obtain ⟨us, hrun, hlen, hus⟩ := RVL.run s2 hr
    have hleave : LeavesInM (fen none) 0 P fn a1.tmps (fun e w' => ∃ v x H', e = .returned v ∧ VR P w' H' x v ∧ HR P H' w' ∧ Step H w H' w' ∧ K x H') a1.defers .returning w1 := by
      have hd : a1.defers = [mark D] := s1.defers
      rw [hd]
      exact ⟨by simp, .inl ⟨D, _, rfl, run_takeDeferred hDw, _, res_run hrs hrun, _, _, H3, rfl, (res_vr hlen hus).sub hsub3, s2.heap.sub hsub3, k2.sub hsub3, hK⟩⟩
    rcases he with rfl | rfl
    · exact hleave
    · exact hleave
end
end Go.AL

/- Statements whose order is open, memory written in them, with values chosen on the way (a callee's fresh row). -/
set_option autoImplicit false
set_option linter.unusedVariables false
set_option linter.unusedSimpArgs false
namespace Go.AL
open Go Go.RowKit

section
variable {P : Program} {ro : Option Nat} {ds : List Deferred} {T0 : List AV} {H : AH} {Q : Post} {ops : Array Oper} {Θ : Type}

/-- What the operations give, the choices given. -/
def xsAt (xs : List ((Nat → Θ) → AV)) (θ : Nat → Θ) : List AV := xs.map fun x => x θ
def qpostP (ds : List Deferred) (I : (Nat → Θ) → Nat → Prop) (HL : (Nat → Θ) → Nat → AH) (θ : Nat → Θ) (m m' : Nat) (R : (Nat → Θ) → List AV) : Post :=
  fun e ds' T' H' => e = .normal ∧ ds' = ds ∧ ∃ θ' : Nat → Θ, (∀ k, k < m → θ' k = θ k) ∧ I θ' m' ∧ SubH (HL θ' m') H' ∧ Weak T' (R θ')
theorem qpostP_mk {I : (Nat → Θ) → Nat → Prop} {HL : (Nat → Θ) → Nat → AH} {θ θ' : Nat → Θ} {m m' : Nat} {R : (Nat → Θ) → List AV} {T : List AV} {H' : AH}
    (h1 : ∀ k, k < m → θ' k = θ k) (h2 : I θ' m') (hs : SubH (HL θ' m') H') (h : Weak T (R θ')) : qpostP ds I HL θ m m' R .normal ds T H' := ⟨rfl, rfl, θ', h1, h2, hs, h⟩
/-- One that writes nothing chooses nothing. -/
theorem qpostP_same {I : (Nat → Θ) → Nat → Prop} {HL : (Nat → Θ) → Nat → AH} {θ : Nat → Θ} {m : Nat} {R : (Nat → Θ) → List AV} {T : List AV} {H' : AH}
    (h2 : I θ m) (hs : SubH (HL θ m) H') (h : Weak T (R θ)) : qpostP ds I HL θ m m R .normal ds T H' := ⟨rfl, rfl, θ, fun _ _ => rfl, h2, hs, h⟩

def HopsP (P : Program) (ro : Option Nat) (ops : Array Oper) (ds : List Deferred) (louds : List Nat) (I : (Nat → Θ) → Nat → Prop) (HL : (Nat → Θ) → Nat → AH) (n : Nat) : Nat → ((Nat → Θ) → List AV) → List Oper → List ((Nat → Θ) → AV) → Prop
  | _, _, [], [] => True
  | k, Tk, o :: l, x :: xs =>
    ((∀ θ θ' : Nat → Θ, (∀ j, j < loOf ops louds k + (bif louds.contains k then 1 else 0) → θ j = θ' j) → x θ = x θ') ∧
     ∀ (θ : Nat → Θ) (m : Nat) (T : List AV), I θ m → T.length = n → (∀ s, (readsOf ops k).contains s = true → T[s]? = (Tk θ)[s]?) → loOf ops louds k ≤ m → m ≤ hiOf ops louds k →
      AL P ro ops [o] ds T (HL θ m) (qpostP ds I HL θ m (bif louds.contains k then m + 1 else m) (fun θ' => tput T o.dst (x θ')))) ∧
    HopsP P ro ops ds louds I HL n (k + 1) (fun θ => tput (Tk θ) o.dst (x θ)) l xs
  | _, _, _, _ => False

theorem HopsP_get {louds : List Nat} {I : (Nat → Θ) → Nat → Prop} {HL : (Nat → Θ) → Nat → AH} : ∀ (l : List Oper) (xs : List ((Nat → Θ) → AV)) (k : Nat) (Tk : (Nat → Θ) → List AV) (n : Nat), HopsP P ro ops ds louds I HL n k Tk l xs → l.length = xs.length ∧
    ∀ i o, l[i]? = some o → ∃ x, xs[i]? = some x ∧ (∀ θ θ' : Nat → Θ, (∀ j, j < loOf ops louds (k + i) + (bif louds.contains (k + i) then 1 else 0) → θ j = θ' j) → x θ = x θ') ∧
      ∀ (θ : Nat → Θ) (m : Nat) (T : List AV), I θ m → T.length = n → (∀ s, (readsOf ops (k + i)).contains s = true → T[s]? = (Tfin (Tk θ) (l.take i) ((xsAt xs θ).take i))[s]?) → loOf ops louds (k + i) ≤ m → m ≤ hiOf ops louds (k + i) →
      AL P ro ops [o] ds T (HL θ m) (qpostP ds I HL θ m (bif louds.contains (k + i) then m + 1 else m) (fun θ' => tput T o.dst (x θ'))) := by
  intro l
  induction l with
  | nil => intro xs k Tk n h; cases xs with | nil => exact ⟨rfl, fun i o h => by simp at h⟩ | cons x xs => exact h.elim
  | cons o l ih =>
    intro xs k Tk n h
    cases xs with
    | nil => exact h.elim
    | cons x xs =>
      obtain ⟨⟨hd, h1⟩, h2⟩ := h
      obtain ⟨e, g⟩ := ih xs (k + 1) _ n h2
      refine ⟨by simp [e], fun i o' hi => ?_⟩
      cases i with
      | zero => simp at hi; subst hi; exact ⟨x, rfl, hd, fun θ m T hI hT hr hm hf => h1 θ m T hI hT (by simpa [Tfin] using hr) hm hf⟩
      | succ i =>
        obtain ⟨y, hy, hyd, hg⟩ := g i o' (by simpa using hi)
        rw [show k + 1 + i = k + (i + 1) by omega] at hg hyd
        refine ⟨y, by simpa using hy, hyd, fun θ m T hI hT hr hm hf => hg θ m T hI hT (fun s hs => ?_) hm hf⟩
        have := hr s hs
        simpa [Tfin, xsAt] using this

theorem TS_congr {X Y : Nat → AV} {S : List Nat} (h : ∀ j ∈ S, X j = Y j) : TS ops X T0 S = TS ops Y T0 S := by
  apply List.ext_getElem?
  intro k
  rw [TS_get, TS_get]
  congr 1
  funext x
  cases hf : S.find? (fun i => dstOf ops i == some k) with
  | none => rfl
  | some i => exact h i (List.mem_of_find?_eq_some hf)

theorem lo_cnt {louds S : List Nat} {j : Nat} (hn : louds.Nodup) (hj : j ∈ S) (hinc : ∀ i, depOf ops j i = true → i ∈ S) (hno : depOf ops j j = false) : loOf ops louds j + (bif louds.contains j then 1 else 0) ≤ cntS louds S := by
  have mono : ∀ {p q : Nat → Bool} (l : List Nat), (∀ j ∈ l, p j = true → q j = true) → (l.filter p).length ≤ (l.filter q).length := by
    intro p q l
    induction l with
    | nil => intro _; exact Nat.le_refl _
    | cons a l ihl =>
      intro h
      have ih2 := ihl fun j hj => h j (by simp [hj])
      by_cases hp : p a = true
      · rw [List.filter_cons_of_pos hp, List.filter_cons_of_pos (h a (by simp) hp)]; simp; omega
      · rw [List.filter_cons_of_neg hp]
        by_cases hq : q a = true
        · rw [List.filter_cons_of_pos hq]; simp; omega
        · rw [List.filter_cons_of_neg hq]; exact ih2
  have e1 : loOf ops louds j = cntS louds (louds.filter fun i => depOf ops j i) := by
    unfold loOf cntS
    congr 1
    refine List.filter_congr fun i hi => ?_
    cases hd : depOf ops j i <;> simp [hi, hd]
  have hnj : j ∉ louds.filter fun i => depOf ops j i := fun h => by simp [hno] at h
  have e2 := cntS_cons (louds := louds) hn hnj
  have e3 : cntS louds (j :: louds.filter fun i => depOf ops j i) ≤ cntS louds S := mono louds fun i _ h => by
    simp only [decide_eq_true_eq, List.mem_cons, List.mem_filter] at h ⊢
    rcases h with rfl | h
    · exact hj
    · exact hinc i h.2
  rw [e1]
  refine Nat.le_trans (Nat.le_of_eq ?_) e3
  rw [e2]
  cases louds.contains j <;> rfl

theorem AW_drawP' {id : Nat} {xs : List ((Nat → Θ) → AV)} (louds rk : List Nat) (I : (Nat → Θ) → Nat → Prop) (HL : (Nat → Θ) → Nat → AH) (θ0 : Nat → Θ) (hI0 : I θ0 0) (hq : loudOk ops louds rk = true) (hop : HopsP P ro ops ds louds I HL T0.length 0 (fun _ => T0) ops.toList xs)
    (h : ∀ θ, I θ louds.length → Q .normal ds (Tfin T0 ops.toList (xsAt xs θ)) (HL θ louds.length)) : AW P ro (.region id ops true) ds T0 (HL θ0 0) Q := by
  obtain ⟨hlen, hg⟩ := HopsP_get _ _ _ _ _ hop
  simp only [Nat.zero_add] at hg
  simp only [loudOk, tmpsOk, Bool.and_eq_true, List.all_eq_true] at hq
  obtain ⟨⟨⟨⟨⟨hra, hrt⟩, hrg⟩, hq⟩, hnd0⟩, hloud⟩ := hq
  have hndl : louds.Nodup := nodupB_iff _ hnd0
  have hlsz : ∀ j ∈ louds, j < ops.size := fun j hj => Nat.le_of_ble_eq_true (hloud j hj)
  have hq1 : ∀ i j k, i < ops.size → j < ops.size → dstOf ops i = some k → dstOf ops j = some k → i = j := by
    intro i j k hi hj h1 h2
    have := (hq i (by simpa using hi) j (by simpa using hj)).1
    rw [h1, h2] at this
    simp only [Bool.or_eq_true, Bool.not_eq_true'] at this
    rcases this with h | h
    · exact Nat.eq_of_beq_eq_true h
    · simp at h
  have hq2 : ∀ i j d, i < ops.size → j < ops.size → dstOf ops j = some d → (readsOf ops i).contains d = true → (j < i → depOf ops i j = true) ∧ (¬ j < i → i ≠ j ∧ depOf ops j i = true) := by
    intro i j d hi hj h1 h2
    have := (hq i (by simpa using hi) j (by simpa using hj)).2
    rw [h1] at this
    simp only [h2, Bool.not_true, Bool.false_or] at this
    by_cases hlt : j < i
    · have hb : Nat.ble (j + 1) i = true := Nat.ble_eq_true_of_le hlt
      rw [hb] at this
      exact ⟨fun _ => this, fun h => absurd hlt h⟩
    · have hb : Nat.ble (j + 1) i = false := by
        cases hbb : Nat.ble (j + 1) i with
        | false => rfl
        | true => exact absurd (Nat.le_of_ble_eq_true hbb) hlt
      rw [hb] at this
      simp only [cond_false, Bool.and_eq_true, Bool.not_eq_true'] at this
      refine ⟨fun h => absurd h hlt, fun _ => ⟨fun e => ?_, this.2⟩⟩
      subst e
      have := this.1
      simp at this
  have hdst : ∀ i k, dstOf ops i = some k → i < ops.size := by
    intro i k hi
    unfold dstOf at hi
    rcases Nat.lt_or_ge i ops.size with h | h
    · exact h
    · simp [Array.getElem?_eq_none h] at hi
  have noself : ∀ j, j < ops.size → depOf ops j j = false := fun j hj => by
    cases hd : depOf ops j j with
    | false => rfl
    | true =>
      exfalso
      unfold rankOk at hra
      rw [List.all_eq_true] at hra
      have h1 := hra j (by simpa using hj)
      unfold depOf at hd
      rw [Array.getElem?_eq_getElem hj] at h1 hd
      simp only [List.all_eq_true] at h1
      simp only [List.any_eq_true, Bool.and_eq_true] at hd
      obtain ⟨e, he, h2, h3⟩ := hd
      replace h2 : e.on = j := Nat.eq_of_beq_eq_true h2
      have h4 := h1 e he
      rw [h3, h2] at h4
      simp only [Bool.not_true, Bool.false_or, Bool.and_eq_true] at h4
      have h5 := Nat.le_of_ble_eq_true h4.2
      omega
  have hlen' : ∀ θ, ops.toList.length = (xsAt xs θ).length := fun θ => by rw [hlen, xsAt, List.length_map]
  have fin : ∀ (θ : Nat → Θ) (S : List Nat) (a : Act) (w : World), I θ (cntS louds S) → (∀ i ∈ S, i < ops.size) → (∀ i, i < ops.size → i ∈ S) → St P ds (TS ops (fun i => (xsAt xs θ).getD i .any) T0 S) (HL θ (cntS louds S)) a w → post P Q (HL θ (cntS louds S)) w .normal a w := by
    intro θ S a w hI hS hall hst
    refine ⟨ds, _, _, hst, .refl _ _, ?_⟩
    have e1 : TS ops (fun i => (xsAt xs θ).getD i .any) T0 S = Tfin T0 ops.toList (xsAt xs θ) := by
      have e2 := Tfin_TS (T0 := T0) (hlen' θ) ops.size (Nat.le_refl _)
      rw [show ops.toList.take ops.size = ops.toList from List.take_of_length_le (by simp), show (xsAt xs θ).take ops.size = xsAt xs θ from List.take_of_length_le (by rw [← hlen' θ]; simp)] at e2
      rw [e2]
      apply List.ext_getElem?
      intro k
      rw [TS_get, TS_get]
      congr 1
      funext x
      by_cases hk : ∃ j, dstOf ops j = some k
      · obtain ⟨j, hj⟩ := hk
        rw [find_mem (fun i j h1 h2 _ => hq1 i j k (hdst _ _ h1) (hdst _ _ h2) h1 h2) hj, find_mem (fun i j h1 h2 _ => hq1 i j k (hdst _ _ h1) (hdst _ _ h2) h1 h2) hj, if_pos (hall j (hdst _ _ hj)), if_pos (by simpa using hdst _ _ hj)]
      · have hno : ∀ S : List Nat, S.find? (fun i => dstOf ops i == some k) = none := fun S => by
          rw [List.find?_eq_none]; intro i _ hi; exact hk ⟨i, by simpa using hi⟩
        rw [hno, hno]
    have e3 : cntS louds S = louds.length := by
      unfold cntS
      rw [List.filter_eq_self.2 (fun j hj => ?_)]
      have hjl := hall j
      by_cases hjs : j < ops.size
      · simpa using hall j hjs
      · exfalso; exact hjs (hlsz j hj)
    rw [e3] at hI
    rw [e1, e3]; exact h θ hI
  -- the walk over a schedule
  have key : ∀ (md : Region.Mode) (rkm : List Nat), rankOk ops md rkm = true → (∀ e, Region.binds .any e = true → Region.binds md e = true) → ∀ (fuel t : Nat) (listed : Array Bool) (θ : Nat → Θ) (S : List Nat) (a : Act) (w : World), I θ (cntS louds S) → listed.size = ops.size → (∀ i, i < ops.size → (listed.getD i true = true ↔ i ∈ S)) → (∀ i ∈ S, i < ops.size) →
      (∀ i ∈ S, ∀ j, depOf ops i j = true → j ∈ S) → ops.size ≤ fuel + S.length → S.Nodup → St P ds (TS ops (fun i => (xsAt xs θ).getD i .any) T0 S) (HL θ (cntS louds S)) a w →
      wpOpsIn (fen ro) 0 P ops (post P Q (HL θ (cntS louds S)) w) (Region.linearise.go md ops fuel t listed []) a w := by
    intro md rkm hrk hbind fuel
    induction fuel with
    | zero =>
      intro t listed θ S a w hI hsz hls hS hcl hfuel hnd hst
      simp only [Region.linearise.go, List.reverse_nil, wpOpsIn]
      refine fin θ S a w hI hS (fun i hi => ?_) hst
      by_cases hm : i ∈ S
      · exact hm
      · exfalso
        have := pig ops.size (i :: S) (List.nodup_cons.2 ⟨hm, hnd⟩) (fun j hj => by simp only [List.mem_cons] at hj; rcases hj with rfl | hj; exact hi; exact hS j hj)
        simp at this; omega
    | succ fuel ih =>
      intro t listed θ S a w hI hsz hls hS hcl hfuel hnd hst
      simp only [Region.linearise.go]
      split
      · rename_i i hi
        rw [go_append]
        simp only [List.reverse_cons, List.reverse_nil, List.nil_append, List.cons_append]
        have hmem := List.mem_of_getElem? hi
        simp only [List.mem_filter, List.mem_range, Bool.and_eq_true, Bool.not_eq_true'] at hmem
        obtain ⟨hin, hnl, hdeps⟩ := hmem
        have hiS : i ∉ S := fun hm => by rw [(hls i hin).2 hm] at hnl; cases hnl
        obtain ⟨o, ho⟩ : ∃ o, ops[i]? = some o := ⟨ops[i], Array.getElem?_eq_getElem hin⟩
        rw [ho] at hdeps
        simp only [Option.map_some, Option.getD_some] at hdeps
        have hpre : ∀ j, depOf ops i j = true → j ∈ S := by
          intro j hj
          unfold depOf at hj
          rw [ho] at hj
          simp only [List.any_eq_true, Bool.and_eq_true] at hj
          obtain ⟨e, he, h1, h2⟩ := hj
          replace h1 : e.on = j := Nat.eq_of_beq_eq_true h1
          rw [Array.all_eq_true_iff_forall_mem] at hdeps
          have := hdeps e (by simpa using he)
          rw [hbind e h2] at this
          simp only [Bool.not_true, Bool.false_or] at this
          rw [h1] at this
          have hjlt : j < ops.size := by
            rcases Nat.lt_or_ge j ops.size with h | h
            · exact h
            · rw [Array.getD_eq_getD_getElem?, Array.getElem?_eq_none (by omega)] at this; simp at this
          have h3 : listed.getD j true = true := by
            rw [Array.getD_eq_getD_getElem?] at this ⊢
            rw [Array.getElem?_eq_getElem (by omega)] at this ⊢
            simpa using this
          exact (hls j hjlt).1 h3
        obtain ⟨x, hx, hdep, hop⟩ := hg i o (by simpa using ho)
        have hflen : ∀ {p q : Nat → Bool} (l : List Nat), (∀ j ∈ l, p j = true → q j = true) → (l.filter p).length ≤ (l.filter q).length := by
          intro p q l
          induction l with
          | nil => intro _; exact Nat.le_refl _
          | cons a l ihl =>
            intro h
            have ih2 := ihl fun j hj => h j (by simp [hj])
            by_cases hp : p a = true
            · rw [List.filter_cons_of_pos hp, List.filter_cons_of_pos (h a (by simp) hp)]; simp; omega
            · rw [List.filter_cons_of_neg hp]
              by_cases hq : q a = true
              · rw [List.filter_cons_of_pos hq]; simp; omega
              · rw [List.filter_cons_of_neg hq]; exact ih2
        have hlo : loOf ops louds i ≤ cntS louds S := hflen louds fun j _ hj => by simpa using hpre j hj
        have hhi : cntS louds S ≤ hiOf ops louds i := hflen louds fun j _ hj => by
          have hjS : j ∈ S := by simpa using hj
          have h1 : depOf ops j i = false := by
            cases hd : depOf ops j i with
            | false => rfl
            | true => exact absurd (hcl j hjS i hd) hiS
          have h2 : Nat.beq i j = false := by
            cases hb : Nat.beq i j with
            | false => rfl
            | true => exact absurd (Nat.eq_of_beq_eq_true hb ▸ hjS) hiS
          rw [h1, h2]; rfl
        have hal := hop θ (cntS louds S) (TS ops (fun i => (xsAt xs θ).getD i .any) T0 S) hI (TS_length _ _ _ _) (fun s hs => by
          rw [Tfin_TS (hlen' θ) i (by omega), TS_get, TS_get]
          congr 1
          funext y
          by_cases hk : ∃ j, dstOf ops j = some s
          · obtain ⟨j, hj⟩ := hk
            have hjn := hdst _ _ hj
            rw [find_mem (fun i j h1 h2 _ => hq1 i j s (hdst _ _ h1) (hdst _ _ h2) h1 h2) hj, find_mem (fun i j h1 h2 _ => hq1 i j s (hdst _ _ h1) (hdst _ _ h2) h1 h2) hj]
            obtain ⟨q1, q2⟩ := hq2 i j s hin hjn hj hs
            by_cases hlt : j < i
            · rw [if_pos (hpre j (q1 hlt)), if_pos (by simpa using hlt)]
            · have := q2 hlt
              rw [if_neg (fun hm => hiS (hcl j hm i this.2)), if_neg (by simpa using hlt)]
          · have hno : ∀ S : List Nat, S.find? (fun i => dstOf ops i == some s) = none := fun S => by
              rw [List.find?_eq_none]; intro i _ hi; exact hk ⟨i, by simpa using hi⟩
            rw [hno, hno]) hlo hhi
        refine wpOpsIn_cons ho a w ?_
        refine wpListIn_mono ?_ (fun _ => trivial) _ _ _ (hal a w hst)
        rintro e a1 w1 ⟨ds1, T1, H1, s1, k1, rfl, rfl, θ', hθ, hI', hs1, hw1⟩
        rw [← cntS_cons hndl hiS] at hI' hs1
        have s2 := (s1.weak hw1).sub hs1
        have k1 := Step.sub hs1 k1
        have hd : o.dst = dstOf ops i := by simp [dstOf, ho]
        have hxe : x θ' = (xsAt xs θ').getD i .any := by simp [xsAt, List.getD_eq_getElem?_getD, hx]
        have hsame : TS ops (fun i => (xsAt xs θ).getD i .any) T0 S = TS ops (fun i => (xsAt xs θ').getD i .any) T0 S := TS_congr fun j hj => by
          have hjn := hS j hj
          obtain ⟨y, hy, hdj, _⟩ := hg j ops[j] (by simp)
          have e1 : ∀ θ, (xsAt xs θ).getD j .any = y θ := fun θ => by simp [xsAt, List.getD_eq_getElem?_getD, hy]
          rw [e1, e1]
          refine hdj _ _ fun k hk => (hθ k (Nat.lt_of_lt_of_le hk ?_)).symm
          have hinc : ∀ j', depOf ops j j' = true → j' ∈ S := hcl j hj
          exact lo_cnt hndl hj hinc (noself j hjn)
        simp only [hd] at s2
        rw [hxe, hsame] at s2
        rw [← TS_cons (ops := ops) (X := fun i => (xsAt xs θ').getD i .any)] at s2
        have hrun := fun t' => ih t' (listed.setIfInBounds i true) θ' (i :: S) a1 w1 hI' (by simpa using hsz) (fun j hj => by
            rw [Array.getD_eq_getD_getElem?, Array.getElem?_setIfInBounds]
            by_cases e : i = j
            · subst e; rw [if_pos rfl, if_pos (by omega)]; simp
            · rw [if_neg e]
              have := hls j hj
              rw [Array.getD_eq_getD_getElem?] at this
              rw [this]; simp [Ne.symm e])
          (fun j hj => by simp only [List.mem_cons] at hj; rcases hj with rfl | hj; exact hin; exact hS j hj)
          (fun j hj q hq => by
            simp only [List.mem_cons] at hj ⊢
            rcases hj with rfl | hj
            · exact .inr (hpre q hq)
            · exact .inr (hcl j hj q hq))
          (by simp; omega) (List.nodup_cons.2 ⟨hiS, hnd⟩) s2
        exact wpOpsIn_back k1 _ _ _ (hrun _)
      · -- nothing is ready: all has been carried out
        rename_i hnone
        simp only [List.reverse_nil, wpOpsIn]
        have hempty : ∀ i, i < ops.size → i ∈ S := by
          intro i
          generalize hrki : rkm.getD i 0 = r
          induction r using Nat.strongRecOn generalizing i with
          | _ r ihi =>
            intro hi
            by_cases hm : i ∈ S
            · exact hm
            · exfalso
              have hin : i ∈ (List.range ops.size).filter fun i => !listed.getD i true && ((ops[i]?).map (·.after.all fun e => !Region.binds md e || listed.getD e.on false)).getD false := by
                simp only [List.mem_filter, List.mem_range, Bool.and_eq_true, Bool.not_eq_true']
                refine ⟨hi, ?_, ?_⟩
                · cases hb : listed.getD i true with
                  | false => rfl
                  | true => exact absurd ((hls i hi).1 hb) hm
                · have ho : ops[i]? = some ops[i] := Array.getElem?_eq_getElem hi
                  rw [ho]
                  simp only [Option.map_some, Option.getD_some]
                  rw [Array.all_eq_true_iff_forall_mem]
                  intro e he
                  cases hb : Region.binds md e with
                  | false => rfl
                  | true =>
                    unfold rankOk at hrk
                    rw [List.all_eq_true] at hrk
                    have hd := hrk i (by simpa using hi)
                    rw [ho] at hd
                    simp only [List.all_eq_true] at hd
                    have hd2 := hd e (by simpa using he)
                    rw [hb] at hd2
                    simp only [Bool.not_true, Bool.false_or, Bool.and_eq_true] at hd2
                    have hsz2 : e.on < ops.size := Nat.le_of_ble_eq_true hd2.1
                    have hlt : rkm.getD e.on 0 < rkm.getD i 0 := Nat.le_of_ble_eq_true hd2.2
                    have hmem := ihi _ (hrki ▸ hlt) e.on rfl hsz2
                    have h3 := (hls e.on hsz2).2 hmem
                    rw [Array.getD_eq_getD_getElem?, Array.getElem?_eq_getElem (by omega)] at h3 ⊢
                    simpa using h3
              rw [List.getElem?_eq_none_iff] at hnone
              have hpos := List.length_pos_of_mem hin
              have := Nat.mod_lt t hpos
              omega
        exact fin θ S a w hI hS hempty hst
  intro a w hst
  refine wpIn_region_draw fun t => ?_
  have hst1 : St P ds (TS ops (fun i => (xsAt xs θ0).getD i .any) T0 []) (HL θ0 (cntS louds [])) a w.drew := by
    have e0 : cntS louds [] = 0 := by simp [cntS]
    rw [TS_nil, e0]
    exact ⟨hst.defers, hst.size, fun k x hx => let ⟨u, h1, h2⟩ := hst.vals k x hx; ⟨u, h1, h2.step (Step.drew' _ w)⟩, fun b o hb => (hst.heap b o hb).keep (Step.drew' _ w) rfl⟩
  have hrun : ∀ (md : Region.Mode) (rkm : List Nat), rankOk ops md rkm = true → (∀ e, Region.binds .any e = true → Region.binds md e = true) → ∀ t, wpOpsIn (fen ro) 0 P ops (post P Q (HL θ0 0) w) (Region.linearise md ops t) a w.drew := fun md rkm hrk hb t => by
    have e0 : cntS louds [] = 0 := by simp [cntS]
    have hk := key md rkm hrk hb ops.size t (Array.replicate ops.size false) θ0 [] a w.drew (by rw [e0]; exact hI0) (by simp) (fun i hi => by simp [Array.getD_eq_getD_getElem?, hi]) (fun i hi => by simp at hi) (fun i hi => by simp at hi) (by simp) List.nodup_nil hst1
    rw [e0] at hk
    exact wpOpsIn_back (Step.drew' _ w) _ _ _ hk
  unfold Region.schedule
  split
  · exact hrun .any _ hra (fun _ h => h) t
  · split
    · exact hrun .text _ hrt (fun e h => binds_any _ e h) _
    · exact hrun .gc _ hrg (fun e h => binds_any _ e h) _

theorem AW_drawP {id : Nat} {l : List Oper} {xs : List ((Nat → Θ) → AV)} (louds rk : List Nat) (I : (Nat → Θ) → Nat → Prop) (HL : (Nat → Θ) → Nat → AH) (θ0 : Nat → Θ) (hI0 : I θ0 0) (hH : HL θ0 0 = H) (hq : loudOk l.toArray louds rk = true) (hop : HopsP P ro l.toArray ds louds I HL T0.length 0 (fun _ => T0) l xs)
    (h : ∀ θ, I θ louds.length → Q .normal ds (Tfin T0 l (xsAt xs θ)) (HL θ louds.length)) : AW P ro (.region id l.toArray true) ds T0 H Q := by
  subst hH
  exact AW_drawP' louds rk I HL θ0 hI0 hq (by simpa using hop) (fun θ hθ => by simpa using h θ hθ)

def setT (θ : Nat → Θ) (m : Nat) (v : Θ) : Nat → Θ := fun k => if k = m then v else θ k
theorem setT_same {θ : Nat → Θ} {m : Nat} {v : Θ} : setT θ m v m = v := if_pos rfl
theorem setT_ne {θ : Nat → Θ} {m k : Nat} {v : Θ} (h : k ≠ m) : setT θ m v k = θ k := if_neg h
theorem setT_lt {θ : Nat → Θ} {m : Nat} {v : Θ} : ∀ k, k < m → setT θ m v k = θ k := fun k h => if_neg (Nat.ne_of_lt h)
theorem HopsP_nil {louds : List Nat} {I : (Nat → Θ) → Nat → Prop} {HL : (Nat → Θ) → Nat → AH} {n k : Nat} {Tk : (Nat → Θ) → List AV} : HopsP P ro ops ds louds I HL n k Tk [] [] := trivial
theorem HopsP_cons {louds : List Nat} {I : (Nat → Θ) → Nat → Prop} {HL : (Nat → Θ) → Nat → AH} {n k : Nat} {Tk : (Nat → Θ) → List AV} {o : Oper} {l : List Oper} {x : (Nat → Θ) → AV} {xs : List ((Nat → Θ) → AV)}
    (h1 : ∀ (θ : Nat → Θ) (m : Nat) (T : List AV), I θ m → T.length = n → (∀ s, (readsOf ops k).contains s = true → T[s]? = (Tk θ)[s]?) → loOf ops louds k ≤ m → m ≤ hiOf ops louds k →
      AL P ro ops [o] ds T (HL θ m) (qpostP ds I HL θ m (bif louds.contains k then m + 1 else m) (fun θ' => tput T o.dst (x θ'))))
    (h0 : ∀ θ θ' : Nat → Θ, (∀ j, j < loOf ops louds k + (bif louds.contains k then 1 else 0) → θ j = θ' j) → x θ = x θ')
    (h2 : HopsP P ro ops ds louds I HL n (k + 1) (fun θ => tput (Tk θ) o.dst (x θ)) l xs) : HopsP P ro ops ds louds I HL n k Tk (o :: l) (x :: xs) := ⟨⟨h0, h1⟩, h2⟩
theorem HopsP_norm {louds : List Nat} {I : (Nat → Θ) → Nat → Prop} {HL : (Nat → Θ) → Nat → AH} {n k : Nat} {Tk Tk' : (Nat → Θ) → List AV} {l : List Oper} {xs : List ((Nat → Θ) → AV)} (e : ∀ θ, Tk θ = Tk' θ)
    (h : HopsP P ro ops ds louds I HL n k Tk' l xs) : HopsP P ro ops ds louds I HL n k Tk l xs := (funext e : Tk = Tk') ▸ h
end
end Go.AL

/- Short names for what the printed scripts say over and over. -/
set_option autoImplicit false
set_option linter.unusedVariables false
namespace Go.AL
open Go Go.RowKit

theorem LK {p : Prop} (h : p := by repeat (first | exact AH.upd_same _ _ _ | exact hH | assumption | refine AH.look_other (by assumption) ?_)) : p := h
theorem SU {p : Prop} (h : p := by repeat (first | exact SubH.refl _ | refine SubH.upd ?_ (by assumption))) : p := h
theorem TN {p : Prop} (h : p := by first | (simp only [tput, anyAt, setAll, List.foldl_cons, List.foldl_nil, List.set_cons_zero, List.set_cons_succ]; rfl) | rfl) : p := h
theorem TO {p : Prop} (h : p := by first | (simp only [tput, List.set_cons_zero, List.set_cons_succ]; rfl) | rfl) : p := h
theorem TP {p : Prop} (h : p := by simp only [List.length_cons, List.length_nil, Nat.reduceAdd, Nat.reduceSub, List.replicate, List.cons_append, List.nil_append]; rfl) : p := h
theorem HS {p : Prop} (h : p := by first | assumption | exact Holds.sub hT (by repeat (first | exact SubH.refl _ | assumption | refine SubH.upd ?_ (by assumption) | refine SubH.trans ?_ (Fresh.subH (by assumption)))) | (repeat (first | assumption | refine Holds.upd ?_ (by first | assumption | repeat (first | assumption | refine AH.look_other (by assumption) ?_))))) : p := h
end Go.AL

/- Steps of the printed scripts that find their own facts: one name for a run of plain operations, one for what stands between regions. -/
set_option autoImplicit false
set_option linter.unusedVariables false
namespace Go.AL
open Go Go.RowKit

/-! facts about a program's types, found by the type's number -/
class FSz (P : Program) (t : TypeId) (n : outParam Nat) : Prop where h : szOf P t = some n
class FAg (P : Program) (t : TypeId) (b : outParam Bool) : Prop where h : aggOf P t = some b
class FFl (P : Program) (t : TypeId) (f : Nat) (ft : outParam TypeId) (off : outParam Nat) : Prop where h : fldOf P t f = some (ft, off)
class FZe (P : Program) (t : TypeId) (z : outParam Value) : Prop where h : zeroOf P t = some z
class FUn (P : Program) (t : TypeId) (u : outParam TypeDesc) : Prop where h : P.underlying t = some u
class FIn (P : Program) (t : TypeId) (z : outParam Value) (n : outParam Nat) (b : outParam Nat) : Prop where h : infoOf P t = some (some z, n, b)
class FEn (P : Program) (f : FuncId) : Prop where h : entersOf P f = true

section
variable {P : Program} {ro : Option Nat} {ds : List Deferred} {T : List AV} {H : AH} {Q : Post} {ops : Array Oper} {rest : List Oper}
variable {d : Option Tmp} {ty : TypeId} {pos : String} {af : Array Edge} {s s' : Operand} {x y : AV}

/-- A value that is boxed and read only from then on. -/
theorem AL_boxf {t : TypeId} {n : Nat} {d : Tmp} (hy : ev T s = some y) (hm : y.mem = true) (hs : szOf P t = some n) (hn : y.cells.length = n) (hd : d < T.length)
    (h : AL P ro ops rest ds (T.set d (.rp t y)) H Q) : AL P ro ops (⟨some d, .box t s, ty, pos, af, none⟩ :: rest) ds T H Q :=
  AL_box hy hm hs hn fun b hb => by
    refine AL_frzpt d (x := y) (b := b) (n := n) (by simp only [tput]; rw [List.getElem?_set_self hd]) (AH.upd_same _ _ _) ?_
    refine AL_heap (AH.upd_none_eq hb) ?_
    simp only [tput, List.set_set]
    exact h
end

/-- The arguments of a call whose abstract values are known. -/
theorem XA {p : Prop} (h : p := by repeat (first | exact .nil | refine .cons (.ev rfl) ?_ | refine .cons (.nil rfl) ?_)) : p := h
/-- What a write puts there. -/
theorem XV {p : Prop} (h : p := by first | exact .ev rfl | exact .nil rfl) : p := h

/-! Steps as implications: what is left implies what is asked. -/
theorem tr {a b c : Prop} (f : b → c) (g : a → b) : a → c := fun x => f (g x)
/-- One operation. -/
theorem go1 {p r : Prop} (h : r → p := by
  first
  | exact tr (fun k => AL_move rfl k) (AL_norm TN)
  | exact tr (fun k => AL_assign rfl k) (AL_norm TN)
  | exact tr (fun k => AL_extract rfl rfl k) (AL_norm TN)
  | exact tr (fun k => AL_not rfl k) (AL_norm TN)
  | exact tr (fun k => AL_load_rp FSz.h rfl FAg.h k) (AL_norm TN)
  | exact tr (AL_loadw FSz.h (by exact rfl) LK (by exact FAg.h) (by exact rfl)) (AL_norm TN)
  | exact tr (AL_load_pt FAg.h FSz.h (by decide) (by exact rfl) LK (by exact FSz.h) (by exact rfl) (by exact rfl) (by exact rfl)) (AL_norm TN)
  | exact tr (fun k => AL_eql rfl rfl k) (AL_norm TN)
  | exact tr (fun k => AL_neq rfl rfl k) (AL_norm TN)
  | exact tr (fun k => AL_lss rfl rfl k) (AL_norm TN)
  | exact tr (fun k => AL_leq rfl rfl k) (AL_norm TN)
  | exact tr (fun k => AL_gtr rfl rfl k) (AL_norm TN)
  | exact tr (fun k => AL_geq rfl rfl k) (AL_norm TN)
  | exact tr (fun k => AL_fieldAddr_pt FFl.h FSz.h (by decide) rfl k) (AL_norm TN)
  | exact tr (fun k => AL_fieldAddr_rp FFl.h FAg.h FSz.h (by decide) (by decide) rfl rfl (fun h => by first | rfl | cases h) k) (AL_norm TN)
  | exact tr (fun k => AL_field FFl.h FAg.h FSz.h rfl rfl k) (AL_norm TN)
  | exact tr (fun k => AL_len_sl FUn.h rfl k) (AL_norm TN)
  | exact tr (fun k => AL_len_own FUn.h rfl k) (AL_norm TN)
  | exact tr (fun k => AL_len_str FUn.h rfl k) (AL_norm TN)
  | exact tr (fun k => AL_seql rfl rfl k) (AL_norm TN)
  | exact tr (fun k => AL_sneq rfl rfl k) (AL_norm TN)
  | exact tr (fun k => AL_nilCheck rfl trivial k) (AL_norm TN)) : r → p := h
/-- A write. -/
theorem GW {p r : Prop} (k : r) (h : r → p := by
  first
  | exact tr (AL_store_w FSz.h (by exact rfl) XV (by exact rfl) LK (by exact rfl) (by exact rfl)) (tr (AL_norm TN) (AL_heap (by first | (simp only [AH.upd_upd]; rfl) | rfl)))
  | exact tr (AL_store (by exact rfl) XV (by exact rfl) LK (by exact FSz.h) (by exact rfl) (by exact FSz.h) (by exact rfl) (by decide) (fun h => by first | (cases h; done) | exact ⟨rfl, rfl, rfl⟩)) (tr (AL_norm TN) (AL_heap (by first | (simp only [AH.upd_upd]; rfl) | rfl)))) : p := h k
/-- A value that is boxed, and only read. -/
theorem GF {p r : Prop} (k : r) (h : r → p := by
  exact tr (AL_boxf (by exact rfl) (by exact rfl) FSz.h (by exact rfl) (by first | decide | simp)) (AL_norm TN)) : p := h k
/-- What stands between two regions. -/
theorem gc1 {p r : Prop} (h : r → p := by
  first | exact fun k => AL_nil k | exact fun k => seqQ_n k | exact fun k => AW_seq k | exact fun k => AW_region k | exact fun k => blockQ_hit k | exact fun k => blockQ_miss (by decide) k | exact fun k => AW_skip k | exact fun k => AW_exit k | exact fun k => AW_ret k | exact fun k => seqQ_x k | exact fun k => seqQ_r k | exact fun k => blockQ_n k | exact fun k => blockQ_r k) : r → p := h
theorem WK {p : Prop} (h : p := by (try simp only [tput, anyAt, setAll, List.foldl_cons, List.foldl_nil, List.set_cons_zero, List.set_cons_succ]); repeat (first | exact Weak.nil | refine Weak.cons ?_ | refine Weak.consAny ?_)) : p := h
/-- What a guard leaves. -/
theorem GS {p r : Prop} (k : r) (h : r → p := by simp only [List.take_succ_cons, List.take_zero, List.map_cons, List.map_nil, strip, Nat.reduceBEq, beq_self_eq_true, Bool.and_self, Bool.true_and, Bool.false_and, cond_true, cond_false]; exact fun k => k) : p := h k
theorem ev_hr {T Tk : List AV} {t : Tmp} {x : AV} {c : Nat → Bool} (hr : ∀ s, c s = true → T[s]? = Tk[s]?) (hc : c t = true) (hx : Tk[t]? = some x) : ev T (.tmp t) = some x := (hr t hc).trans hx
/-- One operation of a region that draws its order. -/
theorem ghq {P : Program} {ro : Option Nat} {ds : List Deferred} {T : List AV} {H : AH} {R : List AV} {ops : Array Oper} (hR : T = R) : AL P ro ops [] ds T H (qpost ds H R) := AL_nil (qpost_mk (hR ▸ Weak.refl _))
/-- One operation of a region that draws its order, alone. -/
theorem gho {P : Program} {ro : Option Nat} {ops : Array Oper} {ds : List Deferred} {H : AH} {n k : Nat} {Tk : List AV} {o : Oper} {x : AV} (h : ∀ T : List AV, T.length = n → (∀ s, (readsOf ops k).contains s = true → T[s]? = Tk[s]?) → AL P ro ops [o] ds T H (qpost ds H (tput T o.dst x)) := by
  intro T hl hr
  first
  | refine AL_move (by first | exact rfl | exact ev_hr hr (by kernel_rfl) rfl) ?_
  | refine AL_assign (by first | exact rfl | exact ev_hr hr (by kernel_rfl) rfl) ?_
  | refine AL_load_rp FSz.h (by first | exact rfl | exact ev_hr hr (by kernel_rfl) rfl) (by exact FAg.h) ?_
  | refine AL_loadw FSz.h (by first | exact rfl | exact ev_hr hr (by kernel_rfl) rfl) LK (by exact FAg.h) (by exact rfl) ?_
  | refine AL_load_pt FAg.h FSz.h (by decide) (by first | exact rfl | exact ev_hr hr (by kernel_rfl) rfl) LK (by exact FSz.h) (by exact rfl) (by exact rfl) (by exact rfl) ?_
  | refine AL_fieldAddr_pt FFl.h FSz.h (by decide) (by first | exact rfl | exact ev_hr hr (by kernel_rfl) rfl) ?_
  | refine AL_fieldAddr_rp FFl.h FAg.h FSz.h (by decide) (by decide) (by first | exact rfl | exact ev_hr hr (by kernel_rfl) rfl) (by exact rfl) (fun h => by first | rfl | cases h) ?_
  | refine AL_len_sl FUn.h (by first | exact rfl | exact ev_hr hr (by kernel_rfl) rfl) ?_
  | refine AL_len_own FUn.h (by first | exact rfl | exact ev_hr hr (by kernel_rfl) rfl) ?_
  | refine AL_len_str FUn.h (by first | exact rfl | exact ev_hr hr (by kernel_rfl) rfl) ?_
  | refine AL_extract (by first | exact rfl | exact ev_hr hr (by kernel_rfl) rfl) (by exact rfl) ?_
  | refine AL_nilCheck (by first | exact rfl | exact ev_hr hr (by kernel_rfl) rfl) (by exact trivial) ?_
  | refine AL_eql (by first | exact rfl | exact ev_hr hr (by kernel_rfl) rfl) (by first | exact rfl | exact ev_hr hr (by kernel_rfl) rfl) ?_
  | refine AL_neq (by first | exact rfl | exact ev_hr hr (by kernel_rfl) rfl) (by first | exact rfl | exact ev_hr hr (by kernel_rfl) rfl) ?_
  refine AL_nil ?_
  refine qpost_mk ?_
  exact Weak.refl _) : ∀ T : List AV, T.length = n → (∀ s, (readsOf ops k).contains s = true → T[s]? = Tk[s]?) → AL P ro ops [o] ds T H (qpost ds H (tput T o.dst x)) := h
theorem gh1 {p r : Prop} (h : r → p := by exact tr (Hops_cons gho) (Hops_norm TO)) : r → p := h
theorem gc2 {p r : Prop} (h : r → p := by exact tr gc1 gc1) : r → p := h
theorem gc3 {p r : Prop} (h : r → p := by exact tr gc1 gc2) : r → p := h
theorem gc4 {p r : Prop} (h : r → p := by exact tr gc2 gc2) : r → p := h
theorem gc5 {p r : Prop} (h : r → p := by exact tr gc2 gc3) : r → p := h
theorem gc6 {p r : Prop} (h : r → p := by exact tr gc3 gc3) : r → p := h
theorem gc7 {p r : Prop} (h : r → p := by exact tr gc3 gc4) : r → p := h
theorem gc8 {p r : Prop} (h : r → p := by exact tr gc4 gc4) : r → p := h
theorem gc9 {p r : Prop} (h : r → p := by exact tr gc4 gc5) : r → p := h
theorem gc10 {p r : Prop} (h : r → p := by exact tr gc5 gc5) : r → p := h
theorem gc11 {p r : Prop} (h : r → p := by exact tr gc5 gc6) : r → p := h
theorem gc12 {p r : Prop} (h : r → p := by exact tr gc6 gc6) : r → p := h
theorem gc13 {p r : Prop} (h : r → p := by exact tr gc6 gc7) : r → p := h
theorem gc14 {p r : Prop} (h : r → p := by exact tr gc7 gc7) : r → p := h
theorem gc15 {p r : Prop} (h : r → p := by exact tr gc7 gc8) : r → p := h
theorem gc16 {p r : Prop} (h : r → p := by exact tr gc8 gc8) : r → p := h
theorem gc17 {p r : Prop} (h : r → p := by exact tr gc8 gc9) : r → p := h
theorem gc18 {p r : Prop} (h : r → p := by exact tr gc9 gc9) : r → p := h
theorem gc19 {p r : Prop} (h : r → p := by exact tr gc9 gc10) : r → p := h
theorem gc20 {p r : Prop} (h : r → p := by exact tr gc10 gc10) : r → p := h
theorem gc21 {p r : Prop} (h : r → p := by exact tr gc10 gc11) : r → p := h
theorem gc22 {p r : Prop} (h : r → p := by exact tr gc11 gc11) : r → p := h
theorem gc23 {p r : Prop} (h : r → p := by exact tr gc11 gc12) : r → p := h
theorem gc24 {p r : Prop} (h : r → p := by exact tr gc12 gc12) : r → p := h
theorem GC1 {p r : Prop} (k : r) (h : r → p := by exact gc1) : p := h k
theorem GC2 {p r : Prop} (k : r) (h : r → p := by exact gc2) : p := h k
theorem GC3 {p r : Prop} (k : r) (h : r → p := by exact gc3) : p := h k
theorem GC4 {p r : Prop} (k : r) (h : r → p := by exact gc4) : p := h k
theorem GC5 {p r : Prop} (k : r) (h : r → p := by exact gc5) : p := h k
theorem GC6 {p r : Prop} (k : r) (h : r → p := by exact gc6) : p := h k
theorem GC7 {p r : Prop} (k : r) (h : r → p := by exact gc7) : p := h k
theorem GC8 {p r : Prop} (k : r) (h : r → p := by exact gc8) : p := h k
theorem GC9 {p r : Prop} (k : r) (h : r → p := by exact gc9) : p := h k
theorem GC10 {p r : Prop} (k : r) (h : r → p := by exact gc10) : p := h k
theorem GC11 {p r : Prop} (k : r) (h : r → p := by exact gc11) : p := h k
theorem GC12 {p r : Prop} (k : r) (h : r → p := by exact gc12) : p := h k
theorem GC13 {p r : Prop} (k : r) (h : r → p := by exact gc13) : p := h k
theorem GC14 {p r : Prop} (k : r) (h : r → p := by exact gc14) : p := h k
theorem GC15 {p r : Prop} (k : r) (h : r → p := by exact gc15) : p := h k
theorem GC16 {p r : Prop} (k : r) (h : r → p := by exact gc16) : p := h k
theorem GC17 {p r : Prop} (k : r) (h : r → p := by exact gc17) : p := h k
theorem GC18 {p r : Prop} (k : r) (h : r → p := by exact gc18) : p := h k
theorem GC19 {p r : Prop} (k : r) (h : r → p := by exact gc19) : p := h k
theorem GC20 {p r : Prop} (k : r) (h : r → p := by exact gc20) : p := h k
theorem GC21 {p r : Prop} (k : r) (h : r → p := by exact gc21) : p := h k
theorem GC22 {p r : Prop} (k : r) (h : r → p := by exact gc22) : p := h k
theorem GC23 {p r : Prop} (k : r) (h : r → p := by exact gc23) : p := h k
theorem GC24 {p r : Prop} (k : r) (h : r → p := by exact gc24) : p := h k
theorem go2 {p r : Prop} (h : r → p := by exact tr go1 go1) : r → p := h
theorem go3 {p r : Prop} (h : r → p := by exact tr go1 go2) : r → p := h
theorem go4 {p r : Prop} (h : r → p := by exact tr go2 go2) : r → p := h
theorem go5 {p r : Prop} (h : r → p := by exact tr go2 go3) : r → p := h
theorem go6 {p r : Prop} (h : r → p := by exact tr go3 go3) : r → p := h
theorem go7 {p r : Prop} (h : r → p := by exact tr go3 go4) : r → p := h
theorem go8 {p r : Prop} (h : r → p := by exact tr go4 go4) : r → p := h
theorem go9 {p r : Prop} (h : r → p := by exact tr go4 go5) : r → p := h
theorem go10 {p r : Prop} (h : r → p := by exact tr go5 go5) : r → p := h
theorem go11 {p r : Prop} (h : r → p := by exact tr go5 go6) : r → p := h
theorem go12 {p r : Prop} (h : r → p := by exact tr go6 go6) : r → p := h
theorem go13 {p r : Prop} (h : r → p := by exact tr go6 go7) : r → p := h
theorem go14 {p r : Prop} (h : r → p := by exact tr go7 go7) : r → p := h
theorem go15 {p r : Prop} (h : r → p := by exact tr go7 go8) : r → p := h
theorem go16 {p r : Prop} (h : r → p := by exact tr go8 go8) : r → p := h
theorem go17 {p r : Prop} (h : r → p := by exact tr go8 go9) : r → p := h
theorem go18 {p r : Prop} (h : r → p := by exact tr go9 go9) : r → p := h
theorem go19 {p r : Prop} (h : r → p := by exact tr go9 go10) : r → p := h
theorem go20 {p r : Prop} (h : r → p := by exact tr go10 go10) : r → p := h
theorem go21 {p r : Prop} (h : r → p := by exact tr go10 go11) : r → p := h
theorem go22 {p r : Prop} (h : r → p := by exact tr go11 go11) : r → p := h
theorem go23 {p r : Prop} (h : r → p := by exact tr go11 go12) : r → p := h
theorem go24 {p r : Prop} (h : r → p := by exact tr go12 go12) : r → p := h
theorem go25 {p r : Prop} (h : r → p := by exact tr go12 go13) : r → p := h
theorem go26 {p r : Prop} (h : r → p := by exact tr go13 go13) : r → p := h
theorem go27 {p r : Prop} (h : r → p := by exact tr go13 go14) : r → p := h
theorem go28 {p r : Prop} (h : r → p := by exact tr go14 go14) : r → p := h
theorem go29 {p r : Prop} (h : r → p := by exact tr go14 go15) : r → p := h
theorem go30 {p r : Prop} (h : r → p := by exact tr go15 go15) : r → p := h
theorem go31 {p r : Prop} (h : r → p := by exact tr go15 go16) : r → p := h
theorem go32 {p r : Prop} (h : r → p := by exact tr go16 go16) : r → p := h
theorem go33 {p r : Prop} (h : r → p := by exact tr go16 go17) : r → p := h
theorem go34 {p r : Prop} (h : r → p := by exact tr go17 go17) : r → p := h
theorem go35 {p r : Prop} (h : r → p := by exact tr go17 go18) : r → p := h
theorem go36 {p r : Prop} (h : r → p := by exact tr go18 go18) : r → p := h
theorem go37 {p r : Prop} (h : r → p := by exact tr go18 go19) : r → p := h
theorem go38 {p r : Prop} (h : r → p := by exact tr go19 go19) : r → p := h
theorem go39 {p r : Prop} (h : r → p := by exact tr go19 go20) : r → p := h
theorem go40 {p r : Prop} (h : r → p := by exact tr go20 go20) : r → p := h
theorem GO1 {p r : Prop} (k : r) (h : r → p := by exact go1) : p := h k
theorem GO2 {p r : Prop} (k : r) (h : r → p := by exact go2) : p := h k
theorem GO3 {p r : Prop} (k : r) (h : r → p := by exact go3) : p := h k
theorem GO4 {p r : Prop} (k : r) (h : r → p := by exact go4) : p := h k
theorem GO5 {p r : Prop} (k : r) (h : r → p := by exact go5) : p := h k
theorem GO6 {p r : Prop} (k : r) (h : r → p := by exact go6) : p := h k
theorem GO7 {p r : Prop} (k : r) (h : r → p := by exact go7) : p := h k
theorem GO8 {p r : Prop} (k : r) (h : r → p := by exact go8) : p := h k
theorem GO9 {p r : Prop} (k : r) (h : r → p := by exact go9) : p := h k
theorem GO10 {p r : Prop} (k : r) (h : r → p := by exact go10) : p := h k
theorem GO11 {p r : Prop} (k : r) (h : r → p := by exact go11) : p := h k
theorem GO12 {p r : Prop} (k : r) (h : r → p := by exact go12) : p := h k
theorem GO13 {p r : Prop} (k : r) (h : r → p := by exact go13) : p := h k
theorem GO14 {p r : Prop} (k : r) (h : r → p := by exact go14) : p := h k
theorem GO15 {p r : Prop} (k : r) (h : r → p := by exact go15) : p := h k
theorem GO16 {p r : Prop} (k : r) (h : r → p := by exact go16) : p := h k
theorem GO17 {p r : Prop} (k : r) (h : r → p := by exact go17) : p := h k
theorem GO18 {p r : Prop} (k : r) (h : r → p := by exact go18) : p := h k
theorem GO19 {p r : Prop} (k : r) (h : r → p := by exact go19) : p := h k
theorem GO20 {p r : Prop} (k : r) (h : r → p := by exact go20) : p := h k
theorem GO21 {p r : Prop} (k : r) (h : r → p := by exact go21) : p := h k
theorem GO22 {p r : Prop} (k : r) (h : r → p := by exact go22) : p := h k
theorem GO23 {p r : Prop} (k : r) (h : r → p := by exact go23) : p := h k
theorem GO24 {p r : Prop} (k : r) (h : r → p := by exact go24) : p := h k
theorem GO25 {p r : Prop} (k : r) (h : r → p := by exact go25) : p := h k
theorem GO26 {p r : Prop} (k : r) (h : r → p := by exact go26) : p := h k
theorem GO27 {p r : Prop} (k : r) (h : r → p := by exact go27) : p := h k
theorem GO28 {p r : Prop} (k : r) (h : r → p := by exact go28) : p := h k
theorem GO29 {p r : Prop} (k : r) (h : r → p := by exact go29) : p := h k
theorem GO30 {p r : Prop} (k : r) (h : r → p := by exact go30) : p := h k
theorem GO31 {p r : Prop} (k : r) (h : r → p := by exact go31) : p := h k
theorem GO32 {p r : Prop} (k : r) (h : r → p := by exact go32) : p := h k
theorem GO33 {p r : Prop} (k : r) (h : r → p := by exact go33) : p := h k
theorem GO34 {p r : Prop} (k : r) (h : r → p := by exact go34) : p := h k
theorem GO35 {p r : Prop} (k : r) (h : r → p := by exact go35) : p := h k
theorem GO36 {p r : Prop} (k : r) (h : r → p := by exact go36) : p := h k
theorem GO37 {p r : Prop} (k : r) (h : r → p := by exact go37) : p := h k
theorem GO38 {p r : Prop} (k : r) (h : r → p := by exact go38) : p := h k
theorem GO39 {p r : Prop} (k : r) (h : r → p := by exact go39) : p := h k
theorem GO40 {p r : Prop} (k : r) (h : r → p := by exact go40) : p := h k
theorem gh2 {p r : Prop} (h : r → p := by exact tr gh1 gh1) : r → p := h
theorem gh3 {p r : Prop} (h : r → p := by exact tr gh1 gh2) : r → p := h
theorem gh4 {p r : Prop} (h : r → p := by exact tr gh2 gh2) : r → p := h
theorem gh5 {p r : Prop} (h : r → p := by exact tr gh2 gh3) : r → p := h
theorem gh6 {p r : Prop} (h : r → p := by exact tr gh3 gh3) : r → p := h
theorem gh7 {p r : Prop} (h : r → p := by exact tr gh3 gh4) : r → p := h
theorem gh8 {p r : Prop} (h : r → p := by exact tr gh4 gh4) : r → p := h
theorem gh9 {p r : Prop} (h : r → p := by exact tr gh4 gh5) : r → p := h
theorem gh10 {p r : Prop} (h : r → p := by exact tr gh5 gh5) : r → p := h
theorem gh11 {p r : Prop} (h : r → p := by exact tr gh5 gh6) : r → p := h
theorem gh12 {p r : Prop} (h : r → p := by exact tr gh6 gh6) : r → p := h
theorem gh13 {p r : Prop} (h : r → p := by exact tr gh6 gh7) : r → p := h
theorem gh14 {p r : Prop} (h : r → p := by exact tr gh7 gh7) : r → p := h
theorem gh15 {p r : Prop} (h : r → p := by exact tr gh7 gh8) : r → p := h
theorem gh16 {p r : Prop} (h : r → p := by exact tr gh8 gh8) : r → p := h
theorem gh17 {p r : Prop} (h : r → p := by exact tr gh8 gh9) : r → p := h
theorem gh18 {p r : Prop} (h : r → p := by exact tr gh9 gh9) : r → p := h
theorem gh19 {p r : Prop} (h : r → p := by exact tr gh9 gh10) : r → p := h
theorem gh20 {p r : Prop} (h : r → p := by exact tr gh10 gh10) : r → p := h
theorem gh21 {p r : Prop} (h : r → p := by exact tr gh10 gh11) : r → p := h
theorem gh22 {p r : Prop} (h : r → p := by exact tr gh11 gh11) : r → p := h
theorem gh23 {p r : Prop} (h : r → p := by exact tr gh11 gh12) : r → p := h
theorem gh24 {p r : Prop} (h : r → p := by exact tr gh12 gh12) : r → p := h
theorem GH1 {p r : Prop} (k : r) (h : r → p := by exact gh1) : p := h k
theorem GH2 {p r : Prop} (k : r) (h : r → p := by exact gh2) : p := h k
theorem GH3 {p r : Prop} (k : r) (h : r → p := by exact gh3) : p := h k
theorem GH4 {p r : Prop} (k : r) (h : r → p := by exact gh4) : p := h k
theorem GH5 {p r : Prop} (k : r) (h : r → p := by exact gh5) : p := h k
theorem GH6 {p r : Prop} (k : r) (h : r → p := by exact gh6) : p := h k
theorem GH7 {p r : Prop} (k : r) (h : r → p := by exact gh7) : p := h k
theorem GH8 {p r : Prop} (k : r) (h : r → p := by exact gh8) : p := h k
theorem GH9 {p r : Prop} (k : r) (h : r → p := by exact gh9) : p := h k
theorem GH10 {p r : Prop} (k : r) (h : r → p := by exact gh10) : p := h k
theorem GH11 {p r : Prop} (k : r) (h : r → p := by exact gh11) : p := h k
theorem GH12 {p r : Prop} (k : r) (h : r → p := by exact gh12) : p := h k
theorem GH13 {p r : Prop} (k : r) (h : r → p := by exact gh13) : p := h k
theorem GH14 {p r : Prop} (k : r) (h : r → p := by exact gh14) : p := h k
theorem GH15 {p r : Prop} (k : r) (h : r → p := by exact gh15) : p := h k
theorem GH16 {p r : Prop} (k : r) (h : r → p := by exact gh16) : p := h k
theorem GH17 {p r : Prop} (k : r) (h : r → p := by exact gh17) : p := h k
theorem GH18 {p r : Prop} (k : r) (h : r → p := by exact gh18) : p := h k
theorem GH19 {p r : Prop} (k : r) (h : r → p := by exact gh19) : p := h k
theorem GH20 {p r : Prop} (k : r) (h : r → p := by exact gh20) : p := h k
theorem GH21 {p r : Prop} (k : r) (h : r → p := by exact gh21) : p := h k
theorem GH22 {p r : Prop} (k : r) (h : r → p := by exact gh22) : p := h k
theorem GH23 {p r : Prop} (k : r) (h : r → p := by exact gh23) : p := h k
theorem GH24 {p r : Prop} (k : r) (h : r → p := by exact gh24) : p := h k

section
variable {P : Program} {ro : Option Nat} {ds : List Deferred} {T : List AV} {H : AH} {Q : Post} {t : Tmp} {x y : Code} {b : Bool}
/-- A choice; what is known on its two ways is said plainly. -/
theorem GI {p q : Prop} (hx : T[t]? = some (.v (.bool b))) (ht : p → AW P ro x ds T H Q) (hf : q → AW P ro y ds T H Q)
    (hp : b = true → p := by intro h; (try simp only [Bool.or_eq_true, Bool.and_eq_true, Bool.or_eq_false_iff, Bool.and_eq_false_iff, decide_eq_true_eq, decide_eq_false_iff_not, Bool.not_eq_true', Bool.not_eq_false', beq_iff_eq, ne_eq, Decidable.not_not, List.length_map] at h); exact h)
    (hq : b = false → q := by intro h; (try simp only [Bool.or_eq_true, Bool.and_eq_true, Bool.or_eq_false_iff, Bool.and_eq_false_iff, decide_eq_true_eq, decide_eq_false_iff_not, Bool.not_eq_true', Bool.not_eq_false', beq_iff_eq, ne_eq, Decidable.not_not, List.length_map] at h); exact h) :
    AW P ro (.cond (.tmp t) x y) ds T H Q := AW_cond hx (fun h => ht (hp h)) (fun h => hf (hq h))
end
end Go.AL
