/- The library's functions at this program, said of plain values. -/
import Derived.Test.YtcmijcfmldaiaaaGreatDoorQMa
import Derived.Test.YtcmijcfmldaiaaaGreatDoorQKa
import Derived.Test.YtcmijcfmldaiaaaGreatDoorQB
import Derived.Test.YtcmijcfmldaiaaaGreatDoorSH
import Derived.Test.YtcmijcfmldaiaaaGreatDoorProg
set_option autoImplicit false
set_option linter.unusedVariables false
namespace Go.Q
open Go Go.AL Go.RowKit Go.Proofs
theorem TQ.tabs {H : AH} {w : World} (h : TQ H) (hh : HR Tryz.prog H w) : Lib.Utf8Tabs 0 1 w := (h.here hh).1
theorem low_growsQ (g : Nat) (hg : ∀ r : Int, PF Tryz.prog g [.v (.int .i32 r)] (.v (.int .i32 (Tags.lowR r)))) (w : World) : MapGrows Tryz.prog g #[] Tags.lowR w := fun W x hx hb =>
  PF.calls (vs0 := #[.int .i32 x]) rfl (hg (x : Int)) W
theorem map_okQ (g : Nat) (eg : ∀ args w, (callFunc g args).run Tryz.prog w = .ok (.enter g args) w) (hg : ∀ r : Int, PF Tryz.prog g [.v (.int .i32 r)] (.v (.int .i32 (Tags.lowR r)))) (x : ByteArray) (hs : x.size < 35184372088832) :
    PI TQ Tryz.prog 132 [.fn (.func g) [] [], .v (.string x)] (.v (.string (Tags.lowStr x))) :=
  PI.contract #[.func (.func g) #[] #[], .string x] rfl fun H w hI hh => Tryz.strings_Map_grows g #[] eg Tags.lowR x w hs (low_growsQ g hg w) Tags.lowR_range (TQ.tabs hI hh)
theorem map_attrs (x : ByteArray) (hs : x.size < 35184372088832) : PI TQ Tryz.prog 132 [.fn (.func 244) [] [], .v (.string x)] (.v (.string (Tags.lowStr x))) := map_okQ 244 (enters_of Tryz.func244 (by kernel_rfl) rfl) attrs_Target_1_ok x hs
theorem map_tags (x : ByteArray) (hs : x.size < 35184372088832) : PI TQ Tryz.prog 132 [.fn (.func 291) [] [], .v (.string x)] (.v (.string (Tags.lowStr x))) := map_okQ 291 (enters_of Tryz.func291 (by kernel_rfl) rfl) tags_low_1_ok x hs
theorem map_query (x : ByteArray) (hs : x.size < 35184372088832) : PI TQ Tryz.prog 132 [.fn (.func 133) [] [], .v (.string x)] (.v (.string (Tags.lowStr x))) := map_okQ 133 (enters_of Tryz.func133 (by kernel_rfl) rfl) query_low_1_ok x hs
theorem valid_ok (s : ByteArray) (hs : s.size ≤ 9223372036854775807) : PI TQ Tryz.prog 285 [.v (.string s)] (.v (.bool (Lib.validD s.data.toList))) :=
  PI.contract #[.string s] rfl fun H w hI hh => Tryz.utf8_ValidString s w hs (TQ.tabs hI hh)
theorem below_drewQ {b : Nat} : ∀ (n : Nat) (w : World), Below b w (w.drewN n) := fun n w => by
  induction n with
  | zero => exact Below.refl _ _
  | succ n ih => exact ih.trans ((Below.refl _ _).drew)
theorem cut_ok (s : ByteArray) (hs : s.size < 4294967281) : PI TQ Tryz.prog 243 [.v (.string s), .v (.string ⟨#[58]⟩)] (.tup [.v (.string (headS s)), .v (.string ⟨(Lib.cut s.data.toList [58]).2.1.toArray⟩), .v (.bool (Lib.cut s.data.toList [58]).2.2)]) :=
  PI.contractK #[.string s, .string ⟨#[58]⟩] rfl fun H w hI hh => by
    obtain ⟨_, m, hm⟩ := hI.here hh
    refine (Tryz.strings_Cut s ⟨#[58]⟩ m w hs hm).mono ?_
    rintro e w' ⟨rfl, n, rfl⟩
    refine ⟨_, rfl, below_drewQ n w, ?_⟩
    have e : headS s = ⟨(Lib.cut s.data.toList [58]).1.toArray⟩ := by rw [cut_head]; rfl
    rw [e]
    refine .tup rfl fun k y u hk hu => ?_
    match k with
    | 0 => simp at hk hu; subst hk; subst hu; exact .v _
    | 1 => simp at hk hu; subst hk; subst hu; exact .v _
    | 2 => simp at hk hu; subst hk; subst hu; exact .v _
    | k + 3 => simp at hk
end Go.Q
