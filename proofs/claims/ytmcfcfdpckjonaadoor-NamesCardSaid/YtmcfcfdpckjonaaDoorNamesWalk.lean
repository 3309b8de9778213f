/- The law Names answers true. Condition: errors.errorType holds reflectlite's handle of the type error. -/
import Derived.Test.YtmcfcfdpckjonaaDoorTold
namespace Go.Proofs.YtmcfcfdpckjonaaDoor
open Go.RowKit

theorem plainTold0 (w : World) :
    Calls Tryd.prog 20 #[.int .i64 0] w fun e w' => e = .returned (.tuple #[.int .i64 0, .int .i64 (-1)]) ∧ Below w.heap.size w w' := by
  go_enter Tryd.func20, Tryd.ntmps20
  go_wp2_with (go_at_call 22; refine (told_nil _).mono ?_; rintro e w1 ⟨rfl, hb1⟩)
  go_ret2
  exact ⟨rfl, hb1⟩
theorem plainTold1 (w : World) (hg : ErrVar w) :
    Calls Tryd.prog 20 #[.int .i64 1] w fun e w' => e = .returned (.tuple #[.int .i64 1, .int .i64 (-1)]) ∧ Below w.heap.size w w' := by
  have H := Lib.hid hg; clear hg
  go_enter Tryd.func20, Tryd.ntmps20
  go_wp2_with (go_at_call 22; refine (told_kind 1 _ H.out).mono ?_; rintro e w1 ⟨rfl, hb1⟩)
  go_ret2
  exact ⟨rfl, hb1⟩
theorem plainTold2 (w : World) (hg : ErrVar w) :
    Calls Tryd.prog 20 #[.int .i64 2] w fun e w' => e = .returned (.tuple #[.int .i64 4, .int .i64 3]) ∧ Below w.heap.size w w' := by
  have H := Lib.hid hg; clear hg
  go_enter Tryd.func20, Tryd.ntmps20
  go_wp2_with fail
  refine (told_peer w.heap.size 3 4 _ (H.out.alloc _) (by simp) (by simp)).mono ?_
  rintro e w1 ⟨rfl, hb1⟩
  go_wp2
  go_ret2
  exact ⟨rfl, ((Below.refl _ _).alloc (Nat.le_refl _) _).trans (hb1.mono (by simp))⟩

theorem lawTold0 (w : World) :
    Calls Tryd.prog 8 #[.int .i64 0, .int .i64 0, .int .i64 (-1)] w fun e w' => e = .returned (.bool true) ∧ Below w.heap.size w w' := by
  go_enter Tryd.func8, Tryd.ntmps8
  go_wp2_with (go_at_call 20; refine (plainTold0 _).mono ?_; rintro e w1 ⟨rfl, hb1⟩)
  go_ret
  exact ⟨rfl, hb1⟩
theorem lawTold1 (w : World) (hg : ErrVar w) :
    Calls Tryd.prog 8 #[.int .i64 1, .int .i64 1, .int .i64 (-1)] w fun e w' => e = .returned (.bool true) ∧ Below w.heap.size w w' := by
  have H := Lib.hid hg; clear hg
  go_enter Tryd.func8, Tryd.ntmps8
  go_wp2_with (go_at_call 20; refine (plainTold1 _ H.out).mono ?_; rintro e w1 ⟨rfl, hb1⟩)
  go_ret
  exact ⟨rfl, hb1⟩
theorem lawTold2 (w : World) (hg : ErrVar w) :
    Calls Tryd.prog 8 #[.int .i64 2, .int .i64 4, .int .i64 3] w fun e w' => e = .returned (.bool true) ∧ Below w.heap.size w w' := by
  have H := Lib.hid hg; clear hg
  go_enter Tryd.func8, Tryd.ntmps8
  go_wp2_with (go_at_call 20; refine (plainTold2 _ H.out).mono ?_; rintro e w1 ⟨rfl, hb1⟩)
  go_ret
  exact ⟨rfl, hb1⟩

theorem names_any (w : World) (hg : ErrVar w) :
    Calls Tryd.prog 3 #[] w fun e w' => e = .returned (.bool true) ∧ Below w.heap.size w w' := by
  have H := Lib.hid hg; clear hg
  go_enter Tryd.func3, Tryd.ntmps3
  go_wp2_with fail
  refine (lawTold0 _).mono ?_
  rintro e w1 ⟨rfl, hb1⟩
  go_wp2_with fail
  refine (lawTold1 _ (H.out.below hb1)).mono ?_
  rintro e w2 ⟨rfl, hb2⟩
  have hb2' := hb1.trans (hb2.mono hb1.size); clear hb1 hb2
  go_wp2_with fail
  refine (lawTold2 _ (H.out.below hb2')).mono ?_
  rintro e w3 ⟨rfl, hb3⟩
  have hb3' := hb2'.trans (hb3.mono hb2'.size); clear hb3 hb2'
  go_wp2
  go_ret
  exact ⟨rfl, hb3'⟩
end Go.Proofs.YtmcfcfdpckjonaaDoor
