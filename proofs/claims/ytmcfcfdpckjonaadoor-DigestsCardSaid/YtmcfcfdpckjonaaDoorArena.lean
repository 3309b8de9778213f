/- arena.Digest: the sum over a whole memory. -/
import Derived.Test.YtmcfcfdpckjonaaDoorAll
import Derived.Test.YtmcfcfdpckjonaaDoorFrom
import Derived.Test.YtmcfcfdpckjonaaDoorTold
namespace Go.Proofs.YtmcfcfdpckjonaaDoor
open Go.RowKit

set_option maxHeartbeats 1000000 in
set_option maxRecDepth 100000 in
theorem arenaDigest_any (c : Nat) (l : List UInt8) (w : World) (hl : l.length = 288) (hc : Row w c 91 (Lib.byteCells l).toArray) :
    Calls Tryd.prog 30 #[.pointer (some ⟨c, 0, none⟩)] w fun e w' => e = .returned (.int .u32 ((nodeV l 1).toNat : Int)) ∧ Below w.heap.size w w' := by
  have HC := Lib.hid hc
  have HL := Lib.hid hl
  have hlt := hc.isLt
  clear hc hl
  go_enter Tryd.func30, Tryd.ntmps30
  go_wp2_with fail
  refine Calls.mono (all_any w.heap.size c l _ HL.out (by exact Row.made w 86 _) (HC.out.later _) (by omega)) ?_
  rintro e w1 ⟨rfl, hg, cs, hr, h1⟩
  have hb : Below w.heap.size w w1 := (((Below.refl _ _).alloc (Nat.le_refl _) _)).grown hg (by simp) (by intro k hk; injection hk with hk; omega)
  have q1 : w1.cell? ⟨w.heap.size, 1, none⟩ = some (.int .u32 ((nodeV l 1).toNat : Int)) := (hr.cellAt 1).trans h1
  have HB := Lib.hid hb
  clear hb hg hr h1
  go_wp2
  go_ret
  exact ⟨rfl, HB.out⟩

set_option maxHeartbeats 1000000 in
set_option maxRecDepth 100000 in
theorem rbDigest_no (g cap n : Nat) (w : World) (hn : n ≠ 288) (_ : n ≤ 65600) :
    Calls Tryd.prog 24 #[.slice (some ⟨g, 0, none⟩) n cap] w fun e w' => e = .returned (.tuple #[.int .u32 0, .iface 23 (.int .i64 8)]) ∧ w' = w := by
  have d1 : ((n : Int) != 288) = true := by rw [bne_iff_ne]; omega
  have d2 : ((n : Int) == 288) = false := by rw [beq_eq_false_iff_ne]; omega
  have d3 : ¬ (n : Int) = 288 := by omega
  have d4 : ¬ n = 288 := hn
  go_enter Tryd.func24, Tryd.ntmps24
  go_wp2
  go_ret2
  exact ⟨rfl, rfl⟩

set_option maxHeartbeats 1000000 in
set_option maxRecDepth 100000 in
theorem rbDigest_ok (g cap : Nat) (l : List UInt8) (w : World) (hl : l.length = 288) (hh : Holds w g 0 l) (hg : g < w.heap.size) :
    Calls Tryd.prog 24 #[.slice (some ⟨g, 0, none⟩) 288 cap] w fun e w' => e = .returned (.tuple #[.int .u32 ((nodeV l 1).toNat : Int), .nilIface]) ∧ Below w.heap.size w w' := by
  have HH := Lib.hid hh
  have HL := Lib.hid hl
  clear hh hl
  go_enter Tryd.func24, Tryd.ntmps24
  go_wp2_with fail
  refine Calls.mono (from_any g cap l _ HL.out HH.out hg) ?_
  rintro e w1 ⟨rfl, hb, hr⟩
  have HB := Lib.hid hb
  have HR := Lib.hid hr
  clear hb hr
  go_wp2_with fail
  refine Calls.mono (arenaDigest_any w.heap.size l _ HL.out HR.out) ?_
  rintro e w2 ⟨rfl, hb2⟩
  have HB2 := Lib.hid (HB.out.trans (hb2.mono HB.out.size))
  clear hb2
  go_wp2
  go_ret2
  exact ⟨rfl, HB2.out⟩

set_option maxHeartbeats 1000000 in
set_option maxRecDepth 100000 in
theorem plainDigest_no (g cap n : Nat) (w : World) (hE : ErrVar w) (hn : n ≠ 288) (h2 : n ≤ 65600) :
    Calls Tryd.prog 18 #[.slice (some ⟨g, 0, none⟩) n cap] w fun e w' => e = .returned (.tuple #[.int .u32 0, .int .i64 8]) ∧ Below w.heap.size w w' := by
  have HE := Lib.hid hE
  clear hE
  go_enter Tryd.func18, Tryd.ntmps18
  go_wp2_with fail
  refine Calls.mono (rbDigest_no g cap n _ hn h2) ?_
  rintro e w1 ⟨rfl, rfl⟩
  go_wp2_with fail
  refine Calls.mono (told_kind 8 _ HE.out) ?_
  rintro e w2 ⟨rfl, hb2⟩
  have HB2 := Lib.hid hb2
  clear hb2
  go_wp2
  go_ret2
  exact ⟨rfl, HB2.out⟩

set_option maxHeartbeats 1000000 in
set_option maxRecDepth 100000 in
theorem plainDigest_ok (g cap n : Nat) (l : List UInt8) (w : World) (hn : n = 288) (hl : l.length = 288) (hh : Holds w g 0 l) (hg : g < w.heap.size) :
    Calls Tryd.prog 18 #[.slice (some ⟨g, 0, none⟩) n cap] w fun e w' => e = .returned (.tuple #[.int .u32 ((nodeV l 1).toNat : Int), .int .i64 0]) ∧ Below w.heap.size w w' := by
  subst hn
  have HH := Lib.hid hh
  have HL := Lib.hid hl
  clear hh hl
  go_enter Tryd.func18, Tryd.ntmps18
  go_wp2_with fail
  refine Calls.mono (rbDigest_ok g cap l _ HL.out HH.out hg) ?_
  rintro e w1 ⟨rfl, hb⟩
  have HB := Lib.hid hb
  clear hb
  go_wp2_with fail
  refine Calls.mono (told_nil _) ?_
  rintro e w2 ⟨rfl, hb2⟩
  have HB2 := Lib.hid (HB.out.trans (hb2.mono HB.out.size))
  clear hb2
  go_wp2
  go_ret2
  exact ⟨rfl, HB2.out⟩
end Go.Proofs.YtmcfcfdpckjonaaDoor
