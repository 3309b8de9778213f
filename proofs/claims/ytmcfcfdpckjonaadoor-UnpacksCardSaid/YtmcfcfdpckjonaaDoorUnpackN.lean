/- wire.Unpack where the check does not fit. -/
import Derived.Test.YtmcfcfdpckjonaaDoorUnpack
namespace Go.Proofs.YtmcfcfdpckjonaaDoor
open Go.RowKit

set_option maxHeartbeats 1000000 in
set_option maxRecDepth 100000 in
theorem wireUnpack_no6 (g cap n : Nat) (w : World) (hn : n ≤ 65600) (hp : 8 ≤ n) (x0 : UInt8) (x1 : UInt8) (x6 : UInt8) (L : List UInt8) (z : UInt8) (hc0 : (w.alloc (.cells #[.int .i64 0, .int .i64 0, .int .i64 0, .slice none 0 0] 28)).cell? ⟨g, 0, none⟩ = some (.int .u8 (x0.toNat : Int))) (hc1 : (w.alloc (.cells #[.int .i64 0, .int .i64 0, .int .i64 0, .slice none 0 0] 28)).cell? ⟨g, 1, none⟩ = some (.int .u8 (x1.toNat : Int))) (hc6 : (w.alloc (.cells #[.int .i64 0, .int .i64 0, .int .i64 0, .slice none 0 0] 28)).cell? ⟨g, 6, none⟩ = some (.int .u8 (x6.toNat : Int))) (hz : (w.alloc (.cells #[.int .i64 0, .int .i64 0, .int .i64 0, .slice none 0 0] 28)).cell? ⟨g, n - 1, none⟩ = some (.int .u8 (z.toNat : Int))) (hL : L.length = n - 1) (hc : n ≤ cap) (hcap : cap ≤ 9223372036854775807) (hh : Holds w g 0 L) (hg : g < w.heap.size) (d0 : (decide (((n : Int) - 7 - 1) < 0)) = false) (d1 : (decide (64 < ((n : Int) - 7 - 1))) = false) (d2 : (((x0.toNat : Int) != 82)) = false) (q2 : (((x0.toNat : Int) == 82)) = true) (d3 : (decide (4 ≤ (x1.toNat : Int))) = false) (d4 : (((x6.toNat : Int) != ((n : Int) - 7 - 1))) = false) (q4 : (((x6.toNat : Int) == ((n : Int) - 7 - 1))) = true) (d5 : (((chk L).toNat : Int) != (z.toNat : Int)) = true) (q5 : (((chk L).toNat : Int) == (z.toNat : Int)) = false) :
    Calls Tryd.prog 29 #[.slice (some ⟨g, 0, none⟩) n cap] w (NonePost w (.tuple #[noPacket, .iface 23 (.int .i64 5)])) := by
  have e6 : IntKind.i64.wrap (x6.toNat : Int) = (x6.toNat : Int) := by have := x6.toNat_lt; rw [IntKind.wrap_i64]; omega
  have p0 : 0 < n := by omega
  have p1 : (1 : Int) < (n : Int) := by omega
  have p6 : (6 : Int) < (n : Int) := by omega
  have s1 : IntKind.i64.wrap (7 + ((n : Int) - 7 - 1)) = (n : Int) - 1 := by rw [IntKind.wrap_i64]; omega
  have s2 : 0 ≤ (n : Int) - 1 := by omega
  have s3 : ((n : Int) - 1).toNat = n - 1 := by omega
  have s4 : (n : Int) - 1 < (n : Int) := by omega
  have s5 : (n : Int) - 1 ≤ (cap : Int) := by omega
  have hH := Lib.hid (hh.below ((Below.refl _ _).alloc (Nat.le_refl _) (.cells #[.int .i64 0, .int .i64 0, .int .i64 0, .slice none 0 0] 28)) hg)
  have HL := Lib.hid hL
  clear hh hL
  go_enter Tryd.func29, Tryd.ntmps29
  go_wp2
  go_quiet ((go_at_call 32; exact Calls.quiet_of_same (check_at g 0 cap _ L _ HL.out.symm (by have := HL.out; omega) hH.out)))
  go_wp2
  refine bodyPost_ret (v := .tuple #[noPacket, .iface 23 (.int .i64 5)]) ?_ rfl ⟨rfl, ?_⟩
  · simp [results, Tryd.results29, go_sem, noPacket]
  · exact ((((below_drewN ((Below.refl _ _).alloc (Nat.le_refl _) _) _).setCell (Nat.le_refl _) _).setCell (Nat.le_refl _) _).setCell (Nat.le_refl _) _).setCell (Nat.le_refl _) _
end Go.Proofs.YtmcfcfdpckjonaaDoor
