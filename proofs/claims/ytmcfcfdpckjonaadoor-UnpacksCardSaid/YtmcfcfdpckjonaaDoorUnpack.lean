/- bytes.Clone and wire.Unpack: what they make of any bytes. -/
import Derived.Test.YtmcfcfdpckjonaaDoorPack
import Derived.Lib.SliceRun
import Derived.Deep.RegionWith
import Derived.StillTailTactics
namespace Go.Proofs.YtmcfcfdpckjonaaDoor
open Go.RowKit

theorem eq_nil_no (w : World) (a : Addr) (n c : Nat) : (binOp .eql 25 (.slice (some a) n c) (.slice none 0 0)).run Tryd.prog w = .ok (.bool false) w := Lib.run_eql_slice_nil w 25 5 (some a) n c 0 0 Tryd.underlying25

/-- What a call leaves that makes bytes of its own. -/
def BytesPost (B : Nat) (w : World) (l : List UInt8) (e : Ending) (w' : World) : Prop :=
  ∃ g cap, e = .returned (.slice (some ⟨g, 0, none⟩) l.length cap) ∧ Own w' B g cap l ∧ Below w.heap.size w w'

set_option maxHeartbeats 400000 in
set_option maxRecDepth 100000 in
theorem clone_any (g off c m : Nat) (l : List UInt8) (w : World) (hm : m = l.length) (hl : l.length ≤ 65600) (hh : Holds w g off l) :
    Calls Tryd.prog 37 #[.slice (some ⟨g, off, none⟩) m c] w (BytesPost w.heap.size w l) := by
  subst hm
  have hs : Src (w.alloc (.cells #[] 5)) (some ⟨g, off, none⟩) c l := Src.below (.inr ⟨g, off, rfl, hh⟩) ((Below.refl _ _).alloc (Nat.le_refl _) _)
  have ho := own_new w w.heap.size #[] [] rfl (Nat.le_refl _) (by simp)
  obtain ⟨g1, cap1, w1, hr1, ho1, hg1⟩ := app_own _ _ _ _ l _ c _ ho hs (by simp; omega) (by simp)
  have hb1 : Below w.heap.size w w1 := ((Below.refl _ _).alloc (Nat.le_refl _) _).grown hg1 (by simp) (by intro k hk; injection hk with hk; subst hk; exact Nat.le_refl _)
  rw [List.nil_append] at hr1 ho1
  have e0 : ([] : List UInt8).length = 0 := rfl
  rw [e0] at hr1
  have hq := eq_nil_no w ⟨g, off, none⟩ l.length c
  have H1 := Lib.hid ho1
  have H2 := Lib.hid hb1
  clear hs ho hg1 ho1 hb1 e0 hh
  go_enter Tryd.func37, Tryd.ntmps37
  go_wp2_with (first | (at_builtin; refine wpList_append_known rfl (.tmp 5) (.tmp 6) rfl rfl rfl hr1 ?_; clear hr1))
  go_ret
  exact ⟨g1, cap1, rfl, H1.out, H2.out⟩

theorem check_at (g off cap m : Nat) (l : List UInt8) (w : World) (hm : m = l.length) (hl : l.length ≤ 65600) (hh : Holds w g off l) :
    Calls Tryd.prog 32 #[.slice (some ⟨g, off, none⟩) m cap] w fun e w' => e = .returned (.int .u8 ((chk l).toNat : Int)) ∧ w' = w := by
  subst hm
  exact (check_any g off cap l w hl hh).mono fun _ _ ⟨h1, h2⟩ => ⟨h1, h2.symm⟩

theorem below_drewN {B : Nat} {a w : World} (h : Below B a w) (n : Nat) : Below B a (w.drewN n) := ⟨h.os, h.tape, h.output, h.size, h.block⟩
/-- The struct's noughts. -/
def noPacket : Value := .agg #[.int .i64 0, .int .i64 0, .int .i64 0, .slice none 0 0]

set_option maxHeartbeats 1000000 in
set_option maxRecDepth 100000 in
theorem wireUnpack_no1 (g cap n : Nat) (w : World) (hn : n ≤ 65600) (d0 : (decide (((n : Int) - 7 - 1) < 0)) = true) :
    Calls Tryd.prog 29 #[.slice (some ⟨g, 0, none⟩) n cap] w (NonePost w (.tuple #[noPacket, .iface 23 (.int .i64 5)])) := by
  go_enter Tryd.func29, Tryd.ntmps29
  go_wp2
  go_quiet (fail)
  go_wp2
  refine bodyPost_ret (v := .tuple #[noPacket, .iface 23 (.int .i64 5)]) ?_ rfl ⟨rfl, ?_⟩
  · simp [results, Tryd.results29, go_sem, noPacket]
  · exact ((((below_drewN ((Below.refl _ _).alloc (Nat.le_refl _) _) _).setCell (Nat.le_refl _) _).setCell (Nat.le_refl _) _).setCell (Nat.le_refl _) _).setCell (Nat.le_refl _) _

set_option maxHeartbeats 1000000 in
set_option maxRecDepth 100000 in
theorem wireUnpack_no2 (g cap n : Nat) (w : World) (hn : n ≤ 65600) (hp : 8 ≤ n) (d0 : (decide (((n : Int) - 7 - 1) < 0)) = false) (d1 : (decide (64 < ((n : Int) - 7 - 1))) = true) :
    Calls Tryd.prog 29 #[.slice (some ⟨g, 0, none⟩) n cap] w (NonePost w (.tuple #[noPacket, .iface 23 (.int .i64 5)])) := by
  have p0 : 0 < n := by omega
  have p1 : (1 : Int) < (n : Int) := by omega
  have p6 : (6 : Int) < (n : Int) := by omega
  go_enter Tryd.func29, Tryd.ntmps29
  go_wp2
  go_quiet (fail)
  go_wp2
  refine bodyPost_ret (v := .tuple #[noPacket, .iface 23 (.int .i64 5)]) ?_ rfl ⟨rfl, ?_⟩
  · simp [results, Tryd.results29, go_sem, noPacket]
  · exact ((((below_drewN ((Below.refl _ _).alloc (Nat.le_refl _) _) _).setCell (Nat.le_refl _) _).setCell (Nat.le_refl _) _).setCell (Nat.le_refl _) _).setCell (Nat.le_refl _) _

set_option maxHeartbeats 1000000 in
set_option maxRecDepth 100000 in
theorem wireUnpack_no3 (g cap n : Nat) (w : World) (hn : n ≤ 65600) (hp : 8 ≤ n) (x0 : UInt8) (hc0 : (w.alloc (.cells #[.int .i64 0, .int .i64 0, .int .i64 0, .slice none 0 0] 28)).cell? ⟨g, 0, none⟩ = some (.int .u8 (x0.toNat : Int))) (d0 : (decide (((n : Int) - 7 - 1) < 0)) = false) (d1 : (decide (64 < ((n : Int) - 7 - 1))) = false) (d2 : (((x0.toNat : Int) != 82)) = true) (q2 : (((x0.toNat : Int) == 82)) = false) :
    Calls Tryd.prog 29 #[.slice (some ⟨g, 0, none⟩) n cap] w (NonePost w (.tuple #[noPacket, .iface 23 (.int .i64 5)])) := by
  have p0 : 0 < n := by omega
  have p1 : (1 : Int) < (n : Int) := by omega
  have p6 : (6 : Int) < (n : Int) := by omega
  go_enter Tryd.func29, Tryd.ntmps29
  go_wp2
  go_quiet (fail)
  go_wp2
  refine bodyPost_ret (v := .tuple #[noPacket, .iface 23 (.int .i64 5)]) ?_ rfl ⟨rfl, ?_⟩
  · simp [results, Tryd.results29, go_sem, noPacket]
  · exact ((((below_drewN ((Below.refl _ _).alloc (Nat.le_refl _) _) _).setCell (Nat.le_refl _) _).setCell (Nat.le_refl _) _).setCell (Nat.le_refl _) _).setCell (Nat.le_refl _) _

set_option maxHeartbeats 1000000 in
set_option maxRecDepth 100000 in
theorem wireUnpack_no4 (g cap n : Nat) (w : World) (hn : n ≤ 65600) (hp : 8 ≤ n) (x0 : UInt8) (x1 : UInt8) (hc0 : (w.alloc (.cells #[.int .i64 0, .int .i64 0, .int .i64 0, .slice none 0 0] 28)).cell? ⟨g, 0, none⟩ = some (.int .u8 (x0.toNat : Int))) (hc1 : (w.alloc (.cells #[.int .i64 0, .int .i64 0, .int .i64 0, .slice none 0 0] 28)).cell? ⟨g, 1, none⟩ = some (.int .u8 (x1.toNat : Int))) (d0 : (decide (((n : Int) - 7 - 1) < 0)) = false) (d1 : (decide (64 < ((n : Int) - 7 - 1))) = false) (d2 : (((x0.toNat : Int) != 82)) = false) (q2 : (((x0.toNat : Int) == 82)) = true) (d3 : (decide (4 ≤ (x1.toNat : Int))) = true) :
    Calls Tryd.prog 29 #[.slice (some ⟨g, 0, none⟩) n cap] w (NonePost w (.tuple #[noPacket, .iface 23 (.int .i64 5)])) := by
  have p0 : 0 < n := by omega
  have p1 : (1 : Int) < (n : Int) := by omega
  have p6 : (6 : Int) < (n : Int) := by omega
  go_enter Tryd.func29, Tryd.ntmps29
  go_wp2
  go_quiet (fail)
  go_wp2
  refine bodyPost_ret (v := .tuple #[noPacket, .iface 23 (.int .i64 5)]) ?_ rfl ⟨rfl, ?_⟩
  · simp [results, Tryd.results29, go_sem, noPacket]
  · exact ((((below_drewN ((Below.refl _ _).alloc (Nat.le_refl _) _) _).setCell (Nat.le_refl _) _).setCell (Nat.le_refl _) _).setCell (Nat.le_refl _) _).setCell (Nat.le_refl _) _

set_option maxHeartbeats 1000000 in
set_option maxRecDepth 100000 in
theorem wireUnpack_no5 (g cap n : Nat) (w : World) (hn : n ≤ 65600) (hp : 8 ≤ n) (x0 : UInt8) (x1 : UInt8) (x6 : UInt8) (hc0 : (w.alloc (.cells #[.int .i64 0, .int .i64 0, .int .i64 0, .slice none 0 0] 28)).cell? ⟨g, 0, none⟩ = some (.int .u8 (x0.toNat : Int))) (hc1 : (w.alloc (.cells #[.int .i64 0, .int .i64 0, .int .i64 0, .slice none 0 0] 28)).cell? ⟨g, 1, none⟩ = some (.int .u8 (x1.toNat : Int))) (hc6 : (w.alloc (.cells #[.int .i64 0, .int .i64 0, .int .i64 0, .slice none 0 0] 28)).cell? ⟨g, 6, none⟩ = some (.int .u8 (x6.toNat : Int))) (d0 : (decide (((n : Int) - 7 - 1) < 0)) = false) (d1 : (decide (64 < ((n : Int) - 7 - 1))) = false) (d2 : (((x0.toNat : Int) != 82)) = false) (q2 : (((x0.toNat : Int) == 82)) = true) (d3 : (decide (4 ≤ (x1.toNat : Int))) = false) (d4 : (((x6.toNat : Int) != ((n : Int) - 7 - 1))) = true) (q4 : (((x6.toNat : Int) == ((n : Int) - 7 - 1))) = false) :
    Calls Tryd.prog 29 #[.slice (some ⟨g, 0, none⟩) n cap] w (NonePost w (.tuple #[noPacket, .iface 23 (.int .i64 5)])) := by
  have e6 : IntKind.i64.wrap (x6.toNat : Int) = (x6.toNat : Int) := by have := x6.toNat_lt; rw [IntKind.wrap_i64]; omega
  have p0 : 0 < n := by omega
  have p1 : (1 : Int) < (n : Int) := by omega
  have p6 : (6 : Int) < (n : Int) := by omega
  go_enter Tryd.func29, Tryd.ntmps29
  go_wp2
  go_quiet (fail)
  go_wp2
  refine bodyPost_ret (v := .tuple #[noPacket, .iface 23 (.int .i64 5)]) ?_ rfl ⟨rfl, ?_⟩
  · simp [results, Tryd.results29, go_sem, noPacket]
  · exact ((((below_drewN ((Below.refl _ _).alloc (Nat.le_refl _) _) _).setCell (Nat.le_refl _) _).setCell (Nat.le_refl _) _).setCell (Nat.le_refl _) _).setCell (Nat.le_refl _) _
end Go.Proofs.YtmcfcfdpckjonaaDoor
