/- The tree of sums over a whole memory. -/
import Derived.Test.YtmcfcfdpckjonaaDoorNode
namespace Go.Proofs.YtmcfcfdpckjonaaDoor
open Go.RowKit

theorem grown_trans {a b c : World} {r : Option Nat} (h : a.grownBy b r) (h2 : b.grownBy c r) : a.grownBy c r :=
  ⟨h2.os.trans h.os, h2.tape.trans h.tape, h2.output.trans h.output, Nat.le_trans h.size h2.size, fun k hk hne => (h2.block k (Nat.lt_of_lt_of_le hk h.size) hne).trans (h.block k hk hne)⟩

set_option maxHeartbeats 1000000 in
set_option maxRecDepth 100000 in
theorem all_any (t c : Nat) (l : List UInt8) (w : World) (hl : l.length = 288) (ht : Row w t 86 (Array.replicate 64 (.int .u32 0))) (hc : Row w c 91 (Lib.byteCells l).toArray) (hne : t ≠ c) :
    Calls Tryd.prog 38 #[.pointer (some ⟨t, 0, none⟩), .pointer (some ⟨c, 0, none⟩)] w fun e w' => e = .returned (.tuple #[]) ∧ w.grownBy w' (some t) ∧ ∃ cs : Array Value, Row w' t 86 cs ∧ cs[1]? = some (.int .u32 ((nodeV l 1).toNat : Int)) := by
  have HT := Lib.hid ht
  have HC := Lib.hid hc
  have HL := Lib.hid hl
  have HNE := Lib.hid hne
  clear ht hc hl hne
  go_enter Tryd.func38, Tryd.ntmps38
  go_wp2
  go_loopw [9] (fun i wr => ∃ k : Nat, ∃ cs : Array Value, k ≤ 18 ∧ i = .int .i64 k ∧ cs.size = 64 ∧ Row wr t 86 cs ∧ w.grownBy wr (some t) ∧ (∀ j, j < k → cs[32 + j]? = some (.int .u32 ((leafV l j).toNat : Int))) ∧ (∀ j, k ≤ j → j < 32 → cs[32 + j]? = some (.int .u32 0))) (fun i _ => 18 - (intOf i).toNat)
  case atStart => exact ⟨0, _, Nat.zero_le _, rfl, by simp, HT.out, grown_refl _ _, fun _ h => absurd h (by omega), fun j _ hj => by rw [Array.getElem?_replicate, if_pos (by omega)]⟩
  case round =>
    obtain ⟨k, cs, hk, rfl, hcs, hrow, hgr, hd, hz⟩ := hrel
    have H1 := Lib.hid hcs
    have H2 := Lib.hid hrow
    have H3 := Lib.hid hgr
    have H4 := Lib.hid hd
    have H5 := Lib.hid hz
    clear hcs hrow hgr hd hz
    by_cases hlt : k < 18
    · go_wp2
      obtain ⟨x0, hx0⟩ : ∃ x, x = ((l.drop (16 * k)).take 16).getD 0 0 := ⟨_, rfl⟩
      obtain ⟨x1, hx1⟩ : ∃ x, x = ((l.drop (16 * k)).take 16).getD 1 0 := ⟨_, rfl⟩
      obtain ⟨x2, hx2⟩ : ∃ x, x = ((l.drop (16 * k)).take 16).getD 2 0 := ⟨_, rfl⟩
      obtain ⟨x3, hx3⟩ : ∃ x, x = ((l.drop (16 * k)).take 16).getD 3 0 := ⟨_, rfl⟩
      obtain ⟨x4, hx4⟩ : ∃ x, x = ((l.drop (16 * k)).take 16).getD 4 0 := ⟨_, rfl⟩
      obtain ⟨x5, hx5⟩ : ∃ x, x = ((l.drop (16 * k)).take 16).getD 5 0 := ⟨_, rfl⟩
      obtain ⟨x6, hx6⟩ : ∃ x, x = ((l.drop (16 * k)).take 16).getD 6 0 := ⟨_, rfl⟩
      obtain ⟨x7, hx7⟩ : ∃ x, x = ((l.drop (16 * k)).take 16).getD 7 0 := ⟨_, rfl⟩
      obtain ⟨x8, hx8⟩ : ∃ x, x = ((l.drop (16 * k)).take 16).getD 8 0 := ⟨_, rfl⟩
      obtain ⟨x9, hx9⟩ : ∃ x, x = ((l.drop (16 * k)).take 16).getD 9 0 := ⟨_, rfl⟩
      obtain ⟨x10, hx10⟩ : ∃ x, x = ((l.drop (16 * k)).take 16).getD 10 0 := ⟨_, rfl⟩
      obtain ⟨x11, hx11⟩ : ∃ x, x = ((l.drop (16 * k)).take 16).getD 11 0 := ⟨_, rfl⟩
      obtain ⟨x12, hx12⟩ : ∃ x, x = ((l.drop (16 * k)).take 16).getD 12 0 := ⟨_, rfl⟩
      obtain ⟨x13, hx13⟩ : ∃ x, x = ((l.drop (16 * k)).take 16).getD 13 0 := ⟨_, rfl⟩
      obtain ⟨x14, hx14⟩ : ∃ x, x = ((l.drop (16 * k)).take 16).getD 14 0 := ⟨_, rfl⟩
      obtain ⟨x15, hx15⟩ : ∃ x, x = ((l.drop (16 * k)).take 16).getD 15 0 := ⟨_, rfl⟩
      have hrc : Row ((wr.alloc (.cells #[.int .u8 0, .int .u8 0, .int .u8 0, .int .u8 0, .int .u8 0, .int .u8 0, .int .u8 0, .int .u8 0, .int .u8 0, .int .u8 0, .int .u8 0, .int .u8 0, .int .u8 0, .int .u8 0, .int .u8 0, .int .u8 0] 89)).drew) c 91 (Lib.byteCells l).toArray := ((HC.out.other H3.out (by intro e; injection e with e; exact HNE.out e.symm)).later _).drew
      have p0 : ((wr.alloc (.cells #[.int .u8 0, .int .u8 0, .int .u8 0, .int .u8 0, .int .u8 0, .int .u8 0, .int .u8 0, .int .u8 0, .int .u8 0, .int .u8 0, .int .u8 0, .int .u8 0, .int .u8 0, .int .u8 0, .int .u8 0, .int .u8 0] 89)).drew).cell? ⟨c, k * 16, none⟩ = some (.int .u8 (x0.toNat : Int)) := page_at HL.out hrc k hlt 0 (by omega) _ (by omega) x0 hx0
      have p1 : ((wr.alloc (.cells #[.int .u8 0, .int .u8 0, .int .u8 0, .int .u8 0, .int .u8 0, .int .u8 0, .int .u8 0, .int .u8 0, .int .u8 0, .int .u8 0, .int .u8 0, .int .u8 0, .int .u8 0, .int .u8 0, .int .u8 0, .int .u8 0] 89)).drew).cell? ⟨c, k * 16 + 1, none⟩ = some (.int .u8 (x1.toNat : Int)) := page_at HL.out hrc k hlt 1 (by omega) _ (by omega) x1 hx1
      have p2 : ((wr.alloc (.cells #[.int .u8 0, .int .u8 0, .int .u8 0, .int .u8 0, .int .u8 0, .int .u8 0, .int .u8 0, .int .u8 0, .int .u8 0, .int .u8 0, .int .u8 0, .int .u8 0, .int .u8 0, .int .u8 0, .int .u8 0, .int .u8 0] 89)).drew).cell? ⟨c, k * 16 + 2, none⟩ = some (.int .u8 (x2.toNat : Int)) := page_at HL.out hrc k hlt 2 (by omega) _ (by omega) x2 hx2
      have p3 : ((wr.alloc (.cells #[.int .u8 0, .int .u8 0, .int .u8 0, .int .u8 0, .int .u8 0, .int .u8 0, .int .u8 0, .int .u8 0, .int .u8 0, .int .u8 0, .int .u8 0, .int .u8 0, .int .u8 0, .int .u8 0, .int .u8 0, .int .u8 0] 89)).drew).cell? ⟨c, k * 16 + 3, none⟩ = some (.int .u8 (x3.toNat : Int)) := page_at HL.out hrc k hlt 3 (by omega) _ (by omega) x3 hx3
      have p4 : ((wr.alloc (.cells #[.int .u8 0, .int .u8 0, .int .u8 0, .int .u8 0, .int .u8 0, .int .u8 0, .int .u8 0, .int .u8 0, .int .u8 0, .int .u8 0, .int .u8 0, .int .u8 0, .int .u8 0, .int .u8 0, .int .u8 0, .int .u8 0] 89)).drew).cell? ⟨c, k * 16 + 4, none⟩ = some (.int .u8 (x4.toNat : Int)) := page_at HL.out hrc k hlt 4 (by omega) _ (by omega) x4 hx4
      have p5 : ((wr.alloc (.cells #[.int .u8 0, .int .u8 0, .int .u8 0, .int .u8 0, .int .u8 0, .int .u8 0, .int .u8 0, .int .u8 0, .int .u8 0, .int .u8 0, .int .u8 0, .int .u8 0, .int .u8 0, .int .u8 0, .int .u8 0, .int .u8 0] 89)).drew).cell? ⟨c, k * 16 + 5, none⟩ = some (.int .u8 (x5.toNat : Int)) := page_at HL.out hrc k hlt 5 (by omega) _ (by omega) x5 hx5
      have p6 : ((wr.alloc (.cells #[.int .u8 0, .int .u8 0, .int .u8 0, .int .u8 0, .int .u8 0, .int .u8 0, .int .u8 0, .int .u8 0, .int .u8 0, .int .u8 0, .int .u8 0, .int .u8 0, .int .u8 0, .int .u8 0, .int .u8 0, .int .u8 0] 89)).drew).cell? ⟨c, k * 16 + 6, none⟩ = some (.int .u8 (x6.toNat : Int)) := page_at HL.out hrc k hlt 6 (by omega) _ (by omega) x6 hx6
      have p7 : ((wr.alloc (.cells #[.int .u8 0, .int .u8 0, .int .u8 0, .int .u8 0, .int .u8 0, .int .u8 0, .int .u8 0, .int .u8 0, .int .u8 0, .int .u8 0, .int .u8 0, .int .u8 0, .int .u8 0, .int .u8 0, .int .u8 0, .int .u8 0] 89)).drew).cell? ⟨c, k * 16 + 7, none⟩ = some (.int .u8 (x7.toNat : Int)) := page_at HL.out hrc k hlt 7 (by omega) _ (by omega) x7 hx7
      have p8 : ((wr.alloc (.cells #[.int .u8 0, .int .u8 0, .int .u8 0, .int .u8 0, .int .u8 0, .int .u8 0, .int .u8 0, .int .u8 0, .int .u8 0, .int .u8 0, .int .u8 0, .int .u8 0, .int .u8 0, .int .u8 0, .int .u8 0, .int .u8 0] 89)).drew).cell? ⟨c, k * 16 + 8, none⟩ = some (.int .u8 (x8.toNat : Int)) := page_at HL.out hrc k hlt 8 (by omega) _ (by omega) x8 hx8
      have p9 : ((wr.alloc (.cells #[.int .u8 0, .int .u8 0, .int .u8 0, .int .u8 0, .int .u8 0, .int .u8 0, .int .u8 0, .int .u8 0, .int .u8 0, .int .u8 0, .int .u8 0, .int .u8 0, .int .u8 0, .int .u8 0, .int .u8 0, .int .u8 0] 89)).drew).cell? ⟨c, k * 16 + 9, none⟩ = some (.int .u8 (x9.toNat : Int)) := page_at HL.out hrc k hlt 9 (by omega) _ (by omega) x9 hx9
      have p10 : ((wr.alloc (.cells #[.int .u8 0, .int .u8 0, .int .u8 0, .int .u8 0, .int .u8 0, .int .u8 0, .int .u8 0, .int .u8 0, .int .u8 0, .int .u8 0, .int .u8 0, .int .u8 0, .int .u8 0, .int .u8 0, .int .u8 0, .int .u8 0] 89)).drew).cell? ⟨c, k * 16 + 10, none⟩ = some (.int .u8 (x10.toNat : Int)) := page_at HL.out hrc k hlt 10 (by omega) _ (by omega) x10 hx10
      have p11 : ((wr.alloc (.cells #[.int .u8 0, .int .u8 0, .int .u8 0, .int .u8 0, .int .u8 0, .int .u8 0, .int .u8 0, .int .u8 0, .int .u8 0, .int .u8 0, .int .u8 0, .int .u8 0, .int .u8 0, .int .u8 0, .int .u8 0, .int .u8 0] 89)).drew).cell? ⟨c, k * 16 + 11, none⟩ = some (.int .u8 (x11.toNat : Int)) := page_at HL.out hrc k hlt 11 (by omega) _ (by omega) x11 hx11
      have p12 : ((wr.alloc (.cells #[.int .u8 0, .int .u8 0, .int .u8 0, .int .u8 0, .int .u8 0, .int .u8 0, .int .u8 0, .int .u8 0, .int .u8 0, .int .u8 0, .int .u8 0, .int .u8 0, .int .u8 0, .int .u8 0, .int .u8 0, .int .u8 0] 89)).drew).cell? ⟨c, k * 16 + 12, none⟩ = some (.int .u8 (x12.toNat : Int)) := page_at HL.out hrc k hlt 12 (by omega) _ (by omega) x12 hx12
      have p13 : ((wr.alloc (.cells #[.int .u8 0, .int .u8 0, .int .u8 0, .int .u8 0, .int .u8 0, .int .u8 0, .int .u8 0, .int .u8 0, .int .u8 0, .int .u8 0, .int .u8 0, .int .u8 0, .int .u8 0, .int .u8 0, .int .u8 0, .int .u8 0] 89)).drew).cell? ⟨c, k * 16 + 13, none⟩ = some (.int .u8 (x13.toNat : Int)) := page_at HL.out hrc k hlt 13 (by omega) _ (by omega) x13 hx13
      have p14 : ((wr.alloc (.cells #[.int .u8 0, .int .u8 0, .int .u8 0, .int .u8 0, .int .u8 0, .int .u8 0, .int .u8 0, .int .u8 0, .int .u8 0, .int .u8 0, .int .u8 0, .int .u8 0, .int .u8 0, .int .u8 0, .int .u8 0, .int .u8 0] 89)).drew).cell? ⟨c, k * 16 + 14, none⟩ = some (.int .u8 (x14.toNat : Int)) := page_at HL.out hrc k hlt 14 (by omega) _ (by omega) x14 hx14
      have p15 : ((wr.alloc (.cells #[.int .u8 0, .int .u8 0, .int .u8 0, .int .u8 0, .int .u8 0, .int .u8 0, .int .u8 0, .int .u8 0, .int .u8 0, .int .u8 0, .int .u8 0, .int .u8 0, .int .u8 0, .int .u8 0, .int .u8 0, .int .u8 0] 89)).drew).cell? ⟨c, k * 16 + 15, none⟩ = some (.int .u8 (x15.toNat : Int)) := page_at HL.out hrc k hlt 15 (by omega) _ (by omega) x15 hx15
      have hrd : Row wr c 91 (Lib.byteCells l).toArray := HC.out.other H3.out (by intro e; injection e with e; exact HNE.out e.symm)
      have r0 : wr.cell? ⟨c, k * 16, none⟩ = some (.int .u8 (x0.toNat : Int)) := page_at HL.out hrd k hlt 0 (by omega) _ (by omega) x0 hx0
      have r1 : wr.cell? ⟨c, k * 16 + 1, none⟩ = some (.int .u8 (x1.toNat : Int)) := page_at HL.out hrd k hlt 1 (by omega) _ (by omega) x1 hx1
      have r2 : wr.cell? ⟨c, k * 16 + 2, none⟩ = some (.int .u8 (x2.toNat : Int)) := page_at HL.out hrd k hlt 2 (by omega) _ (by omega) x2 hx2
      have r3 : wr.cell? ⟨c, k * 16 + 3, none⟩ = some (.int .u8 (x3.toNat : Int)) := page_at HL.out hrd k hlt 3 (by omega) _ (by omega) x3 hx3
      have r4 : wr.cell? ⟨c, k * 16 + 4, none⟩ = some (.int .u8 (x4.toNat : Int)) := page_at HL.out hrd k hlt 4 (by omega) _ (by omega) x4 hx4
      have r5 : wr.cell? ⟨c, k * 16 + 5, none⟩ = some (.int .u8 (x5.toNat : Int)) := page_at HL.out hrd k hlt 5 (by omega) _ (by omega) x5 hx5
      have r6 : wr.cell? ⟨c, k * 16 + 6, none⟩ = some (.int .u8 (x6.toNat : Int)) := page_at HL.out hrd k hlt 6 (by omega) _ (by omega) x6 hx6
      have r7 : wr.cell? ⟨c, k * 16 + 7, none⟩ = some (.int .u8 (x7.toNat : Int)) := page_at HL.out hrd k hlt 7 (by omega) _ (by omega) x7 hx7
      have r8 : wr.cell? ⟨c, k * 16 + 8, none⟩ = some (.int .u8 (x8.toNat : Int)) := page_at HL.out hrd k hlt 8 (by omega) _ (by omega) x8 hx8
      have r9 : wr.cell? ⟨c, k * 16 + 9, none⟩ = some (.int .u8 (x9.toNat : Int)) := page_at HL.out hrd k hlt 9 (by omega) _ (by omega) x9 hx9
      have r10 : wr.cell? ⟨c, k * 16 + 10, none⟩ = some (.int .u8 (x10.toNat : Int)) := page_at HL.out hrd k hlt 10 (by omega) _ (by omega) x10 hx10
      have r11 : wr.cell? ⟨c, k * 16 + 11, none⟩ = some (.int .u8 (x11.toNat : Int)) := page_at HL.out hrd k hlt 11 (by omega) _ (by omega) x11 hx11
      have r12 : wr.cell? ⟨c, k * 16 + 12, none⟩ = some (.int .u8 (x12.toNat : Int)) := page_at HL.out hrd k hlt 12 (by omega) _ (by omega) x12 hx12
      have r13 : wr.cell? ⟨c, k * 16 + 13, none⟩ = some (.int .u8 (x13.toNat : Int)) := page_at HL.out hrd k hlt 13 (by omega) _ (by omega) x13 hx13
      have r14 : wr.cell? ⟨c, k * 16 + 14, none⟩ = some (.int .u8 (x14.toNat : Int)) := page_at HL.out hrd k hlt 14 (by omega) _ (by omega) x14 hx14
      have r15 : wr.cell? ⟨c, k * 16 + 15, none⟩ = some (.int .u8 (x15.toNat : Int)) := page_at HL.out hrd k hlt 15 (by omega) _ (by omega) x15 hx15
      have hP := page16 ((l.drop (16 * k)).take 16) (by have := HL.out; simp; omega)
      rw [← hx0, ← hx1, ← hx2, ← hx3, ← hx4, ← hx5, ← hx6, ← hx7, ← hx8, ← hx9, ← hx10, ← hx11, ← hx12, ← hx13, ← hx14, ← hx15] at hP
      have HP := Lib.hid hP
      clear hx0 hx1 hx2 hx3 hx4 hx5 hx6 hx7 hx8 hx9 hx10 hx11 hx12 hx13 hx14 hx15 hrc hrd hP
      go_region
      go_wp2
      clear p0 r0 p1 r1 p2 r2 p3 r3 p4 r4 p5 r5 p6 r6 p7 r7 p8 r8 p9 r9 p10 r10 p11 r11 p12 r12 p13 r13 p14 r14 p15 r15
      have hA : Row ((wr.alloc (.cells #[.int .u8 (x0.toNat : Int), .int .u8 (x1.toNat : Int), .int .u8 (x2.toNat : Int), .int .u8 (x3.toNat : Int), .int .u8 (x4.toNat : Int), .int .u8 (x5.toNat : Int), .int .u8 (x6.toNat : Int), .int .u8 (x7.toNat : Int), .int .u8 (x8.toNat : Int), .int .u8 (x9.toNat : Int), .int .u8 (x10.toNat : Int), .int .u8 (x11.toNat : Int), .int .u8 (x12.toNat : Int), .int .u8 (x13.toNat : Int), .int .u8 (x14.toNat : Int), .int .u8 (x15.toNat : Int)] 89)).drew) wr.heap.size 89 (Lib.byteCells [x0, x1, x2, x3, x4, x5, x6, x7, x8, x9, x10, x11, x12, x13, x14, x15]).toArray := (Row.made wr 89 _).drew
      have hB : Row ((wr.alloc (.cells #[.int .u8 (x0.toNat : Int), .int .u8 (x1.toNat : Int), .int .u8 (x2.toNat : Int), .int .u8 (x3.toNat : Int), .int .u8 (x4.toNat : Int), .int .u8 (x5.toNat : Int), .int .u8 (x6.toNat : Int), .int .u8 (x7.toNat : Int), .int .u8 (x8.toNat : Int), .int .u8 (x9.toNat : Int), .int .u8 (x10.toNat : Int), .int .u8 (x11.toNat : Int), .int .u8 (x12.toNat : Int), .int .u8 (x13.toNat : Int), .int .u8 (x14.toNat : Int), .int .u8 (x15.toNat : Int)] 89)).drew) t 86 cs := (H2.out.later _).drew
      have hC : w.grownBy ((wr.alloc (.cells #[.int .u8 (x0.toNat : Int), .int .u8 (x1.toNat : Int), .int .u8 (x2.toNat : Int), .int .u8 (x3.toNat : Int), .int .u8 (x4.toNat : Int), .int .u8 (x5.toNat : Int), .int .u8 (x6.toNat : Int), .int .u8 (x7.toNat : Int), .int .u8 (x8.toNat : Int), .int .u8 (x9.toNat : Int), .int .u8 (x10.toNat : Int), .int .u8 (x11.toNat : Int), .int .u8 (x12.toNat : Int), .int .u8 (x13.toNat : Int), .int .u8 (x14.toNat : Int), .int .u8 (x15.toNat : Int)] 89)).drew) (some t) := grown_drew (grown_alloc H3.out _)
      rw [← HP.out] at hA
      generalize (wr.alloc (.cells #[.int .u8 (x0.toNat : Int), .int .u8 (x1.toNat : Int), .int .u8 (x2.toNat : Int), .int .u8 (x3.toNat : Int), .int .u8 (x4.toNat : Int), .int .u8 (x5.toNat : Int), .int .u8 (x6.toNat : Int), .int .u8 (x7.toNat : Int), .int .u8 (x8.toNat : Int), .int .u8 (x9.toNat : Int), .int .u8 (x10.toNat : Int), .int .u8 (x11.toNat : Int), .int .u8 (x12.toNat : Int), .int .u8 (x13.toNat : Int), .int .u8 (x14.toNat : Int), .int .u8 (x15.toNat : Int)] 89)).drew = w1 at hA hB hC ⊢
      obtain ⟨P, hP⟩ : ∃ P, P = (l.drop (16 * k)).take 16 := ⟨_, rfl⟩
      rw [← hP] at hA
      have hPl : P.length = 16 := by rw [hP]; have := HL.out; simp; omega
      have HPP := Lib.hid (And.intro hP hPl)
      have HA := Lib.hid hA
      have HB := Lib.hid hB
      have HCC := Lib.hid hC
      obtain ⟨u, hu⟩ : ∃ u, cs[32 + k]? = some u := ⟨_, Array.getElem?_eq_getElem (by rw [H1.out]; omega)⟩
      have cu : w1.cell? ⟨t, 32 + k, none⟩ = some u := (hB.cellAt _).trans hu
      have fu : w1.frozen? ⟨t, 32 + k, none⟩ = false := hB.notFrozen _
      have e1 : IntKind.i64.wrap (32 + (k : Int)) = 32 + (k : Int) := by rw [IntKind.wrap_i64]; omega
      have e2 : (32 + (k : Int)).toNat = 32 + k := by omega
      have b0 : (0 : Int) ≤ 32 + (k : Int) := by omega
      have b1 : 32 + (k : Int) < 64 := by omega
      clear hA hB hC hP hPl hu
      go_region_with (go_at_call 43; refine Calls.mono (fnvArena_at wr.heap.size 0 16 16 P _ (by exact HPP.out.2.symm) (by rw [HPP.out.2]; omega) (by exact HA.out.drew.holds 0 P (fun j hj => by rw [Nat.zero_add, List.getElem?_toArray]; exact byteCells_get P j hj))) ?_; rintro e w' ⟨rfl, rfl⟩)
      go_wp2
      go_roundw
      case rel =>
        refine ⟨k + 1, cs.setIfInBounds (32 + k) (.int .u32 ((fnv P).toNat : Int)), by omega, by go_num, by rw [Array.size_setIfInBounds]; exact H1.out, (HB.out.stored _ _).drew, grown_drew (grown_set HCC.out _ _), fun j hj => ?_, fun j hj hj2 => ?_⟩
        · rw [Array.getElem?_setIfInBounds]
          by_cases hj2 : 32 + k = 32 + j
          · rw [if_pos hj2, if_pos (by rw [H1.out]; omega)]
            obtain rfl : k = j := by omega
            rw [leafV, if_pos hlt, HPP.out.1]
          · rw [if_neg hj2]; exact H4.out j (by omega)
        · rw [Array.getElem?_setIfInBounds, if_neg (by omega)]; exact H5.out j (by omega) hj2
      case measure => simp [intOf]; omega
    · go_wp2
      go_loopw [6] (fun i wr2 => ∃ m : Nat, ∃ cs2 : Array Value, m ≤ 31 ∧ i = .int .i64 m ∧ cs2.size = 64 ∧ Row wr2 t 86 cs2 ∧ w.grownBy wr2 (some t) ∧ (∀ j, m < j → j < 64 → cs2[j]? = some (.int .u32 ((nodeV l j).toNat : Int)))) (fun i _ => (intOf i).toNat)
      case atStart =>
        refine ⟨31, cs, Nat.le_refl _, rfl, H1.out, H2.out, H3.out, fun j hj hj2 => ?_⟩
        rw [nodeV_leaf l j (by omega)]
        by_cases h18 : j - 32 < 18
        · have := H4.out (j - 32) (by omega)
          rw [show 32 + (j - 32) = j by omega] at this
          exact this
        · have := H5.out (j - 32) (by omega) (by omega)
          rw [show 32 + (j - 32) = j by omega] at this
          rw [leafV, if_neg h18]
          exact this
      case round =>
        obtain ⟨m, cs2, hm, rfl, hcs2, hrow2, hgr2, hd2⟩ := hrel
        have K1 := Lib.hid hcs2
        have K2 := Lib.hid hrow2
        have K3 := Lib.hid hgr2
        have K4 := Lib.hid hd2
        clear hcs2 hrow2 hgr2 hd2
        by_cases hpos : 0 < m
        · go_wp2_with fail
          refine Calls.mono (join_any t m (nodeV l (2 * m)) (nodeV l (2 * m + 1)) cs2 _ K2.out K1.out (by omega) (K4.out (2 * m) (by omega) (by omega)) (K4.out (2 * m + 1) (by omega) (by omega))) ?_
          rintro e w' ⟨rfl, hr', hg'⟩
          have K5 := Lib.hid hr'
          have K6 := Lib.hid hg'
          clear hr' hg'
          go_wp2
          go_roundw
          case rel =>
            refine ⟨m - 1, cs2.setIfInBounds m (.int .u32 ((pair2 (nodeV l (2 * m)) (nodeV l (2 * m + 1))).toNat : Int)), by omega, by first | go_num | (congr 1; omega), by rw [Array.size_setIfInBounds]; exact K1.out, K5.out, grown_trans K3.out K6.out, fun j hj hj2 => ?_⟩
            rw [Array.getElem?_setIfInBounds]
            by_cases hjm : m = j
            · subst hjm
              rw [if_pos rfl, if_pos (by rw [K1.out]; omega), nodeV_pair l m (by omega) (by omega)]
            · rw [if_neg hjm]; exact K4.out j (by omega) hj2
          case measure => simp [intOf]; omega
        · have hm0 : m = 0 := by omega
          have HM := Lib.hid hm0
          clear hm0
          go_wp2
          go_end0
          exact ⟨rfl, K3.out, cs2, K2.out, K4.out 1 (by have := HM.out; omega) (by omega)⟩
end Go.Proofs.YtmcfcfdpckjonaaDoor
