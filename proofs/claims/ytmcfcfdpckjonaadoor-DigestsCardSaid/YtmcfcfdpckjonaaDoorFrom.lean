/- arena.From: the cells of a whole memory. -/
import Derived.Test.YtmcfcfdpckjonaaDoorFour
namespace Go.Proofs.YtmcfcfdpckjonaaDoor
open Go.RowKit

theorem zero91 : Tryd.zeroCells91.size = 288 := by kernel_rfl
theorem row_of_bytes {cur : Array Value} {l : List UInt8} (hs : cur.size = l.length) (hd : ∀ j, j < l.length → cur[j]? = some (.int .u8 ((l.getD j 0).toNat : Int))) : cur = (Lib.byteCells l).toArray := by
  apply Array.ext_getElem?
  intro j
  rcases Nat.lt_or_ge j l.length with h | h
  · rw [hd j h, List.getElem?_toArray, byteCells_get l j h]
  · rw [Array.getElem?_eq_none (by omega), Array.getElem?_eq_none (by simp [Lib.byteCells_length]; omega)]

set_option maxHeartbeats 1000000 in
set_option maxRecDepth 100000 in
theorem from_any (g cap : Nat) (l : List UInt8) (w : World) (hl : l.length = 288) (hh : Holds w g 0 l) (hg : g < w.heap.size) :
    Calls Tryd.prog 31 #[.slice (some ⟨g, 0, none⟩) 288 cap] w fun e w' => e = .returned (.pointer (some ⟨w.heap.size, 0, none⟩)) ∧ Below w.heap.size w w' ∧ Row w' w.heap.size 91 (Lib.byteCells l).toArray := by
  have HH := Lib.hid hh
  have HL := Lib.hid hl
  clear hh hl
  go_enter Tryd.func31, Tryd.ntmps31
  go_wp2
  go_loopw [10] (fun i wr => ∃ k : Nat, ∃ cur : Array Value, k ≤ 288 ∧ i = .int .i64 k ∧ cur.size = 288 ∧ Row wr w.heap.size 91 cur ∧ Below w.heap.size w wr ∧ (∀ j, j < k → cur[j]? = some (.int .u8 ((l.getD j 0).toNat : Int)))) (fun i _ => 288 - (intOf i).toNat)
  case atStart => exact ⟨0, Tryd.zeroCells91, Nat.zero_le _, rfl, zero91, Row.made w 91 _, (Below.refl _ _).alloc (Nat.le_refl _) _, fun _ h => absurd h (by omega)⟩
  case round =>
    obtain ⟨k, cur, hk, rfl, hcs, hrow, hb, hdone⟩ := hrel
    have H1 := Lib.hid hcs
    have H2 := Lib.hid hrow
    have H3 := Lib.hid hdone
    have H4 := Lib.hid hb
    clear hcs hrow hdone hb
    by_cases hlt : k < 288
    · have hcell : wr.cell? ⟨g, k, none⟩ = some (.int .u8 ((l.getD k 0).toNat : Int)) := by
        have := (HH.out.below H4.out hg) k (by rw [HL.out]; exact hlt)
        rwa [Nat.zero_add] at this
      obtain ⟨x, hx⟩ : ∃ x, x = l.getD k 0 := ⟨_, rfl⟩
      rw [← hx] at hcell
      have HX := Lib.hid hx
      clear hx
      go_wp2_with (go_at_call 39; refine (set_any w.heap.size k x cur wr H2.out H1.out hlt).mono ?_; rintro e w' ⟨rfl, rfl⟩)
      go_roundw
      case rel =>
        refine ⟨k + 1, cur.setIfInBounds k (.int .u8 (x.toNat : Int)), by omega, by go_num, by rw [Array.size_setIfInBounds]; exact H1.out, H2.out.stored _ _, H4.out.setCell (Nat.le_refl _) _, fun j hj => ?_⟩
        rw [Array.getElem?_setIfInBounds]
        by_cases hj2 : k = j
        · subst hj2; rw [if_pos rfl, if_pos (by rw [H1.out]; exact hlt), HX.out]
        · rw [if_neg hj2]; exact H3.out j (by omega)
      case measure => simp [intOf]; omega
    · have hk2 : k = 288 := by omega
      have HK := Lib.hid hk2
      clear hk2
      go_wp2
      go_ret
      refine ⟨rfl, H4.out, ?_⟩
      rw [← row_of_bytes (by rw [H1.out, HL.out]) (fun j hj => H3.out j (by rw [HK.out, ← HL.out]; exact hj))]
      exact H2.out
end Go.Proofs.YtmcfcfdpckjonaaDoor
