/- Digest, the small parts: four, the sum of two sums; arena's Set. -/
import Derived.Test.YtmcfcfdpckjonaaDoorApp
namespace Go.Proofs.YtmcfcfdpckjonaaDoor
open Go.RowKit

/-- A number's four bytes, the highest first. -/
def four (v : UInt32) : List UInt8 := [UInt8.ofNat (v.toNat / 16777216), UInt8.ofNat (v.toNat / 65536 % 256), UInt8.ofNat (v.toNat / 256 % 256), UInt8.ofNat (v.toNat % 256)]
/-- The sum of two sums that stand side by side. -/
def pair2 (l r : UInt32) : UInt32 := fnv (four l ++ four r)
theorem ofNat_int (n : Nat) (h : n < 256) : ((UInt8.ofNat n).toNat : Int) = (n : Int) := by rw [UInt8.toNat_ofNat_of_lt' h]
theorem four_cells (v : UInt32) : Lib.byteCells (four v) = [.int .u8 ((v.toNat : Int) / 16777216), .int .u8 ((v.toNat : Int) / 65536 % 256), .int .u8 ((v.toNat : Int) / 256 % 256), .int .u8 ((v.toNat : Int) % 256)] := by
  have hb := v.toNat_lt
  unfold four Lib.byteCells
  simp only [List.map_cons, List.map_nil]
  rw [ofNat_int _ (by omega), ofNat_int _ (by omega), ofNat_int _ (by omega), ofNat_int _ (by omega)]
  rfl
theorem four_len (v : UInt32) : (four v).length = 4 := rfl

/-- What a call leaves that makes so many bytes of its own. -/
def FourPost (w : World) (l : List UInt8) (e : Ending) (w' : World) : Prop :=
  ∃ g cap, e = .returned (.slice (some ⟨g, 0, none⟩) 4 cap) ∧ Own w' w.heap.size g cap l ∧ Below w.heap.size w w'

set_option maxHeartbeats 400000 in
set_option maxRecDepth 100000 in
theorem four_any (v : UInt32) (w : World) : Calls Tryd.prog 26 #[.int .u32 (v.toNat : Int)] w (FourPost w (four v)) := by
  have hb := v.toNat_lt
  go_enter Tryd.func26, Tryd.ntmps26
  go_wp2
  go_ret
  refine ⟨w.heap.size, 4, rfl, ?_, (Below.refl _ _).alloc (Nat.le_refl _) _⟩
  exact own_new w w.heap.size _ (four v) (by rw [four_cells]) (Nat.le_refl _) (by rw [four_len]; omega)

set_option maxHeartbeats 400000 in
set_option maxRecDepth 100000 in
theorem set_any (g at_ : Nat) (x : UInt8) (cs : Array Value) (w : World) (hr : Row w g 91 cs) (hs : cs.size = 288) (ha : at_ < 288) :
    Calls Tryd.prog 39 #[.pointer (some ⟨g, 0, none⟩), .int .i64 (at_ : Int), .int .u8 (x.toNat : Int)] w fun e w' => e = .returned (.tuple #[]) ∧ w' = w.setCell ⟨g, at_, none⟩ (.int .u8 (x.toNat : Int)) := by
  have ho : at_ / 16 * 16 + at_ % 16 = at_ := by omega
  obtain ⟨u, hu⟩ : ∃ u, cs[at_]? = some u := ⟨_, Array.getElem?_eq_getElem (by omega)⟩
  have hc : w.cell? ⟨g, at_ / 16 * 16 + at_ % 16, none⟩ = some u := by rw [ho]; exact (hr.cellAt _).trans hu
  have hf : w.frozen? ⟨g, at_ / 16 * 16 + at_ % 16, none⟩ = false := hr.notFrozen _
  have HO := Lib.hid ho
  clear hu hr ho hs
  go_enter Tryd.func39, Tryd.ntmps39
  go_wp2
  go_end0
  exact ⟨rfl, by rw [HO.out]⟩
end Go.Proofs.YtmcfcfdpckjonaaDoor
