/- The sums over the pages of a memory, as plain numbers: leaves and nodes. -/
import Derived.Test.YtmcfcfdpckjonaaDoorJoin
namespace Go.Proofs.YtmcfcfdpckjonaaDoor
open Go.RowKit

/-- The sum of page i; of those that are not there: none. -/
def leafV (l : List UInt8) (i : Nat) : UInt32 := if i < 18 then fnv ((l.drop (16 * i)).take 16) else 0
def nodeF (l : List UInt8) : Nat → Nat → UInt32
  | 0, j => leafV l (j - 32)
  | f + 1, j => if 32 ≤ j then leafV l (j - 32) else pair2 (nodeF l f (2 * j)) (nodeF l f (2 * j + 1))
/-- The sum of node j: leaf i stands at 32 + i, node j over 2j and 2j + 1. -/
def nodeV (l : List UInt8) (j : Nat) : UInt32 := nodeF l 6 j
theorem nodeF_more (l : List UInt8) (f : Nat) : ∀ j, 32 ≤ j * 2 ^ f → nodeF l (f + 1) j = nodeF l f j := by
  induction f with
  | zero => intro j h; simp [nodeF]; intro h2; omega
  | succ f ih =>
    intro j h
    show (if 32 ≤ j then leafV l (j - 32) else pair2 (nodeF l (f + 1) (2 * j)) (nodeF l (f + 1) (2 * j + 1))) = (if 32 ≤ j then leafV l (j - 32) else pair2 (nodeF l f (2 * j)) (nodeF l f (2 * j + 1)))
    by_cases h2 : 32 ≤ j
    · rw [if_pos h2, if_pos h2]
    · rw [if_neg h2, if_neg h2, ih (2 * j) (by rw [Nat.pow_succ] at h; rw [Nat.mul_comm 2 j, Nat.mul_assoc, Nat.mul_comm 2]; exact h), ih (2 * j + 1) (by
        rw [Nat.pow_succ] at h
        have : j * (2 ^ f * 2) ≤ (2 * j + 1) * 2 ^ f := by rw [Nat.mul_comm (2 ^ f) 2, ← Nat.mul_assoc, Nat.mul_comm j 2]; exact Nat.mul_le_mul_right _ (by omega)
        omega)]
theorem nodeV_leaf (l : List UInt8) (j : Nat) (h : 32 ≤ j) : nodeV l j = leafV l (j - 32) := by unfold nodeV; rw [nodeF, if_pos h]
theorem nodeV_pair (l : List UInt8) (j : Nat) (h0 : 1 ≤ j) (h : j < 32) : nodeV l j = pair2 (nodeV l (2 * j)) (nodeV l (2 * j + 1)) := by
  unfold nodeV
  rw [nodeF_more l 5 (2 * j) (by omega), nodeF_more l 5 (2 * j + 1) (by omega)]
  rw [nodeF, if_neg (by omega)]
theorem page_holds {w : World} {c : Nat} {l : List UInt8} (hl : l.length = 288) (hc : Row w c 91 (Lib.byteCells l).toArray) (k : Nat) (hk : k < 18) (j : Nat) (hj : j < 16) :
    w.cell? ⟨c, 16 * k + j, none⟩ = some (.int .u8 ((((l.drop (16 * k)).take 16).getD j 0).toNat : Int)) := by
  rw [hc.cellAt, List.getElem?_toArray, byteCells_get l _ (by omega)]
  simp [List.getD_eq_getElem?_getD, List.getElem?_drop, hj]
theorem page_at {w : World} {c : Nat} {l : List UInt8} (hl : l.length = 288) (hc : Row w c 91 (Lib.byteCells l).toArray) (k : Nat) (hk : k < 18) (j : Nat) (hj : j < 16) (o : Nat) (ho : o = 16 * k + j) (x : UInt8) (hx : x = ((l.drop (16 * k)).take 16).getD j 0) :
    w.cell? ⟨c, o, none⟩ = some (.int .u8 (x.toNat : Int)) := by
  rw [ho, hx]; exact page_holds hl hc k hk j hj
theorem page16 (P : List UInt8) (h : P.length = 16) : P = [P.getD 0 0, P.getD 1 0, P.getD 2 0, P.getD 3 0, P.getD 4 0, P.getD 5 0, P.getD 6 0, P.getD 7 0, P.getD 8 0, P.getD 9 0, P.getD 10 0, P.getD 11 0, P.getD 12 0, P.getD 13 0, P.getD 14 0, P.getD 15 0] := by
  match P, h with
  | [a0, a1, a2, a3, a4, a5, a6, a7, a8, a9, a10, a11, a12, a13, a14, a15], _ => rfl
end Go.Proofs.YtmcfcfdpckjonaaDoor
