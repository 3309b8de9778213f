/- Slices of bytes: what they hold, and the contracts of the leaves: check, fnv, roomy, still, spoilt, stays. -/
import Derived.Test.YtmcfcfdpckjonaaDoorProg
import Derived.WalkKit
import Derived.Lib.Hide
import Derived.Lib.BufferWrite
import Derived.Lib.ConvBytes
import Derived.Deep.QuietTactic
import Derived.BigQuiet
namespace Go.Proofs.YtmcfcfdpckjonaaDoor
open Go.RowKit

/-- From place off of block g on lie the bytes l. -/
def Holds (w : World) (g off : Nat) (l : List UInt8) : Prop := ∀ j, j < l.length → w.cell? ⟨g, off + j, none⟩ = some (.int .u8 ((l.getD j 0).toNat : Int))
def chk (l : List UInt8) : UInt8 := l.foldl (fun c x => c ^^^ x) 0x5a
theorem chk_snoc (l : List UInt8) (k : Nat) (h : k < l.length) : chk (l.take (k + 1)) = chk (l.take k) ^^^ l.getD k 0 := by
  unfold chk
  rw [List.take_succ_eq_append_getElem h, List.foldl_append]
  simp [h]

theorem u8_xor' (a b : UInt8) : bits .xor .u8 (a.toNat : Int) (b.toNat : Int) = ((a ^^^ b).toNat : Int) := by
  rw [u8_xor_nat _ _ a.toNat_lt b.toNat_lt, UInt8.toNat_xor]

set_option maxHeartbeats 400000 in
theorem check_any (g off cap : Nat) (l : List UInt8) (w : World) (hl : l.length ≤ 65600) (hh : Holds w g off l) :
    Calls Tryd.prog 32 #[.slice (some ⟨g, off, none⟩) l.length cap] w fun e w' => e = .returned (.int .u8 ((chk l).toNat : Int)) ∧ w = w' := by
  go_enter Tryd.func32, Tryd.ntmps32
  go_wp2
  go_loop [3, 8] (fun c i => ∃ k : Nat, k ≤ l.length ∧ i = .int .i64 k ∧ c = .int .u8 ((chk (l.take k)).toNat : Int)) (fun _ i => l.length - (intOf i).toNat)
  case atStart => exact ⟨0, Nat.zero_le _, rfl, rfl⟩
  case round =>
    obtain ⟨k, hk, rfl, rfl⟩ := hrel
    have hcell : k < l.length → w.cell? ⟨g, off + k, none⟩ = some (.int .u8 ((l.getD k 0).toNat : Int)) := fun h => hh k h
    by_cases hlt : k < l.length
    · have HS := Lib.hid (chk_snoc l k hlt)
      go_wp2
      go_round
      case rel => exact ⟨k + 1, by omega, by go_num, by rw [HS.out, u8_xor']; congr 4; simp [hlt]⟩
      case measure => simp [intOf]; omega
    · go_wp2
      go_ret
      exact ⟨by rw [List.take_of_length_le (by omega)]; rfl, rfl⟩

def fnvStep (v : UInt32) (c : UInt8) : UInt32 := (v ^^^ c.toUInt32) * 16777619
def fnv (l : List UInt8) : UInt32 := l.foldl fnvStep 2166136261
theorem fnvStep_toNat (v : UInt32) (c : UInt8) : ((fnvStep v c).toNat : Int) = bits .xor .u32 (v.toNat : Int) ((c.toNat : Int) % 4294967296) * 16777619 % 4294967296 := by
  have h1 : ((c.toNat : Int) % 4294967296) = (c.toNat : Int) := by have := c.toNat_lt; omega
  rw [h1, u32_xor_nat _ _ v.toNat_lt (by have := c.toNat_lt; omega)]
  unfold fnvStep
  rw [UInt32.toNat_mul, UInt32.toNat_xor, UInt8.toNat_toUInt32]
  simp
theorem fnv_snoc (l : List UInt8) (k : Nat) (h : k < l.length) : fnv (l.take (k + 1)) = fnvStep (fnv (l.take k)) (l.getD k 0) := by
  unfold fnv
  rw [List.take_succ_eq_append_getElem h, List.foldl_append]
  simp [h]

set_option maxHeartbeats 400000 in
theorem fnvRef_any (g off cap : Nat) (l : List UInt8) (w : World) (hl : l.length ≤ 65600) (hh : Holds w g off l) :
    Calls Tryd.prog 25 #[.slice (some ⟨g, off, none⟩) l.length cap] w fun e w' => e = .returned (.int .u32 ((fnv l).toNat : Int)) ∧ w = w' := by
  go_enter Tryd.func25, Tryd.ntmps25
  go_wp2
  go_loop [3, 4] (fun c i => ∃ k : Nat, k ≤ l.length ∧ i = .int .i64 k ∧ c = .int .u32 ((fnv (l.take k)).toNat : Int)) (fun _ i => l.length - (intOf i).toNat)
  case atStart => exact ⟨0, Nat.zero_le _, rfl, rfl⟩
  case round =>
    obtain ⟨k, hk, rfl, rfl⟩ := hrel
    have hcell : k < l.length → w.cell? ⟨g, off + k, none⟩ = some (.int .u8 ((l.getD k 0).toNat : Int)) := fun h => hh k h
    by_cases hlt : k < l.length
    · have HS := Lib.hid (fnv_snoc l k hlt)
      go_wp2
      go_round
      case rel => exact ⟨k + 1, by omega, by go_num, by rw [HS.out, fnvStep_toNat]; congr 5; simp [hlt]⟩
      case measure => simp [intOf]; omega
    · go_wp2
      go_ret
      exact ⟨by rw [List.take_of_length_le (by omega)]; rfl, rfl⟩

set_option maxHeartbeats 400000 in
theorem fnvArena_any (g off cap : Nat) (l : List UInt8) (w : World) (hl : l.length ≤ 65600) (hh : Holds w g off l) :
    Calls Tryd.prog 43 #[.slice (some ⟨g, off, none⟩) l.length cap] w fun e w' => e = .returned (.int .u32 ((fnv l).toNat : Int)) ∧ w = w' := by
  go_enter Tryd.func43, Tryd.ntmps43
  go_wp2
  go_loop [3, 8] (fun c i => ∃ k : Nat, k ≤ l.length ∧ i = .int .i64 k ∧ c = .int .u32 ((fnv (l.take k)).toNat : Int)) (fun _ i => l.length - (intOf i).toNat)
  case atStart => exact ⟨0, Nat.zero_le _, rfl, rfl⟩
  case round =>
    obtain ⟨k, hk, rfl, rfl⟩ := hrel
    have hcell : k < l.length → w.cell? ⟨g, off + k, none⟩ = some (.int .u8 ((l.getD k 0).toNat : Int)) := fun h => hh k h
    by_cases hlt : k < l.length
    · have HS := Lib.hid (fnv_snoc l k hlt)
      go_wp2
      go_round
      case rel => exact ⟨k + 1, by omega, by go_num, by rw [HS.out, fnvStep_toNat]; congr 5; simp [hlt]⟩
      case measure => simp [intOf]; omega
    · go_wp2
      go_ret
      exact ⟨by rw [List.take_of_length_le (by omega)]; rfl, rfl⟩
end Go.Proofs.YtmcfcfdpckjonaaDoor
