/- The tree of sums: join sets a node out of its two children. -/
import Derived.Test.YtmcfcfdpckjonaaDoorFour
import Derived.Deep.RegionWith
namespace Go.Proofs.YtmcfcfdpckjonaaDoor
open Go.RowKit

theorem fnvArena_at (g off cap m : Nat) (l : List UInt8) (w : World) (hm : m = l.length) (hl : l.length ≤ 65600) (hh : Holds w g off l) :
    Calls Tryd.prog 43 #[.slice (some ⟨g, off, none⟩) m cap] w fun e w' => e = .returned (.int .u32 ((fnv l).toNat : Int)) ∧ w = w' := by
  subst hm; exact fnvArena_any g off cap l w hl hh

theorem drewN_below (w : World) (n : Nat) : Below w.heap.size w (w.drewN n) := ⟨by cases n <;> rfl, by cases n <;> rfl, by cases n <;> rfl, by cases n <;> exact Nat.le_refl _, fun k _ => by cases n <;> rfl⟩
theorem grown_alloc {a w : World} {r : Option Nat} (h : a.grownBy w r) (o : Obj) : a.grownBy (w.alloc o) r :=
  ⟨h.os, h.tape, h.output, by have := h.size; simp; omega, fun k hk hne => (Below.heap_alloc _ _ k (Nat.lt_of_lt_of_le hk h.size)).trans (h.block k hk hne)⟩
theorem grown_drew {a w : World} {r : Option Nat} (h : a.grownBy w r) : a.grownBy w.drew r := ⟨h.os, h.tape, h.output, h.size, h.block⟩

set_option maxHeartbeats 1000000 in
set_option maxRecDepth 100000 in
theorem join_any (t i : Nat) (L R : UInt32) (cs : Array Value) (w : World) (hr : Row w t 86 cs) (hs : cs.size = 64) (hi : i < 32) (hL : cs[2 * i]? = some (.int .u32 (L.toNat : Int))) (hR : cs[2 * i + 1]? = some (.int .u32 (R.toNat : Int))) :
    Calls Tryd.prog 44 #[.pointer (some ⟨t, 0, none⟩), .int .i64 (i : Int)] w fun e w' => e = .returned (.tuple #[]) ∧ Row w' t 86 (cs.setIfInBounds i (.int .u32 ((pair2 L R).toNat : Int))) ∧ w.grownBy w' (some t) := by
  have c1 : w.cell? ⟨t, 2 * i, none⟩ = some (.int .u32 (L.toNat : Int)) := (hr.cellAt _).trans hL
  have c2 : w.cell? ⟨t, 2 * i + 1, none⟩ = some (.int .u32 (R.toNat : Int)) := (hr.cellAt _).trans hR
  have e1 : IntKind.i64.wrap (2 * (i : Int)) = 2 * (i : Int) := by rw [IntKind.wrap_i64]; omega
  have e2 : IntKind.i64.wrap (2 * (i : Int) + 1) = 2 * (i : Int) + 1 := by rw [IntKind.wrap_i64]; omega
  have n1 : (2 * (i : Int)).toNat = 2 * i := by omega
  have n2 : (2 * (i : Int) + 1).toNat = 2 * i + 1 := by omega
  have b0 : (0 : Int) ≤ 2 * (i : Int) := by omega
  have b1 : 2 * (i : Int) < 64 := by omega
  have b2 : (0 : Int) ≤ 2 * (i : Int) + 1 := by omega
  have b3 : 2 * (i : Int) + 1 < 64 := by omega
  obtain ⟨u, hu⟩ : ∃ u, cs[i]? = some u := ⟨_, Array.getElem?_eq_getElem (by omega)⟩
  have HR := Lib.hid hr
  have HU := Lib.hid hu
  clear hr hL hR hs hu
  go_enter Tryd.func44, Tryd.ntmps44
  go_wp2
  go_quiet (fail)
  go_wp2
  generalize hw0 : w.drewN nq = w0
  have HR0 := Lib.hid (show Row w0 t 86 cs by rw [← hw0]; exact HR.out)
  have HG0 := Lib.hid (show w.grownBy w0 (some t) by rw [← hw0]; exact below_grown (drewN_below w nq) (some t))
  clear hw0 c1 c2 e1 e2 n1 n2 b0 b1 b2 b3
  have hbL := L.toNat_lt
  have hbR := R.toNat_lt
  have b0 : (0 : Int) ≤ (i : Int) := by omega
  have b1 : (i : Int) < 64 := by omega
  have hlt := HR0.out.isLt
  have k1 : IntKind.u8.wrap ((L.toNat : Int) / 16777216) = (L.toNat : Int) / 16777216 := by rw [IntKind.wrap_u8]; try omega
  have k2 : IntKind.u8.wrap ((L.toNat : Int) / 65536) = (L.toNat : Int) / 65536 % 256 := by rw [IntKind.wrap_u8]; try omega
  have k3 : IntKind.u8.wrap ((L.toNat : Int) / 256) = (L.toNat : Int) / 256 % 256 := by rw [IntKind.wrap_u8]; try omega
  have k4 : IntKind.u8.wrap ((L.toNat : Int) ) = (L.toNat : Int) % 256 := by rw [IntKind.wrap_u8]; try omega
  have k5 : IntKind.u8.wrap ((R.toNat : Int) / 16777216) = (R.toNat : Int) / 16777216 := by rw [IntKind.wrap_u8]; try omega
  have k6 : IntKind.u8.wrap ((R.toNat : Int) / 65536) = (R.toNat : Int) / 65536 % 256 := by rw [IntKind.wrap_u8]; try omega
  have k7 : IntKind.u8.wrap ((R.toNat : Int) / 256) = (R.toNat : Int) / 256 % 256 := by rw [IntKind.wrap_u8]; try omega
  have k8 : IntKind.u8.wrap ((R.toNat : Int) ) = (R.toNat : Int) % 256 := by rw [IntKind.wrap_u8]; try omega
  have cu := ((HR0.out.later (.cells #[.int .u8 ((L.toNat : Int) / 16777216), .int .u8 ((L.toNat : Int) / 65536 % 256), .int .u8 ((L.toNat : Int) / 256 % 256), .int .u8 ((L.toNat : Int) % 256), .int .u8 ((R.toNat : Int) / 16777216), .int .u8 ((R.toNat : Int) / 65536 % 256), .int .u8 ((R.toNat : Int) / 256 % 256), .int .u8 ((R.toNat : Int) % 256)] 5)).drew.cellAt i).trans HU.out
  have fu := (HR0.out.later (.cells #[.int .u8 ((L.toNat : Int) / 16777216), .int .u8 ((L.toNat : Int) / 65536 % 256), .int .u8 ((L.toNat : Int) / 256 % 256), .int .u8 ((L.toNat : Int) % 256), .int .u8 ((R.toNat : Int) / 16777216), .int .u8 ((R.toNat : Int) / 65536 % 256), .int .u8 ((R.toNat : Int) / 256 % 256), .int .u8 ((R.toNat : Int) % 256)] 5)).drew.notFrozen i
  go_region_with (go_at_call 43; refine Calls.mono (fnvArena_at w0.heap.size 0 8 8 (four L ++ four R) _ rfl (by simp [four_len]) (by exact (own_new w0 w0.heap.size _ (four L ++ four R) (by rw [byteCells_append, four_cells, four_cells]; rfl) (Nat.le_refl _) (by simp [four_len])).holds)) ?_; rintro e w' ⟨rfl, rfl⟩)
  go_end0
  refine ⟨rfl, ?_, ?_⟩
  · exact ((HR0.out.stored i _).later _).drew
  · exact grown_drew (grown_alloc (grown_set HG0.out i _) _)
end Go.Proofs.YtmcfcfdpckjonaaDoor
