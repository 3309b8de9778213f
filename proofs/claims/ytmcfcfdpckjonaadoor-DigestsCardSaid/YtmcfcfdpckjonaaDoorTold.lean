/- api.Told takes each error apart that the program hands back: nil, a kind, a peer's error. Conditions: errors.errorType holds reflectlite's handle of the type error. -/
import Derived.Test.YtmcfcfdpckjonaaDoorAsWalks
import Derived.Test.YtmcfcfdpckjonaaDoorAsMiss
import Derived.Lib.Hide
import Derived.Deep.QuietTactic
import Derived.BigQuiet
namespace Go.Proofs.YtmcfcfdpckjonaaDoor
open Go.RowKit

/-- What the row's list gives a walk: the one package variable's cell. -/
def ErrVar (w : World) : Prop := w.cell? ⟨0, 0, none⟩ = some (.iface 94 (.agg #[.pointer (some ⟨1, 51, none⟩)]))
theorem ErrVar.lt {w : World} (h : ErrVar w) : 0 < w.heap.size := by
  rcases Nat.eq_zero_or_pos w.heap.size with h0 | h1
  · unfold ErrVar at h; simp [World.cell?, h0] at h
  · exact h1
theorem ErrVar.below {w w' : World} (h : ErrVar w) (hb : Below w.heap.size w w') : ErrVar w' := by
  unfold ErrVar; rw [hb.cell (p := ⟨0, 0, none⟩) h.lt]; exact h
theorem ErrVar.alloc {w : World} (h : ErrVar w) (o : Obj) : ErrVar (w.alloc o) := h.below ((Below.refl _ _).alloc (Nat.le_refl _) o)

theorem told_nil (w : World) :
    Calls Tryd.prog 22 #[.nilIface] w fun e w' => e = .returned (.tuple #[.int .i64 0, .int .i64 (-1)]) ∧ Below w.heap.size w w' := by
  go_enter Tryd.func22, Tryd.ntmps22
  go_wp2_with (go_at_call 28; refine (as_nil _ _).mono ?_; rintro e w' ⟨rfl, rfl⟩)
  go_ret2
  exact ⟨rfl, ((Below.refl _ _).alloc (Nat.le_refl _) _).alloc (by simp) _⟩

/-- As on a miss leaves old memory alone. -/
theorem as_miss' (k : Int) (t : Addr) (w : World) (hg : ErrVar w) (ht0 : t.block < w.heap.size) :
    Calls Tryd.prog 28 #[.iface 23 (.int .i64 k), .iface 65 (.pointer (some t))] w fun ev w' => ev = .returned (.bool false) ∧ Below w.heap.size w w' :=
  (as_miss k t w hg ht0).mono fun _ _ ⟨h1, h2⟩ => ⟨h1, by rw [h2]; exact (((Below.refl _ _).alloc (Nat.le_refl _) _).alloc (by simp) _).alloc (by simp; omega) _⟩

theorem block_lt {w : World} {t : Addr} {v : Value} (h : w.cell? t = some v) : t.block < w.heap.size := by
  rcases Nat.lt_or_ge t.block w.heap.size with h1 | h1
  · exact h1
  · simp [World.cell?, Array.getElem?_eq_none h1] at h
theorem cell_set {w : World} {t : Addr} {v u : Value} (h : w.cell? t = some v) : (w.setCell t u).cell? t = some u := by
  exact World.cell?_setCell_same _ _ _ h

/-- As on a hit turns the target alone. -/
theorem as_hit23' (k : Int) (t : Addr) (old : Value) (w : World) (hg : ErrVar w) (ht0 : w.cell? t = some old) (hf0 : w.frozen? t = false) :
    Calls Tryd.prog 28 #[.iface 23 (.int .i64 k), .iface 66 (.pointer (some t))] w fun ev w' => ev = .returned (.bool true) ∧ Below t.block w w' ∧ w'.cell? t = some (.int .i64 k) :=
  (as_hit23 k t old w hg ht0 hf0).mono fun _ _ ⟨h1, h2⟩ => by
    have hl := block_lt ht0
    refine ⟨h1, ?_, ?_⟩
    · rw [h2]; exact (((((Below.refl _ _).alloc (by omega) _).alloc (by simp; omega) _).alloc (by simp; omega) _).alloc (by simp; omega) _).setCell (Nat.le_refl _) _
    · rw [h2]; exact cell_set (v := old) (by rw [World.cell?_alloc_lt _ _ t (by simp; omega), World.cell?_alloc_lt _ _ t (by simp; omega), World.cell?_alloc_lt _ _ t (by simp; omega), World.cell?_alloc_lt _ _ t hl]; exact ht0)
theorem as_hit61' (e t : Addr) (old : Value) (w : World) (hg : ErrVar w) (ht0 : w.cell? t = some old) (hf0 : w.frozen? t = false) :
    Calls Tryd.prog 28 #[.iface 61 (.pointer (some e)), .iface 65 (.pointer (some t))] w fun ev w' => ev = .returned (.bool true) ∧ Below t.block w w' ∧ w'.cell? t = some (.pointer (some e)) :=
  (as_hit61 e t old w hg ht0 hf0).mono fun _ _ ⟨h1, h2⟩ => by
    have hl := block_lt ht0
    refine ⟨h1, ?_, ?_⟩
    · rw [h2]; exact (((((Below.refl _ _).alloc (by omega) _).alloc (by simp; omega) _).alloc (by simp; omega) _).alloc (by simp; omega) _).setCell (Nat.le_refl _) _
    · rw [h2]; exact cell_set (v := old) (by rw [World.cell?_alloc_lt _ _ t (by simp; omega), World.cell?_alloc_lt _ _ t (by simp; omega), World.cell?_alloc_lt _ _ t (by simp; omega), World.cell?_alloc_lt _ _ t hl]; exact ht0)

set_option maxHeartbeats 400000 in
theorem told_kind (k : Int) (w : World) (hg : ErrVar w) :
    Calls Tryd.prog 22 #[.iface 23 (.int .i64 k)] w fun e w' => e = .returned (.tuple #[.int .i64 k, .int .i64 (-1)]) ∧ Below w.heap.size w w' := by
  have hg1 := hg.alloc (.cells #[.pointer none] 61)
  unfold ErrVar at hg1
  go_enter Tryd.func22, Tryd.ntmps22
  go_wp2_with fail
  refine (as_miss' k _ _ hg1 (by simp)).mono ?_
  rintro e w1 ⟨rfl, hb1⟩
  have hz : w.heap.size + 1 ≤ w1.heap.size := by have := hb1.size; simpa using this
  have hb : Below w.heap.size w w1 := ((Below.refl _ _).alloc (Nat.le_refl _) _).trans (hb1.mono (by simp))
  have hg2 : ErrVar (w1.alloc (.cells #[.int .i64 0] 23)) := (ErrVar.below (w := w) hg hb).alloc _
  clear hb1 hg1
  go_wp2_with fail
  refine (as_hit23' k _ (.int .i64 0) _ hg2 (by simp) (by simp)).mono ?_
  rintro e w2 ⟨rfl, hb2, hc2⟩
  have hb3 : Below w.heap.size w w2 := (hb.alloc (by omega) _).trans (hb2.mono (by simp; omega))
  clear hb2 hb hg2
  go_wp2
  go_ret2
  exact ⟨rfl, hb3⟩

set_option maxHeartbeats 400000 in
theorem told_peer (b : Nat) (p k : Int) (w : World) (hg : ErrVar w) (h0 : w.cell? ⟨b, 0, none⟩ = some (.int .i64 p)) (h1 : w.cell? ⟨b, 1, none⟩ = some (.int .i64 k)) :
    Calls Tryd.prog 22 #[.iface 61 (.pointer (some ⟨b, 0, none⟩))] w fun e w' => e = .returned (.tuple #[.int .i64 k, .int .i64 p]) ∧ Below w.heap.size w w' := by
  have hg1 := hg.alloc (.cells #[.pointer none] 61)
  have hl := block_lt h0
  go_enter Tryd.func22, Tryd.ntmps22
  go_wp2_with fail
  refine (as_hit61' ⟨b, 0, none⟩ _ (.pointer none) _ hg1 (by simp) (by simp)).mono ?_
  rintro e w1 ⟨rfl, hb1, hc1⟩
  have hb : Below w.heap.size w w1 := ((Below.refl _ _).alloc (Nat.le_refl _) _).trans (hb1.mono (by simp))
  have c0 : w1.cell? ⟨b, 0, none⟩ = some (.int .i64 p) := (hb.cell hl).trans h0
  have c1 : w1.cell? ⟨b, 1, none⟩ = some (.int .i64 k) := (hb.cell hl).trans h1
  clear hb1 hg1 h0 h1
  go_wp2
  go_quiet (fail)
  go_wp2
  go_ret2
  exact ⟨rfl, hb.trans ⟨rfl, rfl, rfl, Nat.le_refl _, fun _ _ => rfl⟩⟩
end Go.Proofs.YtmcfcfdpckjonaaDoor
