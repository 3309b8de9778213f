/- The walk of the reference's Unpack. -/
import Derived.Test.YtmcfcfdpckjonaaDoorRefUnpack
namespace Go.Proofs.YtmcfcfdpckjonaaDoor
open Go.RowKit

set_option maxHeartbeats 1000000 in
set_option maxRecDepth 100000 in
theorem refUnpack_short (g cap n : Nat) (w : World) (h : n < 8) :
    Calls Tryd.prog 16 #[.slice (some ⟨g, 0, none⟩) n cap] w (NonePost w (.tuple #[noPacket, .bool false])) := by
  go_enter Tryd.func16, Tryd.ntmps16
  go_wp2
  refine bodyPost_ret (v := .tuple #[noPacket, .bool false]) ?_ rfl ⟨rfl, ?_⟩
  · simp [results, Tryd.results16, go_sem, noPacket]
  · exact (Below.refl _ _).alloc (Nat.le_refl _) _

/-- What the reference's Unpack leaves. -/
def RefPost (l : List UInt8) (w : World) (e : Ending) (w' : World) : Prop :=
  (valid l ∧ ∃ A c, e = .returned (.tuple #[.agg #[.int .i64 ((l.getD 1 0).toNat : Int), .int .i64 (startOf l : Int), .int .i64 (ackOf l : Int), .slice A (inner l).length c], .bool true]) ∧ NilOrOwn w' w.heap.size A c (inner l) ∧ Below w.heap.size w w') ∨
  (¬ valid l ∧ e = .returned (.tuple #[noPacket, .bool false]) ∧ Below w.heap.size w w')
theorem NilOrOwn.more {w : World} {base base' : Nat} {A : Option Addr} {c : Nat} {l : List UInt8} (h : NilOrOwn w base A c l) (hb : base' ≤ base) : NilOrOwn w base' A c l := by
  rcases h with h | ⟨g, hA, ho⟩
  · exact .inl h
  · exact .inr ⟨g, hA, ho.more hb⟩
theorem NilOrOwn.set4 {w : World} {b base : Nat} {A : Option Addr} {c : Nat} {l : List UInt8} (h : NilOrOwn w base A c l) (hb : b < base) (v0 v1 v2 v3 : Value) : NilOrOwn ((((w.setCell ⟨b, 0, none⟩ v0).setCell ⟨b, 1, none⟩ v1).setCell ⟨b, 2, none⟩ v2).setCell ⟨b, 3, none⟩ v3) base A c l := by
  rcases h with h | ⟨g, hA, ho⟩
  · exact .inl h
  · exact .inr ⟨g, hA, set4_own ho (by have := ho.1; omega) v0 v1 v2 v3⟩
theorem NilOrOwn.set1 {w : World} {b i base : Nat} {A : Option Addr} {c : Nat} {l : List UInt8} (h : NilOrOwn w base A c l) (hb : b < base) (v : Value) : NilOrOwn (w.setCell ⟨b, i, none⟩ v) base A c l := by
  rcases h with h | ⟨g, hA, h1, h2, h3, cur, hr, h4⟩
  · exact .inl h
  · exact .inr ⟨g, hA, h1, h2, h3, cur, hr.past (p := ⟨b, i, none⟩) (by show g ≠ b; omega) v, h4⟩

set_option maxHeartbeats 8000000 in
set_option maxRecDepth 100000 in
theorem refUnpack_nofit (g cap : Nat) (l : List UInt8) (w : World) (h8 : 8 ≤ l.length) (hl : l.length ≤ 65600) (hc : l.length ≤ cap) (hcap : cap ≤ 9223372036854775807) (hg : g < w.heap.size) (hh : Holds w g 0 l) (hfit0 : ¬ ((l.getD 1 0).toNat < 4 ∧ l.length ≤ 72)) :
    Calls Tryd.prog 16 #[.slice (some ⟨g, 0, none⟩) l.length cap] w (RefPost l w) := by
  have c1 := cellZ hg hh 1 (by omega)
  have c2 := cellZ hg hh 2 (by omega)
  have c3 := cellZ hg hh 3 (by omega)
  have c4 := cellZ hg hh 4 (by omega)
  have c5 := cellZ hg hh 5 (by omega)
  obtain ⟨x1, hx1⟩ : ∃ x, x = l.getD 1 0 := ⟨_, rfl⟩
  obtain ⟨x2, hx2⟩ : ∃ x, x = l.getD 2 0 := ⟨_, rfl⟩
  obtain ⟨x3, hx3⟩ : ∃ x, x = l.getD 3 0 := ⟨_, rfl⟩
  obtain ⟨x4, hx4⟩ : ∃ x, x = l.getD 4 0 := ⟨_, rfl⟩
  obtain ⟨x5, hx5⟩ : ∃ x, x = l.getD 5 0 := ⟨_, rfl⟩
  rw [← hx1] at c1
  rw [← hx2] at c2
  rw [← hx3] at c3
  rw [← hx4] at c4
  rw [← hx5] at c5
  obtain ⟨fr, hfr⟩ : ∃ x, x = (l.getD 1 0).toNat := ⟨_, rfl⟩
  obtain ⟨st, hst⟩ : ∃ x, x = startOf l := ⟨_, rfl⟩
  obtain ⟨ak, hak⟩ : ∃ x, x = ackOf l := ⟨_, rfl⟩
  obtain ⟨M, hM⟩ : ∃ x, x = inner l := ⟨_, rfl⟩
  have hML : M.length = l.length - 1 - 7 := by rw [hM]; simp [inner]
  have HX := Lib.hid (And.intro hfr (And.intro hst (And.intro hak (And.intro hM hML))))
  have e1 : IntKind.i64.wrap (x1.toNat : Int) = (fr : Int) := by have := x1.toNat_lt; rw [IntKind.wrap_i64, hfr, ← hx1]; omega
  have e2 : IntKind.i64.wrap (x2.toNat : Int) = (x2.toNat : Int) := by have := x2.toNat_lt; rw [IntKind.wrap_i64]; omega
  have e3 : IntKind.i64.wrap (x3.toNat : Int) = (x3.toNat : Int) := by have := x3.toNat_lt; rw [IntKind.wrap_i64]; omega
  have e4 : IntKind.i64.wrap (x4.toNat : Int) = (x4.toNat : Int) := by have := x4.toNat_lt; rw [IntKind.wrap_i64]; omega
  have e5 : IntKind.i64.wrap (x5.toNat : Int) = (x5.toNat : Int) := by have := x5.toNat_lt; rw [IntKind.wrap_i64]; omega
  have u2 : IntKind.i64.wrap (256 * (x2.toNat : Int)) = 256 * (x2.toNat : Int) := by have := x2.toNat_lt; rw [IntKind.wrap_i64]; omega
  have u4 : IntKind.i64.wrap (256 * (x4.toNat : Int)) = 256 * (x4.toNat : Int) := by have := x4.toNat_lt; rw [IntKind.wrap_i64]; omega
  have a2 : IntKind.i64.wrap (256 * (x2.toNat : Int) + (x3.toNat : Int)) = (st : Int) := by have := x2.toNat_lt; have := x3.toNat_lt; rw [IntKind.wrap_i64, hst]; unfold startOf; rw [← hx2, ← hx3]; omega
  have a4 : IntKind.i64.wrap (256 * (x4.toNat : Int) + (x5.toNat : Int)) = (ak : Int) := by have := x4.toNat_lt; have := x5.toNat_lt; rw [IntKind.wrap_i64, hak]; unfold ackOf; rw [← hx4, ← hx5]; omega
  have s6 : st ≤ 65535 := by have := x2.toNat_lt; have := x3.toNat_lt; rw [hst]; unfold startOf; rw [← hx2, ← hx3]; omega
  have k6 : ak ≤ 65535 := by have := x4.toNat_lt; have := x5.toNat_lt; rw [hak]; unfold ackOf; rw [← hx4, ← hx5]; omega
  have p1 : (1 : Int) < (l.length : Int) := by omega
  have p2 : (2 : Int) < (l.length : Int) := by omega
  have p3 : (3 : Int) < (l.length : Int) := by omega
  have p4 : (4 : Int) < (l.length : Int) := by omega
  have p5 : (5 : Int) < (l.length : Int) := by omega
  have HH := Lib.hid hh
  clear hx1 hx2 hx3 hx4 hx5 hfr hst hak hM hML hh
  go_enter Tryd.func16, Tryd.ntmps16
  go_wp2
  go_region
  have hWb : Below w.heap.size w (((w.alloc (.cells #[.int .i64 0, .int .i64 0, .int .i64 0, .slice none 0 0] 28)).alloc (.cells #[.int .i64 fr, .int .i64 st, .int .i64 ak, .slice none 0 0] 28)).drew) := (((Below.refl _ _).alloc (Nat.le_refl _) _).alloc (by simp) _).drew
  have hWs : (((w.alloc (.cells #[.int .i64 0, .int .i64 0, .int .i64 0, .slice none 0 0] 28)).alloc (.cells #[.int .i64 fr, .int .i64 st, .int .i64 ak, .slice none 0 0] 28)).drew).heap.size = w.heap.size + 1 + 1 := by simp
  have hWz : Row (((w.alloc (.cells #[.int .i64 0, .int .i64 0, .int .i64 0, .slice none 0 0] 28)).alloc (.cells #[.int .i64 fr, .int .i64 st, .int .i64 ak, .slice none 0 0] 28)).drew) w.heap.size 28 #[.int .i64 0, .int .i64 0, .int .i64 0, .slice none 0 0] := ((Row.made w 28 _).later _).drew
  have hWp : Row (((w.alloc (.cells #[.int .i64 0, .int .i64 0, .int .i64 0, .slice none 0 0] 28)).alloc (.cells #[.int .i64 fr, .int .i64 st, .int .i64 ak, .slice none 0 0] 28)).drew) (w.heap.size + 1) 28 #[.int .i64 fr, .int .i64 st, .int .i64 ak, .slice none 0 0] := by
    have := Row.made (w.alloc (.cells #[.int .i64 0, .int .i64 0, .int .i64 0, .slice none 0 0] 28)) 28 #[.int .i64 fr, .int .i64 st, .int .i64 ak, .slice none 0 0]
    rw [World.size_alloc] at this
    exact this.drew
  clear c1 c2 c3 c4 c5 e1 e2 e3 e4 e5 u2 u4 a2 a4 p1 p2 p3 p4 p5
  generalize (((w.alloc (.cells #[.int .i64 0, .int .i64 0, .int .i64 0, .slice none 0 0] 28)).alloc (.cells #[.int .i64 fr, .int .i64 st, .int .i64 ak, .slice none 0 0] 28)).drew) = w1 at hWb hWs hWz hWp ⊢
  have HH1 := HH.out.below hWb hg
  have hMh : Holds w1.drew g 7 M := by rw [HX.out.2.2.2.1]; have := (HH1.take (l.length - 1)).drop 7; rw [Nat.zero_add] at this; exact this
  obtain ⟨A, c, w2, hr, hno, hb2⟩ := app_nil w1.drew.heap.size M (some ⟨g, 7, none⟩) (cap - 7) w1.drew (.inr ⟨g, 7, rfl, hMh⟩) (by have := HX.out.2.2.2.2; omega) (Nat.le_refl _)
  rw [HX.out.2.2.2.2] at hr
  have hWp2 : Row w2 (w.heap.size + 1) 28 #[.int .i64 fr, .int .i64 st, .int .i64 ak, .slice none 0 0] := hWp.drew.under hb2 (by simp; omega)
  have hWz2 : Row w2 w.heap.size 28 #[.int .i64 0, .int .i64 0, .int .i64 0, .slice none 0 0] := hWz.drew.under hb2 (by simp; omega)
  have t0 : w1.cell? ⟨w.heap.size + 1, 3, none⟩ = some (.slice none 0 0) := hWp.cellAt 3
  have t1 : w2.cell? ⟨w.heap.size + 1, 3, none⟩ = some (.slice none 0 0) := hWp2.cellAt 3
  have t2 : w2.frozen? ⟨w.heap.size + 1, 3, none⟩ = false := hWp2.notFrozen 3
  have n7 : ¬ cap = 7 := by omega
  have n1 : IntKind.i64.wrap ((l.length : Int) - 1) = (l.length : Int) - 1 := by rw [IntKind.wrap_i64]; omega
  have n2 : (0 : Int) ≤ (l.length : Int) - 1 := by omega
  have n3 : ((l.length : Int) - 1).toNat = l.length - 1 := by omega
  have n4 : (7 : Int) ≤ (l.length : Int) - 1 := by omega
  have n5 : (l.length : Int) - 1 ≤ (cap : Int) := by omega
  have hw2b : Below w.heap.size w w2 := hWb.drew.trans (hb2.mono (by simp; omega))
  have hw2s : w.heap.size + 1 + 1 ≤ w2.heap.size := by have := hb2.size; simp at this; omega
  have H1 := Lib.hid hw2b
  have H2 := Lib.hid hno
  have H3 := Lib.hid hWp2
  have H4 := Lib.hid hWz2
  have H5 := Lib.hid hw2s
  have H6 := Lib.hid hWs
  clear hw2b hno hWp2 hWz2 hw2s hWs hWb hWz hWp HH1 hMh hb2
  go_wp2
  go_region_law (refine step_append_known rfl (.tmp 38) (.tmp 43) rfl rfl rfl hr ?_)
  clear hr t0 t1 t2 n7 n1 n2 n3 n4 n5
  have k1 := H1.out.setCell (p := ⟨w.heap.size + 1, 3, none⟩) (by simp) (.slice A (l.length - 1 - 7) c)
  have k2 := H2.out.set1 (b := w.heap.size + 1) (i := 3) (by have := H6.out; simp; omega) (.slice A (l.length - 1 - 7) c)
  have k3 : Row (w2.setCell ⟨w.heap.size + 1, 3, none⟩ (.slice A (l.length - 1 - 7) c)) (w.heap.size + 1) 28 #[.int .i64 fr, .int .i64 st, .int .i64 ak, .slice A (l.length - 1 - 7) c] := H3.out.stored 3 _
  have k4 := H4.out.past (p := ⟨w.heap.size + 1, 3, none⟩) (by simp) (.slice A (l.length - 1 - 7) c)
  generalize (w2.setCell ⟨w.heap.size + 1, 3, none⟩ (.slice A (l.length - 1 - 7) c)) = w3 at k1 k2 k3 k4 ⊢
  have K1 := Lib.hid k1
  have K2 := Lib.hid k2
  have K3 := Lib.hid k3
  have K4 := Lib.hid k4
  have v0 : w3.cell? ⟨w.heap.size + 1, 0, none⟩ = some (.int .i64 fr) := k3.cellAt 0
  have v1 : w3.cell? ⟨w.heap.size + 1, 1, none⟩ = some (.int .i64 st) := k3.cellAt 1
  have v2 : w3.cell? ⟨w.heap.size + 1, 2, none⟩ = some (.int .i64 ak) := k3.cellAt 2
  have v3 : w3.cell? ⟨w.heap.size + 1, 3, none⟩ = some (.slice A (l.length - 1 - 7) c) := k3.cellAt 3
  clear k1 k2 k3 k4
  have hfit : ¬ (fr < 4 ∧ l.length - 1 - 7 ≤ 64) := fun h => hfit0 ⟨by have := HX.out.1; omega, by omega⟩
  have hnv : ¬ valid l := fun hv => hfit ⟨by rw [HX.out.1]; exact hv.2.2.2.1, by have := hv.2.1; omega⟩
  have hnf : ¬ fits (fr : Int) (st : Int) (ak : Int) (l.length - 1 - 7) := fun hf => hfit ⟨by have := hf.2.1; omega, hf.2.2.2.2.2.2⟩
  have HNF := Lib.hid hnf
  have HNV := Lib.hid hnv
  clear hnf hnv hfit hfit0
  go_wp2_with fail
  refine Calls.mono (refPack_no fr st ak A _ c w3 HNF.out) ?_
  rintro e w4 ⟨rfl, hb4⟩
  have HB := Lib.hid (K1.out.trans (hb4.mono K1.out.size))
  have HZ := Lib.hid (K4.out.under hb4 K4.out.isLt)
  clear hb4 v0 v1 v2 v3
  have r0 := HZ.out.cellAt 0
  have r1 := HZ.out.cellAt 1
  have r2 := HZ.out.cellAt 2
  have r3 := HZ.out.cellAt 3
  have f0 := HZ.out.notFrozen 0
  have f1 := HZ.out.notFrozen 1
  have f2 := HZ.out.notFrozen 2
  have f3 := HZ.out.notFrozen 3
  simp at r0 r1 r2 r3
  go_wp2
  have hfr := set4_row HZ.out (.int .i64 0) (.int .i64 0) (.int .i64 0) (.slice none 0 0)
  have hfb := set4_below HB.out (Nat.le_refl _) (.int .i64 0) (.int .i64 0) (.int .i64 0) (.slice none 0 0)
  clear r0 r1 r2 r3 f0 f1 f2 f3
  generalize ((((w4.setCell ⟨w.heap.size, 0, none⟩ (.int .i64 0)).setCell ⟨w.heap.size, 1, none⟩ (.int .i64 0)).setCell ⟨w.heap.size, 2, none⟩ (.int .i64 0)).setCell ⟨w.heap.size, 3, none⟩ (.slice none 0 0)) = wf at *
  have q0 := hfr.cellAt 0
  have q1 := hfr.cellAt 1
  have q2 := hfr.cellAt 2
  have q3 := hfr.cellAt 3
  simp at q0 q1 q2 q3
  refine bodyPost_ret (v := .tuple #[noPacket, .bool false]) ?_ rfl (.inr ⟨HNV.out, rfl, hfb⟩)
  simp [results, Tryd.results16, go_sem, q0, q1, q2, q3, noPacket]
end Go.Proofs.YtmcfcfdpckjonaaDoor
