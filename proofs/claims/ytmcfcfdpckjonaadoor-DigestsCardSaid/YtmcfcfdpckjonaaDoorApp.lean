/- append of bytes onto a row of the call's own; a row that is known; a source that may be nil. -/
import Derived.Test.YtmcfcfdpckjonaaDoorRoomy
namespace Go.Proofs.YtmcfcfdpckjonaaDoor
open Go.RowKit

/-- A slice of the bytes l: nil, or at an address. -/
def Src (w : World) (A : Option Addr) (c : Nat) (l : List UInt8) : Prop := (A = none ∧ l = [] ∧ c = 0) ∨ ∃ g off, A = some ⟨g, off, none⟩ ∧ Holds w g off l
/-- The slice at block g, with room for cap, owns the bytes l; the block is of the call's own. -/
def Own (w : World) (base g cap : Nat) (l : List UInt8) : Prop :=
  base ≤ g ∧ l.length ≤ cap ∧ cap ≤ 9223372036854775807 ∧ ∃ cur : Array Value, Row w g 5 cur ∧ cur.size = cap ∧ ∀ j, j < l.length → cur[j]? = some (.int .u8 ((l.getD j 0).toNat : Int))

theorem Holds.below {w w' : World} {B g off : Nat} {l : List UInt8} (h : Holds w g off l) (hb : Below B w w') (hg : g < B) : Holds w' g off l :=
  fun j hj => (hb.cell hg).trans (h j hj)
theorem Holds.other {w w' : World} {r : Option Nat} {g off : Nat} {l : List UInt8} (h : Holds w g off l) (hb : w.grownBy w' r) (hg : some g ≠ r) : Holds w' g off l :=
  fun j hj => hb.cell (h j hj) hg
theorem Src.below {w w' : World} {A : Option Addr} {c : Nat} {l : List UInt8} (h : Src w A c l) (hb : Below w.heap.size w w') : Src w' A c l := by
  rcases h with h | ⟨g, off, hA, hh⟩
  · exact .inl h
  · exact .inr ⟨g, off, hA, fun j hj => (hb.cell (World.block_lt_of_cell? _ _ (hh j hj))).trans (hh j hj)⟩
theorem Own.holds {w : World} {base g cap : Nat} {l : List UInt8} (h : Own w base g cap l) : Holds w g 0 l := by
  obtain ⟨_, _, _, cur, hr, _, hc⟩ := h
  exact hr.holds 0 l (fun j hj => by rw [Nat.zero_add]; exact hc j hj)
theorem Own.lt {w : World} {base g cap : Nat} {l : List UInt8} (h : Own w base g cap l) : g < w.heap.size := by
  obtain ⟨_, _, _, cur, hr, _⟩ := h
  exact hr.isLt
theorem Own.other {w w' : World} {r : Option Nat} {base g cap : Nat} {l : List UInt8} (h : Own w base g cap l) (hb : w.grownBy w' r) (hg : some g ≠ r) : Own w' base g cap l := by
  obtain ⟨h1, h2, h3, cur, hr, h4⟩ := h
  exact ⟨h1, h2, h3, cur, hr.other hb hg, h4⟩
theorem Own.below {w w' : World} {base g cap : Nat} {l : List UInt8} (h : Own w base g cap l) (hb : Below w.heap.size w w') : Own w' base g cap l := by
  obtain ⟨h1, h2, h3, cur, hr, h4⟩ := h
  exact ⟨h1, h2, h3, cur, hr.under hb hr.isLt, h4⟩
theorem Own.more {w : World} {base base' g cap : Nat} {l : List UInt8} (h : Own w base g cap l) (hb : base' ≤ base) : Own w base' g cap l :=
  ⟨Nat.le_trans hb h.1, h.2⟩
theorem below_grown {w w' : World} (h : Below w.heap.size w w') (r : Option Nat) : w.grownBy w' r := ⟨h.os, h.tape, h.output, h.size, fun k hk _ => h.block k hk⟩
theorem grown_below {w w' : World} (h : w.grownBy w' none) : Below w.heap.size w w' := ⟨h.os, h.tape, h.output, h.size, fun k hk => h.block k hk (by simp)⟩

theorem byteCells_len (l : List UInt8) : (Lib.byteCells l).length = l.length := Lib.byteCells_length l
theorem byteCells_append (l m : List UInt8) : Lib.byteCells (l ++ m) = Lib.byteCells l ++ Lib.byteCells m := List.map_append

theorem Own.owns {w : World} {base g cap : Nat} {l : List UInt8} (h : Own w base g cap l) : w.ownsRow base 5 1 (.slice (some ⟨g, 0, none⟩) l.length cap) l.length (Lib.byteCells l) := by
  obtain ⟨h1, h2, h3, cur, hr, h4, h5⟩ := h
  refine ⟨by rw [byteCells_len, Nat.mul_one], .inr ⟨g, cap, cur, rfl, h1, hr, h2, by unfold maxLen; omega, by omega, ?_⟩⟩
  apply List.ext_getElem?
  intro j
  rw [Nat.mul_one, List.getElem?_take]
  by_cases hj : j < l.length
  · rw [if_pos hj, byteCells_get l j hj, ← h5 j hj]; simp
  · rw [if_neg hj, List.getElem?_eq_none (by rw [byteCells_len]; omega)]
theorem own_of {w : World} {base : Nat} {v : Value} {l : List UInt8} (h : w.ownsRow base 5 1 v l.length (Lib.byteCells l)) (hv : v ≠ .slice none 0 0) : ∃ g cap, v = .slice (some ⟨g, 0, none⟩) l.length cap ∧ Own w base g cap l := by
  rcases h.2 with ⟨h0, _⟩ | ⟨g, cap, cur, rfl, h1, hr, h2, h3, h4, h5⟩
  · exact absurd h0 hv
  · refine ⟨g, cap, rfl, h1, h2, by unfold maxLen at h3; omega, cur, hr, by omega, fun j hj => ?_⟩
    rw [← byteCells_get l j hj, ← h5, Nat.mul_one, List.getElem?_take, if_pos hj]; simp

/-- append(v, x...), v nil or of the call's own. -/
theorem app_any (base : Nat) (v : Value) (xs l : List UInt8) (A : Option Addr) (c : Nat) (w : World) (hown : w.ownsRow base 5 1 v xs.length (Lib.byteCells xs)) (hs : Src w A c l)
    (hsm : xs.length + l.length ≤ 1000000) (hb : base ≤ w.heap.size) :
    ∃ v' w', (Builtin.append_ #[25, 25] 25 #[v, .slice A l.length c]).run Tryd.prog w = .ok v' w' ∧ w'.ownsRow base 5 1 v' (xs ++ l).length (Lib.byteCells (xs ++ l)) ∧ w.grownBy w' v.ownBlock ∧
      (v' = .slice none 0 0 ↔ v = .slice none 0 0 ∧ l.length = 0) := by
  obtain ⟨i0, hi, hz0, hz1, hz2⟩ := info_parts u8_info
  rcases hs with ⟨rfl, rfl, rfl⟩ | ⟨g, off, rfl, hh⟩
  · exact ⟨v, w, run_append_owned_none w base 25 25 5 i0 1 Tryd.underlying25 hi v _ _ hown, by simpa using hown, grown_refl _ _, by simp⟩
  · obtain ⟨v', w', h1, h2, h3, h4⟩ := run_append_own (P := Tryd.prog) w base 25 25 5 i0 (.int .u8 0) 1 1 Tryd.underlying25 hi hz0 hz1 hz2 rfl (by decide) v xs.length (Lib.byteCells xs) hown
      ⟨g, off, none⟩ l.length c (Lib.byteCells l) (by rw [byteCells_len, Nat.mul_one]) (fun j u hj => by
        have hl : j < l.length := by
          rcases Nat.lt_or_ge j l.length with h | h
          · exact h
          · rw [List.getElem?_eq_none (by rw [byteCells_len]; exact h)] at hj; cases hj
        have h2 : (⟨g, off, none⟩ : Addr).add j = ⟨g, off + j, none⟩ := by unfold Addr.add; split <;> simp_all
        rw [h2, hh j hl, ← byteCells_get l j hl]; exact hj)
      (Lib.byteCells_one l) (by unfold maxLen; omega) (by omega) hb
    exact ⟨v', w', h1, by rw [List.length_append, byteCells_append]; exact h2, h3, h4⟩

/-- append(b, x...), b the call's own and not nil: what comes out is the call's own. -/
theorem app_own (base g cap : Nat) (xs l : List UInt8) (A : Option Addr) (c : Nat) (w : World) (hown : Own w base g cap xs) (hs : Src w A c l)
    (hsm : xs.length + l.length ≤ 1000000) (hb : base ≤ w.heap.size) :
    ∃ g' cap' w', (Builtin.append_ #[25, 25] 25 #[.slice (some ⟨g, 0, none⟩) xs.length cap, .slice A l.length c]).run Tryd.prog w = .ok (.slice (some ⟨g', 0, none⟩) (xs ++ l).length cap') w' ∧ Own w' base g' cap' (xs ++ l) ∧ w.grownBy w' (some g) := by
  obtain ⟨v', w', h1, h2, h3, h4⟩ := app_any base _ xs l A c w hown.owns hs hsm hb
  obtain ⟨g', cap', rfl, h5⟩ := own_of h2 (by rw [Ne, h4]; simp)
  exact ⟨g', cap', w', h1, h5, h3⟩

/-- A new block of known bytes. -/
theorem own_new (w : World) (base : Nat) (cs : Array Value) (l : List UInt8) (hcs : cs = (Lib.byteCells l).toArray) (hb : base ≤ w.heap.size) (hl : l.length ≤ 1000000) : Own (w.alloc (.cells cs 5)) base w.heap.size l.length l := by
  subst hcs
  exact ⟨hb, Nat.le_refl _, by omega, _, Row.made w 5 _, by simp [byteCells_len], fun j hj => by rw [List.getElem?_toArray]; exact byteCells_get l j hj⟩
theorem src_own {w : World} {base g cap : Nat} {l : List UInt8} (h : Own w base g cap l) (c : Nat) : Src w (some ⟨g, 0, none⟩) c l := .inr ⟨g, 0, rfl, h.holds⟩

/-- An append whose run is known. -/
theorem wpList_append_known {ops : Array Oper} {rest : List Oper} {o : Oper} {a : Act} {Q : Exit → Act → World → Prop} {w w' : World} {v sv xv : Value} (hgd : o.guard = none) (s x : Operand)
    (ho : o.op = .call { callee := .builtin .append, args := #[s, x], argTypes := #[25, 25] }) (hs : a.eval s = sv) (hx : a.eval x = xv)
    (hr : (Builtin.append_ #[25, 25] o.type #[sv, xv]).run Tryd.prog w = .ok v w') (h : wpList Tryd.prog ops Q rest (a.put o.dst v) w') : wpList Tryd.prog ops Q (o :: rest) a w :=
  wpList_plain hgd fun _ hK => by
    unfold Oper.wp execOp
    simp only [ho, resolve, invoke, builtin, Sem.run_bind, Sem.run_pure, Result.andThen_ok, List.map_toArray, List.map_cons, List.map_nil, hs, hx, hr]
    exact hK _ _ h
end Go.Proofs.YtmcfcfdpckjonaaDoor
