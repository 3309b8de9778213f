/- Rows of sums: append of one sum to a row of the call's own. -/
import Derived.Test.YtmcfcfdpckjonaaDoorNode
namespace Go.Proofs.YtmcfcfdpckjonaaDoor
open Go.RowKit

def sumCells (l : List UInt32) : List Value := l.map (fun v => .int .u32 (v.toNat : Int))
theorem sumCells_len (l : List UInt32) : (sumCells l).length = l.length := List.length_map _
theorem sumCells_append (l m : List UInt32) : sumCells (l ++ m) = sumCells l ++ sumCells m := List.map_append
theorem sumCells_one (l : List UInt32) : ∀ v ∈ sumCells l, v.oneCell' = true := by
  intro v hv
  simp only [sumCells, List.mem_map] at hv
  obtain ⟨b, _, rfl⟩ := hv
  rfl
theorem u32_info : (Tryd.prog.info? 44).map (fun i => (i.zero, i.size, i.bytes)) = some (some (.int .u32 0), 1, 4) := by kernel_rfl

/-- append(v, x), v nil or of the call's own. -/
theorem appU_any (base : Nat) (v : Value) (xs : List UInt32) (x : UInt32) (gx : Nat) (w : World) (hown : w.ownsRow base 44 1 v xs.length (sumCells xs)) (hx : w.cell? ⟨gx, 0, none⟩ = some (.int .u32 (x.toNat : Int)))
    (hsm : xs.length ≤ 1000) (hb : base ≤ w.heap.size) :
    ∃ v' w', (Builtin.append_ #[59, 59] 59 #[v, .slice (some ⟨gx, 0, none⟩) 1 1]).run Tryd.prog w = .ok v' w' ∧ w'.ownsRow base 44 1 v' (xs ++ [x]).length (sumCells (xs ++ [x])) ∧ w.grownBy w' v.ownBlock ∧
      v' ≠ .slice none 0 0 := by
  obtain ⟨i0, hi, hz0, hz1, hz2⟩ := info_parts u32_info
  obtain ⟨v', w', h1, h2, h3, h4⟩ := run_append_own (P := Tryd.prog) w base 59 59 44 i0 (.int .u32 0) 1 4 Tryd.underlying59 hi hz0 hz1 hz2 rfl (by decide) v xs.length (sumCells xs) hown
    ⟨gx, 0, none⟩ 1 1 (sumCells [x]) (by rw [sumCells_len]; rfl) (fun j u hj => by
      have hl : j < 1 := by
        rcases Nat.lt_or_ge j 1 with h | h
        · exact h
        · rw [List.getElem?_eq_none (by rw [sumCells_len]; exact h)] at hj; cases hj
      obtain rfl : j = 0 := by omega
      have h2 : (⟨gx, 0, none⟩ : Addr).add 0 = ⟨gx, 0, none⟩ := by unfold Addr.add; split <;> simp_all
      rw [h2, hx]; exact hj)
    (sumCells_one [x]) (by unfold maxLen; omega) (by omega) hb
  exact ⟨v', w', h1, by rw [List.length_append, sumCells_append]; exact h2, h3, by rw [Ne, h4]; simp⟩

theorem wpList_appendU_known {ops : Array Oper} {rest : List Oper} {o : Oper} {a : Act} {Q : Exit → Act → World → Prop} {w w' : World} {v sv xv : Value} (hgd : o.guard = none) (s x : Operand)
    (ho : o.op = .call { callee := .builtin .append, args := #[s, x], argTypes := #[59, 59] }) (hs : a.eval s = sv) (hx : a.eval x = xv)
    (hr : (Builtin.append_ #[59, 59] o.type #[sv, xv]).run Tryd.prog w = .ok v w') (h : wpList Tryd.prog ops Q rest (a.put o.dst v) w') : wpList Tryd.prog ops Q (o :: rest) a w :=
  wpList_plain hgd fun _ hK => by
    unfold Oper.wp execOp
    simp only [ho, resolve, invoke, builtin, Sem.run_bind, Sem.run_pure, Result.andThen_ok, List.map_toArray, List.map_cons, List.map_nil, hs, hx, hr]
    exact hK _ _ h

/-- Of the level of n sums the first j. -/
def part (l : List UInt8) (n j : Nat) : List UInt32 := (List.range j).map (fun q => nodeV l (n + q))
theorem part_len (l : List UInt8) (n j : Nat) : (part l n j).length = j := by simp [part]
theorem part_more (l : List UInt8) (n j : Nat) : part l n (j + 1) = part l n j ++ [nodeV l (n + j)] := by simp [part, List.range_succ]
theorem part_get (l : List UInt8) (n j q : Nat) (h : q < j) : (sumCells (part l n j))[q]? = some (.int .u32 ((nodeV l (n + q)).toNat : Int)) := by simp [sumCells, part, h]
end Go.Proofs.YtmcfcfdpckjonaaDoor
