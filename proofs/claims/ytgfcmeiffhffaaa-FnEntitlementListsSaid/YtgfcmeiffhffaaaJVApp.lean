/- The built-in append of one record of whatever values to a row of the call's own. -/
import Derived.Test.YtgfcmeiffhffaaaJRecMore
import Derived.Test.YtgfcmeiffhffaaaJRecApp
namespace Go.Proofs.Ytgfcmeiffhffaaa
open Go.RowKit

def catV (V : Nat → Nat → Value) (n : Nat) (x : Nat → Value) : Nat → Nat → Value := fun i j => if i < n then V i j else x j
theorem recV_cat (V : Nat → Nat → Value) (x : Nat → Value) (k n : Nat) (hk : 0 < k) : recV V k n ++ (List.range k).map x = recV (catV V n x) k (n + 1) := by
  apply List.ext_getElem?
  intro i
  have hnm : (n + 1) * k = n * k + k := Nat.succ_mul _ _
  by_cases h1 : i < n * k
  · have hd : i / k < n := Nat.div_lt_of_lt_mul (by rwa [Nat.mul_comm])
    rw [List.getElem?_append_left (by rw [recV_length]; exact h1), recV_get' _ h1, recV_get' _ (by omega)]
    simp only [catV, if_pos hd]
  · by_cases h2 : i < n * k + k
    · obtain ⟨d, rfl⟩ : ∃ d, i = n * k + d := ⟨i - n * k, by omega⟩
      have hdk : d < k := by omega
      have hd : (n * k + d) / k = n := by
        rw [Nat.add_comm (n * k), Nat.add_mul_div_right _ _ hk, Nat.div_eq_of_lt hdk, Nat.zero_add]
      have hm : (n * k + d) % k = d := by
        rw [Nat.add_comm (n * k), Nat.add_mul_mod_self_right, Nat.mod_eq_of_lt hdk]
      rw [List.getElem?_append_right (by rw [recV_length]; omega), recV_length, Nat.add_sub_cancel_left, recV_get' _ (by omega), hd, hm]
      simp only [catV]
      rw [if_neg (Nat.lt_irrefl _)]
      simp [hdk]
    · rw [List.getElem?_eq_none (by simp [recV_length]; omega), List.getElem?_eq_none (by rw [recV_length]; omega)]
theorem run_app_recV (w : World) (base : Nat) (st ty e : TypeId) (z : Value) (k bytes : Nat) (ht : Try.prog.underlying st = some (.slice e)) (hinf : (Try.prog.info? e).map (fun i => (i.zero, i.size, i.bytes)) = some (some z, k, bytes))
    (hz : z.cells.size = k) (hk : 0 < k) (hb : bytes ≤ 1024) (v : Value) (n : Nat) (V : Nat → Nat → Value) (hown : w.ownsRow base e k v n (recV V k n)) (b : Nat) (t : TypeId) (cs : Array Value) (hx : Box w b t cs) (x : Nat → Value) (hc : ∀ j, j < k → cs[j]? = some (x j)) (h1 : ∀ j, j < k → (x j).oneCell' = true)
    (hm : n ≤ 1048600) (hbase : base ≤ w.heap.size) :
    ∃ v' w', (Builtin.append_ #[st, st] ty #[v, .slice (some ⟨b, 0, none⟩) 1 1]).run Try.prog w = .ok v' w' ∧ w'.ownsRow base e k v' (n + 1) (recV (catV V n x) k (n + 1)) ∧ w.grownBy w' v.ownBlock := by
  obtain ⟨i, hi, hzz⟩ := Option.map_eq_some_iff.1 hinf
  simp only [Prod.mk.injEq] at hzz
  obtain ⟨hiz, his, hib⟩ := hzz
  obtain ⟨v', w', hrun, h2, h3, _, _⟩ := run_append_own_at (P := Try.prog) w base st ty e i z k bytes ht hi hiz his hib hz hk v n _ hown ⟨b, 0, none⟩ 1 1 ((List.range k).map x) (by simp) (by
      intro j u hj
      have hjn : j < k := by
        rcases Nat.lt_or_ge j k with h | h
        · exact h
        · rw [List.getElem?_eq_none (by simp; omega)] at hj
          cases hj
      have hu : u = x j := by simpa [hjn] using hj.symm
      subst hu
      have := (hx.cell j).trans (hc j hjn)
      simp only [Addr.add]
      split
      · rename_i h0; subst h0; simpa using this
      · simpa using this) (by
      intro u hu
      simp only [List.mem_map, List.mem_range] at hu
      obtain ⟨j, hj, rfl⟩ := hu
      exact h1 j hj) (by unfold maxLen; omega) (by have := Nat.mul_le_mul (show n + 1 ≤ 1048601 by omega) hb; omega) hbase
  exact ⟨v', w', hrun, by rw [← recV_cat _ _ _ _ hk]; exact h2, h3⟩
/-- In a plain region. -/
theorem wpList_app_recV {w : World} {ops : Array Oper} {rest : List Oper} {o : Oper} {a : Act} {Q : Exit → Act → World → Prop} (hgd : o.guard = none) (s y : Operand) (st : TypeId)
    (ho : o.op = .call { callee := .builtin .append, args := #[s, y], argTypes := #[st, st] }) (base : Nat) (e : TypeId) (z : Value) (k bytes : Nat) (ht : Try.prog.underlying st = some (.slice e)) (hinf : (Try.prog.info? e).map (fun i => (i.zero, i.size, i.bytes)) = some (some z, k, bytes))
    (hz : z.cells.size = k) (hk : 0 < k) (hb : bytes ≤ 1024) (v : Value) (n : Nat) (V : Nat → Nat → Value) (hown : w.ownsRow base e k v n (recV V k n)) (b : Nat) (t : TypeId) (cs : Array Value) (hx : Box w b t cs) (x : Nat → Value) (hc : ∀ j, j < k → cs[j]? = some (x j)) (h1 : ∀ j, j < k → (x j).oneCell' = true)
    (hm : n ≤ 1048600) (hbase : base ≤ w.heap.size) (hs : a.eval s = v) (hy : a.eval y = .slice (some ⟨b, 0, none⟩) 1 1)
    (h : ∀ v' w', w'.ownsRow base e k v' (n + 1) (recV (catV V n x) k (n + 1)) → w.grownBy w' v.ownBlock → wpList Try.prog ops Q rest (a.put o.dst v') w') : wpList Try.prog ops Q (o :: rest) a w := by
  refine wpList_plain hgd fun K hK => ?_
  obtain ⟨v', w', hrun, h2, h3⟩ := run_app_recV w base st o.type e z k bytes ht hinf hz hk hb v n V hown b t cs hx x hc h1 hm hbase
  unfold Oper.wp execOp
  simp only [ho, resolve, invoke, builtin, Sem.run_bind, Sem.run_pure, Result.andThen_ok, List.map_toArray, List.map_cons, List.map_nil, hs, hy, hrun]
  exact hK _ _ (h v' w' h2 h3)
/-- At a step of a region that draws its order. -/
theorem step_app_recV {w : World} {ops : Array Oper} {o : Oper} {a : Act} {K : Act → World → Prop} {Q : Exit → Act → World → Prop} {E : Prop} (hgd : o.guard = none) (s y : Operand) (st : TypeId)
    (ho : o.op = .call { callee := .builtin .append, args := #[s, y], argTypes := #[st, st] }) (base : Nat) (e : TypeId) (z : Value) (k bytes : Nat) (ht : Try.prog.underlying st = some (.slice e)) (hinf : (Try.prog.info? e).map (fun i => (i.zero, i.size, i.bytes)) = some (some z, k, bytes))
    (hz : z.cells.size = k) (hk : 0 < k) (hb : bytes ≤ 1024) (v : Value) (n : Nat) (V : Nat → Nat → Value) (hown : w.ownsRow base e k v n (recV V k n)) (b : Nat) (t : TypeId) (cs : Array Value) (hx : Box w b t cs) (x : Nat → Value) (hc : ∀ j, j < k → cs[j]? = some (x j)) (h1 : ∀ j, j < k → (x j).oneCell' = true)
    (hm : n ≤ 1048600) (hbase : base ≤ w.heap.size) (hs : a.eval s = v) (hy : a.eval y = .slice (some ⟨b, 0, none⟩) 1 1)
    (h : ∀ v' w', w'.ownsRow base e k v' (n + 1) (recV (catV V n x) k (n + 1)) → w.grownBy w' v.ownBlock → K (a.put o.dst v') w') : if Region.wanted o (yielded ops a.tmps) = true then Oper.wp Try.prog o a w K Q else E := by
  rw [if_pos (by simp [Region.wanted, hgd])]
  obtain ⟨v', w', hrun, h2, h3⟩ := run_app_recV w base st o.type e z k bytes ht hinf hz hk hb v n V hown b t cs hx x hc h1 hm hbase
  unfold Oper.wp execOp
  simp only [ho, resolve, invoke, builtin, Sem.run_bind, Sem.run_pure, Result.andThen_ok, List.map_toArray, List.map_cons, List.map_nil, hs, hy, hrun]
  exact h v' w' h2 h3
end Go.Proofs.Ytgfcmeiffhffaaa
