/- The built-in append of records of numbers to a row of the call's own. -/
import Derived.Maps.AppendAt
import Derived.Laws.AppendOwnNone
import Derived.Test.YtgfcmeiffhffaaaJRec
namespace Go.Proofs.Ytgfcmeiffhffaaa
open Go.RowKit

/-- The first n of F, then G. -/
def catF (F : Nat → Nat → Int) (n : Nat) (G : Nat → Nat → Int) : Nat → Nat → Int := fun i j => if i < n then F i j else G (i - n) j
theorem recs_cat (F G : Nat → Nat → Int) (k n m : Nat) (hk : 0 < k) : recs F k n ++ recs G k m = recs (catF F n G) k (n + m) := by
  apply List.ext_getElem?
  intro i
  have hnm : (n + m) * k = n * k + m * k := Nat.add_mul _ _ _
  by_cases h1 : i < n * k
  · have hd : i / k < n := Nat.div_lt_of_lt_mul (by rwa [Nat.mul_comm])
    rw [List.getElem?_append_left (by rw [recs_length]; exact h1), recs_get' _ h1, recs_get' _ (by omega)]
    simp only [catF, if_pos hd]
  · by_cases h2 : i < n * k + m * k
    · obtain ⟨d, rfl⟩ : ∃ d, i = n * k + d := ⟨i - n * k, by omega⟩
      have hd : (n * k + d) / k = n + d / k := by
        rw [Nat.add_comm (n * k), Nat.add_mul_div_right _ _ hk, Nat.add_comm]
      have hm : (n * k + d) % k = d % k := by
        rw [Nat.add_comm (n * k), Nat.add_mul_mod_self_right]
      rw [List.getElem?_append_right (by rw [recs_length]; omega), recs_length, Nat.add_sub_cancel_left, recs_get' _ (by omega), recs_get' _ (by omega), hd, hm]
      simp only [catF]
      rw [if_neg (Nat.not_lt.2 (Nat.le_add_right _ _)), Nat.add_sub_cancel_left]
    · rw [List.getElem?_eq_none (by simp [recs_length]; omega), List.getElem?_eq_none (by rw [recs_length]; omega)]
theorem catF_zero (F G : Nat → Nat → Int) : catF F 0 G = G := by
  funext i j
  simp [catF]
/-- No address, or some address that has no path. -/
def AnyA (A : Option Addr) (c : Nat) : Prop := (A = none ∧ c = 0) ∨ ∃ b off, A = some ⟨b, off, none⟩
theorem own_anyA {w : World} {base : Nat} {e : TypeId} {k : Nat} {A : Option Addr} {m c : Nat} {xs : List Value} (h : w.ownsRow base e k (.slice A m c) m xs) : AnyA A c := by
  rcases h.2 with ⟨h1, _⟩ | ⟨g, cap, cur, hv, _⟩
  · cases h1; exact .inl ⟨rfl, rfl⟩
  · cases hv; exact .inr ⟨g, 0, rfl⟩
theorem run_app_recs (w : World) (base : Nat) (st ty e : TypeId) (z : Value) (k bytes : Nat) (ht : Try.prog.underlying st = some (.slice e)) (hinf : (Try.prog.info? e).map (fun i => (i.zero, i.size, i.bytes)) = some (some z, k, bytes))
    (hz : z.cells.size = k) (hk : 0 < k) (hb : bytes ≤ 1024) (v : Value) (n : Nat) (F : Nat → Nat → Int) (hown : w.ownsRow base e k v n (recs F k n)) (A : Option Addr) (m c : Nat) (G : Nat → Nat → Int) (hA : AnyA A c) (hr : Recs w k A m G)
    (hm : n + m ≤ 1048600) (hbase : base ≤ w.heap.size) :
    ∃ v' w', (Builtin.append_ #[st, st] ty #[v, .slice A m c]).run Try.prog w = .ok v' w' ∧ w'.ownsRow base e k v' (n + m) (recs (catF F n G) k (n + m)) ∧ w.grownBy w' v.ownBlock := by
  obtain ⟨i, hi, hzz⟩ := Option.map_eq_some_iff.1 hinf
  simp only [Prod.mk.injEq] at hzz
  obtain ⟨hiz, his, hib⟩ := hzz
  rcases hA with ⟨rfl, rfl⟩ | ⟨b, off, rfl⟩
  · have h0 : m = 0 := by
      rcases hr with h | ⟨_, _, e, _⟩
      · exact h
      · cases e
    subst h0
    refine ⟨v, w, run_append_owned_none (P := Try.prog) (w := w) base st ty e i k ht hi v n _ hown, ?_, grown_refl _ _⟩
    rw [← recs_cat _ _ _ _ _ hk]
    simpa [recs] using hown
  · obtain ⟨v', w', hrun, h2, h3, _, _⟩ := run_append_own_at (P := Try.prog) w base st ty e i z k bytes ht hi hiz his hib hz hk v n _ hown ⟨b, off, none⟩ m c (recs G k m) (recs_length _ _ _) (by
      intro j u hj
      have hjn : j < m * k := by
        rcases Nat.lt_or_ge j (m * k) with h | h
        · exact h
        · rw [List.getElem?_eq_none (by rw [recs_length]; omega)] at hj
          cases hj
      rw [recs_get' _ hjn] at hj
      cases hj
      rcases hr with h | ⟨b', off', e, hb, hc⟩
      · subst h; omega
      · cases e
        have h1 := hc (j / k) (Nat.div_lt_of_lt_mul (by rwa [Nat.mul_comm])) (j % k) (Nat.mod_lt _ hk)
        have h2 : off + j / k * k + j % k = off + j := by rw [Nat.add_assoc, Nat.mul_comm, Nat.div_add_mod]
        rw [h2] at h1
        simp only [Addr.add]
        split
        · rename_i h0; subst h0; simpa using h1
        · exact h1) recs_one (by unfold maxLen; omega) (by have := Nat.mul_le_mul hm hb; omega) hbase
    exact ⟨v', w', hrun, by rw [← recs_cat _ _ _ _ _ hk]; exact h2, h3⟩
/-- In a plain region. -/
theorem wpList_app_recs {w : World} {ops : Array Oper} {rest : List Oper} {o : Oper} {a : Act} {Q : Exit → Act → World → Prop} (hgd : o.guard = none) (s x : Operand) (st : TypeId)
    (ho : o.op = .call { callee := .builtin .append, args := #[s, x], argTypes := #[st, st] }) (base : Nat) (e : TypeId) (z : Value) (k bytes : Nat) (ht : Try.prog.underlying st = some (.slice e)) (hinf : (Try.prog.info? e).map (fun i => (i.zero, i.size, i.bytes)) = some (some z, k, bytes))
    (hz : z.cells.size = k) (hk : 0 < k) (hb : bytes ≤ 1024) (v : Value) (n : Nat) (F : Nat → Nat → Int) (hown : w.ownsRow base e k v n (recs F k n)) (A : Option Addr) (m c : Nat) (G : Nat → Nat → Int) (hA : AnyA A c) (hr : Recs w k A m G)
    (hm : n + m ≤ 1048600) (hbase : base ≤ w.heap.size) (hs : a.eval s = v) (hx : a.eval x = .slice A m c)
    (h : ∀ v' w', w'.ownsRow base e k v' (n + m) (recs (catF F n G) k (n + m)) → w.grownBy w' v.ownBlock → wpList Try.prog ops Q rest (a.put o.dst v') w') : wpList Try.prog ops Q (o :: rest) a w := by
  refine wpList_plain hgd fun K hK => ?_
  obtain ⟨v', w', hrun, h2, h3⟩ := run_app_recs w base st o.type e z k bytes ht hinf hz hk hb v n F hown A m c G hA hr hm hbase
  unfold Oper.wp execOp
  simp only [ho, resolve, invoke, builtin, Sem.run_bind, Sem.run_pure, Result.andThen_ok, List.map_toArray, List.map_cons, List.map_nil, hs, hx, hrun]
  exact hK _ _ (h v' w' h2 h3)
/-- At a step of a region that draws its order. -/
theorem step_app_recs {w : World} {ops : Array Oper} {o : Oper} {a : Act} {K : Act → World → Prop} {Q : Exit → Act → World → Prop} {E : Prop} (hgd : o.guard = none) (s x : Operand) (st : TypeId)
    (ho : o.op = .call { callee := .builtin .append, args := #[s, x], argTypes := #[st, st] }) (base : Nat) (e : TypeId) (z : Value) (k bytes : Nat) (ht : Try.prog.underlying st = some (.slice e)) (hinf : (Try.prog.info? e).map (fun i => (i.zero, i.size, i.bytes)) = some (some z, k, bytes))
    (hz : z.cells.size = k) (hk : 0 < k) (hb : bytes ≤ 1024) (v : Value) (n : Nat) (F : Nat → Nat → Int) (hown : w.ownsRow base e k v n (recs F k n)) (A : Option Addr) (m c : Nat) (G : Nat → Nat → Int) (hA : AnyA A c) (hr : Recs w k A m G)
    (hm : n + m ≤ 1048600) (hbase : base ≤ w.heap.size) (hs : a.eval s = v) (hx : a.eval x = .slice A m c)
    (h : ∀ v' w', w'.ownsRow base e k v' (n + m) (recs (catF F n G) k (n + m)) → w.grownBy w' v.ownBlock → K (a.put o.dst v') w') : if Region.wanted o (yielded ops a.tmps) = true then Oper.wp Try.prog o a w K Q else E := by
  rw [if_pos (by simp [Region.wanted, hgd])]
  obtain ⟨v', w', hrun, h2, h3⟩ := run_app_recs w base st o.type e z k bytes ht hinf hz hk hb v n F hown A m c G hA hr hm hbase
  unfold Oper.wp execOp
  simp only [ho, resolve, invoke, builtin, Sem.run_bind, Sem.run_pure, Result.andThen_ok, List.map_toArray, List.map_cons, List.map_nil, hs, hx, hrun]
  exact h v' w' h2 h3
/-- One record in a block of its own. -/
theorem recs_box {w : World} {g : Nat} {t : TypeId} {cs : Array Value} {k : Nat} {x : Nat → Int} (h : Box w g t cs) (hc : ∀ j, j < k → cs[j]? = some (.int .i64 (x j))) : Recs w k (some ⟨g, 0, none⟩) 1 (fun _ => x) :=
  .inr ⟨g, 0, rfl, h.lt, fun i hi j hj => by
    obtain rfl : i = 0 := by omega
    have := h.cell j
    rw [hc j hj] at this
    simpa using this⟩
/-- The numbers of one record of two or three. -/
def pair (x y : Int) : Nat → Int := fun j => if j = 0 then x else y
def trip (x y z : Int) : Nat → Int := fun j => if j = 0 then x else if j = 1 then y else z
def quad (x y z u : Int) : Nat → Int := fun j => if j = 0 then x else if j = 1 then y else if j = 2 then z else u
theorem recs_pair {w : World} {g : Nat} {t : TypeId} {x y : Int} (h : Box w g t #[.int .i64 x, .int .i64 y]) : Recs w 2 (some ⟨g, 0, none⟩) 1 (fun _ => pair x y) :=
  recs_box h fun j hj => by
    rcases (show j = 0 ∨ j = 1 by omega) with rfl | rfl <;> rfl
theorem recs_trip {w : World} {g : Nat} {t : TypeId} {x y z : Int} (h : Box w g t #[.int .i64 x, .int .i64 y, .int .i64 z]) : Recs w 3 (some ⟨g, 0, none⟩) 1 (fun _ => trip x y z) :=
  recs_box h fun j hj => by
    rcases (show j = 0 ∨ j = 1 ∨ j = 2 by omega) with rfl | rfl | rfl <;> rfl
theorem recs_quad {w : World} {g : Nat} {t : TypeId} {x y z u : Int} (h : Box w g t #[.int .i64 x, .int .i64 y, .int .i64 z, .int .i64 u]) : Recs w 4 (some ⟨g, 0, none⟩) 1 (fun _ => quad x y z u) :=
  recs_box h fun j hj => by
    rcases (show j = 0 ∨ j = 1 ∨ j = 2 ∨ j = 3 by omega) with rfl | rfl | rfl | rfl <;> rfl
theorem own_rec_empty (w : World) (base : Nat) (e : TypeId) (k : Nat) (F : Nat → Nat → Int) (hb : base ≤ w.heap.size) : (w.alloc (.cells #[] e)).ownsRow base e k (.slice (some ⟨w.heap.size, 0, none⟩) 0 0) 0 (recs F k 0) := by
  have h := own_empty w base e hb
  rcases h with ⟨_, ⟨h1, _⟩ | ⟨g, cap, cur, h1, h2, h3, h4, h5, h6, h7⟩⟩
  · cases h1
  · cases h1
    exact ⟨by simp [recs], .inr ⟨w.heap.size, 0, cur, rfl, h2, h3, h4, h5, by simpa using h6, by simp [recs]⟩⟩
theorem own_rec_congr {w : World} {base : Nat} {e : TypeId} {k : Nat} {v : Value} {n : Nat} {F G : Nat → Nat → Int} (h : w.ownsRow base e k v n (recs F k n)) (hk : 0 < k) (hFG : ∀ i, i < n → ∀ j, j < k → F i j = G i j) : w.ownsRow base e k v n (recs G k n) := by
  rw [← recs_congr hk hFG]; exact h
theorem own_snoc {w : World} {base : Nat} {e : TypeId} {k m : Nat} {v : Value} {H : Nat → Nat → Int} {y : Nat → Int} (h : w.ownsRow base e k v (m + 1) (recs (catF H m (fun _ => y)) k (m + 1))) (hk : 0 < k) (hy : ∀ j, j < k → y j = H m j) : w.ownsRow base e k v (m + 1) (recs H k (m + 1)) :=
  own_rec_congr h hk fun i hi j hj => by
    simp only [catF]
    split
    · rfl
    · obtain rfl : i = m := by omega
      exact hy j hj
theorem pair_eta {H : Nat → Int} : ∀ j, j < 2 → pair (H 0) (H 1) j = H j := fun j hj => by
  rcases (show j = 0 ∨ j = 1 by omega) with rfl | rfl <;> rfl
theorem trip_eta {H : Nat → Int} : ∀ j, j < 3 → trip (H 0) (H 1) (H 2) j = H j := fun j hj => by
  rcases (show j = 0 ∨ j = 1 ∨ j = 2 by omega) with rfl | rfl | rfl <;> rfl
theorem quad_eta {H : Nat → Int} : ∀ j, j < 4 → quad (H 0) (H 1) (H 2) (H 3) j = H j := fun j hj => by
  rcases (show j = 0 ∨ j = 1 ∨ j = 2 ∨ j = 3 by omega) with rfl | rfl | rfl | rfl <;> rfl
/-- A record put in at place p. -/
def insF (F : Nat → Nat → Int) (p : Nat) (x : Nat → Int) : Nat → Nat → Int := fun i j => if i < p then F i j else if i = p then x j else F (i - 1) j
theorem insF_lt {F : Nat → Nat → Int} {p i : Nat} {x : Nat → Int} (h : i < p) (j : Nat) : insF F p x i j = F i j := by simp [insF, h]
theorem insF_at {F : Nat → Nat → Int} {p : Nat} {x : Nat → Int} (j : Nat) : insF F p x p j = x j := by simp [insF]
theorem insF_gt {F : Nat → Nat → Int} {p i : Nat} {x : Nat → Int} (h : p ≤ i) (j : Nat) : insF F p x (i + 1) j = F i j := by
  unfold insF
  rw [if_neg (by omega), if_neg (by omega)]
  rfl
end Go.Proofs.Ytgfcmeiffhffaaa
