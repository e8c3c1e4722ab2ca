/- Rows of records of numbers in memory: record i, field j lies at offset i * k + j. -/
import Derived.Laws.MakeOwn
import Derived.Test.YtgfcmeiffhffaaaJOwn
namespace Go.Proofs.Ytgfcmeiffhffaaa
open Go.RowKit

theorem lt_of_cell {w : World} {b o : Nat} {v : Value} (h : w.cell? ⟨b, o, none⟩ = some v) : b < w.heap.size := by
  rcases Nat.lt_or_ge b w.heap.size with h1 | h1
  · exact h1
  · simp [World.cell?, Array.getElem?_eq_none h1] at h
theorem quiet_eq {P : Program} {f : FuncId} {args : Array Value} {w : World} {n : Nat} {v : Value}
    (h : Calls P f args (w.drewN n) fun e w' => e = .returned v ∧ w.drewN n = w') : Calls P f args (w.drewN n) fun e w'' => e = .returned v ∧ ∃ m, w'' = w.drewN m :=
  h.mono fun _ _ ⟨he, hm⟩ => ⟨he, n, hm.symm⟩
/-- The first n records of k numbers from A on are F 0, F 1, .. . -/
def Recs (w : World) (k : Nat) (A : Option Addr) (n : Nat) (F : Nat → Nat → Int) : Prop :=
  n = 0 ∨ ∃ b off, A = some ⟨b, off, none⟩ ∧ b < w.heap.size ∧ ∀ i, i < n → ∀ j, j < k → w.cell? ⟨b, off + i * k + j, none⟩ = some (.int .i64 (F i j))
section
variable {w w' : World} {k : Nat} {A : Option Addr} {n : Nat} {F G : Nat → Nat → Int}
theorem Recs.drew (h : Recs w k A n F) : Recs w.drew k A n F := h
theorem Recs.drewN (h : Recs w k A n F) (m : Nat) : Recs (w.drewN m) k A n F := h
theorem Recs.kept (h : Recs w k A n F) (hb : Below w.heap.size w w') : Recs w' k A n F := by
  rcases h with h | ⟨b, off, rfl, hlt, hc⟩
  · exact .inl h
  · refine .inr ⟨b, off, rfl, Nat.lt_of_lt_of_le hlt hb.size, fun i hi j hj => ?_⟩
    rw [← hc i hi j hj]
    exact hb.cell (p := ⟨b, off + i * k + j, none⟩) hlt
theorem Recs.alloc (h : Recs w k A n F) (o : Obj) : Recs (w.alloc o) k A n F := h.kept ((Below.refl _ _).alloc (Nat.le_refl _) o)
theorem Recs.moved {row : Option Nat} (h : Recs w k A n F) (hg : w.grownBy w' row) (ha : ∀ b off, A = some ⟨b, off, none⟩ → some b ≠ row) : Recs w' k A n F := by
  rcases h with h | ⟨b, off, rfl, hb, hc⟩
  · exact .inl h
  · refine .inr ⟨b, off, rfl, Nat.lt_of_lt_of_le hb hg.size, fun i hi j hj => ?_⟩
    rw [← hc i hi j hj]
    exact World.cell?_of_block (hg.block b hb (ha b off rfl))
theorem Recs.congr (h : Recs w k A n F) (hFG : ∀ i, i < n → ∀ j, j < k → F i j = G i j) : Recs w k A n G := by
  rcases h with h | ⟨b, off, rfl, hb, hc⟩
  · exact .inl h
  · exact .inr ⟨b, off, rfl, hb, fun i hi j hj => by rw [← hFG i hi j hj]; exact hc i hi j hj⟩
theorem Recs.less (h : Recs w k A n F) {m : Nat} (hm : m ≤ n) : Recs w k A m F := by
  rcases h with h | ⟨b, off, rfl, hb, hc⟩
  · exact .inl (by omega)
  · exact .inr ⟨b, off, rfl, hb, fun i hi j hj => hc i (by omega) j hj⟩
theorem Recs.at2 (h : Recs w 2 A n F) {i : Nat} (hi : i < n) : ∃ b off, A = some ⟨b, off, none⟩ ∧ b < w.heap.size ∧ w.cell? ⟨b, off + i * 2, none⟩ = some (.int .i64 (F i 0)) ∧ w.cell? ⟨b, off + i * 2 + 1, none⟩ = some (.int .i64 (F i 1)) := by
  rcases h with h | ⟨b, off, e, hb, hc⟩
  · omega
  · exact ⟨b, off, e, hb, hc i hi 0 (by omega), hc i hi 1 (by omega)⟩
theorem Recs.at3 (h : Recs w 3 A n F) {i : Nat} (hi : i < n) : ∃ b off, A = some ⟨b, off, none⟩ ∧ b < w.heap.size ∧ w.cell? ⟨b, off + i * 3, none⟩ = some (.int .i64 (F i 0)) ∧ w.cell? ⟨b, off + i * 3 + 1, none⟩ = some (.int .i64 (F i 1)) ∧ w.cell? ⟨b, off + i * 3 + 2, none⟩ = some (.int .i64 (F i 2)) := by
  rcases h with h | ⟨b, off, e, hb, hc⟩
  · omega
  · exact ⟨b, off, e, hb, hc i hi 0 (by omega), hc i hi 1 (by omega), hc i hi 2 (by omega)⟩
theorem Recs.at4 (h : Recs w 4 A n F) {i : Nat} (hi : i < n) : ∃ b off, A = some ⟨b, off, none⟩ ∧ b < w.heap.size ∧ w.cell? ⟨b, off + i * 4, none⟩ = some (.int .i64 (F i 0)) ∧ w.cell? ⟨b, off + i * 4 + 1, none⟩ = some (.int .i64 (F i 1)) ∧ w.cell? ⟨b, off + i * 4 + 2, none⟩ = some (.int .i64 (F i 2)) ∧ w.cell? ⟨b, off + i * 4 + 3, none⟩ = some (.int .i64 (F i 3)) := by
  rcases h with h | ⟨b, off, e, hb, hc⟩
  · omega
  · exact ⟨b, off, e, hb, hc i hi 0 (by omega), hc i hi 1 (by omega), hc i hi 2 (by omega), hc i hi 3 (by omega)⟩
theorem Recs.has (h : Recs w k A n F) (hn : 0 < n) : ∃ b off, A = some ⟨b, off, none⟩ ∧ b < w.heap.size := by
  rcases h with h | ⟨b, off, e, hb, _⟩
  · omega
  · exact ⟨b, off, e, hb⟩
end

/-- The cells of n records of k numbers, one behind the other. -/
def recs (F : Nat → Nat → Int) (k n : Nat) : List Value := (List.range (n * k)).map fun m => .int .i64 (F (m / k) (m % k))
theorem recs_length (F : Nat → Nat → Int) (k n : Nat) : (recs F k n).length = n * k := by simp [recs]
theorem idx_lt {k n i j : Nat} (hi : i < n) (hj : j < k) : i * k + j < n * k := by
  have h1 : i * k + k ≤ n * k := by rw [← Nat.succ_mul]; exact Nat.mul_le_mul_right k hi
  omega
theorem idx_div {k i j : Nat} (hj : j < k) : (i * k + j) / k = i := by
  rw [Nat.add_comm, Nat.add_mul_div_right _ _ (by omega), Nat.div_eq_of_lt hj, Nat.zero_add]
theorem idx_mod {k i j : Nat} (hj : j < k) : (i * k + j) % k = j := by
  rw [Nat.add_comm, Nat.add_mul_mod_self_right, Nat.mod_eq_of_lt hj]
theorem recs_get (F : Nat → Nat → Int) {k n i j : Nat} (hi : i < n) (hj : j < k) : (recs F k n)[i * k + j]? = some (.int .i64 (F i j)) := by
  simp [recs, idx_lt hi hj, idx_div hj, idx_mod hj]
theorem recs_get' (F : Nat → Nat → Int) {k n m : Nat} (hm : m < n * k) : (recs F k n)[m]? = some (.int .i64 (F (m / k) (m % k))) := by
  simp [recs, hm]
theorem recs_congr {F G : Nat → Nat → Int} {k n : Nat} (hk : 0 < k) (h : ∀ i, i < n → ∀ j, j < k → F i j = G i j) : recs F k n = recs G k n := by
  unfold recs
  apply List.map_congr_left
  intro m hm
  have hm := List.mem_range.1 hm
  rw [h (m / k) (Nat.div_lt_of_lt_mul (by rwa [Nat.mul_comm])) (m % k) (Nat.mod_lt _ hk)]
theorem recs_one {F : Nat → Nat → Int} {k n : Nat} : ∀ u ∈ recs F k n, u.oneCell' = true := by
  intro u hu
  simp only [recs, List.mem_map] at hu
  obtain ⟨i, _, rfl⟩ := hu
  rfl
/-- What is owned reads as a row of records, in a block from base on. -/
theorem own_recs {w : World} {base : Nat} {e : TypeId} {k : Nat} {v : Value} {n : Nat} {F : Nat → Nat → Int} (h : w.ownsRow base e k v n (recs F k n)) :
    ∃ A c, v = .slice A n c ∧ n ≤ maxLen ∧ Recs w k A n F := by
  rcases h.2 with ⟨rfl, h0⟩ | ⟨g, cap, cur, rfl, hg, hh, hn, hc, _, _⟩
  · rcases Nat.eq_zero_or_pos n with h1 | h1
    · subst h1; exact ⟨none, 0, rfl, by simp [maxLen], .inl rfl⟩
    · first | exact ⟨none, 0, by simp_all, by simp_all, .inl (by simp_all)⟩ | omega
  · have hlt := (h.lt g rfl).2
    refine ⟨_, cap, rfl, by omega, .inr ⟨g, 0, rfl, hlt, fun i hi j hj => ?_⟩⟩
    have := h.cells (g := g) rfl (i * k + j) _ (recs_get F hi hj)
    rw [add_zero_none] at this
    simpa using this
theorem own_rec {w : World} {base : Nat} {e : TypeId} {k : Nat} {A : Option Addr} {n c : Nat} {F : Nat → Nat → Int} (h : w.ownsRow base e k (.slice A n c) n (recs F k n)) : Recs w k A n F := by
  obtain ⟨A', c', e1, _, hr⟩ := own_recs h
  cases e1
  exact hr
/-- A block whose cells are the records is an owned row. -/
theorem own_of_box {w : World} {base g : Nat} {e : TypeId} {k n : Nat} {cs : Array Value} {F : Nat → Nat → Int} (hk : 0 < k) (hg : base ≤ g) (hx : Box w g e cs) (hs : cs.size = n * k) (hn : n ≤ maxLen) (hc : ∀ i, i < n → ∀ j, j < k → cs[i * k + j]? = some (.int .i64 (F i j))) :
    w.ownsRow base e k (.slice (some ⟨g, 0, none⟩) n n) n (recs F k n) := by
  refine ⟨recs_length F k n, .inr ⟨g, n, cs, rfl, hg, hx, Nat.le_refl _, hn, by omega, ?_⟩⟩
  apply List.ext_getElem?
  intro m
  by_cases hm : m < n * k
  · have h1 := hc (m / k) (Nat.div_lt_of_lt_mul (by rwa [Nat.mul_comm])) (m % k) (Nat.mod_lt _ hk)
    have h2 : m / k * k + m % k = m := by rw [Nat.mul_comm]; exact Nat.div_add_mod m k
    rw [h2] at h1
    first
    | (rw [recs_get' F hm, List.getElem?_take_of_lt hm]; simpa using h1.symm)
    | (rw [recs_get' F hm, List.getElem?_take_of_lt hm]; simpa using h1)
  · rw [List.getElem?_eq_none (by simp [hs]; omega), List.getElem?_eq_none (by simp [recs_length]; omega)]
theorem put_rec2 {cs : Array Value} {n m : Nat} {F : Nat → Nat → Int} (hs : cs.size = n * 2) (hm : m < n) (hF : ∀ i, i < m → ∀ j, j < 2 → cs[i * 2 + j]? = some (.int .i64 (F i j))) :
    ∀ i, i < m + 1 → ∀ j, j < 2 → ((cs.setIfInBounds (m * 2) (.int .i64 (F m 0))).setIfInBounds (m * 2 + 1) (.int .i64 (F m 1)))[i * 2 + j]? = some (.int .i64 (F i j)) := by
  intro i hi j hj
  rcases Nat.lt_or_ge i m with h | h
  · rw [Array.getElem?_setIfInBounds_ne (by omega), Array.getElem?_setIfInBounds_ne (by omega)]
    exact hF i h j hj
  · obtain rfl : i = m := by omega
    have hj' : j = 0 ∨ j = 1 := by omega
    rcases hj' with rfl | rfl
    all_goals
      simp only [Array.getElem?_setIfInBounds, Array.size_setIfInBounds, hs]
      repeat' split
      all_goals first | rfl | omega | exact absurd trivial (by assumption)
theorem put_rec3 {cs : Array Value} {n m : Nat} {F : Nat → Nat → Int} (hs : cs.size = n * 3) (hm : m < n) (hF : ∀ i, i < m → ∀ j, j < 3 → cs[i * 3 + j]? = some (.int .i64 (F i j))) :
    ∀ i, i < m + 1 → ∀ j, j < 3 → (((cs.setIfInBounds (m * 3) (.int .i64 (F m 0))).setIfInBounds (m * 3 + 1) (.int .i64 (F m 1))).setIfInBounds (m * 3 + 2) (.int .i64 (F m 2)))[i * 3 + j]? = some (.int .i64 (F i j)) := by
  intro i hi j hj
  rcases Nat.lt_or_ge i m with h | h
  · rw [Array.getElem?_setIfInBounds_ne (by omega), Array.getElem?_setIfInBounds_ne (by omega), Array.getElem?_setIfInBounds_ne (by omega)]
    exact hF i h j hj
  · obtain rfl : i = m := by omega
    have hj' : j = 0 ∨ j = 1 ∨ j = 2 := by omega
    rcases hj' with rfl | rfl | rfl
    all_goals
      simp only [Array.getElem?_setIfInBounds, Array.size_setIfInBounds, hs]
      repeat' split
      all_goals first | rfl | omega | exact absurd trivial (by assumption)
theorem put_rec4 {cs : Array Value} {n m : Nat} {F : Nat → Nat → Int} (hs : cs.size = n * 4) (hm : m < n) (hF : ∀ i, i < m → ∀ j, j < 4 → cs[i * 4 + j]? = some (.int .i64 (F i j))) :
    ∀ i, i < m + 1 → ∀ j, j < 4 → ((((cs.setIfInBounds (m * 4) (.int .i64 (F m 0))).setIfInBounds (m * 4 + 1) (.int .i64 (F m 1))).setIfInBounds (m * 4 + 2) (.int .i64 (F m 2))).setIfInBounds (m * 4 + 3) (.int .i64 (F m 3)))[i * 4 + j]? = some (.int .i64 (F i j)) := by
  intro i hi j hj
  rcases Nat.lt_or_ge i m with h | h
  · rw [Array.getElem?_setIfInBounds_ne (by omega), Array.getElem?_setIfInBounds_ne (by omega), Array.getElem?_setIfInBounds_ne (by omega), Array.getElem?_setIfInBounds_ne (by omega)]
    exact hF i h j hj
  · obtain rfl : i = m := by omega
    have hj' : j = 0 ∨ j = 1 ∨ j = 2 ∨ j = 3 := by omega
    rcases hj' with rfl | rfl | rfl | rfl
    all_goals
      simp only [Array.getElem?_setIfInBounds, Array.size_setIfInBounds, hs]
      repeat' split
      all_goals first | rfl | omega | exact absurd trivial (by assumption)
theorem own_cases {w : World} {base : Nat} {e : TypeId} {k : Nat} {v : Value} {n : Nat} {xs : List Value} (h : w.ownsRow base e k v n xs) :
    (v = .slice none 0 0 ∧ n = 0) ∨ ∃ g cap cur, v = .slice (some ⟨g, 0, none⟩) n cap ∧ base ≤ g ∧ Box w g e cur ∧ n ≤ cap ∧ cap ≤ maxLen ∧ cur.size = cap * k := by
  rcases h.2 with ⟨rfl, h0⟩ | ⟨g, cap, cur, rfl, hg, hh, hn, hc, hs, _⟩
  · exact .inl ⟨rfl, h0⟩
  · exact .inr ⟨g, cap, cur, rfl, hg, hh, hn, hc, hs⟩
theorem own_again {w : World} {base g : Nat} {e : TypeId} {k n cap : Nat} {cs : Array Value} {F : Nat → Nat → Int} (hg : base ≤ g) (hx : Box w g e cs) (hn : n ≤ cap) (hm : cap ≤ maxLen) (hs : cs.size = cap * k) (hk : 0 < k) (hc : ∀ i, i < n → ∀ j, j < k → cs[i * k + j]? = some (.int .i64 (F i j))) :
    w.ownsRow base e k (.slice (some ⟨g, 0, none⟩) n cap) n (recs F k n) := by
  have hle : n * k ≤ cap * k := Nat.mul_le_mul_right k hn
  refine ⟨recs_length F k n, .inr ⟨g, cap, cs, rfl, hg, hx, hn, hm, hs, ?_⟩⟩
  apply List.ext_getElem?
  intro m
  by_cases hm : m < n * k
  · have h1 := hc (m / k) (Nat.div_lt_of_lt_mul (by rwa [Nat.mul_comm])) (m % k) (Nat.mod_lt _ hk)
    have h2 : m / k * k + m % k = m := by rw [Nat.mul_comm]; exact Nat.div_add_mod m k
    rw [h2] at h1
    first
    | (rw [recs_get' F hm, List.getElem?_take_of_lt hm]; simpa using h1.symm)
    | (rw [recs_get' F hm, List.getElem?_take_of_lt hm]; simpa using h1)
  · rw [List.getElem?_eq_none (by simp only [List.length_take, Array.length_toList, hs]; omega), List.getElem?_eq_none (by simp [recs_length]; omega)]
theorem mark_rec2 {cs cur : Array Value} {n m : Nat} {q : Int} (hs : cur.size ≤ cs.size) (hn : n * 2 ≤ cur.size) (hm : m < n) (hF : ∀ i, i < m → ∀ j, j < 2 → cs[i * 2 + j]? = some (.int .i64 (q + i * 2 + j))) :
    ∀ i, i < m + 1 → ∀ j, j < 2 → ((cs.setIfInBounds (m * 2) (.int .i64 (q + m * 2))).setIfInBounds (m * 2 + 1) (.int .i64 (q + m * 2 + 1)))[i * 2 + j]? = some (.int .i64 (q + i * 2 + j)) := by
  intro i hi j hj
  rcases Nat.lt_or_ge i m with h | h
  · rw [Array.getElem?_setIfInBounds_ne (by omega), Array.getElem?_setIfInBounds_ne (by omega)]
    exact hF i h j hj
  · obtain rfl : i = m := by omega
    have hj' : j = 0 ∨ j = 1 := by omega
    rcases hj' with rfl | rfl
    all_goals
      simp only [Array.getElem?_setIfInBounds, Array.size_setIfInBounds]
      repeat' split
      all_goals first | rfl | omega | exact absurd trivial (by assumption) | (refine congrArg (fun z => some (Value.int .i64 z)) ?_; omega)
theorem mark_rec3 {cs cur : Array Value} {n m : Nat} {q : Int} (hs : cur.size ≤ cs.size) (hn : n * 3 ≤ cur.size) (hm : m < n) (hF : ∀ i, i < m → ∀ j, j < 3 → cs[i * 3 + j]? = some (.int .i64 (q + i * 3 + j))) :
    ∀ i, i < m + 1 → ∀ j, j < 3 → (((cs.setIfInBounds (m * 3) (.int .i64 (q + m * 3))).setIfInBounds (m * 3 + 1) (.int .i64 (q + m * 3 + 1))).setIfInBounds (m * 3 + 2) (.int .i64 (q + m * 3 + 1 + 1)))[i * 3 + j]? = some (.int .i64 (q + i * 3 + j)) := by
  intro i hi j hj
  rcases Nat.lt_or_ge i m with h | h
  · rw [Array.getElem?_setIfInBounds_ne (by omega), Array.getElem?_setIfInBounds_ne (by omega), Array.getElem?_setIfInBounds_ne (by omega)]
    exact hF i h j hj
  · obtain rfl : i = m := by omega
    have hj' : j = 0 ∨ j = 1 ∨ j = 2 := by omega
    rcases hj' with rfl | rfl | rfl
    all_goals
      simp only [Array.getElem?_setIfInBounds, Array.size_setIfInBounds]
      repeat' split
      all_goals first | rfl | omega | exact absurd trivial (by assumption) | (refine congrArg (fun z => some (Value.int .i64 z)) ?_; omega)
theorem mark_rec4 {cs cur : Array Value} {n m : Nat} {q : Int} (hs : cur.size ≤ cs.size) (hn : n * 4 ≤ cur.size) (hm : m < n) (hF : ∀ i, i < m → ∀ j, j < 4 → cs[i * 4 + j]? = some (.int .i64 (q + i * 4 + j))) :
    ∀ i, i < m + 1 → ∀ j, j < 4 → ((((cs.setIfInBounds (m * 4) (.int .i64 (q + m * 4))).setIfInBounds (m * 4 + 1) (.int .i64 (q + m * 4 + 1))).setIfInBounds (m * 4 + 2) (.int .i64 (q + m * 4 + 1 + 1))).setIfInBounds (m * 4 + 3) (.int .i64 (q + m * 4 + 1 + 1 + 1)))[i * 4 + j]? = some (.int .i64 (q + i * 4 + j)) := by
  intro i hi j hj
  rcases Nat.lt_or_ge i m with h | h
  · rw [Array.getElem?_setIfInBounds_ne (by omega), Array.getElem?_setIfInBounds_ne (by omega), Array.getElem?_setIfInBounds_ne (by omega), Array.getElem?_setIfInBounds_ne (by omega)]
    exact hF i h j hj
  · obtain rfl : i = m := by omega
    have hj' : j = 0 ∨ j = 1 ∨ j = 2 ∨ j = 3 := by omega
    rcases hj' with rfl | rfl | rfl | rfl
    all_goals
      simp only [Array.getElem?_setIfInBounds, Array.size_setIfInBounds]
      repeat' split
      all_goals first | rfl | omega | exact absurd trivial (by assumption) | (refine congrArg (fun z => some (Value.int .i64 z)) ?_; omega)
section
variable {P : Program}
/-- make of n records. -/
theorem run_make_recs (t e : TypeId) (z : Value) (bytes size : Nat) (ht : P.underlying t = some (.slice e)) (hinfo : (P.info? e).map (fun i => (i.zero, i.size, i.bytes)) = some (some z, size, bytes))
    (kl kc : IntKind) (n : Nat) (hbytes : bytes * n ≤ 281474976710656) (h63 : n ≤ 9223372036854775807) (w : World) :
    (Instr.makeSlice t (.int kl (n : Int)) (.int kc (n : Int))).run P w = .ok (.slice (some ⟨w.heap.size, 0, none⟩) n n) (w.alloc (.cells (madeCells z.cells (n * size)) e)) := by
  obtain ⟨i, hi, hzz⟩ := Option.map_eq_some_iff.1 hinfo
  simp only [Prod.mk.injEq] at hzz
  obtain ⟨hz, hs, hb⟩ := hzz
  have hb' : (i.bytes : Int) * (n : Int) ≤ 281474976710656 := by
    have h : ((i.bytes * n : Nat) : Int) ≤ 281474976710656 := by rw [hb]; omega
    rwa [Int.natCast_mul] at h
  have hr := run_make (P := P) w t e i z ht hi hz kl kc n n (by omega) (Int.le_refl _) hb' (by omega)
  simp only [Int.toNat_natCast, hs] at hr
  exact hr
end
/-- A new row of records comes back: n of them, F 0, F 1, ..; nothing that was there has changed. -/
def RecsQ (e : TypeId) (k n : Nat) (F : Nat → Nat → Int) (w : World) (x : Ending) (w' : World) : Prop :=
  ∃ v, x = .returned v ∧ w'.ownsRow w.heap.size e k v n (recs F k n) ∧ Below w.heap.size w w'
end Go.Proofs.Ytgfcmeiffhffaaa
