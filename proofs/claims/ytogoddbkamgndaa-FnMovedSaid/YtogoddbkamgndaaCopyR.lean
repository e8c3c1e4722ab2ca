/- The built-in copy of records into a block that is known whole. -/
import Derived.Test.YtogoddbkamgndaaRecApp
import Derived.Laws.IdiomCopy
import Derived.Lib.AppendZerosOnto
import Derived.Lib.AppendZeros
import Derived.Lib.Overlaps
import Derived.Laws.Externs
import Derived.Laws.NewBlocks
namespace Go.Proofs.Ytogoddbkamgndaa
open Go.RowKit Go.Lib

theorem box_setCells (b : Nat) (t : TypeId) : ∀ (vs : List Value) (o : Nat) (w : World) (cs : Array Value), Box w b t cs → ∃ cs', Box (w.setCells b o vs) b t cs' ∧ cs'.size = cs.size
  | [], _, _, cs, h => ⟨cs, h, rfl⟩
  | v :: r, o, w, cs, h => by
    obtain ⟨cs', h1, h2⟩ := box_setCells b t r (o + 1) _ _ (h.put o v)
    exact ⟨cs', h1, by rw [h2]; simp⟩
theorem grown_setCells (b : Nat) : ∀ (vs : List Value) (o : Nat) (w : World), w.grownBy (w.setCells b o vs) (some b)
  | [], _, w => grown_refl w _
  | v :: r, o, w => grown_trans (grown_set (grown_refl w (some b)) o v) (grown_setCells b r (o + 1) _)
theorem run_copy_box (W : World) (dT sT ty elem : TypeId) (k : Nat) (hu : Try.prog.underlying dT = some (.slice elem)) (hs : (Try.prog.info? elem).map (·.size) = some k) {g : Nat} {t : TypeId} {cur : Array Value} (hx : Box W g t cur)
    (o dLen dCap : Nat) (a : Addr) (sLen sCap m : Nat) (L : List Value) (hm : m = Nat.min sLen dLen) (hl : L.length = m * k) (hsrc : ∀ j v, L[j]? = some v → W.cell? (a.add j) = some v) (hfit : o + L.length ≤ cur.size) (h1 : ∀ v ∈ L, v.oneCell' = true) :
    ∃ W' cur', (Builtin.copy_ #[dT, sT] ty #[.slice (some ⟨g, o, none⟩) dLen dCap, .slice (some a) sLen sCap]).run Try.prog W = .ok (.int .i64 m) W' ∧ Box W' g t cur' ∧ cur'.size = cur.size ∧ W.grownBy W' (some g) ∧
      (∀ j, j < L.length → cur'[o + j]? = L[j]?) ∧ ∀ j, (j < o ∨ o + L.length ≤ j) → cur'[j]? = cur[j]? := by
  have hc : ∀ j, j < L.length → (W.cell? ⟨g, o + j, none⟩).isSome = true := fun j hj => by
    rw [hx.cell, Array.getElem?_eq_getElem (by omega)]
    rfl
  have hst := run_storeCells_cells (P := Try.prog) g o L 0 W (by simpa using hc) (fun j _ => by simpa using hx.frozen (o + 0 + j)) h1
  have hld := run_loadCells_list (P := Try.prog) W a L hsrc
  obtain ⟨cs', b1, b2⟩ := box_setCells g t L o W cur hx
  refine ⟨W.setCells g o L, cs', ?_, b1, b2, grown_setCells g L o W, fun j hj => ?_, fun j hj => ?_⟩
  · obtain ⟨i, hi, hk⟩ := Option.map_eq_some_iff.1 hs
    simp [Builtin.copy_, run_underlying hu, Builtin.lenOf, Builtin.firstCells, sizeOf, typeInfo, hi, hk, ← hm, ← hl, hld, hst, goInt]
  · rw [← b1.cell, World.cell?_setCells_in g L o W hc j hj]
    rw [List.getElem?_eq_getElem hj]
  · rw [← b1.cell, World.cell?_setCells_out g L o W _ (fun _ _ => hj), hx.cell]
theorem wpList_copy_box (W : World) {ops : Array Oper} {rest : List Oper} {q : Oper} {c : Act} {Q : Exit → Act → World → Prop} (hgd : q.guard = none) (d s : Operand) (dT sT : TypeId)
    (ho : q.op = .call { callee := .builtin .copy, args := #[d, s], argTypes := #[dT, sT] }) (elem : TypeId) (k : Nat) (hu : Try.prog.underlying dT = some (.slice elem)) (hs : (Try.prog.info? elem).map (·.size) = some k) {g : Nat} {t : TypeId} {cur : Array Value} (hx : Box W g t cur)
    (o dLen dCap : Nat) (a : Addr) (sLen sCap m : Nat) (L : List Value) (hm : m = Nat.min sLen dLen) (hl : L.length = m * k) (hsrc : ∀ j v, L[j]? = some v → W.cell? (a.add j) = some v) (hfit : o + L.length ≤ cur.size) (h1 : ∀ v ∈ L, v.oneCell' = true)
    (hd : c.eval d = .slice (some ⟨g, o, none⟩) dLen dCap) (hx' : c.eval s = .slice (some a) sLen sCap)
    (h : ∀ W' cur', Box W' g t cur' → cur'.size = cur.size → W.grownBy W' (some g) → (∀ j, j < L.length → cur'[o + j]? = L[j]?) → (∀ j, (j < o ∨ o + L.length ≤ j) → cur'[j]? = cur[j]?) → wpList Try.prog ops Q rest (c.put q.dst (.int .i64 m)) W') : wpList Try.prog ops Q (q :: rest) c W := by
  refine wpList_plain hgd fun K hK => ?_
  obtain ⟨W', cur', hr, h2, h3, h4, h5, h6⟩ := run_copy_box W dT sT q.type elem k hu hs hx o dLen dCap a sLen sCap m L hm hl hsrc hfit h1
  unfold Oper.wp execOp
  simp only [ho, resolve, invoke, builtin, Sem.run_bind, Sem.run_pure, Result.andThen_ok, List.map_toArray, List.map_cons, List.map_nil, hd, hx', hr]
  exact hK _ _ (h W' cur' h2 h3 h4 h5 h6)
theorem step_copy_box (W : World) {ops : Array Oper} {q : Oper} {c : Act} {K : Act → World → Prop} {Q : Exit → Act → World → Prop} {E : Prop} (hgd : q.guard = none) (d s : Operand) (dT sT : TypeId)
    (ho : q.op = .call { callee := .builtin .copy, args := #[d, s], argTypes := #[dT, sT] }) (elem : TypeId) (k : Nat) (hu : Try.prog.underlying dT = some (.slice elem)) (hs : (Try.prog.info? elem).map (·.size) = some k) {g : Nat} {t : TypeId} {cur : Array Value} (hx : Box W g t cur)
    (o dLen dCap : Nat) (a : Addr) (sLen sCap m : Nat) (L : List Value) (hm : m = Nat.min sLen dLen) (hl : L.length = m * k) (hsrc : ∀ j v, L[j]? = some v → W.cell? (a.add j) = some v) (hfit : o + L.length ≤ cur.size) (h1 : ∀ v ∈ L, v.oneCell' = true)
    (hd : c.eval d = .slice (some ⟨g, o, none⟩) dLen dCap) (hx' : c.eval s = .slice (some a) sLen sCap)
    (h : ∀ W' cur', Box W' g t cur' → cur'.size = cur.size → W.grownBy W' (some g) → (∀ j, j < L.length → cur'[o + j]? = L[j]?) → (∀ j, (j < o ∨ o + L.length ≤ j) → cur'[j]? = cur[j]?) → K (c.put q.dst (.int .i64 m)) W') : if Region.wanted q (yielded ops c.tmps) = true then Oper.wp Try.prog q c W K Q else E := by
  rw [if_pos (by simp [Region.wanted, hgd])]
  obtain ⟨W', cur', hr, h2, h3, h4, h5, h6⟩ := run_copy_box W dT sT q.type elem k hu hs hx o dLen dCap a sLen sCap m L hm hl hsrc hfit h1
  unfold Oper.wp execOp
  simp only [ho, resolve, invoke, builtin, Sem.run_bind, Sem.run_pure, Result.andThen_ok, List.map_toArray, List.map_cons, List.map_nil, hd, hx', hr]
  exact h W' cur' h2 h3 h4 h5 h6
/-- The cells of the records from i on. -/
theorem recs_drop (F : Nat → Nat → Int) {k n i : Nat} {j : Nat} (hj : j < (n - i) * k) : ((recs F k n).drop (i * k))[j]? = some (.int .i64 (F (i + j / k) (j % k))) := by
  have hk : 0 < k := Nat.pos_of_ne_zero fun e => by simp [e] at hj
  have e : (n - i) * k = n * k - i * k := Nat.sub_mul _ _ _
  rw [List.getElem?_drop, recs_get' F (by omega)]
  have h1 : (i * k + j) / k = i + j / k := by rw [Nat.mul_comm, Nat.mul_add_div hk]
  have h2 : (i * k + j) % k = j % k := by rw [Nat.mul_comm, Nat.mul_add_mod]
  rw [h1, h2]
theorem recs_drop_length (F : Nat → Nat → Int) (k n i : Nat) : ((recs F k n).drop (i * k)).length = (n - i) * k := by
  rw [List.length_drop, recs_length, Nat.sub_mul]
end Go.Proofs.Ytogoddbkamgndaa
