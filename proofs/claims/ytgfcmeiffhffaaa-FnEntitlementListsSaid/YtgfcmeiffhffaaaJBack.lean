/- slices.Backward at events: its contract for every loop body; and the program's MonthOfKind. -/
import Derived.RangeFuncNested
import Derived.RangeFuncBox
import Derived.RangeFuncBound
import Derived.RangeFuncCalls
import Derived.RangeFuncLeaves
import Derived.Shelf.Abstract
import Derived.Shelf.RegionOpen
import Derived.WalkKit
import Derived.OwnWalkIn
import Derived.TacticsInMore
import Derived.LoopNIn
import Derived.LoopIn
import Derived.Test.YtgfcmeiffhffaaaJStatusAt
namespace Go.Proofs.Ytgfcmeiffhffaaa
open Go.RowKit Go.Shelf

attribute [local go_sem] Oper.semAt_some

/-- What has come when k rounds are over: f 0, .., f (k - 1). -/
def came {α : Type} (f : Nat → α) (k : Nat) : List α := (List.range k).map f
theorem came_succ {α : Type} (f : Nat → α) (k : Nat) : came f (k + 1) = came f k ++ [f k] := by simp [came, List.range_succ]
theorem came_length {α : Type} (f : Nat → α) (k : Nat) : (came f k).length = k := by simp [came]
/-- The j-th from behind: its place, its kind, its month. -/
def backE (F : Nat → Nat → Int) (n : Nat) (j : Nat) : Nat × Int × Int := (n - 1 - j, F (n - 1 - j) 0, F (n - 1 - j) 1)
set_option maxRecDepth 100000 in
set_option maxHeartbeats 2000000 in
theorem back1_in (Fc : Fence) (d : Nat) (h8 : Fc.fn 132) (hro : Fc.round = none) (hd : 1 ≤ d) (l Bs n₀ b off n cap : Nat) (F : Nat → Nat → Int) (hn : n ≤ 1048600) (hb : 0 < n → b < n₀) (J Jx : List (Nat × Int × Int) → World → Prop)
    (hY : ∀ pre x W, J pre W → pre.length < n → YieldAt Fc (d - 1) Try.prog l #[.int .i64 (x.1 : Int), .agg #[.int .i64 x.2.1, .int .i64 x.2.2]] W fun e W' =>
      (e = .returned (.bool true) ∧ J (pre ++ [x]) W' ∧ Below n₀ W W') ∨ (e = .returned (.bool false) ∧ Jx (pre ++ [x]) W'))
    (W : World) (hBs : W.cell? ⟨Bs, 0, none⟩ = some (.slice (some ⟨b, off, none⟩) n cap)) (hBn : Bs < n₀) (hc : ∀ j, j < n → W.cell? ⟨b, off + j * 2, none⟩ = some (.int .i64 (F j 0)) ∧ W.cell? ⟨b, off + j * 2 + 1, none⟩ = some (.int .i64 (F j 1))) (h0 : J [] W) :
    CallsIn Fc d Try.prog 132 #[.func (.yield l) #[] #[], .pointer (some ⟨Bs, 0, none⟩)] W fun e W' => (∃ v, e = .returned v) ∧
      ((∃ ys, ys = came (backE F n) n ∧ J ys W') ∨ (∃ pre, (∃ k, k ≤ n ∧ pre = came (backE F n) k) ∧ Jx pre W')) := by
  refine callsIn_of_wp Try.func132 rfl h8 ?_ hro
  simp only [Try.ntmps132, List.size_toArray, List.length_cons, List.length_nil, Nat.reduceAdd, Nat.reduceSub, Array.replicate_succ, Array.replicate_zero, List.push_toArray, List.append_toArray, List.nil_append, List.cons_append]
  gi_wp2
  gi_loopw [3] (fun i wr => ∃ p : Nat, p ≤ n ∧ i = .int .i64 ((p : Int) - 1) ∧ J (came (backE F n) (n - p)) wr ∧ Below n₀ W wr)
    (fun i _ => (intOf i + 1).toNat)
  case atStart => exact ⟨n, Nat.le_refl _, rfl, by rw [Nat.sub_self]; exact h0, Below.refl _ _⟩
  case round =>
    obtain ⟨p, hp, rfl, hJs, hnx⟩ := hrel
    rcases Nat.eq_zero_or_pos p with h | h
    · subst h
      gi_wp2
      go_end0
      exact ⟨⟨_, rfl⟩, .inl ⟨_, rfl, by simpa using hJs⟩⟩
    · obtain ⟨q, rfl⟩ : ∃ q, p = q + 1 := ⟨p - 1, by omega⟩
      have hq : ((q + 1 : Nat) : Int) - 1 = (q : Int) := by omega
      rw [hq]
      obtain ⟨c0, c1⟩ := hc q (by omega)
      have d0 := (hnx.cell (p := ⟨b, off + q * 2, none⟩) (hb (by omega))).trans c0
      have d1 := (hnx.cell (p := ⟨b, off + q * 2 + 1, none⟩) (hb (by omega))).trans c1
      have dB := (hnx.cell (p := ⟨Bs, 0, none⟩) hBn).trans hBs
      have hx : backE F n (n - (q + 1)) = (q, F q 0, F q 1) := by unfold backE; rw [show n - 1 - (n - (q + 1)) = q by omega]
      have hqn : (q : Int) < (n : Int) := by omega
      have hq0 : (0 : Int) ≤ (q : Int) := by omega
      obtain ⟨fn, tmps, assign, body, hy, hR⟩ := hY _ (q, F q 0, F q 1) wr hJs (by rw [came_length]; omega)
      dsimp only at hy
      gi_wp2
      refine hR.mono ?_
      rintro e W3 (⟨rfl, hJ3, hk3⟩ | ⟨rfl, hJx3⟩)
      · gi_wp2
        go_roundw
        case rel => exact ⟨q, by omega, by go_num, by rw [show n - q = n - (q + 1) + 1 by omega, came_succ, hx]; exact hJ3, hnx.trans hk3⟩
        case measure => simp [intOf]
      · gi_wp2
        refine bodyPost_ret (results_none rfl _ _ _) rfl ?_
        exact ⟨⟨_, rfl⟩, .inr ⟨_, ⟨n - (q + 1) + 1, by omega, by rw [came_succ, hx]⟩, hJx3⟩⟩
set_option maxRecDepth 100000 in
set_option maxHeartbeats 1000000 in
theorem back1_nil_in (Fc : Fence) (d : Nat) (h8 : Fc.fn 132) (hro : Fc.round = none) (l Bs : Nat) (J : List (Nat × Int × Int) → World → Prop) (W : World) (hBs : W.cell? ⟨Bs, 0, none⟩ = some (.slice none 0 0)) (h0 : J [] W) :
    CallsIn Fc d Try.prog 132 #[.func (.yield l) #[] #[], .pointer (some ⟨Bs, 0, none⟩)] W fun e W' => (∃ v, e = .returned v) ∧ J [] W' := by
  refine callsIn_of_wp Try.func132 rfl h8 ?_ hro
  simp only [Try.ntmps132, List.size_toArray, List.length_cons, List.length_nil, Nat.reduceAdd, Nat.reduceSub, Array.replicate_succ, Array.replicate_zero, List.push_toArray, List.append_toArray, List.nil_append, List.cons_append]
  gi_wp2
  gi_loopw [3] (fun i wr => i = .int .i64 (-1) ∧ J [] wr) (fun _ _ => 0)
  case atStart => exact ⟨rfl, h0⟩
  case round =>
    obtain ⟨rfl, hJs⟩ := hrel
    gi_wp2
    go_end0
    exact ⟨⟨_, rfl⟩, hJs⟩
set_option maxHeartbeats 1000000 in
theorem backward_in (Fc : Fence) (d : Nat) (h6 : Fc.fn 118) (hro : Fc.round = none) (a : Option Addr) (n cap : Nat) (w : World) :
    CallsIn Fc d Try.prog 118 #[.slice a n cap] w fun e w' => e = .returned (.func (.func 132) #[] #[.pointer (some ⟨w.heap.size, 0, none⟩)]) ∧ w' = w.alloc (.cells #[.slice a n cap] 29) := by
  refine callsIn_of_wp Try.func118 rfl h6 ?_ hro
  simp only [Try.ntmps118, List.size_toArray, List.length_cons, List.length_nil, Nat.reduceAdd, Nat.reduceSub, Array.replicate_succ, Array.replicate_zero, List.push_toArray, List.append_toArray, List.nil_append, List.cons_append]
  gi_wp2
  go_ret
  exact ⟨rfl, rfl⟩
theorem back_stops (Fc : Fence) (d : Nat) (h8 : Fc.fn 132) (hro : Fc.round = none) (hd : 1 ≤ d) (Bs : Nat) (A : Option Addr) (n cap : Nat) (F : Nat → Nat → Int) (hn : n ≤ 1048600) (w : World) (hBs : Bs < w.heap.size) (hA : A = none → n = 0 ∧ cap = 0)
    (hc : w.cell? ⟨Bs, 0, none⟩ = some (.slice A n cap)) (hr : Recs w 2 A n F) (hA2 : ∀ a, A = some a → ∃ b off, a = ⟨b, off, none⟩) :
    SeqStopsK Fc d Try.prog 132 #[.pointer (some ⟨Bs, 0, none⟩)] (fun x : Nat × Int × Int => #[Value.int .i64 (x.1 : Int), .agg #[.int .i64 x.2.1, .int .i64 x.2.2]]) (Below w.heap.size) (fun ys => ys = came (backE F n) n)
      (fun pre => ∃ k, k ≤ n ∧ pre = came (backE F n) k) n w := fun l J Jx W hW _ _ hY h0 => by
  have hc' := (hW.cell (p := ⟨Bs, 0, none⟩) hBs).trans hc
  have hr' := hr.kept hW
  rcases A with _ | a
  · obtain ⟨rfl, rfl⟩ := hA rfl
    exact (back1_nil_in Fc d h8 hro l Bs J W hc' h0).mono fun e W' ⟨he, hj⟩ => ⟨he, .inl ⟨_, rfl, hj⟩⟩
  · obtain ⟨b, off, rfl⟩ := hA2 a rfl
    exact back1_in Fc d h8 hro hd l Bs w.heap.size b off n cap F hn (fun hz => by
      obtain ⟨b', off', e, hb, _, _⟩ := hr.at2 hz
      cases e
      exact hb) J Jx hY W hc' hBs (fun j hj => by
      obtain ⟨b', off', e, _, c0, c1⟩ := hr'.at2 hj
      cases e
      exact ⟨c0, c1⟩) h0
def monthK (F : Nat → Nat → Int) (k : Int) : Nat → Int
  | 0 => -1
  | n + 1 => if F n 0 = k then F n 1 else monthK F k n
theorem monthK_none {F : Nat → Nat → Int} {k : Int} : ∀ {n : Nat}, (∀ j, j < n → F j 0 ≠ k) → monthK F k n = -1
  | 0, _ => rfl
  | n + 1, h => by
    simp only [monthK]
    rw [if_neg (h n (by omega))]
    exact monthK_none fun j hj => h j (by omega)
theorem monthK_at {F : Nat → Nat → Int} {k : Int} {q : Nat} (hq : F q 0 = k) : ∀ {n : Nat}, q < n → (∀ j, q < j → j < n → F j 0 ≠ k) → monthK F k n = F q 1
  | 0, h, _ => by omega
  | n + 1, h, h' => by
    simp only [monthK]
    rcases Nat.lt_or_ge q n with h1 | h1
    · rw [if_neg (h' n h1 (by omega))]
      exact monthK_at hq h1 fun j a b => h' j a (by omega)
    · obtain rfl : q = n := by omega
      rw [if_pos hq]
theorem back_mem {F : Nat → Nat → Int} {n k j : Nat} (hj : j < n) (hk : n - 1 - j < k) : (j, F j 0, F j 1) ∈ came (backE F n) k := by
  simp only [came, List.mem_map, List.mem_range]
  refine ⟨n - 1 - j, hk, ?_⟩
  unfold backE
  rw [show n - 1 - (n - 1 - j) = j by omega]
def monthI (F : Nat → Nat → Int) (n : Nat) (k : Int) : Int := if eventsB F n = true then monthK F k n else -1
set_option maxRecDepth 100000 in
set_option maxHeartbeats 4000000 in
theorem month_any (A : Option Addr) (n cap : Nat) (F : Nat → Nat → Int) (k : Int) (w : World) (hn : n ≤ 1048576) (hA : A = none → n = 0 ∧ cap = 0) (hA2 : ∀ a, A = some a → ∃ b off, a = ⟨b, off, none⟩) (hr : Recs w 2 A n F) :
    Calls Try.prog 86 #[.slice A n cap, .int .i64 k] w fun e w' => e = .returned (.int .i64 (monthI F n k)) ∧ Below w.heap.size w w' := by
  have HR := Lib.hid hr
  have HR0 := Lib.hid ((hr.alloc (.cells #[.int .i64 k] 3)).alloc (.cells #[.int .i64 0] 3))
  clear hr
  refine (callsIn_wide (n := 3)).1 ?_
  refine callsIn_of_wp_marks Try.func86 rfl trivial ?_ rfl
  simp only [Try.ntmps86, List.size_toArray, List.length_cons, List.length_nil, Nat.reduceAdd, Nat.reduceSub, Array.replicate_succ, Array.replicate_zero, List.push_toArray, List.append_toArray, List.nil_append, List.cons_append]
  have EV := Lib.hid (fun w hr => callsIn_wide (n := 2) |>.2 (eventsOk_any A n cap F w hn hr))
  rcases Bool.eq_false_or_eq_true (eventsB F n) with s1 | s1
  · rw [s1] at EV
    gi_wp2_with (first | (refine ⟨trivial, ?_⟩; gi_at_call 30; refine (EV.out _ HR0.out).mono ?_; rintro e w1 ⟨rfl, hb1⟩; have z1 := hb1.size; (try simp at z1)) | (refine ⟨trivial, ?_⟩; gi_at_call 118; refine (backward_in Fence.wide 2 trivial rfl _ _ _ _).mono ?_; rintro e w' ⟨rfl, rfl⟩))
    have HV := Lib.hid (show monthI F n k = monthK F k n by simp [monthI, s1])
    have X0 := (((Box.made w 3 #[.int .i64 k]).alloc (.cells #[.int .i64 0] 3)).kept hb1).alloc (.cells #[.slice A n cap] 29)
    have X1 := ((Box.made_at (w := w.alloc (.cells #[.int .i64 k] 3)) (t := 3) (cs := #[.int .i64 0]) (g := w.heap.size + 1) (by simp)).kept hb1).alloc (.cells #[.slice A n cap] 29)
    have R0 := (HR0.out.kept hb1).alloc (.cells #[.slice A n cap] 29)
    have B0 : Below w.heap.size w (w1.alloc (.cells #[.slice A n cap] 29)) := by (repeat (first | with_reducible exact Below.refl _ _ | with_reducible refine Below.drew ?_ | (with_reducible refine Below.alloc ?_ ?hsz _; case hsz => ((try simp) <;> (try omega))) | (with_reducible refine Below.setCell ?_ ?hsz _; case hsz => ((try simp) <;> (try omega))) | (with_reducible refine below_step (by with_reducible assumption) ?hsz ?_; case hsz => ((try simp) <;> (try omega)))))
    have BS := (Box.made w1 29 #[.slice A n cap]).cell 0
    have sz0 : (w1.alloc (.cells #[.slice A n cap] 29)).heap.size = w1.heap.size + 1 := by simp
    have z0 := B0.size
    clear HR0 hb1 EV
    generalize w1.alloc (.cells #[.slice A n cap] 29) = W0 at *
    have lt0 : w1.heap.size < W0.heap.size := by omega
    refine wpIn_rangeFunc_ownH rfl (by omega) (gf := 132) (lb := #[.pointer (some ⟨w1.heap.size, 0, none⟩)]) rfl trivial (enters_of Try.func132 (by kernel_rfl) rfl)
      (back_stops Fence.wide 2 trivial rfl (by omega) w1.heap.size A n cap F (by omega) W0 lt0 hA BS R0 hA2) belowK_t (belowK_b (Nat.le_refl _)) (Below.refl _ _) (fun _ => rfl)
      (fun pre W => (∀ p ∈ pre, p.2.1 ≠ k) ∧ Below W0.heap.size W0 W)
      (fun c pre W => (c = .ret ∧ ∃ ini last, pre = ini ++ [last] ∧ (∀ p ∈ ini, p.2.1 ≠ k) ∧ last.2.1 = k ∧ W.cell? ⟨w.heap.size + 1, 0, none⟩ = some (.int .i64 last.2.2)) ∧ Below w.heap.size w W)
      (OwnFrom.and (Own.from (fun s A B row hs _ _ => hs) _) (ownFrom_below (Nat.le_refl _) (Nat.le_refl _)))
      (fun c => OwnFrom.and (Own.from (fun s A B row hs hg hr => by obtain ⟨hc, ini, last, e1, e2, e3, e4⟩ := hs; exact ⟨hc, ini, last, e1, e2, e3, cell_kept e4 hg hr⟩) _) (ownFrom_below (Nat.le_refl _) z0))
      ⟨by simp, Below.refl _ _⟩
      (fun x a' W => ∃ Bx, W0.heap.size ≤ Bx ∧ Box W Bx 106 #[.int .i64 x.2.1, .int .i64 x.2.2] ∧ a' = { tmps := #[.slice A n cap, .int .i64 k, undef, .pointer (some ⟨w.heap.size, 0, none⟩), .pointer (some ⟨w.heap.size + 1, 0, none⟩), undef, .pointer (some ⟨Bx, 0, none⟩), .slice A n cap, .bool true, .bool false, .slice A n cap, .func (.func 132) #[] #[.pointer (some ⟨w1.heap.size, 0, none⟩)], .int .i64 (x.1 : Int), .agg #[.int .i64 x.2.1, .int .i64 x.2.2], undef, undef, undef, undef, undef, undef], defers := [] })
      (fun x a' s W W' row ⟨Bx, h1, h2, h3⟩ hg hr => ⟨Bx, h1, Box.grown h2 hg (fun e => by obtain ⟨_, o, ho, hc⟩ := hr Bx e.symm; rw [show W.heap[Bx]? = _ from h2] at ho; cases ho; cases hc), h3⟩) ?assign ?body ?done ?stop
    case assign =>
      rintro l pre x W K ⟨hp, hB⟩ hK
      gi_wp2
      exact hK _ _ ((KeepsOthers.alloc _ _).from _) ((Below.refl _ W).alloc hB.size _) ⟨hp, hB.alloc hB.size _⟩ ⟨W.heap.size, hB.size, Box.made _ _ _, rfl⟩
    case body =>
      rintro l pre x a' W hl ⟨r, hr⟩ ⟨hp, hB⟩ ⟨Bx, hBx, bX, rfl⟩ hlt
      obtain ⟨e1, e2, e3, e4⟩ := bX.two
      have hc0 := (hB.cell (p := ⟨w.heap.size, 0, none⟩) X0.lt).trans (X0.cell 0)
      have hc1 := (hB.cell (p := ⟨w.heap.size + 1, 0, none⟩) X1.lt).trans (X1.cell 0)
      have hf1 := (hB.frozen (p := ⟨w.heap.size + 1, 0, none⟩) X1.lt).trans (X1.frozen 0)
      simp at hc0 hc1
      rcases Bool.eq_false_or_eq_true (x.2.1 == k) with q | q
      · gi_wp2
        exact ⟨(KeepsOthers.setCell _ _ _).from _, ⟨rfl, pre, x, rfl, hp, eq_of_beq q, World.cell?_setCell_same' _ _ _ (by rw [hc1]; rfl)⟩, (B0.trans (hB.mono z0)).setCell (p := ⟨w.heap.size + 1, 0, none⟩) (Nat.le_succ _) _⟩
      · gi_wp2
        exact ⟨KeepsFrom.refl _ _, Below.refl _ _, ⟨fun p hp' => (List.mem_append.1 hp').elim (hp p) (fun e => by simp at e; subst e; exact ne_of_beq_false q), hB⟩⟩
    case done =>
      rintro D ys W hD rfl ⟨hne, hB⟩ hK
      have hc1 := (hB.cell (p := ⟨w.heap.size + 1, 0, none⟩) X1.lt).trans (X1.cell 0)
      have hf1 := (hB.frozen (p := ⟨w.heap.size + 1, 0, none⟩) X1.lt).trans (X1.frozen 0)
      simp at hc1
      gi_wp2
      have hK' := (KeepsOthers.setCell W ⟨w.heap.size + 1, 0, none⟩ (.int .i64 (-1))).same D _ hK rfl
      refine ⟨by simp, .inl ⟨_, _, rfl, run_takeDeferred hK', ?_⟩⟩
      have hc5 := cell_kept (World.cell?_setCell_same' W ⟨w.heap.size + 1, 0, none⟩ (.int .i64 (-1)) (by rw [hc1]; rfl)) (grownBy_putObj' _ D (.deferred none)) (fun r e => by cases e; exact ⟨_, hK', rfl⟩)
      refine ⟨.int .i64 (-1), ?_, by rw [HV.out, monthK_none (fun j hj => hne _ (back_mem hj (by omega)))], ((B0.trans (hB.mono z0)).setCell (p := ⟨w.heap.size + 1, 0, none⟩) (Nat.le_succ _) _).trans (belowK_b (w := w) (Nat.le_refl _) _ D _ _ (Nat.le_trans z0 hD) hK' rfl rfl)⟩
      simp [results, Try.f86, go_sem, hc5]
    case stop =>
      rintro D c pre W hD ⟨j, hj, rfl⟩ ⟨⟨rfl, ini, last, e1, e2, e3, hcr⟩, hB⟩ hK
      gi_wp2
      refine ⟨by simp, .inl ⟨_, _, rfl, run_takeDeferred hK, ?_⟩⟩
      have hc5 := cell_kept hcr (grownBy_putObj' _ D (.deferred none)) (fun r e => by cases e; exact ⟨_, hK, rfl⟩)
      obtain ⟨j', rfl⟩ : ∃ j', j = j' + 1 := by
        cases j with
        | zero => simp [came] at e1
        | succ j' => exact ⟨j', rfl⟩
      rw [came_succ] at e1
      obtain ⟨rfl, e5⟩ := List.append_inj' e1 rfl
      obtain rfl : backE F n j' = last := by simpa using e5
      refine ⟨.int .i64 (backE F n j').2.2, ?_, by rw [HV.out, monthK_at (q := n - 1 - j') e3 (by omega) (fun i hi hin => e2 _ (back_mem hin (by omega)))]; rfl, hB.trans (belowK_b (w := w) (Nat.le_refl _) W D _ _ (Nat.le_trans z0 hD) hK rfl rfl)⟩
      simp [results, Try.f86, go_sem, hc5]
  · rw [s1] at EV
    have HV := Lib.hid (show monthI F n k = -1 by simp [monthI, s1])
    gi_wp2_with (refine ⟨trivial, ?_⟩; gi_at_call 30; refine (EV.out _ HR0.out).mono ?_; rintro e w1 ⟨rfl, hb1⟩; have z1 := hb1.size; (try simp at z1); have X1 := (Box.made_at (w := w.alloc (.cells #[.int .i64 k] 3)) (t := 3) (cs := #[.int .i64 0]) (g := w.heap.size + 1) (by simp)).kept hb1; have c1 := X1.cell 0; have f1 := X1.frozen 0; (simp at c1); have l1 := X1.lt)
    have hc5 := World.cell?_setCell_same' w1 ⟨w.heap.size + 1, 0, none⟩ (.int .i64 (-1)) (by rw [c1]; rfl)
    have B1 : Below w.heap.size w w1 := by (repeat (first | with_reducible exact Below.refl _ _ | with_reducible refine Below.drew ?_ | (with_reducible refine Below.alloc ?_ ?hsz _; case hsz => ((try simp) <;> (try omega))) | (with_reducible refine Below.setCell ?_ ?hsz _; case hsz => ((try simp) <;> (try omega))) | (with_reducible refine below_step (by with_reducible assumption) ?hsz ?_; case hsz => ((try simp) <;> (try omega)))))
    refine ⟨.int .i64 (-1), ?_, by rw [HV.out], B1.setCell (p := ⟨w.heap.size + 1, 0, none⟩) (Nat.le_succ _) _⟩
    simp [results, Try.f86, go_sem, hc5]
/-- The address of a row that a call has made, and its room. -/
def HdA (A : Option Addr) (n c : Nat) : Prop := (A = none → n = 0 ∧ c = 0) ∧ ∀ a, A = some a → ∃ b off, a = ⟨b, off, none⟩
theorem own_hd {w : World} {base : Nat} {e : TypeId} {k : Nat} {A : Option Addr} {n c : Nat} {xs : List Value} (h : w.ownsRow base e k (.slice A n c) n xs) : HdA A n c := by
  rcases own_cases h with ⟨e, h0⟩ | ⟨g, cap, cur, e, _⟩
  · cases e; exact ⟨fun _ => ⟨h0, rfl⟩, fun a ha => (by cases ha)⟩
  · cases e; exact ⟨fun h => (by cases h), fun a ha => (by cases ha; exact ⟨g, 0, rfl⟩)⟩
theorem monthH_any (A : Option Addr) (n cap : Nat) (F : Nat → Nat → Int) (k : Int) (w : World) (hn : n ≤ 1048576) (hA : HdA A n cap) (hr : Recs w 2 A n F) :
    Calls Try.prog 86 #[.slice A n cap, .int .i64 k] w fun e w' => e = .returned (.int .i64 (monthI F n k)) ∧ Below w.heap.size w w' := month_any A n cap F k w hn hA.1 hA.2 hr
end Go.Proofs.Ytgfcmeiffhffaaa
