/- Contract of the program's ValueAt. -/
import Derived.RangeFuncNested
import Derived.RangeFuncBox
import Derived.RangeFuncBound
import Derived.RangeFuncCalls
import Derived.RangeFuncLeaves
import Derived.Shelf.Abstract
import Derived.Shelf.RegionOpen
import Derived.WalkKit
import Derived.OwnWalkIn
import Derived.TacticsInMore
import Derived.LoopNIn
import Derived.LoopIn
import Derived.Test.YtgfcmeiffhffaaaJStore
import Derived.Test.YtgfcmeiffhffaaaJBack
namespace Go.Proofs.Ytgfcmeiffhffaaa
open Go.RowKit Go.Shelf

attribute [local go_sem] Oper.semAt_some

/-- The place of the j-th from behind. -/
def backP (n : Nat) (j : Nat) : Nat := n - 1 - j
set_option maxRecDepth 100000 in
set_option maxHeartbeats 2000000 in
theorem back1F_in (Fc : Fence) (d : Nat) (h8 : Fc.fn 143) (hro : Fc.round = none) (hd : 1 ≤ d) (l Bs n₀ b off n cap : Nat) (F : Nat → Nat → Int) (hn : n ≤ 1048600) (hb : 0 < n → b < n₀) (J Jx : List Nat → World → Prop)
    (hY : ∀ (pre : List Nat) (x : Nat) (W : World), J pre W → pre.length < n → YieldAt Fc (d - 1) Try.prog l #[.int .i64 (x : Int), .agg #[.int .i64 (F x 0), .int .i64 (F x 1), .int .i64 (F x 2), .int .i64 (F x 3), .int .i64 (F x 4)]] W fun e W' =>
      (e = .returned (.bool true) ∧ J (pre ++ [x]) W' ∧ Below n₀ W W') ∨ (e = .returned (.bool false) ∧ Jx (pre ++ [x]) W'))
    (W : World) (hBs : W.cell? ⟨Bs, 0, none⟩ = some (.slice (some ⟨b, off, none⟩) n cap)) (hBn : Bs < n₀) (hc : ∀ j, j < n → W.cell? ⟨b, off + j * 5, none⟩ = some (.int .i64 (F j 0)) ∧ W.cell? ⟨b, off + j * 5 + 1, none⟩ = some (.int .i64 (F j 1)) ∧ W.cell? ⟨b, off + j * 5 + 2, none⟩ = some (.int .i64 (F j 2)) ∧ W.cell? ⟨b, off + j * 5 + 3, none⟩ = some (.int .i64 (F j 3)) ∧ W.cell? ⟨b, off + j * 5 + 4, none⟩ = some (.int .i64 (F j 4))) (h0 : J [] W) :
    CallsIn Fc d Try.prog 143 #[.func (.yield l) #[] #[], .pointer (some ⟨Bs, 0, none⟩)] W fun e W' => (∃ v, e = .returned v) ∧
      ((∃ ys, ys = came (backP n) n ∧ J ys W') ∨ (∃ pre, (∃ k, k ≤ n ∧ pre = came (backP n) k) ∧ Jx pre W')) := by
  refine callsIn_of_wp Try.func143 rfl h8 ?_ hro
  simp only [Try.ntmps143, List.size_toArray, List.length_cons, List.length_nil, Nat.reduceAdd, Nat.reduceSub, Array.replicate_succ, Array.replicate_zero, List.push_toArray, List.append_toArray, List.nil_append, List.cons_append]
  gi_wp2
  gi_loopw [3] (fun i wr => ∃ p : Nat, p ≤ n ∧ i = .int .i64 ((p : Int) - 1) ∧ J (came (backP n) (n - p)) wr ∧ Below n₀ W wr)
    (fun i _ => (intOf i + 1).toNat)
  case atStart => exact ⟨n, Nat.le_refl _, rfl, by rw [Nat.sub_self]; exact h0, Below.refl _ _⟩
  case round =>
    obtain ⟨p, hp, rfl, hJs, hnx⟩ := hrel
    rcases Nat.eq_zero_or_pos p with h | h
    · subst h
      gi_wp2
      go_end0
      exact ⟨⟨_, rfl⟩, .inl ⟨_, rfl, by simpa using hJs⟩⟩
    · obtain ⟨q, rfl⟩ : ∃ q, p = q + 1 := ⟨p - 1, by omega⟩
      have hq : ((q + 1 : Nat) : Int) - 1 = (q : Int) := by omega
      rw [hq]
      obtain ⟨c0, c1, c2, c3, c4⟩ := hc q (by omega)
      have d0 := (hnx.cell (p := ⟨b, off + q * 5, none⟩) (hb (by omega))).trans c0
      have d1 := (hnx.cell (p := ⟨b, off + q * 5 + 1, none⟩) (hb (by omega))).trans c1
      have d2 := (hnx.cell (p := ⟨b, off + q * 5 + 2, none⟩) (hb (by omega))).trans c2
      have d3 := (hnx.cell (p := ⟨b, off + q * 5 + 3, none⟩) (hb (by omega))).trans c3
      have d4 := (hnx.cell (p := ⟨b, off + q * 5 + 4, none⟩) (hb (by omega))).trans c4
      have dB := (hnx.cell (p := ⟨Bs, 0, none⟩) hBn).trans hBs
      have hx : backP n (n - (q + 1)) = q := by unfold backP; omega
      have hqn : (q : Int) < (n : Int) := by omega
      have hq0 : (0 : Int) ≤ (q : Int) := by omega
      obtain ⟨fn, tmps, assign, body, hy, hR⟩ := hY _ q wr hJs (by rw [came_length]; omega)
      (try dsimp only at hy)
      gi_wp2
      refine hR.mono ?_
      rintro e W3 (⟨rfl, hJ3, hk3⟩ | ⟨rfl, hJx3⟩)
      · gi_wp2
        go_roundw
        case rel => exact ⟨q, by omega, by go_num, by rw [show n - q = n - (q + 1) + 1 by omega, came_succ, hx]; exact hJ3, hnx.trans hk3⟩
        case measure => simp [intOf]
      · gi_wp2
        refine bodyPost_ret (results_none rfl _ _ _) rfl ?_
        exact ⟨⟨_, rfl⟩, .inr ⟨_, ⟨n - (q + 1) + 1, by omega, by rw [came_succ, hx]⟩, hJx3⟩⟩
set_option maxRecDepth 100000 in
set_option maxHeartbeats 1000000 in
theorem back1F_nil_in (Fc : Fence) (d : Nat) (h8 : Fc.fn 143) (hro : Fc.round = none) (l Bs : Nat) (J : List Nat → World → Prop) (W : World) (hBs : W.cell? ⟨Bs, 0, none⟩ = some (.slice none 0 0)) (h0 : J [] W) :
    CallsIn Fc d Try.prog 143 #[.func (.yield l) #[] #[], .pointer (some ⟨Bs, 0, none⟩)] W fun e W' => (∃ v, e = .returned v) ∧ J [] W' := by
  refine callsIn_of_wp Try.func143 rfl h8 ?_ hro
  simp only [Try.ntmps143, List.size_toArray, List.length_cons, List.length_nil, Nat.reduceAdd, Nat.reduceSub, Array.replicate_succ, Array.replicate_zero, List.push_toArray, List.append_toArray, List.nil_append, List.cons_append]
  gi_wp2
  gi_loopw [3] (fun i wr => i = .int .i64 (-1) ∧ J [] wr) (fun _ _ => 0)
  case atStart => exact ⟨rfl, h0⟩
  case round =>
    obtain ⟨rfl, hJs⟩ := hrel
    gi_wp2
    go_end0
    exact ⟨⟨_, rfl⟩, hJs⟩
set_option maxHeartbeats 1000000 in
theorem backwardF_in (Fc : Fence) (d : Nat) (h6 : Fc.fn 131) (hro : Fc.round = none) (a : Option Addr) (n cap : Nat) (w : World) :
    CallsIn Fc d Try.prog 131 #[.slice a n cap] w fun e w' => e = .returned (.func (.func 143) #[] #[.pointer (some ⟨w.heap.size, 0, none⟩)]) ∧ w' = w.alloc (.cells #[.slice a n cap] 51) := by
  refine callsIn_of_wp Try.func131 rfl h6 ?_ hro
  simp only [Try.ntmps131, List.size_toArray, List.length_cons, List.length_nil, Nat.reduceAdd, Nat.reduceSub, Array.replicate_succ, Array.replicate_zero, List.push_toArray, List.append_toArray, List.nil_append, List.cons_append]
  gi_wp2
  go_ret
  exact ⟨rfl, rfl⟩
theorem backF_stops (Fc : Fence) (d : Nat) (h8 : Fc.fn 143) (hro : Fc.round = none) (hd : 1 ≤ d) (Bs : Nat) (A : Option Addr) (n cap : Nat) (F : Nat → Nat → Int) (hn : n ≤ 1048600) (w : World) (hBs : Bs < w.heap.size) (hA : A = none → n = 0 ∧ cap = 0)
    (hc : w.cell? ⟨Bs, 0, none⟩ = some (.slice A n cap)) (hr : Recs w 5 A n F) (hA2 : ∀ a, A = some a → ∃ b off, a = ⟨b, off, none⟩) :
    SeqStopsK Fc d Try.prog 143 #[.pointer (some ⟨Bs, 0, none⟩)] (fun x : Nat => #[Value.int .i64 (x : Int), .agg #[.int .i64 (F x 0), .int .i64 (F x 1), .int .i64 (F x 2), .int .i64 (F x 3), .int .i64 (F x 4)]]) (Below w.heap.size) (fun ys => ys = came (backP n) n)
      (fun pre => ∃ k, k ≤ n ∧ pre = came (backP n) k) n w := fun l J Jx W hW _ _ hY h0 => by
  have hc' := (hW.cell (p := ⟨Bs, 0, none⟩) hBs).trans hc
  have hr' := hr.kept hW
  rcases A with _ | a
  · obtain ⟨rfl, rfl⟩ := hA rfl
    exact (back1F_nil_in Fc d h8 hro l Bs J W hc' h0).mono fun e W' ⟨he, hj⟩ => ⟨he, .inl ⟨_, rfl, hj⟩⟩
  · obtain ⟨b, off, rfl⟩ := hA2 a rfl
    exact back1F_in Fc d h8 hro hd l Bs w.heap.size b off n cap F hn (fun hz => by
      obtain ⟨b', off', e, hb, _⟩ := hr.at5 hz
      cases e
      exact hb) J Jx hY W hc' hBs (fun j hj => by
      obtain ⟨b', off', e, _, c0, c1, c2, c3, c4⟩ := hr'.at5 hj
      cases e
      exact ⟨c0, c1, c2, c3, c4⟩) h0
end Go.Proofs.Ytgfcmeiffhffaaa
namespace Go.Proofs.Ytgfcmeiffhffaaa
open Go.RowKit Go.Shelf

attribute [local go_sem] Oper.semAt_some

/-- Is fact i about key k, in month t, as known in month kn? -/
def hitF (F : Nat → Nat → Int) (k t kn : Int) (i : Nat) : Bool := (F i 0 == k) && (decide (F i 1 ≤ t) && (decide (t < F i 2) && decide (F i 3 ≤ kn)))
def hitO (F : Nat → Nat → Int) (k t kn : Int) : Nat → Option Nat
  | 0 => none
  | n + 1 => if hitF F k t kn n = true then some n else hitO F k t kn n
def facV (F : Nat → Nat → Int) (o : Option Nat) : Int := match o with | none => 0 | some q => F q 4
theorem hitO_none {F : Nat → Nat → Int} {k t kn : Int} : ∀ {n : Nat}, (∀ j, j < n → hitF F k t kn j = false) → hitO F k t kn n = none
  | 0, _ => rfl
  | n + 1, h => by
    simp only [hitO]
    rw [if_neg (by rw [h n (by omega)]; decide)]
    exact hitO_none fun j hj => h j (by omega)
theorem hitO_at {F : Nat → Nat → Int} {k t kn : Int} {q : Nat} (hq : hitF F k t kn q = true) : ∀ {n : Nat}, q < n → (∀ j, q < j → j < n → hitF F k t kn j = false) → hitO F k t kn n = some q
  | 0, h, _ => by omega
  | n + 1, h, h' => by
    simp only [hitO]
    rcases Nat.lt_or_ge q n with h1 | h1
    · rw [if_neg (by rw [h' n h1 (by omega)]; decide)]
      exact hitO_at hq h1 fun j a b => h' j a (by omega)
    · obtain rfl : q = n := by omega
      rw [if_pos hq]
theorem backF_mem {n k j : Nat} (hj : j < n) (hk : n - 1 - j < k) : j ∈ came (backP n) k := by
  simp only [came, List.mem_map, List.mem_range]
  refine ⟨n - 1 - j, hk, ?_⟩
  unfold backP
  omega
set_option maxRecDepth 100000 in
set_option maxHeartbeats 8000000 in
theorem valueAt_any (A : Option Addr) (n cap : Nat) (F : Nat → Nat → Int) (k t kn : Int) (w : World) (hn : n ≤ 1048576) (hA : HdA A n cap) (hr : Recs w 5 A n F) :
    Calls Try.prog 115 #[.agg #[.slice A n cap], .int .i64 k, .int .i64 t, .int .i64 kn] w fun e w' => e = .returned (.tuple #[.int .i64 (facV F (hitO F k t kn n)), .bool (hitO F k t kn n).isSome]) ∧ Below w.heap.size w w' := by
  have B5 : Below w.heap.size w ((((((w.alloc (.cells #[.slice A n cap] 53)).alloc (.cells #[.int .i64 k] 3)).alloc (.cells #[.int .i64 t] 3)).alloc (.cells #[.int .i64 kn] 3)).alloc (.cells #[.int .i64 0] 3)).alloc (.cells #[.bool false] 4)) := by (repeat (first | with_reducible exact Below.refl _ _ | with_reducible refine Below.drew ?_ | (with_reducible refine Below.alloc ?_ ?hsz _; case hsz => ((try simp) <;> (try omega))) | (with_reducible refine Below.setCell ?_ ?hsz _; case hsz => ((try simp) <;> (try omega))) | (with_reducible refine below_step (by with_reducible assumption) ?hsz ?_; case hsz => ((try simp) <;> (try omega)))))
  have R5 := hr.kept B5
  have X0 : Box ((((((w.alloc (.cells #[.slice A n cap] 53)).alloc (.cells #[.int .i64 k] 3)).alloc (.cells #[.int .i64 t] 3)).alloc (.cells #[.int .i64 kn] 3)).alloc (.cells #[.int .i64 0] 3)).alloc (.cells #[.bool false] 4)) w.heap.size 53 #[.slice A n cap] := by (repeat (first | with_reducible assumption | with_reducible exact Box.made _ _ _ | (with_reducible refine Box.made_at ?hg; case hg => (simp; done)) | with_reducible refine Box.drew ?_ | with_reducible refine Box.alloc ?_ _ | (with_reducible refine Box.put2 (a := .int .i64 0) (b := .int .i64 0) ?_ _ _) | (with_reducible refine Box.far ?_ ?hg _; case hg => ((try simp) <;> (try omega))) | with_reducible refine Box.kept ?_ (by with_reducible assumption)))
  have X1 : Box ((((((w.alloc (.cells #[.slice A n cap] 53)).alloc (.cells #[.int .i64 k] 3)).alloc (.cells #[.int .i64 t] 3)).alloc (.cells #[.int .i64 kn] 3)).alloc (.cells #[.int .i64 0] 3)).alloc (.cells #[.bool false] 4)) (w.heap.size + 1) 3 #[.int .i64 k] := by (repeat (first | with_reducible assumption | with_reducible exact Box.made _ _ _ | (with_reducible refine Box.made_at ?hg; case hg => (simp; done)) | with_reducible refine Box.drew ?_ | with_reducible refine Box.alloc ?_ _ | (with_reducible refine Box.put2 (a := .int .i64 0) (b := .int .i64 0) ?_ _ _) | (with_reducible refine Box.far ?_ ?hg _; case hg => ((try simp) <;> (try omega))) | with_reducible refine Box.kept ?_ (by with_reducible assumption)))
  have X2 : Box ((((((w.alloc (.cells #[.slice A n cap] 53)).alloc (.cells #[.int .i64 k] 3)).alloc (.cells #[.int .i64 t] 3)).alloc (.cells #[.int .i64 kn] 3)).alloc (.cells #[.int .i64 0] 3)).alloc (.cells #[.bool false] 4)) (w.heap.size + 2) 3 #[.int .i64 t] := by (repeat (first | with_reducible assumption | with_reducible exact Box.made _ _ _ | (with_reducible refine Box.made_at ?hg; case hg => (simp; done)) | with_reducible refine Box.drew ?_ | with_reducible refine Box.alloc ?_ _ | (with_reducible refine Box.put2 (a := .int .i64 0) (b := .int .i64 0) ?_ _ _) | (with_reducible refine Box.far ?_ ?hg _; case hg => ((try simp) <;> (try omega))) | with_reducible refine Box.kept ?_ (by with_reducible assumption)))
  have X3 : Box ((((((w.alloc (.cells #[.slice A n cap] 53)).alloc (.cells #[.int .i64 k] 3)).alloc (.cells #[.int .i64 t] 3)).alloc (.cells #[.int .i64 kn] 3)).alloc (.cells #[.int .i64 0] 3)).alloc (.cells #[.bool false] 4)) (w.heap.size + 3) 3 #[.int .i64 kn] := by (repeat (first | with_reducible assumption | with_reducible exact Box.made _ _ _ | (with_reducible refine Box.made_at ?hg; case hg => (simp; done)) | with_reducible refine Box.drew ?_ | with_reducible refine Box.alloc ?_ _ | (with_reducible refine Box.put2 (a := .int .i64 0) (b := .int .i64 0) ?_ _ _) | (with_reducible refine Box.far ?_ ?hg _; case hg => ((try simp) <;> (try omega))) | with_reducible refine Box.kept ?_ (by with_reducible assumption)))
  have X4 : Box ((((((w.alloc (.cells #[.slice A n cap] 53)).alloc (.cells #[.int .i64 k] 3)).alloc (.cells #[.int .i64 t] 3)).alloc (.cells #[.int .i64 kn] 3)).alloc (.cells #[.int .i64 0] 3)).alloc (.cells #[.bool false] 4)) (w.heap.size + 4) 3 #[.int .i64 0] := by (repeat (first | with_reducible assumption | with_reducible exact Box.made _ _ _ | (with_reducible refine Box.made_at ?hg; case hg => (simp; done)) | with_reducible refine Box.drew ?_ | with_reducible refine Box.alloc ?_ _ | (with_reducible refine Box.put2 (a := .int .i64 0) (b := .int .i64 0) ?_ _ _) | (with_reducible refine Box.far ?_ ?hg _; case hg => ((try simp) <;> (try omega))) | with_reducible refine Box.kept ?_ (by with_reducible assumption)))
  have X5 : Box ((((((w.alloc (.cells #[.slice A n cap] 53)).alloc (.cells #[.int .i64 k] 3)).alloc (.cells #[.int .i64 t] 3)).alloc (.cells #[.int .i64 kn] 3)).alloc (.cells #[.int .i64 0] 3)).alloc (.cells #[.bool false] 4)) (w.heap.size + 5) 4 #[.bool false] := by (repeat (first | with_reducible assumption | with_reducible exact Box.made _ _ _ | (with_reducible refine Box.made_at ?hg; case hg => (simp; done)) | with_reducible refine Box.drew ?_ | with_reducible refine Box.alloc ?_ _ | (with_reducible refine Box.put2 (a := .int .i64 0) (b := .int .i64 0) ?_ _ _) | (with_reducible refine Box.far ?_ ?hg _; case hg => ((try simp) <;> (try omega))) | with_reducible refine Box.kept ?_ (by with_reducible assumption)))
  have z5 : ((((((w.alloc (.cells #[.slice A n cap] 53)).alloc (.cells #[.int .i64 k] 3)).alloc (.cells #[.int .i64 t] 3)).alloc (.cells #[.int .i64 kn] 3)).alloc (.cells #[.int .i64 0] 3)).alloc (.cells #[.bool false] 4)).heap.size = w.heap.size + 6 := by simp
  have HB5 := Lib.hid B5
  have HR5 := Lib.hid R5
  clear B5 R5 hr
  refine (callsIn_wide (n := 3)).1 ?_
  refine callsIn_of_wp_marks Try.func115 rfl trivial ?_ rfl
  simp only [Try.ntmps115, List.size_toArray, List.length_cons, List.length_nil, Nat.reduceAdd, Nat.reduceSub, Array.replicate_succ, Array.replicate_zero, List.push_toArray, List.append_toArray, List.nil_append, List.cons_append]
  gi_wp2_with (first | (refine ⟨trivial, ?_⟩; gi_at_call 131; refine (backwardF_in Fence.wide 2 trivial rfl _ _ _ _).mono ?_; rintro e w' ⟨rfl, rfl⟩))
  have Y0 := X0.alloc (.cells #[.slice A n cap] 51)
  have Y1 := X1.alloc (.cells #[.slice A n cap] 51)
  have Y2 := X2.alloc (.cells #[.slice A n cap] 51)
  have Y3 := X3.alloc (.cells #[.slice A n cap] 51)
  have Y4 := X4.alloc (.cells #[.slice A n cap] 51)
  have Y5 := X5.alloc (.cells #[.slice A n cap] 51)
  have R0 := HR5.out.alloc (.cells #[.slice A n cap] 51)
  have B0 : Below w.heap.size w (((((((w.alloc (.cells #[.slice A n cap] 53)).alloc (.cells #[.int .i64 k] 3)).alloc (.cells #[.int .i64 t] 3)).alloc (.cells #[.int .i64 kn] 3)).alloc (.cells #[.int .i64 0] 3)).alloc (.cells #[.bool false] 4)).alloc (.cells #[.slice A n cap] 51)) := HB5.out.alloc (by omega) _
  have BS := (Box.made ((((((w.alloc (.cells #[.slice A n cap] 53)).alloc (.cells #[.int .i64 k] 3)).alloc (.cells #[.int .i64 t] 3)).alloc (.cells #[.int .i64 kn] 3)).alloc (.cells #[.int .i64 0] 3)).alloc (.cells #[.bool false] 4)) 51 #[.slice A n cap]).cell 0
  have sz0 : (((((((w.alloc (.cells #[.slice A n cap] 53)).alloc (.cells #[.int .i64 k] 3)).alloc (.cells #[.int .i64 t] 3)).alloc (.cells #[.int .i64 kn] 3)).alloc (.cells #[.int .i64 0] 3)).alloc (.cells #[.bool false] 4)).alloc (.cells #[.slice A n cap] 51)).heap.size = w.heap.size + 7 := by simp
  rw [z5] at BS
  have z0 := B0.size
  clear HB5 HR5 X0 X1 X2 X3 X4 X5 z5
  generalize ((((((w.alloc (.cells #[.slice A n cap] 53)).alloc (.cells #[.int .i64 k] 3)).alloc (.cells #[.int .i64 t] 3)).alloc (.cells #[.int .i64 kn] 3)).alloc (.cells #[.int .i64 0] 3)).alloc (.cells #[.bool false] 4)).alloc (.cells #[.slice A n cap] 51) = W0 at *
  have lt0 : w.heap.size + 6 < W0.heap.size := by omega
  refine wpIn_rangeFunc_ownH rfl (by omega) (gf := 143) (lb := #[.pointer (some ⟨w.heap.size + 6, 0, none⟩)]) rfl trivial (enters_of Try.func143 (by kernel_rfl) rfl)
    (backF_stops Fence.wide 2 trivial rfl (by omega) (w.heap.size + 6) A n cap F (by omega) W0 lt0 hA.1 BS R0 hA.2) belowK_t (belowK_b (Nat.le_refl _)) (Below.refl _ _) (fun _ => rfl)
    (fun pre W => (∀ p ∈ pre, hitF F k t kn p = false) ∧ Below W0.heap.size W0 W)
    (fun c pre W => (c = .ret ∧ ∃ ini last, pre = ini ++ [last] ∧ (∀ p ∈ ini, hitF F k t kn p = false) ∧ hitF F k t kn last = true ∧ W.cell? ⟨w.heap.size + 4, 0, none⟩ = some (.int .i64 (F last 4)) ∧ W.cell? ⟨w.heap.size + 5, 0, none⟩ = some (.bool true)) ∧ Below w.heap.size w W)
    (OwnFrom.and (Own.from (fun s A B row hs _ _ => hs) _) (ownFrom_below (Nat.le_refl _) (Nat.le_refl _)))
    (fun c => OwnFrom.and (Own.from (fun s A B row hs hg hr => by obtain ⟨hc, ini, last, e1, e2, e3, e4, e5⟩ := hs; exact ⟨hc, ini, last, e1, e2, e3, cell_kept e4 hg hr, cell_kept e5 hg hr⟩) _) (ownFrom_below (Nat.le_refl _) z0))
    ⟨by simp, Below.refl _ _⟩
    (fun x a' W => ∃ Bx, W0.heap.size ≤ Bx ∧ Box W Bx 124 #[.int .i64 (F x 0), .int .i64 (F x 1), .int .i64 (F x 2), .int .i64 (F x 3), .int .i64 (F x 4)] ∧ a' = { tmps := #[.agg #[.slice A n cap], .int .i64 k, .int .i64 t, .int .i64 kn, .pointer (some ⟨w.heap.size, 0, none⟩), .pointer (some ⟨w.heap.size + 1, 0, none⟩), .pointer (some ⟨w.heap.size + 2, 0, none⟩), .pointer (some ⟨w.heap.size + 3, 0, none⟩), .pointer (some ⟨w.heap.size + 4, 0, none⟩), .pointer (some ⟨w.heap.size + 5, 0, none⟩), undef, .pointer (some ⟨Bx, 0, none⟩), .pointer (some ⟨w.heap.size, 0, none⟩), .slice A n cap, .func (.func 143) #[] #[.pointer (some ⟨w.heap.size + 6, 0, none⟩)], .int .i64 (x : Int), .agg #[.int .i64 (F x 0), .int .i64 (F x 1), .int .i64 (F x 2), .int .i64 (F x 3), .int .i64 (F x 4)], undef, undef, undef, undef, undef, undef, undef, undef, undef, undef, undef, undef, undef, undef, undef, undef, undef, undef, undef, undef, undef, undef, undef, undef], defers := [] })
    (fun x a' s W W' row ⟨Bx, h1, h2, h3⟩ hg hr => ⟨Bx, h1, Box.grown h2 hg (fun e => by obtain ⟨_, o, ho, hc⟩ := hr Bx e.symm; rw [show W.heap[Bx]? = _ from h2] at ho; cases ho; cases hc), h3⟩) ?assign ?body ?done ?stop
  case assign =>
    rintro l pre x W K ⟨hp, hB⟩ hK
    gi_wp2
    exact hK _ _ ((KeepsOthers.alloc _ _).from _) ((Below.refl _ W).alloc hB.size _) ⟨hp, hB.alloc hB.size _⟩ ⟨W.heap.size, hB.size, Box.made _ _ _, rfl⟩
  case body =>
    rintro l pre x a' W hl ⟨r, hr⟩ ⟨hp, hB⟩ ⟨Bx, hBx, bX, rfl⟩ hlt
    have e0 := bX.cell 0
    have e1 := bX.cell 1
    have e2 := bX.cell 2
    have e3 := bX.cell 3
    have e4 := bX.cell 4
    simp at e0 e1 e2 e3 e4
    have hc1 := (hB.cell (p := ⟨w.heap.size + 1, 0, none⟩) Y1.lt).trans (Y1.cell 0)
    have hc2 := (hB.cell (p := ⟨w.heap.size + 2, 0, none⟩) Y2.lt).trans (Y2.cell 0)
    have hc3 := (hB.cell (p := ⟨w.heap.size + 3, 0, none⟩) Y3.lt).trans (Y3.cell 0)
    have hc4 := (hB.cell (p := ⟨w.heap.size + 4, 0, none⟩) Y4.lt).trans (Y4.cell 0)
    have hc5 := (hB.cell (p := ⟨w.heap.size + 5, 0, none⟩) Y5.lt).trans (Y5.cell 0)
    have hf4 := (hB.frozen (p := ⟨w.heap.size + 4, 0, none⟩) Y4.lt).trans (Y4.frozen 0)
    have hf5 := (hB.frozen (p := ⟨w.heap.size + 5, 0, none⟩) Y5.lt).trans (Y5.frozen 0)
    simp at hc1 hc2 hc3 hc4 hc5
    rcases Bool.eq_false_or_eq_true (F x 0 == k) with q1 | q1
    · rcases Bool.eq_false_or_eq_true (decide (F x 1 ≤ t)) with q2 | q2
      · rcases Bool.eq_false_or_eq_true (decide (t < F x 2)) with q3 | q3
        · rcases Bool.eq_false_or_eq_true (decide (F x 3 ≤ kn)) with q4 | q4
          · have K := Lib.hid (show hitF F k t kn x = true by simp only [hitF, q1, q2, q3, q4, Bool.and_self])
            have g4 := World.cell?_setCell_same' W ⟨w.heap.size + 4, 0, none⟩ (.int .i64 (F x 4)) (by rw [hc4]; rfl)
            have g4' : ((W.setCell ⟨w.heap.size + 4, 0, none⟩ (.int .i64 (F x 4))).setCell ⟨w.heap.size + 5, 0, none⟩ (.bool true)).cell? ⟨w.heap.size + 4, 0, none⟩ = some (.int .i64 (F x 4)) := by simp [go_sem, g4]
            have g5' : ((W.setCell ⟨w.heap.size + 4, 0, none⟩ (.int .i64 (F x 4))).setCell ⟨w.heap.size + 5, 0, none⟩ (.bool true)).cell? ⟨w.heap.size + 5, 0, none⟩ = some (.bool true) := World.cell?_setCell_same' _ _ _ (by simp [go_sem, hc5])
            gi_wp2
            exact ⟨((KeepsOthers.setCell _ _ _).trans (KeepsOthers.setCell _ _ _)).from _, ⟨rfl, pre, x, rfl, hp, K.out, g4', g5'⟩, ((B0.trans (hB.mono z0)).setCell (p := ⟨w.heap.size + 4, 0, none⟩) (Nat.le_add_right _ _) _).setCell (p := ⟨w.heap.size + 5, 0, none⟩) (Nat.le_add_right _ _) _⟩
          · have K := Lib.hid (show hitF F k t kn x = false by simp only [hitF, q4, Bool.and_false])
            gi_wp2; exact ⟨KeepsFrom.refl _ _, Below.refl _ _, ⟨fun p hp' => (List.mem_append.1 hp').elim (hp p) (fun e => by simp at e; subst e; exact K.out), hB⟩⟩
        · have K := Lib.hid (show hitF F k t kn x = false by simp only [hitF, q3, Bool.false_and, Bool.and_false])
          gi_wp2; exact ⟨KeepsFrom.refl _ _, Below.refl _ _, ⟨fun p hp' => (List.mem_append.1 hp').elim (hp p) (fun e => by simp at e; subst e; exact K.out), hB⟩⟩
      · have K := Lib.hid (show hitF F k t kn x = false by simp only [hitF, q2, Bool.false_and, Bool.and_false])
        gi_wp2; exact ⟨KeepsFrom.refl _ _, Below.refl _ _, ⟨fun p hp' => (List.mem_append.1 hp').elim (hp p) (fun e => by simp at e; subst e; exact K.out), hB⟩⟩
    · have K := Lib.hid (show hitF F k t kn x = false by simp only [hitF, q1, Bool.false_and])
      gi_wp2; exact ⟨KeepsFrom.refl _ _, Below.refl _ _, ⟨fun p hp' => (List.mem_append.1 hp').elim (hp p) (fun e => by simp at e; subst e; exact K.out), hB⟩⟩
  case done =>
    rintro D ys W hD rfl ⟨hne, hB⟩ hK
    have hc4 := (hB.cell (p := ⟨w.heap.size + 4, 0, none⟩) Y4.lt).trans (Y4.cell 0)
    have hf4 := (hB.frozen (p := ⟨w.heap.size + 4, 0, none⟩) Y4.lt).trans (Y4.frozen 0)
    have hc5 := (hB.cell (p := ⟨w.heap.size + 5, 0, none⟩) Y5.lt).trans (Y5.cell 0)
    have hf5 := (hB.frozen (p := ⟨w.heap.size + 5, 0, none⟩) Y5.lt).trans (Y5.frozen 0)
    simp at hc4 hc5
    have g4 := World.cell?_setCell_same' W ⟨w.heap.size + 4, 0, none⟩ (.int .i64 0) (by rw [hc4]; rfl)
    have g4' : ((W.setCell ⟨w.heap.size + 4, 0, none⟩ (.int .i64 0)).setCell ⟨w.heap.size + 5, 0, none⟩ (.bool false)).cell? ⟨w.heap.size + 4, 0, none⟩ = some (.int .i64 0) := by simp [go_sem, g4]
    have g5' : ((W.setCell ⟨w.heap.size + 4, 0, none⟩ (.int .i64 0)).setCell ⟨w.heap.size + 5, 0, none⟩ (.bool false)).cell? ⟨w.heap.size + 5, 0, none⟩ = some (.bool false) := World.cell?_setCell_same' _ _ _ (by simp [go_sem, hc5])
    have HD := Lib.hid (hitO_none (F := F) (k := k) (t := t) (kn := kn) (n := n) (fun j hj => hne _ (backF_mem hj (by omega))))
    have hK' := ((KeepsOthers.setCell W ⟨w.heap.size + 4, 0, none⟩ (.int .i64 0)).trans (KeepsOthers.setCell _ ⟨w.heap.size + 5, 0, none⟩ (.bool false))).same D _ hK rfl
    have hBB := ((B0.trans (hB.mono z0)).setCell (p := ⟨w.heap.size + 4, 0, none⟩) (Nat.le_add_right _ _) (.int .i64 0)).setCell (p := ⟨w.heap.size + 5, 0, none⟩) (Nat.le_add_right _ _) (.bool false)
    gi_wp2
    refine ⟨by simp, .inl ⟨_, _, rfl, run_takeDeferred hK', ?_⟩⟩
    have hc6 := cell_kept g4' (grownBy_putObj' _ D (.deferred none)) (fun r e => by cases e; exact ⟨_, hK', rfl⟩)
    have hc7 := cell_kept g5' (grownBy_putObj' _ D (.deferred none)) (fun r e => by cases e; exact ⟨_, hK', rfl⟩)
    refine ⟨.tuple #[.int .i64 0, .bool false], ?_, by rw [HD.out]; rfl, hBB.trans (belowK_b (w := w) (Nat.le_refl _) _ D _ _ (Nat.le_trans z0 hD) hK' rfl rfl)⟩
    simp [results, Try.f115, go_sem, hc6, hc7]
  case stop =>
    rintro D c pre W hD ⟨j, hj, rfl⟩ ⟨⟨rfl, ini, last, e1, e2, e3, hcr, hcs⟩, hB⟩ hK
    gi_wp2
    refine ⟨by simp, .inl ⟨_, _, rfl, run_takeDeferred hK, ?_⟩⟩
    have hc5 := cell_kept hcr (grownBy_putObj' _ D (.deferred none)) (fun r e => by cases e; exact ⟨_, hK, rfl⟩)
    have hc6 := cell_kept hcs (grownBy_putObj' _ D (.deferred none)) (fun r e => by cases e; exact ⟨_, hK, rfl⟩)
    obtain ⟨j', rfl⟩ : ∃ j', j = j' + 1 := by
      cases j with
      | zero => simp [came] at e1
      | succ j' => exact ⟨j', rfl⟩
    rw [came_succ] at e1
    obtain ⟨rfl, e5⟩ := List.append_inj' e1 rfl
    obtain rfl : backP n j' = last := by simpa using e5
    have HO := hitO_at (q := backP n j') (n := n) e3 (by unfold backP; omega) (fun i hi hin => e2 _ (backF_mem hin (by unfold backP at hi; omega)))
    refine ⟨.tuple #[.int .i64 (F (backP n j') 4), .bool true], ?_, by rw [HO]; rfl, hB.trans (belowK_b (w := w) (Nat.le_refl _) W D _ _ (Nat.le_trans z0 hD) hK rfl rfl)⟩
    simp [results, Try.f115, go_sem, hc5, hc6]
end Go.Proofs.Ytgfcmeiffhffaaa
