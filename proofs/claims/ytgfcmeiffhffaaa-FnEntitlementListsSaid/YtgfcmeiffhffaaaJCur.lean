/- The cursor that the drawn data are made from: whatever bytes came in, each draw is a number in its range, and only the cursor changes. -/
import Derived.Laws.BitsAllLaws
import Derived.Laws.BitsLemmas
import Derived.Outline
import Derived.RegionTactic
import Derived.Test.YtgfcmeiffhffaaaJRow
namespace Go.Proofs.Ytgfcmeiffhffaaa
open Go.RowKit

theorem and_low (x : Int) (m : Nat) (hm : m < 9223372036854775808) : 0 ≤ bits .and .i64 x (m : Int) ∧ bits .and .i64 x (m : Int) ≤ m := by
  have e : (BitVec.ofInt 64 (m : Int)).toNat = m := by
    rw [BitVec.ofInt_natCast, BitVec.toNat_ofNat]; exact Nat.mod_eq_of_lt (by omega)
  have hle : (BitVec.ofInt 64 x).toNat &&& m ≤ m := Nat.and_le_right
  show 0 ≤ IntKind.i64.wrap ((BitVec.ofInt 64 x &&& BitVec.ofInt 64 (m : Int)).toNat : Int) ∧ IntKind.i64.wrap ((BitVec.ofInt 64 x &&& BitVec.ofInt 64 (m : Int)).toNat : Int) ≤ m
  rw [BitVec.toNat_and, e, IntKind.wrap_i64]
  omega
theorem and255 (x : Int) : 0 ≤ bits .and .i64 x 255 ∧ bits .and .i64 x 255 ≤ 255 := and_low x 255 (by omega)

/-- Block g is a cursor over bytes that can be read; the bytes lie below block B, the cursor does not. -/
def CurOk (B : Nat) (w : World) (g : Nat) : Prop :=
  ∃ (A : Option Addr) (n cap j : Nat) (h : Int) (F : Nat → Int), Box w g 140 #[.slice A n cap, .int .i64 j, .int .i64 h] ∧ n ≤ 1048576 ∧ j ≤ n ∧ Row w .u8 A n F ∧ Low A n B ∧ B ≤ g
/-- A number from lo to hi comes back; of what was there only the cursor has changed. -/
def DrawQ (B g : Nat) (lo hi : Int) (w : World) (e : Ending) (w' : World) : Prop :=
  ∃ x : Int, lo ≤ x ∧ x ≤ hi ∧ e = .returned (.int .i64 x) ∧ w.grownBy w' (some g) ∧ CurOk B w' g
theorem CurOk.grown {B : Nat} {w w' : World} {g : Nat} {row : Option Nat} (h : CurOk B w g) (hg : w.grownBy w' row) (hr : ∀ k, row = some k → B ≤ k ∧ k ≠ g) : CurOk B w' g := by
  obtain ⟨A, n, cap, j, hh, F, hx, hn, hj, hrow, hl, hB⟩ := h
  refine ⟨A, n, cap, j, hh, F, hx.grown hg (fun e => (hr g e.symm).2 rfl), hn, hj, ?_, hl, hB⟩
  rcases Nat.eq_zero_or_pos n with h0 | h0
  · exact .inl h0
  · exact hrow.moved hg (fun b off e e' => by have := hl h0 b off e; have := (hr b e'.symm).1; omega)
theorem CurOk.kept {B : Nat} {w w' : World} {g : Nat} (h : CurOk B w g) (hb : Below w.heap.size w w') : CurOk B w' g := h.grown (grown_of_below hb none) (fun k e => by cases e)
theorem CurOk.drew {B : Nat} {w : World} {g : Nat} (h : CurOk B w g) : CurOk B w.drew g := h
theorem CurOk.alloc {B : Nat} {w : World} {g : Nat} (h : CurOk B w g) (o : Obj) : CurOk B (w.alloc o) g := h.kept ((Below.refl _ _).alloc (Nat.le_refl _) o)
theorem CurOk.lt {B : Nat} {w : World} {g : Nat} (h : CurOk B w g) : g < w.heap.size := by
  obtain ⟨A, n, cap, j, hh, F, hx, _⟩ := h
  exact hx.lt
theorem CurOk.low {B : Nat} {w : World} {g : Nat} (h : CurOk B w g) : B ≤ g := by
  obtain ⟨A, n, cap, j, hh, F, hx, _, _, _, _, hB⟩ := h
  exact hB
/-- A row of another element type lies in another block than the cursor. -/
theorem CurOk.own_ne {B : Nat} {w : World} {g : Nat} (h : CurOk B w g) {base : Nat} {e : TypeId} {size n : Nat} {v : Value} {xs : List Value} (ho : w.ownsRow base e size v n xs) (hne : e ≠ 140) : v.ownBlock ≠ some g := by
  obtain ⟨A, m, cap, j, hh, F, hx, _⟩ := h
  exact own_box_ne ho hx hne
theorem Box.three {w : World} {g : Nat} {t : TypeId} {a b c : Value} (h : Box w g t #[a, b, c]) : w.cell? ⟨g, 0, none⟩ = some a ∧ w.cell? ⟨g, 1, none⟩ = some b ∧ w.cell? ⟨g, 2, none⟩ = some c ∧ w.frozen? ⟨g, 0, none⟩ = false ∧ w.frozen? ⟨g, 1, none⟩ = false ∧ w.frozen? ⟨g, 2, none⟩ = false :=
  ⟨h.cell 0, h.cell 1, h.cell 2, h.frozen 0, h.frozen 1, h.frozen 2⟩

theorem byte_any (B g : Nat) (w : World) (hc : CurOk B w g) : Calls Try.prog 83 #[.pointer (some ⟨g, 0, none⟩)] w (DrawQ B g 0 255 w) := by
  obtain ⟨A, n, cap, j, h, F, hx, hn, hj, hr, hl, hB⟩ := hc
  have ha : 0 < n → Away A g := fun h0 b off e => by have := hl h0 b off e; omega
  obtain ⟨c0, c1, c2, f0, f1, f2⟩ := hx.three
  by_cases hlt : j < n
  · rcases hr with hr | ⟨b, off, rfl, hb, hcell⟩
    · omega
    · have hr : Row w .u8 (some ⟨b, off, none⟩) n F := .inr ⟨b, off, rfl, hb, hcell⟩
      have hcj := hcell j hlt
      have hne : b ≠ g := ha (by omega) b off rfl
      go_enter Try.func83, Try.ntmps83
      go_wp2_with fail
      generalize wrap64 (wrap64 (h * 6364136223846793005) + 1442695040888963407) = h2
      have y : Box (w.setCell ⟨g, 2, none⟩ (.int .i64 h2)) g 140 #[.slice (some ⟨b, off, none⟩) n cap, .int .i64 j, .int .i64 h2] := by simpa using hx.put 2 (.int .i64 h2)
      have hg := grown_set (grown_refl w (some g)) 2 (.int .i64 h2)
      have hcj2 : (w.setCell ⟨g, 2, none⟩ (.int .i64 h2)).cell? ⟨b, off + j, none⟩ = some (.int .u8 (F j)) := by rw [World.cell?_setCell_other _ _ _ _ (by simp)]; exact hcj
      have hr2 := hr.away hg ha
      clear hr
      generalize w.setCell ⟨g, 2, none⟩ (.int .i64 h2) = w2 at y hg hcj2 hr2 ⊢
      clear c0 c1 c2 f0 f1 f2 hcj
      obtain ⟨c0, c1, c2, f0, f1, f2⟩ := y.three
      have hji : (j : Int) < (n : Int) := by omega
      have hj0 : (0 : Int) ≤ (j : Int) := by omega
      go_quiet (fail)
      go_wp2_with fail
      go_quiet (fail)
      go_wp2_with fail
      go_quiet (fail)
      go_wp2_with fail
      go_ret
      refine ⟨_, (and255 _).1, (and255 _).2, rfl, ?_, ?_⟩
      · exact grown_trans hg (grown_set (grown_drewN (grown_refl _ _) _) _ _)
      · refine ⟨some ⟨b, off, none⟩, n, cap, j + 1, h2, F, ?_, hn, by omega, ?_, hl, hB⟩
        · simpa using (y.drewN _).put 1 (.int .i64 ((j : Int) + 1))
        · exact hr2.away (grown_set (grown_drewN (grown_refl _ _) _) _ _) ha
  · go_enter Try.func83, Try.ntmps83
    go_wp2_with fail
    generalize wrap64 (wrap64 (h * 6364136223846793005) + 1442695040888963407) = h2
    have y : Box (w.setCell ⟨g, 2, none⟩ (.int .i64 h2)) g 140 #[.slice A n cap, .int .i64 j, .int .i64 h2] := by simpa using hx.put 2 (.int .i64 h2)
    have hg := grown_set (grown_refl w (some g)) 2 (.int .i64 h2)
    have hr2 := hr.away hg ha
    generalize w.setCell ⟨g, 2, none⟩ (.int .i64 h2) = w2 at y hg hr2 ⊢
    clear c0 c1 c2 f0 f1 f2
    obtain ⟨c0, c1, c2, f0, f1, f2⟩ := y.three
    have hji : (n : Int) ≤ (j : Int) := by omega
    go_quiet (fail)
    go_wp2_with fail
    go_quiet (fail)
    go_wp2_with fail
    go_ret
    refine ⟨_, (and255 _).1, (and255 _).2, rfl, ?_, ?_⟩
    · exact grown_trans hg (grown_drewN (grown_drewN (grown_refl _ _) _) _)
    · exact ⟨A, n, cap, j, h2, F, (y.drewN _).drewN _, hn, hj, (hr2.drewN _).drewN _, hl, hB⟩

theorem below_draw (B g : Nat) (n : Int) (w : World) (hn : 1 ≤ n) (hn2 : n ≤ 1000000000) (hc : CurOk B w g) : Calls Try.prog 50 #[.pointer (some ⟨g, 0, none⟩), .int .i64 n] w (DrawQ B g 0 (n - 1) w) := by
  by_cases h1 : n ≤ 256
  · go_enter Try.func50, Try.ntmps50
    go_wp2_with (go_at_call 83; (with_reducible refine (byte_any B g _ hc).mono ?_); rintro e w1 ⟨x, x0, x1, rfl, hg1, hc1⟩)
    go_ret
    exact ⟨_, Int.emod_nonneg _ (by omega), by have := Int.emod_lt_of_pos x (show 0 < n by omega); omega, rfl, hg1, hc1⟩
  · go_enter Try.func50, Try.ntmps50
    go_wp2_with fail
    with_reducible refine (byte_any B g _ hc).mono ?_
    rintro e w1 ⟨x, x0, x1, rfl, hg1, hc1⟩
    go_wp2_with fail
    with_reducible refine (byte_any B g _ hc1).mono ?_
    rintro e w2 ⟨y, y0, y1, rfl, hg2, hc2⟩
    go_wp2_with fail
    with_reducible refine (byte_any B g _ hc2).mono ?_
    rintro e w3 ⟨z, z0, z1, rfl, hg3, hc3⟩
    go_wp2_with fail
    with_reducible refine (byte_any B g _ hc3).mono ?_
    rintro e w4 ⟨u, u0, u1, rfl, hg4, hc4⟩
    go_wp2_with fail
    go_ret
    exact ⟨_, Int.emod_nonneg _ (by omega), by have := Int.emod_lt_of_pos (x * 16777216 + y * 65536 + z * 256 + u) (show 0 < n by omega); omega, rfl, grown_trans hg1 (grown_trans hg2 (grown_trans hg3 hg4)), hc4⟩
theorem below_none (g : Nat) (n : Int) (w : World) (hn : n ≤ 0) : Calls Try.prog 50 #[.pointer (some ⟨g, 0, none⟩), .int .i64 n] w fun e w' => e = .returned (.int .i64 0) ∧ w = w' := by
  go_enter Try.func50, Try.ntmps50
  go_wp2
  go_ret
  exact ⟨rfl, rfl⟩
/-- A cursor over bytes that came in. -/
def NewQ (w : World) (e : Ending) (w' : World) : Prop := ∃ g, e = .returned (.pointer (some ⟨g, 0, none⟩)) ∧ w.heap.size ≤ g ∧ Below w.heap.size w w' ∧ CurOk w.heap.size w' g
theorem new_any (A : Option Addr) (n cap : Nat) (F : Nat → Int) (w : World) (hn : n ≤ 1048576) (hr : Row w .u8 A n F) : Calls Try.prog 49 #[.slice A n cap] w (NewQ w) := by
  have done : ∀ x : Int, NewQ w (.returned (.pointer (some ⟨w.heap.size, 0, none⟩))) (w.alloc (.cells #[.slice A n cap, .int .i64 0, .int .i64 x] 140)) := fun x =>
    ⟨_, rfl, Nat.le_refl _, (Below.refl _ _).alloc (Nat.le_refl _) _, A, n, cap, 0, x, F, Box.made _ _ _, hn, Nat.zero_le _, hr.alloc _, hr.low, Nat.le_refl _⟩
  have D := Lib.hid done
  clear done
  have hr' : n = 0 ∨ ∃ b off, A = some ⟨b, off, none⟩ ∧ ∀ i, i < n → w.cell? ⟨b, off + i, none⟩ = some (.int .u8 (F i)) := by
    rcases hr with h | ⟨b, off, e, _, hc⟩
    · exact .inl h
    · exact .inr ⟨b, off, e, hc⟩
  have HR := Lib.hid hr'
  clear hr hr'
  go_enter Try.func49, Try.ntmps49
  go_wp2_with fail
  go_loop [3, 4] (fun h i => ∃ (x : Int) (j : Nat), j ≤ n ∧ i = .int .i64 j ∧ h = .int .i64 x) (fun _ i => n - (intOf i).toNat)
  case atStart => exact ⟨_, 0, Nat.zero_le _, rfl, rfl⟩
  case round =>
    obtain ⟨x, j, hj, rfl, rfl⟩ := hrel
    by_cases h1 : j < n
    · by_cases h2 : j < 4000
      · rcases HR.out with h | ⟨b, off, rfl, hc⟩
        · omega
        · have hcj := hc j h1
          have h2i : (j : Int) < 4000 := by omega
          clear hc h2
          go_wp2
          go_round
          case rel => exact ⟨_, j + 1, by omega, by go_num, rfl⟩
          case measure => simp [intOf]; omega
      · have hd : decide ((j : Int) < 4000) = false := decide_eq_false (by omega)
        clear h2
        go_wp2
        go_ret
        exact D.out _
    · go_wp2
      go_ret
      exact D.out _
theorem big_any (A : Option Addr) (n cap : Nat) (w : World) : Calls Try.prog 16 #[.slice A n cap] w fun e w' => e = .returned (.bool (decide (1048576 < n))) ∧ w = w' := by
  go_enter Try.func16, Try.ntmps16
  go_wp2
  go_ret
  exact ⟨ret_bool (by rw [Bool.eq_iff_iff]; simp; omega), rfl⟩

theorem int_info : (Try.prog.info? 3).map (fun i => (i.zero, i.size, i.bytes)) = some (some (.int .i64 0), 1, 8) := by kernel_rfl
/-- Twelve numbers from 0 to 9999, in a new row. -/
def PlacesQ (w : World) (e : Ending) (w' : World) : Prop :=
  ∃ (q cap : Nat) (P : Nat → Int), e = .returned (.slice (some ⟨q, 0, none⟩) 12 cap) ∧ w.heap.size ≤ q ∧ q < w'.heap.size ∧ Below w.heap.size w w' ∧ (∀ i, i < 12 → 0 ≤ P i ∧ P i ≤ 9999) ∧ ∀ i, i < 12 → w'.cell? ⟨q, i, none⟩ = some (.int .i64 (P i))
/-- Numbers that have been gathered so far. -/
def Got (B : Nat) (e : TypeId) (lo hi : Int) (w : World) (v : Value) (k : Nat) : Prop := ∃ xs : List Int, xs.length = k ∧ (∀ x ∈ xs, lo ≤ x ∧ x ≤ hi) ∧ w.ownsRow B e 1 v k (xs.map (Value.int .i64))
set_option maxRecDepth 100000 in
theorem places_any (A : Option Addr) (n cap : Nat) (F : Nat → Int) (w : World) (hn : n ≤ 1048576) (hr : Row w .u8 A n F) : Calls Try.prog 18 #[.slice A n cap] w (PlacesQ w) := by
  obtain ⟨i0, hi0, hz0, hz1, hz2⟩ := info_parts int_info
  go_enter Try.func18, Try.ntmps18
  go_wp2_with (go_at_call 49; (with_reducible refine (new_any A n cap F _ hn hr).mono ?_); rintro e w1 ⟨g, rfl, hg, hb, hc⟩)
  have D : Hid (∀ (wr : World) (v : Value), Got w.heap.size 3 0 9999 wr v 12 → Below w.heap.size w wr → PlacesQ w (.returned v) wr) := fun wr v h hb => by
    obtain ⟨xs, hx, hbd, hown⟩ := h
    rcases hown.2 with ⟨_, h0⟩ | ⟨q, c, cur, rfl, hq, hh, hnc, hcm, hcs, ht⟩
    · omega
    · have hcell : ∀ i, i < 12 → wr.cell? ⟨q, i, none⟩ = some (.int .i64 (xs.getD i 0)) := fun i hi => by
        have := hown.cells (g := q) rfl i (.int .i64 (xs.getD i 0)) (by simp [List.getD_eq_getElem?_getD, List.getElem?_eq_getElem (show i < xs.length by omega)])
        rw [Addr.add] at this
        split at this
        · rename_i h0; subst h0; exact this
        · simpa using this
      have hlt : q < wr.heap.size := by
        rcases Nat.lt_or_ge q wr.heap.size with h1 | h1
        · exact h1
        · rw [Array.getElem?_eq_none h1] at hh; cases hh
      refine ⟨q, c, fun i => xs.getD i 0, rfl, hq, hlt, hb, fun i hi => ?_, hcell⟩
      have : xs.getD i 0 ∈ xs := by
        rw [List.getD_eq_getElem?_getD, List.getElem?_eq_getElem (show i < xs.length by omega)]
        exact List.getElem_mem _
      exact hbd _ this
  go_loopw [4, 5] (fun v i wr => ∃ k : Nat, k ≤ 12 ∧ i = .int .i64 k ∧ Got w.heap.size 3 0 9999 wr v k ∧ Below w.heap.size w wr ∧ CurOk w.heap.size wr g) (fun _ i _ => 12 - (intOf i).toNat)
  case atStart => exact ⟨0, by omega, rfl, ⟨[], rfl, by simp, World.ownsRow_made w1 #[] 0 hb.size (by simp [maxLen]) rfl⟩, hb.alloc hb.size _, hc.alloc _⟩
  case round =>
    obtain ⟨k, hk, rfl, ⟨xs, hx, hbd, hown⟩, hbw, hcw⟩ := hrel
    have HX := Lib.hid hx
    have HB := Lib.hid hbd
    clear hx hbd
    have hsz := hbw.size
    by_cases hlt : k < 12
    · go_wp2_with (first | (go_at_call 50; (with_reducible refine (below_draw w.heap.size g 10000 _ (by omega) (by omega) hcw).mono ?_); rintro e w2 ⟨x, x0, x1, rfl, hg2, hc2⟩; have hown2 := hown.kept hg2 (.inr (hcw.own_ne hown (by decide))); have hs2 := hg2.size) | (at_builtin; refine wpList_append_own _ rfl _ _ 65 rfl w.heap.size 3 i0 (.int .i64 0) 1 8 Try.underlying65 hi0 hz0 hz1 hz2 rfl (by decide) _ _ _ rfl (hown2.alloc _) ⟨w2.heap.size, 0, none⟩ 1 1 [.int .i64 x] rfl rfl ?c1 ?c2 ?c3 ?c4 ?c5 ?_))
      case c1 => exact cell_one_new _ _ _
      case c2 => intro u hu; simp at hu; subst hu; rfl
      case c3 => unfold maxLen; omega
      case c4 => omega
      case c5 => simp; omega
      intro v' w' hown' hgr _
      have hne := hcw.own_ne hown (by decide)
      have hl := hown.lt
      have hbw' : Below w.heap.size w w' := (((hbw.trans (grown_below hg2 hcw.low hsz)).alloc (by omega) _).grown hgr (by simp; omega) (fun k e => (hl k e).1))
      have hcw' : CurOk w.heap.size w' g := (hc2.alloc _).grown hgr (fun k e => ⟨(hl k e).1, fun e' => hne (by rw [e, e'])⟩)
      have HG := Lib.hid (show Got w.heap.size 3 0 9999 w' v' (k + 1) from ⟨xs ++ [x], by simp [HX.out], fun y hy => by
        rcases List.mem_append.1 hy with h | h
        · exact HB.out y h
        · simp at h; subst h; omega, by simpa using hown'⟩)
      clear hown' hgr hne hl hown2 hown
      go_wp2
      go_roundw
      case rel => exact ⟨k + 1, by omega, by go_num, HG, hbw', hcw'⟩
      case measure => simp [intOf]; omega
    · obtain rfl : k = 12 := by omega
      go_wp2
      go_ret
      exact D.out _ _ ⟨xs, HX.out, HB.out, hown⟩ hbw
end Go.Proofs.Ytgfcmeiffhffaaa
