/- Contract of the reference's drawn heirs. -/
import Derived.Test.YtoebibgkpmppdaaCur
import Derived.Test.YtoebibgkpmppdaaHeirs
import Derived.Test.YtoebibgkpmppdaaRecApp
import Derived.Test.YtoebibgkpmppdaaRecHeir
namespace Go.Proofs.Ytoebibgkpmppdaa
open Go.RowKit

theorem grown_moreH {w a b : World} {row row2 : Option Nat} (h : w.grownBy a row) (k : a.grownBy b row2) (hk : ∀ i, row2 = some i → w.heap.size ≤ i) : w.grownBy b row :=
  ⟨k.os.trans h.os, k.tape.trans h.tape, k.output.trans h.output, Nat.le_trans h.size k.size, fun i hi hne => (k.block i (Nat.lt_of_lt_of_le hi h.size) (fun e => by have := hk i e.symm; omega)).trans (h.block i hi hne)⟩
/-- Is heir i as one that is drawn? -/
def drawnH (F : Nat → Nat → Int) (i : Nat) : Prop := F i 0 = i + 1 ∧ 10 ≤ F i 1 ∧ F i 1 ≤ 60 ∧ 10 ≤ F i 2 ∧ F i 2 ≤ 99 ∧ 0 ≤ F i 3 ∧ F i 3 ≤ i
theorem drawnH_snoc {F : Nat → Nat → Int} {n : Nat} {a b c d : Int} (h : ∀ i, i < n → drawnH F i) (ha : a = n + 1) (b0 : 10 ≤ b) (b1 : b ≤ 60) (c0 : 10 ≤ c) (c1 : c ≤ 99) (d0 : 0 ≤ d) (d1 : d ≤ n) : ∀ i, i < n + 1 → drawnH (catF F n (fun _ => quad a b c d)) i := fun i hi => by
  by_cases hin : i < n
  · have := h i hin
    unfold drawnH at *
    simp only [catF, if_pos hin]
    exact this
  · obtain rfl : i = n := by omega
    simp only [drawnH, catF, Nat.lt_irrefl, if_false, quad]
    simp
    omega
/-- Drawn heirs come back, in a row of their own. -/
def DrawHQ (g : Nat) (w : World) (e : Ending) (w' : World) : Prop :=
  ∃ (n : Nat) (F : Nat → Nat → Int) (A : Option Addr) (c : Nat), e = .returned (.slice A n c) ∧ w'.ownsRow w.heap.size 43 4 (.slice A n c) n (recs F 4 n) ∧ n ≤ 5 ∧ (∀ i, i < n → drawnH F i) ∧ w.grownBy w' (some g)
/-- A truth value comes back; of what was there only the cursor has changed. -/
def OnceHQ (B g : Nat) (w : World) (e : Ending) (w' : World) : Prop := ∃ b : Bool, e = .returned (.bool b) ∧ w.grownBy w' (some g) ∧ CurOk B w' g
theorem onceH_draw (B g : Nat) (n : Int) (w : World) (hn : 1 ≤ n) (hn2 : n ≤ 1000000000) (hc : CurOk B w g) : Calls Try.prog 54 #[.pointer (some ⟨g, 0, none⟩), .int .i64 n] w (OnceHQ B g w) := by
  go_enter Try.func54, Try.ntmps54
  go_wp2_with fail
  with_reducible refine (below_draw B g n _ hn hn2 hc).mono ?_
  rintro e w1 ⟨x, x0, x1, rfl, hg1, hc1⟩
  go_wp2
  go_ret
  exact ⟨_, rfl, hg1, hc1⟩
theorem Box.fourth {w : World} {g : Nat} {t : TypeId} {a b c d : Value} (h : Box w g t #[a, b, c, d]) (u : Value) : Box (w.setCell ⟨g, 3, none⟩ u) g t #[a, b, c, u] := by
  have := h.put 3 u
  simpa using this
theorem Box.all4 {w : World} {g : Nat} {t : TypeId} {a b c d : Value} (h : Box w g t #[a, b, c, d]) : w.cell? ⟨g, 0, none⟩ = some a ∧ w.cell? ⟨g, 1, none⟩ = some b ∧ w.cell? ⟨g, 2, none⟩ = some c ∧ w.cell? ⟨g, 3, none⟩ = some d ∧ w.frozen? ⟨g, 3, none⟩ = false :=
  ⟨h.cell 0, h.cell 1, h.cell 2, h.cell 3, h.frozen 3⟩
set_option maxHeartbeats 8000000 in
theorem heirs_draw (B g : Nat) (w : World) (hc : CurOk B w g) : Calls Try.prog 45 #[.pointer (some ⟨g, 0, none⟩)] w (DrawHQ g w) := by
  have gl := hc.lt
  have HC := Lib.hid (hc.alloc (.cells #[] 43))
  have O0 := Lib.hid (own_rec_empty w w.heap.size 43 4 (fun _ _ => 0) (Nat.le_refl _))
  have G0 := Lib.hid (show w.grownBy (w.alloc (.cells #[] 43)) (some g) from grown_of_below ((Below.refl _ _).alloc (Nat.le_refl _) _) _)
  clear hc
  go_enter Try.func45, Try.ntmps45
  go_wp2_with fail
  go_loopw [3, 4] (fun out i wr => ∃ (n : Nat) (F : Nat → Nat → Int) (A : Option Addr) (c : Nat), n ≤ 5 ∧ i = .int .i64 n ∧ out = .slice A n c ∧ wr.ownsRow w.heap.size 43 4 (.slice A n c) n (recs F 4 n) ∧ Hid (∀ i, i < n → drawnH F i) ∧ CurOk B wr g ∧ w.grownBy wr (some g)) (fun _ i _ => 5 - (intOf i).toNat)
  case atStart => exact ⟨0, fun _ _ => 0, _, _, by omega, rfl, rfl, O0.out, fun i hi => by omega, HC.out, G0.out⟩
  case round =>
    clear O0 G0 HC
    obtain ⟨n, F, A, c, hk, rfl, rfl, ho, hT, hc, hg⟩ := hrel
    have HC := Lib.hid hc
    have HO := Lib.hid ho
    have HG := Lib.hid hg
    clear hc ho hg
    go_wp2_with fail
    with_reducible refine (below_draw B g 6 _ (by omega) (by omega) HC.out).mono ?_
    rintro e w1 ⟨y, y0, y1, rfl, hg1, hc1⟩
    have O1 := Lib.hid (HO.out.kept hg1 (.inr (HC.out.own_ne HO.out (by decide))))
    have G1 := Lib.hid (grown_trans HG.out hg1)
    have C1 := Lib.hid hc1
    clear hg1 hc1 HC HO HG
    by_cases hlt : (n : Int) < y
    · go_wp2_with fail
      with_reducible refine (below_draw B g 6 _ (by omega) (by omega) C1.out).mono ?_
      rintro e w2 ⟨u, u0, u1, rfl, hg2, hc2⟩
      have O2 := Lib.hid (O1.out.kept hg2 (.inr (C1.out.own_ne O1.out (by decide))))
      have G2 := Lib.hid (grown_trans G1.out hg2)
      have C2 := Lib.hid hc2
      clear hg2 hc2 O1 G1 C1
      go_wp2_with fail
      with_reducible refine (below_draw B g 90 _ (by omega) (by omega) C2.out).mono ?_
      rintro e w5 ⟨v, v0, v1, rfl, hg5, hc5⟩
      have O5 := Lib.hid ((O2.out.kept hg5 (.inr (C2.out.own_ne O2.out (by decide)))).alloc (.cells #[.int .i64 (n + 1), .int .i64 (10 * (1 + u)), .int .i64 (10 + v), .int .i64 0] 43))
      have G5 := Lib.hid (grown_moreH (grown_trans G2.out hg5) (grown_of_below ((Below.refl _ _).alloc (Nat.le_refl _) (.cells #[.int .i64 (n + 1), .int .i64 (10 * (1 + u)), .int .i64 (10 + v), .int .i64 0] 43)) none) (fun i e => by cases e))
      have C5 := Lib.hid (hc5.alloc (.cells #[.int .i64 (n + 1), .int .i64 (10 * (1 + u)), .int .i64 (10 + v), .int .i64 0] 43))
      have X5 := Lib.hid (Box.made w5 43 #[.int .i64 (n + 1), .int .i64 (10 * (1 + u)), .int .i64 (10 + v), .int .i64 0])
      have z5 : w.heap.size ≤ w5.heap.size := (grown_trans G2.out hg5).size
      have HI := Lib.hid (own_hi (O2.out.kept hg5 (.inr (C2.out.own_ne O2.out (by decide)))))
      have g5 : g < w5.heap.size := hc5.lt
      clear hg5 hc5 O2 G2 C2
      have hb1 : IntKind.i64.wrap (10 * (1 + u)) = 10 * (1 + u) := by rw [IntKind.wrap_i64]; omega
      rcases Bool.eq_false_or_eq_true (decide (0 < n)) with hd | hd
      · have hn0 : 0 < n := of_decide_eq_true hd
        go_wp2_with fail
        with_reducible refine (onceH_draw B g 2 _ (by omega) (by omega) C5.out).mono ?_
        rintro e w6 ⟨b, rfl, hg6, hc6⟩
        have O6 := Lib.hid (O5.out.kept hg6 (.inr (C5.out.own_ne O5.out (by decide))))
        have G6 := Lib.hid (grown_trans G5.out hg6)
        have C6 := Lib.hid hc6
        have X6 := Lib.hid (X5.out.grown hg6 (fun e => by have e' := Option.some.inj e; omega))
        have z6 := hg6.size
        simp only [World.size_alloc] at z6
        clear hg6 hc6 O5 G5 C5 X5
        cases b
        · have O9 := O6
          have G9 := G6
          have C9 := C6
          have a0 : (0 : Int) ≤ 0 := Int.le_refl _
          have a1 : (0 : Int) ≤ n := by omega
          obtain ⟨h1, h2, h3, h4, _⟩ := X6.out.all4
          clear O6 G6 C6 X6
          go_wp2_with (at_builtin; refine wpList_app_recs rfl (.tmp 34) (.tmp 36) 25 (by rfl) w.heap.size 43 (.agg #[.int .i64 0, .int .i64 0, .int .i64 0, .int .i64 0]) 4 32 Try.underlying25 infHeir rfl (by decide) (by decide) _ n F (O9.out.alloc _) (some ⟨w6.heap.size, 0, none⟩) 1 1 (fun _ => quad (n + 1) (10 * (1 + u)) (10 + v) (0)) (.inr ⟨_, _, rfl⟩) (recs_quad (Box.made w6 _ _)) (by omega) (by (try simp); omega) rfl rfl ?_); (intro v7 w7 o7 hg7); (obtain ⟨A7, c7, rfl, _, _⟩ := own_recs o7); (have O7 := Lib.hid o7); (have l6 := own_lo O9.out); (have C7 := Lib.hid ((C9.out.alloc (.cells #[.int .i64 (n + 1), .int .i64 (10 * (1 + u)), .int .i64 (10 + v), .int .i64 (0)] 43)).grown hg7 (fun k e => ⟨by have h2 := C9.out.low; have := l6 k e; omega, by have := l6 k e; omega⟩))); (have G7 := Lib.hid (grown_moreH (grown_moreH G9.out (grown_of_below ((Below.refl _ _).alloc (Nat.le_refl _) (.cells #[.int .i64 (n + 1), .int .i64 (10 * (1 + u)), .int .i64 (10 + v), .int .i64 (0)] 43)) none) (fun i e => by cases e)) hg7 (fun i e => l6 i e))); (have HT := Lib.hid (drawnH_snoc (a := n + 1) (b := 10 * (1 + u)) (c := 10 + v) (d := (0)) hT.out rfl (by omega) (by omega) (by omega) (by omega) a0 a1)); clear o7 hg7 l6 O9 G9 C9; go_wp2; go_roundw; (case rel => exact ⟨n + 1, _, A7, c7, by omega, by go_num, rfl, O7.out, HT, C7.out, G7.out⟩); (case measure => simp [intOf]; omega)
        · obtain ⟨h1, h2, h3, h4, h5⟩ := X6.out.all4
          have lx := X6.out.lt
          go_wp2_with fail
          with_reducible refine (below_draw B g n _ (by omega) (by omega) C6.out).mono ?_
          rintro e w7' ⟨r, r0, r1, rfl, hg8, hc8⟩
          have O8 := Lib.hid (O6.out.kept hg8 (.inr (C6.out.own_ne O6.out (by decide))))
          have G8 := Lib.hid (grown_trans G6.out hg8)
          have C8 := Lib.hid hc8
          have X8 := Lib.hid (X6.out.grown hg8 (fun e => by have e' := Option.some.inj e; omega))
          have z8 := hg8.size
          clear hg8 hc8 O6 G6 C6 X6 h1 h2 h3 h4 h5 lx
          obtain ⟨h1, h2, h3, h4, h5⟩ := X8.out.all4
          have lx := X8.out.lt
          have O9 := Lib.hid (O8.out.kept (grown_set (grown_refl w7' (some w5.heap.size)) 3 (.int .i64 (1 + r))) (.inr (fun e => Nat.lt_irrefl _ (HI.out _ e))))
          have C9 := Lib.hid (C8.out.grown (grown_set (grown_refl w7' (some w5.heap.size)) 3 (.int .i64 (1 + r))) (fun k e => by have e' := Option.some.inj e; have := C8.out.low; exact ⟨by omega, by omega⟩))
          have G9 := Lib.hid (grown_moreH G8.out (grown_set (grown_refl w7' (some w5.heap.size)) 3 (.int .i64 (1 + r))) (fun k e => by have e' := Option.some.inj e; omega))
          have a0 : (0 : Int) ≤ 1 + r := by omega
          have a1 : 1 + r ≤ n := by omega
          clear O8 G8 C8
          go_wp2_with (at_builtin; refine wpList_app_recs rfl (.tmp 34) (.tmp 36) 25 (by rfl) w.heap.size 43 (.agg #[.int .i64 0, .int .i64 0, .int .i64 0, .int .i64 0]) 4 32 Try.underlying25 infHeir rfl (by decide) (by decide) _ n F (O9.out.alloc _) (some ⟨w7'.heap.size, 0, none⟩) 1 1 (fun _ => quad (n + 1) (10 * (1 + u)) (10 + v) (1 + r)) (.inr ⟨_, _, rfl⟩) (recs_quad (Box.made_at (w := (w7'.setCell ⟨w5.heap.size, 3, none⟩ (.int .i64 (1 + r)))) (by simp [World.setCell]))) (by omega) (by (try simp); omega) rfl rfl ?_); (intro v7 w7 o7 hg7); (obtain ⟨A7, c7, rfl, _, _⟩ := own_recs o7); (have O7 := Lib.hid o7); (have l6 := own_lo O9.out); (have C7 := Lib.hid ((C9.out.alloc (.cells #[.int .i64 (n + 1), .int .i64 (10 * (1 + u)), .int .i64 (10 + v), .int .i64 (1 + r)] 43)).grown hg7 (fun k e => ⟨by have h2 := C9.out.low; have := l6 k e; omega, by have := l6 k e; omega⟩))); (have G7 := Lib.hid (grown_moreH (grown_moreH G9.out (grown_of_below ((Below.refl _ _).alloc (Nat.le_refl _) (.cells #[.int .i64 (n + 1), .int .i64 (10 * (1 + u)), .int .i64 (10 + v), .int .i64 (1 + r)] 43)) none) (fun i e => by cases e)) hg7 (fun i e => l6 i e))); (have HT := Lib.hid (drawnH_snoc (a := n + 1) (b := 10 * (1 + u)) (c := 10 + v) (d := (1 + r)) hT.out rfl (by omega) (by omega) (by omega) (by omega) a0 a1)); clear o7 hg7 l6 O9 G9 C9; go_wp2; go_roundw; (case rel => exact ⟨n + 1, _, A7, c7, by omega, by go_num, rfl, O7.out, HT, C7.out, G7.out⟩); (case measure => simp [intOf]; omega)
      · have O9 := O5
        have G9 := G5
        have C9 := C5
        have a0 : (0 : Int) ≤ 0 := Int.le_refl _
        have a1 : (0 : Int) ≤ n := by omega
        clear O5 G5 C5 X5
        go_wp2_with (at_builtin; refine wpList_app_recs rfl (.tmp 34) (.tmp 36) 25 (by rfl) w.heap.size 43 (.agg #[.int .i64 0, .int .i64 0, .int .i64 0, .int .i64 0]) 4 32 Try.underlying25 infHeir rfl (by decide) (by decide) _ n F (O9.out.alloc _) (some ⟨w5.heap.size + 1, 0, none⟩) 1 1 (fun _ => quad (n + 1) (10 * (1 + u)) (10 + v) (0)) (.inr ⟨_, _, rfl⟩) (recs_quad (Box.made_at (w := w5.alloc (.cells #[.int .i64 (n + 1), .int .i64 (10 * (1 + u)), .int .i64 (10 + v), .int .i64 0] 43)) (by simp))) (by omega) (by (try simp); omega) rfl rfl ?_); (intro v7 w7 o7 hg7); (obtain ⟨A7, c7, rfl, _, _⟩ := own_recs o7); (have O7 := Lib.hid o7); (have l6 := own_lo O9.out); (have C7 := Lib.hid ((C9.out.alloc (.cells #[.int .i64 (n + 1), .int .i64 (10 * (1 + u)), .int .i64 (10 + v), .int .i64 (0)] 43)).grown hg7 (fun k e => ⟨by have h2 := C9.out.low; have := l6 k e; omega, by have := l6 k e; omega⟩))); (have G7 := Lib.hid (grown_moreH (grown_moreH G9.out (grown_of_below ((Below.refl _ _).alloc (Nat.le_refl _) (.cells #[.int .i64 (n + 1), .int .i64 (10 * (1 + u)), .int .i64 (10 + v), .int .i64 (0)] 43)) none) (fun i e => by cases e)) hg7 (fun i e => l6 i e))); (have HT := Lib.hid (drawnH_snoc (a := n + 1) (b := 10 * (1 + u)) (c := 10 + v) (d := (0)) hT.out rfl (by omega) (by omega) (by omega) (by omega) a0 a1)); clear o7 hg7 l6 O9 G9 C9; go_wp2; go_roundw; (case rel => exact ⟨n + 1, _, A7, c7, by omega, by go_num, rfl, O7.out, HT, C7.out, G7.out⟩); (case measure => simp [intOf]; omega)
    · go_wp2
      go_ret
      exact ⟨n, F, A, c, rfl, O1.out, by omega, hT.out, G1.out⟩
/-- Drawn heirs come back from bytes. -/
def DrawnHQ (w : World) (e : Ending) (w' : World) : Prop :=
  ∃ (n : Nat) (F : Nat → Nat → Int) (A : Option Addr) (c : Nat), e = .returned (.slice A n c) ∧ w'.ownsRow w.heap.size 43 4 (.slice A n c) n (recs F 4 n) ∧ n ≤ 5 ∧ (∀ i, i < n → drawnH F i) ∧ Below w.heap.size w w'
theorem drawHeirs_any (A : Option Addr) (n cap : Nat) (F : Nat → Int) (w : World) (hn : n ≤ 1048576) (hr : Row w .u8 A n F) : Calls Try.prog 29 #[.slice A n cap] w (DrawnHQ w) := by
  have HR := Lib.hid hr
  clear hr
  go_enter Try.func29, Try.ntmps29
  go_wp2_with fail
  with_reducible refine (new_any A n cap F _ hn HR.out).mono ?_
  rintro e w1 ⟨g, rfl, hg, hb1, hc1⟩
  have z1 := hb1.size
  go_wp2_with fail
  with_reducible refine (heirs_draw _ g w1 hc1).mono ?_
  rintro e w2 ⟨m, G, A1, c1, rfl, ho, hm, hT, hgw⟩
  have HO := Lib.hid (own_mono (B' := w.heap.size) ho z1)
  have HB := Lib.hid (hb1.trans (grown_below hgw hg z1))
  have HT := Lib.hid hT
  clear hc1 hgw ho hT
  go_wp2
  go_ret
  exact ⟨m, G, A1, c1, rfl, HO.out, hm, HT.out, HB.out⟩
end Go.Proofs.Ytoebibgkpmppdaa
