/- Contract of the reference's drawn orders. -/
import Derived.Test.YtebgkmmmjmipnaaCur
import Derived.Test.YtebgkmmmjmipnaaOrder
import Derived.Test.YtebgkmmmjmipnaaRecApp
import Derived.Test.YtebgkmmmjmipnaaRecOrder
namespace Go.Proofs.Ytebgkmmmjmipnaa
open Go.RowKit

theorem grown_moreO {w a b : World} {row row2 : Option Nat} (h : w.grownBy a row) (k : a.grownBy b row2) (hk : ∀ i, row2 = some i → w.heap.size ≤ i) : w.grownBy b row :=
  ⟨k.os.trans h.os, k.tape.trans h.tape, k.output.trans h.output, Nat.le_trans h.size k.size, fun i hi hne => (k.block i (Nat.lt_of_lt_of_le hi h.size) (fun e => by have := hk i e.symm; omega)).trans (h.block i hi hne)⟩
/-- One of the six shares that are drawn. -/
def pctL : List Int := [50, 25, 30, 10, 100, 0]
def pctOk (x : Int) : Prop := ∃ j, j < 6 ∧ x = pctL.getD j 0
theorem pctOk_bd {x : Int} (h : pctOk x) : 0 ≤ x ∧ x ≤ 100 := by
  obtain ⟨j, hj, rfl⟩ := h
  have : j = 0 ∨ j = 1 ∨ j = 2 ∨ j = 3 ∨ j = 4 ∨ j = 5 := by omega
  rcases this with rfl | rfl | rfl | rfl | rfl | rfl <;> (first | (simp [pctL]; done) | decide)
theorem pct_draw (B g : Nat) (b : Nat) (w : World) (hb : b ≠ g) (hx : Box w b 3 #[.int .i64 50, .int .i64 25, .int .i64 30, .int .i64 10, .int .i64 100, .int .i64 0]) (hc : CurOk B w g) :
    Calls Try.prog 55 #[.pointer (some ⟨g, 0, none⟩), .slice (some ⟨b, 0, none⟩) 6 6] w fun e w' => ∃ x, e = .returned (.int .i64 x) ∧ pctOk x ∧ w.grownBy w' (some g) ∧ CurOk B w' g := by
  have HX := Lib.hid hx
  clear hx
  go_enter Try.func55, Try.ntmps55
  go_wp2_with fail
  with_reducible refine (below_draw B g 6 _ (by omega) (by omega) hc).mono ?_
  rintro e w1 ⟨x, x0, x1, rfl, hg1, hc1⟩
  have Y := HX.out.grown hg1 (fun e => hb (Option.some.inj e))
  obtain ⟨j, rfl⟩ := Int.eq_ofNat_of_zero_le x0
  have hj : j < 6 := by omega
  have hji : (j : Int) < 6 := by omega
  have hcell : w1.cell? ⟨b, j, none⟩ = some (.int .i64 (pctL.getD j 0)) := by
    rw [Y.cell j]
    have : j = 0 ∨ j = 1 ∨ j = 2 ∨ j = 3 ∨ j = 4 ∨ j = 5 := by omega
    rcases this with rfl | rfl | rfl | rfl | rfl | rfl <;> (first | (simp [pctL]; done) | decide)
  clear Y HX
  go_wp2
  go_ret
  exact ⟨_, rfl, ⟨j, hj, rfl⟩, hg1, hc1⟩
theorem ordersB_snoc {F : Nat → Nat → Int} {n : Nat} {e kn p : Int} (h : ordersB F n = true) (hn : n + 1 ≤ 10) (e0 : 0 ≤ e) (e1 : e ≤ 3599) (k0 : 0 ≤ kn) (k1 : kn ≤ 3599) (p0 : 0 ≤ p) (p1 : p ≤ 100) (hk : ∀ i, i < n → F i 1 ≤ kn) :
    ordersB (catF F n (fun _ => trip e kn p)) (n + 1) = true := by
  obtain ⟨h1, _⟩ := ordersB_true h
  rw [ordersB_all (fun i hi => ?_)]
  · exact decide_eq_true hn
  · by_cases hin : i < n
    · have := h1 i hin
      have b3 : ∀ j, catF F n (fun _ => trip e kn p) i j = F i j := fun j => by simp only [catF]; rw [if_pos hin]
      have b4 : ∀ j, catF F n (fun _ => trip e kn p) (i - 1) j = F (i - 1) j := fun j => by simp only [catF]; rw [if_pos (by omega)]
      unfold orderB at *
      rw [b3, b3, b3, b4]
      exact this
    · obtain rfl : i = n := by omega
      have a1 : inB e 0 3599 = true := inB_true.2 ⟨e0, e1⟩
      have a2 : inB kn 0 3599 = true := inB_true.2 ⟨k0, k1⟩
      have a3 : inB p 0 100 = true := inB_true.2 ⟨p0, p1⟩
      have b0 : catF F i (fun _ => trip e kn p) i 0 = e := by simp [catF, trip]
      have b1 : catF F i (fun _ => trip e kn p) i 1 = kn := by simp [catF, trip]
      have b2 : catF F i (fun _ => trip e kn p) i 2 = p := by simp [catF, trip]
      unfold orderB
      rw [b0, b1, b2, a1, a2, a3]
      rcases Nat.eq_zero_or_pos i with h0 | h0
      · simp [h0]
      · have b3 : catF F i (fun _ => trip e kn p) (i - 1) 1 = F (i - 1) 1 := by simp only [catF]; rw [if_pos (by omega)]
        rw [b3, decide_eq_true (hk (i - 1) (by omega))]
        simp
theorem snoc_at {F : Nat → Nat → Int} {n : Nat} {e kn p a u : Int} (hT : ∀ i, i < n → F i 1 ≤ a) (hP : ∀ i, i < n → pctOk (F i 2)) (hp : pctOk p) (hu : 0 ≤ u) {i : Nat} (_hi : i < n + 1) (hk : kn = a + u := by rfl) : catF F n (fun _ => trip e kn p) i 1 ≤ a + u ∧ pctOk (catF F n (fun _ => trip e kn p) i 2) := by
  unfold catF
  split
  · exact ⟨by have := hT i (by assumption); omega, hP i (by assumption)⟩
  · exact ⟨by simp [trip, hk], by simpa [trip] using hp⟩
/-- Drawn orders come back: right ones, in a row of their own. -/
def DrawOQ (g : Nat) (w : World) (e : Ending) (w' : World) : Prop :=
  ∃ (n : Nat) (F : Nat → Nat → Int) (A : Option Addr) (c : Nat), e = .returned (.slice A n c) ∧ w'.ownsRow w.heap.size 49 3 (.slice A n c) n (recs F 3 n) ∧ ordersB F n = true ∧ n ≤ 4 ∧ (∀ i, i < n → pctOk (F i 2)) ∧ w.grownBy w' (some g)
set_option maxHeartbeats 4000000 in
theorem orders_draw (B g : Nat) (w : World) (hc : CurOk B w g) : Calls Try.prog 46 #[.pointer (some ⟨g, 0, none⟩)] w (DrawOQ g w) := by
  have gl := hc.lt
  have HC := Lib.hid (hc.alloc (.cells #[] 49))
  have O0 := Lib.hid (own_rec_empty w w.heap.size 49 3 (fun _ _ => 0) (Nat.le_refl _))
  clear hc
  go_enter Try.func46, Try.ntmps46
  go_wp2_with fail
  with_reducible refine (below_draw B g 20 _ (by omega) (by omega) HC.out).mono ?_
  rintro e w1 ⟨x, x0, x1, rfl, hg1, hc1⟩
  have O1 := Lib.hid (O0.out.kept hg1 (.inr (HC.out.own_ne O0.out (by decide))))
  have G1 := Lib.hid (show w.grownBy w1 (some g) from grown_trans (grown_of_below ((Below.refl _ _).alloc (Nat.le_refl _) _) _) hg1)
  have C1 := Lib.hid hc1
  clear hg1 hc1 HC O0
  go_wp2_with fail
  go_loopw [3, 4, 5] (fun out kn i wr => ∃ (n : Nat) (F : Nat → Nat → Int) (A : Option Addr) (c : Nat) (a : Int), n ≤ 4 ∧ i = .int .i64 n ∧ kn = .int .i64 a ∧ 0 ≤ a ∧ a ≤ 19 + 14 * n ∧ out = .slice A n c ∧ wr.ownsRow w.heap.size 49 3 (.slice A n c) n (recs F 3 n) ∧ Hid (ordersB F n = true) ∧ Hid (∀ i, i < n → F i 1 ≤ a) ∧ Hid (∀ i, i < n → pctOk (F i 2)) ∧ CurOk B wr g ∧ w.grownBy wr (some g)) (fun _ _ i _ => 4 - (intOf i).toNat)
  case atStart => exact ⟨0, fun _ _ => 0, _, _, x, by omega, rfl, rfl, x0, by omega, rfl, O1.out, rfl, fun i hi => by omega, fun i hi => by omega, C1.out, G1.out⟩
  case round =>
    clear O1 G1 C1
    obtain ⟨n, F, A, c, a, hk, rfl, rfl, a0, a1, rfl, ho, hS, hT, hP, hc, hg⟩ := hrel
    have HC := Lib.hid hc
    have HO := Lib.hid ho
    have HG := Lib.hid hg
    clear hc ho hg
    go_wp2_with fail
    with_reducible refine (below_draw B g 5 _ (by omega) (by omega) HC.out).mono ?_
    rintro e w1 ⟨y, y0, y1, rfl, hg1, hc1⟩
    have O1 := Lib.hid (HO.out.kept hg1 (.inr (HC.out.own_ne HO.out (by decide))))
    have G1 := Lib.hid (grown_trans HG.out hg1)
    have C1 := Lib.hid hc1
    clear hg1 hc1 HC HO HG
    by_cases hlt : (n : Int) < y
    · go_wp2_with fail
      with_reducible refine (below_draw B g 15 _ (by omega) (by omega) C1.out).mono ?_
      rintro e w2 ⟨u, u0, u1, rfl, hg2, hc2⟩
      have O2 := Lib.hid (O1.out.kept hg2 (.inr (C1.out.own_ne O1.out (by decide))))
      have G2 := Lib.hid (grown_trans G1.out hg2)
      have C2 := Lib.hid hc2
      clear hg2 hc2 O1 G1 C1
      go_wp2_with fail
      with_reducible refine (below_draw B g 30 _ (by omega) (by omega) C2.out).mono ?_
      rintro e w5 ⟨v, v0, v1, rfl, hg5, hc5⟩
      have O5 := Lib.hid (O2.out.kept hg5 (.inr (C2.out.own_ne O2.out (by decide))))
      have G5 := Lib.hid (grown_trans G2.out hg5)
      have C5 := Lib.hid hc5
      clear hg5 hc5 O2 G2 C2
      rcases Int.lt_or_le 0 (a + u - 20 + v) with h0 | h0
      · have hd : decide (0 < a + u - 20 + v) = true := decide_eq_true h0
        go_wp2_with fail; (have Y5 := Lib.hid (Box.made w5 3 #[.int .i64 50, .int .i64 25, .int .i64 30, .int .i64 10, .int .i64 100, .int .i64 0])); (with_reducible refine (pct_draw B g _ _ (by have := C5.out.lt; omega) Y5.out (C5.out.alloc (.cells #[.int .i64 50, .int .i64 25, .int .i64 30, .int .i64 10, .int .i64 100, .int .i64 0] 3))).mono ?_); (rintro e w6 ⟨p, rfl, hp, hg6, hc6⟩); (have O6 := Lib.hid ((O5.out.alloc (.cells #[.int .i64 50, .int .i64 25, .int .i64 30, .int .i64 10, .int .i64 100, .int .i64 0] 3)).kept hg6 (.inr ((C5.out.alloc (.cells #[.int .i64 50, .int .i64 25, .int .i64 30, .int .i64 10, .int .i64 100, .int .i64 0] 3)).own_ne (O5.out.alloc (.cells #[.int .i64 50, .int .i64 25, .int .i64 30, .int .i64 10, .int .i64 100, .int .i64 0] 3)) (by decide))))); (have G6 := Lib.hid (grown_trans (grown_trans G5.out (grown_of_below ((Below.refl _ _).alloc (Nat.le_refl _) (.cells #[.int .i64 50, .int .i64 25, .int .i64 30, .int .i64 10, .int .i64 100, .int .i64 0] 3)) _)) hg6)); (have C6 := Lib.hid hc6); (have HP := Lib.hid hp); (obtain ⟨p0, p1⟩ := pctOk_bd hp); (have z6 := G6.out.size); clear hg6 hc6 hp O5 G5 C5 Y5
        go_wp2_with (at_builtin; refine wpList_app_recs rfl (.tmp 19) (.tmp 31) 25 (by rfl) w.heap.size 49 (.agg #[.int .i64 0, .int .i64 0, .int .i64 0]) 3 24 Try.underlying25 infOrder rfl (by decide) (by decide) _ n F (O6.out.alloc _) (some ⟨w6.heap.size, 0, none⟩) 1 1 (fun _ => trip (a + u - 20 + v) (a + u) p) (.inr ⟨_, _, rfl⟩) (recs_trip (Box.made w6 _ _)) (by omega) (by (try simp); omega) rfl rfl ?_)
        (intro v7 w7 o7 hg7); (obtain ⟨A7, c7, rfl, _, _⟩ := own_recs o7); (have O7 := Lib.hid o7); (have l6 := own_lo O6.out); (have C7 := Lib.hid ((C6.out.alloc (.cells #[.int .i64 (a + u - 20 + v), .int .i64 (a + u), .int .i64 p] 49)).grown hg7 (fun k e => ⟨by have h2 := C6.out.low; have := l6 k e; omega, by have := l6 k e; omega⟩))); (have G7 := Lib.hid (grown_moreO (grown_moreO G6.out (grown_of_below ((Below.refl _ _).alloc (Nat.le_refl _) (.cells #[.int .i64 (a + u - 20 + v), .int .i64 (a + u), .int .i64 p] 49)) none) (fun i e => by cases e)) hg7 (fun i e => l6 i e))); (have HS := Lib.hid (ordersB_snoc hS.out (show n + 1 ≤ 10 by omega) (show 0 ≤ a + u - 20 + v by omega) (show a + u - 20 + v ≤ 3599 by omega) (show 0 ≤ a + u by omega) (show a + u ≤ 3599 by omega) p0 p1 (fun i hi => by have := hT.out i hi; omega))); (have HT := Lib.hid (fun i hi => snoc_at (e := a + u - 20 + v) (kn := a + u) (p := p) hT.out hP.out HP.out u0 (i := i) hi)); clear o7 hg7 l6 O6 G6 C6; go_wp2; go_roundw; (case rel => exact ⟨n + 1, _, A7, c7, a + u, by omega, by go_num, rfl, by omega, by omega, rfl, O7.out, HS.out, fun i hi => (HT.out i hi).1, fun i hi => (HT.out i hi).2, C7.out, G7.out⟩); (case measure => simp [intOf]; omega)
      · have hd : decide (0 < a + u - 20 + v) = false := decide_eq_false (by omega)
        go_wp2_with fail; (have Y5 := Lib.hid (Box.made w5 3 #[.int .i64 50, .int .i64 25, .int .i64 30, .int .i64 10, .int .i64 100, .int .i64 0])); (with_reducible refine (pct_draw B g _ _ (by have := C5.out.lt; omega) Y5.out (C5.out.alloc (.cells #[.int .i64 50, .int .i64 25, .int .i64 30, .int .i64 10, .int .i64 100, .int .i64 0] 3))).mono ?_); (rintro e w6 ⟨p, rfl, hp, hg6, hc6⟩); (have O6 := Lib.hid ((O5.out.alloc (.cells #[.int .i64 50, .int .i64 25, .int .i64 30, .int .i64 10, .int .i64 100, .int .i64 0] 3)).kept hg6 (.inr ((C5.out.alloc (.cells #[.int .i64 50, .int .i64 25, .int .i64 30, .int .i64 10, .int .i64 100, .int .i64 0] 3)).own_ne (O5.out.alloc (.cells #[.int .i64 50, .int .i64 25, .int .i64 30, .int .i64 10, .int .i64 100, .int .i64 0] 3)) (by decide))))); (have G6 := Lib.hid (grown_trans (grown_trans G5.out (grown_of_below ((Below.refl _ _).alloc (Nat.le_refl _) (.cells #[.int .i64 50, .int .i64 25, .int .i64 30, .int .i64 10, .int .i64 100, .int .i64 0] 3)) _)) hg6)); (have C6 := Lib.hid hc6); (have HP := Lib.hid hp); (obtain ⟨p0, p1⟩ := pctOk_bd hp); (have z6 := G6.out.size); clear hg6 hc6 hp O5 G5 C5 Y5
        go_wp2_with (at_builtin; refine wpList_app_recs rfl (.tmp 19) (.tmp 31) 25 (by rfl) w.heap.size 49 (.agg #[.int .i64 0, .int .i64 0, .int .i64 0]) 3 24 Try.underlying25 infOrder rfl (by decide) (by decide) _ n F (O6.out.alloc _) (some ⟨w6.heap.size, 0, none⟩) 1 1 (fun _ => trip (0) (a + u) p) (.inr ⟨_, _, rfl⟩) (recs_trip (Box.made w6 _ _)) (by omega) (by (try simp); omega) rfl rfl ?_)
        (intro v7 w7 o7 hg7); (obtain ⟨A7, c7, rfl, _, _⟩ := own_recs o7); (have O7 := Lib.hid o7); (have l6 := own_lo O6.out); (have C7 := Lib.hid ((C6.out.alloc (.cells #[.int .i64 (0), .int .i64 (a + u), .int .i64 p] 49)).grown hg7 (fun k e => ⟨by have h2 := C6.out.low; have := l6 k e; omega, by have := l6 k e; omega⟩))); (have G7 := Lib.hid (grown_moreO (grown_moreO G6.out (grown_of_below ((Below.refl _ _).alloc (Nat.le_refl _) (.cells #[.int .i64 (0), .int .i64 (a + u), .int .i64 p] 49)) none) (fun i e => by cases e)) hg7 (fun i e => l6 i e))); (have HS := Lib.hid (ordersB_snoc hS.out (show n + 1 ≤ 10 by omega) (show 0 ≤ 0 by omega) (show 0 ≤ 3599 by omega) (show 0 ≤ a + u by omega) (show a + u ≤ 3599 by omega) p0 p1 (fun i hi => by have := hT.out i hi; omega))); (have HT := Lib.hid (fun i hi => snoc_at (e := 0) (kn := a + u) (p := p) hT.out hP.out HP.out u0 (i := i) hi)); clear o7 hg7 l6 O6 G6 C6; go_wp2; go_roundw; (case rel => exact ⟨n + 1, _, A7, c7, a + u, by omega, by go_num, rfl, by omega, by omega, rfl, O7.out, HS.out, fun i hi => (HT.out i hi).1, fun i hi => (HT.out i hi).2, C7.out, G7.out⟩); (case measure => simp [intOf]; omega)
    · go_wp2
      go_ret
      exact ⟨n, F, A, c, rfl, O1.out, hS.out, by omega, hP.out, G1.out⟩
/-- Drawn orders come back from bytes. -/
def DrawnOQ (w : World) (e : Ending) (w' : World) : Prop :=
  ∃ (n : Nat) (F : Nat → Nat → Int) (A : Option Addr) (c : Nat), e = .returned (.slice A n c) ∧ w'.ownsRow w.heap.size 49 3 (.slice A n c) n (recs F 3 n) ∧ ordersB F n = true ∧ n ≤ 4 ∧ (∀ i, i < n → pctOk (F i 2)) ∧ Below w.heap.size w w'
theorem drawOrders_any (A : Option Addr) (n cap : Nat) (F : Nat → Int) (w : World) (hn : n ≤ 1048576) (hr : Row w .u8 A n F) : Calls Try.prog 30 #[.slice A n cap] w (DrawnOQ w) := by
  have HR := Lib.hid hr
  clear hr
  go_enter Try.func30, Try.ntmps30
  go_wp2_with fail
  with_reducible refine (new_any A n cap F _ hn HR.out).mono ?_
  rintro e w1 ⟨g, rfl, hg, hb1, hc1⟩
  have z1 := hb1.size
  go_wp2_with fail
  with_reducible refine (orders_draw _ g w1 hc1).mono ?_
  rintro e w2 ⟨m, G, A1, c1, rfl, ho, hv, hm, hT, hgw⟩
  have HO := Lib.hid (own_mono (B' := w.heap.size) ho z1)
  have HB := Lib.hid (hb1.trans (grown_below hgw hg z1))
  have HV := Lib.hid hv
  have HT := Lib.hid hT
  clear hc1 hgw ho hv hT
  go_wp2
  go_ret
  exact ⟨m, G, A1, c1, rfl, HO.out, HV.out, hm, HT.out, HB.out⟩
end Go.Proofs.Ytebgkmmmjmipnaa
