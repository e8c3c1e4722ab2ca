/- Contract of the reference's drawn members. -/
import Derived.Deep.RegionLaw
import Derived.Deep.DeepCutAuto
import Derived.Deep.CutBlock
import Derived.Test.YtgfcmeiffhffaaaJMember
import Derived.Test.YtgfcmeiffhffaaaJBack
import Derived.Test.YtgfcmeiffhffaaaJDrawM
import Derived.Test.YtgfcmeiffhffaaaJDrawEC
import Derived.Test.YtgfcmeiffhffaaaJDrawR
import Derived.Test.YtgfcmeiffhffaaaJOwnB
namespace Go.Proofs.Ytgfcmeiffhffaaa
open Go.RowKit

/-- A drawn member: a right one; its spells and events lie in rows of their own. -/
def MemQ (B g : Nat) (w : World) (e : Ending) (w' : World) : Prop :=
  ∃ (b : Int) (sn : Nat) (S : Nat → Nat → Int) (L : Nat → Bool) (SA : Option Addr) (sc : Nat) (en : Nat) (E : Nat → Nat → Int) (EA : Option Addr) (ec : Nat), e = .returned (.agg #[.int .i64 b, .int .i64 5, .slice SA sn sc, .slice EA en ec]) ∧ memberB b 5 S sn E en = true ∧
    w'.ownsRow w.heap.size 102 4 (.slice SA sn sc) sn (recV (spellV S L) 4 sn) ∧ w'.ownsRow w.heap.size 106 2 (.slice EA en ec) en (recs E 2 en) ∧ w.grownBy w' (some g) ∧ CurOk B w' g
theorem ev_two {u : Int} (u0 : 0 ≤ u) (u1 : u ≤ 20) : eventsB (numF [1, 5, 3, 30 + u] 2) 2 = true := by
  simp only [eventsB, Bool.and_eq_true, decide_eq_true_eq]
  refine ⟨allB_iff.2 fun i hi => ?_, by omega⟩
  rcases (show i = 0 ∨ i = 1 by omega) with rfl | rfl
  · rfl
  · show (stB 1 3 && inB (30 + u) 0 3599 && (decide ((1 : Nat) = 0) || decide ((5 : Int) < 30 + u))) = true
    rw [inB_true.2 (by omega), decide_eq_true (show (5 : Int) < 30 + u by omega)]
    rfl
theorem ev_three {u v : Int} (u0 : 0 ≤ u) (u1 : u < 20) (v0 : 0 ≤ v) (v1 : v < 30) : eventsB (catF (numF [1, 5, 3, 30 + u] 2) 2 (fun _ => pair 4 (60 + v))) 3 = true := by
  simp only [eventsB, Bool.and_eq_true, decide_eq_true_eq]
  refine ⟨allB_iff.2 fun i hi => ?_, by omega⟩
  rcases (show i = 0 ∨ i = 1 ∨ i = 2 by omega) with rfl | rfl | rfl
  · rfl
  · show (stB 1 3 && inB (30 + u) 0 3599 && (decide ((1 : Nat) = 0) || decide ((5 : Int) < 30 + u))) = true
    rw [inB_true.2 (by omega), decide_eq_true (show (5 : Int) < 30 + u by omega)]
    rfl
  · show (stB 3 4 && inB (60 + v) 0 3599 && (decide ((2 : Nat) = 0) || decide (30 + u < 60 + v))) = true
    rw [inB_true.2 (by omega), decide_eq_true (show (30 + u : Int) < 60 + v by omega)]
    rfl
theorem member_ok {b : Int} {S : Nat → Nat → Int} {sn : Nat} {E : Nat → Nat → Int} {en : Nat} (b0 : 0 ≤ b) (b1 : b < 4) (hs : spellsB S sn = true) (he : eventsB E en = true) : memberB b 5 S sn E en = true := by
  simp only [memberB, Bool.and_eq_true, decide_eq_true_eq]
  exact ⟨⟨⟨⟨inB_true.2 (by omega), by decide⟩, by omega⟩, hs⟩, he⟩
set_option maxRecDepth 100000 in
set_option maxHeartbeats 16000000 in
theorem member_draw (B g : Nat) (w : World) (hc : CurOk B w g) : Calls Try.prog 80 #[.pointer (some ⟨g, 0, none⟩)] w (MemQ B g w) := by
  have gl := hc.lt
  have HC := Lib.hid (hc.alloc (.cells #[.int .i64 0, .int .i64 0, .slice none 0 0, .slice none 0 0] 31))
  have X0 := Lib.hid (Box.made w 31 #[.int .i64 0, .int .i64 0, .slice none 0 0, .slice none 0 0])
  have G0 := Lib.hid (grown_of_below ((Below.refl w.heap.size w).alloc (Nat.le_refl _) (.cells #[.int .i64 0, .int .i64 0, .slice none 0 0, .slice none 0 0] 31)) (some g))
  have gn0 : w.heap.size ≠ g := by omega
  clear hc
  go_enter Try.func80, Try.ntmps80
  go_wp2_with fail
  with_reducible refine (below_draw B g 4 _ (by omega) (by omega) HC.out).mono ?_
  rintro e w1 ⟨b, b0, b1, rfl, hg1, hc1⟩
  have Y1 := Lib.hid (X0.out.grown hg1 (fun e => gn0 (Option.some.inj e)))
  have G1 := Lib.hid (grown_trans G0.out hg1)
  have C1 := Lib.hid hc1
  clear hg1 hc1 HC X0 G0
  go_wp2_with fail
  with_reducible refine (spells_draw B g _ C1.out).mono ?_
  rintro e w2 ⟨sn, S, L, SA, sc, rfl, hos, hss, hsn, hg2, hc2⟩
  have zz := Y1.out.lt
  have OS := Lib.hid ((own_mono (B' := w.heap.size + 1) hos (by omega)).alloc (.cells #[.int .i64 b, .int .i64 5, .slice SA sn sc, .slice none 0 0] 31))
  have Y2 := Lib.hid ((Y1.out.grown hg2 (fun e => gn0 (Option.some.inj e))).alloc (.cells #[.int .i64 b, .int .i64 5, .slice SA sn sc, .slice none 0 0] 31))
  have R2 := Lib.hid (Box.made w2 31 #[.int .i64 b, .int .i64 5, .slice SA sn sc, .slice none 0 0])
  have G2 := Lib.hid (grown_trans (grown_trans G1.out hg2) (grown_of_below ((Below.refl _ _).alloc (Nat.le_refl _) (.cells #[.int .i64 b, .int .i64 5, .slice SA sn sc, .slice none 0 0] 31)) (some g)))
  have C2 := Lib.hid (hc2.alloc (.cells #[.int .i64 b, .int .i64 5, .slice SA sn sc, .slice none 0 0] 31))
  have gl2 := hc2.lt
  have wl2 : w.heap.size < w2.heap.size := by have := hg2.size; omega
  have as2 : ∀ i, (Value.slice SA sn sc).ownBlock = some i → i < w2.heap.size := own_hi hos
  clear hos hg2 hc2 Y1 G1 C1
  go_wp2_with fail
  generalize w2.alloc (.cells #[.int .i64 b, .int .i64 5, .slice SA sn sc, .slice none 0 0] 31) = W2 at *
  generalize w2.heap.size = g2 at *
  have gn2 : g2 ≠ g := by omega
  with_reducible refine (below_draw B g 20 _ (by omega) (by omega) C2.out).mono ?_
  rintro e w3 ⟨u, u0, u1, rfl, hg3, hc3⟩
  have z3 := hg3.size
  have o3 := OS.out.kept hg3 (.inr (C2.out.own_ne OS.out (by decide)))
  have y3 := Y2.out.grown hg3 (fun e => gn0 (Option.some.inj e))
  have r3 := R2.out.grown hg3 (fun e => gn2 (Option.some.inj e))
  have G3a := grown_trans G2.out hg3
  have t3 := r3.cell 3
  have f3 := r3.frozen 3
  have l3 := r3.lt
  have lw3 := y3.lt
  simp at t3
  have s3 := grown_set (grown_refl w3 (some g2)) 3 (.slice (some ⟨w3.heap.size, 0, none⟩) 2 2)
  have nS : (Value.slice SA sn sc).ownBlock ≠ some g2 := fun e => by have := as2 _ e; omega
  have O3 := Lib.hid ((o3.kept s3 (.inr nS)).alloc (.cells #[.int .i64 1, .int .i64 5, .int .i64 3, .int .i64 (30 + u)] 106))
  have Y3 := Lib.hid ((y3.grown s3 (fun e => by have := Option.some.inj e; omega)).alloc (.cells #[.int .i64 1, .int .i64 5, .int .i64 3, .int .i64 (30 + u)] 106))
  have R3 := Lib.hid (show Box ((w3.setCell ⟨g2, 3, none⟩ (.slice (some ⟨w3.heap.size, 0, none⟩) 2 2)).alloc (.cells #[.int .i64 1, .int .i64 5, .int .i64 3, .int .i64 (30 + u)] 106)) g2 31 #[.int .i64 b, .int .i64 5, .slice SA sn sc, (.slice (some ⟨w3.heap.size, 0, none⟩) 2 2)] from by simpa using ((r3.put 3 (.slice (some ⟨w3.heap.size, 0, none⟩) 2 2)).alloc (.cells #[.int .i64 1, .int .i64 5, .int .i64 3, .int .i64 (30 + u)] 106)))
  have C3 := Lib.hid ((hc3.grown s3 (fun i e => by cases e; have := hc3.low; exact ⟨by omega, gn2⟩)).alloc (.cells #[.int .i64 1, .int .i64 5, .int .i64 3, .int .i64 (30 + u)] 106))
  have G3 := Lib.hid (grown_trans (grown_moreC G3a s3 (fun i e => by cases e; omega)) (grown_of_below ((Below.refl _ _).alloc (Nat.le_refl _) (.cells #[.int .i64 1, .int .i64 5, .int .i64 3, .int .i64 (30 + u)] 106)) (some g)))
  have E3 := Lib.hid (own_nums (w := ((w3.setCell ⟨g2, 3, none⟩ (.slice (some ⟨w3.heap.size, 0, none⟩) 2 2)).alloc (.cells #[.int .i64 1, .int .i64 5, .int .i64 3, .int .i64 (30 + u)] 106))) (base := g2 + 1) (g := w3.heap.size) (k := 2) (n := 2) [1, 5, 3, 30 + u] (by omega) (by omega) (Box.made_at (w := w3.setCell ⟨g2, 3, none⟩ (.slice (some ⟨w3.heap.size, 0, none⟩) 2 2)) (t := 106) (cs := #[.int .i64 1, .int .i64 5, .int .i64 3, .int .i64 (30 + u)]) (g := w3.heap.size) (by simp)) rfl rfl (by omega))
  have n3 : w3.heap.size ≠ g := by have := hc3.lt; omega
  clear o3 y3 r3 G3a s3 hg3 hc3 OS Y2 R2 G2 C2
  have ev2 := Lib.hid (ev_two (u := u) (by omega) (by omega))
  have ev3 := Lib.hid (show ∀ v : Int, 0 ≤ v → v < 30 → eventsB (catF (numF [1, 5, 3, 30 + u] 2) 2 (fun _ => pair 4 (60 + v))) 3 = true from fun v v0 v1 => ev_three (by omega) (by omega) v0 v1)
  go_wp2_with fail
  generalize ((w3.setCell ⟨g2, 3, none⟩ (.slice (some ⟨w3.heap.size, 0, none⟩) 2 2)).alloc (.cells #[.int .i64 1, .int .i64 5, .int .i64 3, .int .i64 (30 + u)] 106)) = W3 at *
  generalize w3.heap.size = g3 at *
  generalize numF [1, 5, 3, 30 + u] 2 = FE at *
  clear t3 f3 l3 lw3
  with_reducible refine (below_draw B g 6 _ (by omega) (by omega) C3.out).mono ?_
  rintro e w4 ⟨y, y0, y1, rfl, hg4, hc4⟩
  have O4 := Lib.hid (O3.out.kept hg4 (.inr (C3.out.own_ne O3.out (by decide))))
  have Y4 := Lib.hid (Y3.out.grown hg4 (fun e => gn0 (Option.some.inj e)))
  have R4 := Lib.hid (R3.out.grown hg4 (fun e => gn2 (Option.some.inj e)))
  have E4 := Lib.hid (E3.out.kept hg4 (.inr (C3.out.own_ne E3.out (by decide))))
  have G4 := Lib.hid (grown_trans G3.out hg4)
  have C4 := Lib.hid hc4
  clear hg4 hc4 O3 Y3 R3 E3 G3 C3
  go_upto_block 0 with fail
  go_cut [3, 17] (fun s3 _ wx => ∃ (en : Nat) (E : Nat → Nat → Int) (EA : Option Addr) (ec : Nat), s3 = .pointer (some ⟨g2, 0, none⟩) ∧ Hid (eventsB E en = true) ∧ wx.ownsRow (w.heap.size + 1) 106 2 (.slice EA en ec) en (recs E 2 en) ∧ wx.ownsRow (w.heap.size + 1) 102 4 (.slice SA sn sc) sn (recV (spellV S L) 4 sn) ∧ w.grownBy wx (some g) ∧ CurOk B wx g ∧ Box wx w.heap.size 31 #[.int .i64 0, .int .i64 0, .slice none 0 0, .slice none 0 0] ∧ Box wx g2 31 #[.int .i64 b, .int .i64 5, .slice SA sn sc, .slice EA en ec])
  case first =>
    by_cases h0 : y = 0
    · subst h0
      have FD := Lib.hid (below_draw B g 30 w4.drew (by omega) (by omega) (show CurOk B w4.drew g from C4.out))
      have OD := Lib.hid (own_below O4.out (Below.refl _ _).drew)
      have ED := Lib.hid (own_below E4.out (Below.refl _ _).drew)
      have GD := Lib.hid (show w.grownBy w4.drew (some g) from ⟨G4.out.os, G4.out.tape, G4.out.output, G4.out.size, G4.out.block⟩)
      have YD := Lib.hid (show Box w4.drew w.heap.size 31 #[.int .i64 0, .int .i64 0, .slice none 0 0, .slice none 0 0] from Y4.out)
      have RD := Lib.hid (show Box w4.drew g2 31 #[.int .i64 b, .int .i64 5, .slice SA sn sc, .slice (some ⟨g3, 0, none⟩) 2 2] from R4.out)
      have neO := C4.out.own_ne O4.out (by decide)
      have neE := C4.out.own_ne E4.out (by decide)
      have td := R4.out.cell 3
      have ld := R4.out.lt
      simp at td
      go_upto_region 5 with fail
      clear O4 Y4 R4 E4 G4 C4
      go_region_law (first | (go_simp; go_at_call 50; (with_reducible refine FD.out.mono ?_); rintro e w5 ⟨v, v0, v1, rfl, hg5, hc5⟩; have r5 := RD.out.grown hg5 (fun e => gn2 (Option.some.inj e)); have tc5 := r5.cell 3; (simp at tc5); have u5 := r5.lt; have R5 := Lib.hid r5; have E5 := Lib.hid (ED.out.kept hg5 (.inr neE)); have hw5 : IntKind.i64.wrap (60 + v) = 60 + v := (by rw [IntKind.wrap_i64]; omega)) | (refine step_app_recs (w := w5.alloc (.cells #[.int .i64 4, .int .i64 (60 + v)] 106)) (by rfl) (.tmp 21) (.tmp 26) 29 (by rfl) (g2 + 1) 106 (.agg #[.int .i64 0, .int .i64 0]) 2 16 Try.underlying29 infEvent rfl (by decide) (by decide) _ 2 FE (E5.out.alloc _) (some ⟨w5.heap.size, 0, none⟩) 1 1 (fun _ => pair 4 (60 + v)) (.inr ⟨_, _, rfl⟩) (recs_pair (Box.made w5 _ _)) (by omega) (by simp; omega) (by rfl) (by rfl) ?_; intro v7 w7 o7 hg7; obtain ⟨A7, c7, rfl, _, _⟩ := own_recs o7; have z7 := (R5.out.alloc (.cells #[.int .i64 4, .int .i64 (60 + v)] 106)).grown hg7 (box_apart_lt (Nat.lt_succ_self _) (own_lo E5.out)); have tc7 := z7.cell 3; (simp at tc7); have tf7 := z7.frozen 3; have u7 := z7.lt))
      all_goals
        have l5 := own_lo E5.out
        have O6 := own_below (OD.out.kept hg5 (.inr neO)) ((Below.refl _ _).alloc (Nat.le_refl _) (.cells #[.int .i64 4, .int .i64 (60 + v)] 106))
        have O7 := O6.kept hg7 (own_own_ne O6 (own_below E5.out ((Below.refl _ _).alloc (Nat.le_refl _) (.cells #[.int .i64 4, .int .i64 (60 + v)] 106))) (by decide))
        have C7 := (hc5.alloc (.cells #[.int .i64 4, .int .i64 (60 + v)] 106)).grown hg7 (fun k e => ⟨by have h2 := hc5.low; have := l5 k e; omega, by have := l5 k e; omega⟩)
        have G7 := grown_moreC (grown_moreC (grown_trans GD.out hg5) (grown_of_below ((Below.refl _ _).alloc (Nat.le_refl _) (.cells #[.int .i64 4, .int .i64 (60 + v)] 106)) none) (fun i e => by cases e)) hg7 (fun i e => by have := l5 i e; omega)
        have Y7 := ((YD.out.grown hg5 (fun e => gn0 (Option.some.inj e))).alloc (.cells #[.int .i64 4, .int .i64 (60 + v)] 106)).grown hg7 (box_apart_lt (by omega) l5)
        have s9 := grown_set (grown_refl w7 (some g2)) 3 (.slice A7 3 c7)
        have C9 := Lib.hid (C7.grown s9 (fun i e => by cases e; have := C7.low; exact ⟨by omega, gn2⟩))
        have G9 := Lib.hid (grown_moreC G7 s9 (fun i e => by cases e; omega))
        have O9 := Lib.hid (O7.kept s9 (.inr nS))
        have E9 := Lib.hid (own_mono (B' := w.heap.size + 1) (o7.kept s9 (.inr (fun e => by have := own_lo o7 _ e; omega))) (by omega))
        have Y9 := Lib.hid (Y7.grown s9 (fun e => by have := Option.some.inj e; omega))
        have R9 := Lib.hid (show Box (w7.setCell ⟨g2, 3, none⟩ (.slice A7 3 c7)) g2 31 #[.int .i64 b, .int .i64 5, .slice SA sn sc, .slice A7 3 c7] from by simpa using z7.put 3 (.slice A7 3 c7))
        have V9 := Lib.hid (ev3.out v v0 (by omega))
        clear O6 O7 C7 G7 Y7 s9 z7 o7 hg7 hg5 hc5 E5 R5
        go_wp2_with fail
        go_meet
        exact ⟨3, _, A7, c7, rfl, V9.out, E9.out, O9.out, G9.out, C9.out, Y9.out, R9.out⟩
    · by_cases h1 : y = 1
      · subst h1
        go_wp2_with fail
        with_reducible refine (eventsC_draw B g _ C4.out).mono ?_
        rintro e w5 ⟨n5, F5, A5, c5, rfl, o5, he5, hn5, _, hg5, hc5⟩
        have z4 := G4.out.size
        have lw4 := R4.out.lt
        have O5 := O4.out.kept hg5 (.inr (C4.out.own_ne O4.out (by decide)))
        have Y5 := Y4.out.grown hg5 (fun e => gn0 (Option.some.inj e))
        have R5 := R4.out.grown hg5 (fun e => gn2 (Option.some.inj e))
        have G5 := grown_trans G4.out hg5
        have t5 := R5.cell 3
        have f5 := R5.frozen 3
        have l5 := R5.lt
        simp at t5
        have s9 := grown_set (grown_refl w5 (some g2)) 3 (.slice A5 n5 c5)
        have C9 := Lib.hid (hc5.grown s9 (fun i e => by cases e; have := hc5.low; exact ⟨by omega, gn2⟩))
        have G9 := Lib.hid (grown_moreC G5 s9 (fun i e => by cases e; omega))
        have O9 := Lib.hid (O5.kept s9 (.inr nS))
        have E9 := Lib.hid (own_mono (B' := w.heap.size + 1) (o5.kept s9 (.inr (fun e => by have := own_lo o5 _ e; omega))) (by omega))
        have Y9 := Lib.hid (Y5.grown s9 (fun e => by have := Option.some.inj e; omega))
        have R9 := Lib.hid (show Box (w5.setCell ⟨g2, 3, none⟩ (.slice A5 n5 c5)) g2 31 #[.int .i64 b, .int .i64 5, .slice SA sn sc, .slice A5 n5 c5] from by simpa using R5.put 3 (.slice A5 n5 c5))
        clear O5 Y5 R5 G5 s9 hg5 hc5 o5 O4 Y4 R4 E4 G4 C4
        go_wp2_with fail
        go_meet
        exact ⟨n5, F5, A5, c5, rfl, he5, E9.out, O9.out, G9.out, C9.out, Y9.out, R9.out⟩
      · have b0 : (y == 0) = false := by simp [h0]
        have b1 : (y == 1) = false := by simp [h1]
        go_wp2_with fail
        go_meet
        exact ⟨2, FE, _, _, rfl, ev2.out, own_mono E4.out (by omega), O4.out, G4.out, C4.out, Y4.out, R4.out⟩
  case rest =>
    obtain ⟨wv, rfl⟩ : ∃ w0 : World, w0 = wc := ⟨_, rfl⟩
    clear O4 Y4 R4 E4 G4 C4 ev2 ev3
    obtain ⟨en, E, EA, ec, rfl, hE, hoE, hoS, hg, hcv, hx, hr⟩ := hcut
    obtain ⟨t0, t1, t2, t3⟩ := (show _ ∧ _ ∧ _ ∧ _ from ⟨hr.cell 0, hr.cell 1, hr.cell 2, hr.cell 3⟩)
    obtain ⟨s0, s1, s2, s3⟩ := (show _ ∧ _ ∧ _ ∧ _ from ⟨hx.cell 0, hx.cell 1, hx.cell 2, hx.cell 3⟩)
    obtain ⟨f0, f1, f2, f3⟩ := (show _ ∧ _ ∧ _ ∧ _ from ⟨hx.frozen 0, hx.frozen 1, hx.frozen 2, hx.frozen 3⟩)
    simp at t0 t1 t2 t3 s0 s1 s2 s3
    have lv := hx.lt
    have lr := hr.lt
    have HG := Lib.hid (grown_set (grown_set (grown_set (grown_set (grown_refl wv (some w.heap.size)) 0 (.int .i64 b)) 1 (.int .i64 5)) 2 (.slice SA sn sc)) 3 (.slice EA en ec))
    have HG9 := Lib.hid (grown_moreC hg HG.out (fun i e => by cases e; exact Nat.le_refl _))
    have HC9 := Lib.hid (hcv.grown HG.out (fun i e => by cases e; have := hcv.low; exact ⟨by omega, gn0⟩))
    have HS9 := Lib.hid (own_mono (B' := w.heap.size) (hoS.kept HG.out (.inr (fun e => by have := own_lo hoS _ e; omega))) (Nat.le_succ _))
    have HE9 := Lib.hid (own_mono (B' := w.heap.size) (hoE.kept HG.out (.inr (fun e => by have := own_lo hoE _ e; omega))) (Nat.le_succ _))
    have HM := Lib.hid (member_ok b0 (show b < 4 by omega) hss hE.out)
    clear hoS hoE hg hcv hx hr HG
    go_wp2
    exact bodyPost_ret (v := .agg #[.int .i64 b, .int .i64 5, .slice SA sn sc, .slice EA en ec]) (by simp [results, Try.results80, go_sem, *]) rfl ⟨b, sn, S, L, SA, sc, en, E, EA, ec, rfl, HM.out, HS9.out, HE9.out, HG9.out, HC9.out⟩
end Go.Proofs.Ytgfcmeiffhffaaa
