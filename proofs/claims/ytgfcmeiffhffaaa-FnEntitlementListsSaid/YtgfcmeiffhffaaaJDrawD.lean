/- Contract of the reference's DrawCase. -/
import Derived.Deep.RegionLaw
import Derived.Deep.DeepCutAuto
import Derived.Test.YtgfcmeiffhffaaaJDrawK
import Derived.Test.YtgfcmeiffhffaaaJAddR
import Derived.Test.YtgfcmeiffhffaaaJDrawP
import Derived.Test.YtgfcmeiffhffaaaJFront
import Derived.Test.YtgfcmeiffhffaaaJEnts
namespace Go.Proofs.Ytgfcmeiffhffaaa
open Go.RowKit

/-- All that a case is made of lies in rows of the call's own. -/
structure CS.Own (c : CS) (w : World) (base : Nat) : Prop where
  r : OwnRules w base c.RA c.rn c.rc c.R c.NA c.Nn c.Nc c.NF
  f : w.ownsRow base 124 5 (.slice c.FA c.fn c.fc) c.fn (recs c.F 5 c.fn)
  p : w.ownsRow base 126 3 (.slice c.PA c.pn c.pc) c.pn (recs c.P 3 c.pn)
  s : w.ownsRow base 102 4 (.slice c.SA c.sn c.sc) c.sn (recV (spellV c.S c.L) 4 c.sn)
  e : w.ownsRow base 106 2 (.slice c.EA c.en c.ec) c.en (recs c.E 2 c.en)
def CS.ok (c : CS) : Bool := caseB c.R c.Nn c.NF c.rn c.F c.fn c.P c.pn c.b c.j c.S c.sn c.E c.en
section
variable {w w' : World} {base : Nat} {c : CS}
theorem CS.Own.below (h : c.Own w base) (hb : Below w.heap.size w w') : c.Own w' base := ⟨h.r.below hb, own_below h.f hb, own_below h.p hb, own_below h.s hb, own_below h.e hb⟩
theorem CS.Own.alloc (h : c.Own w base) (o : Obj) : c.Own (w.alloc o) base := h.below ((Below.refl _ _).alloc (Nat.le_refl _) o)
theorem CS.Own.mono {B' : Nat} (h : c.Own w base) (hB : B' ≤ base) : c.Own w B' := ⟨h.r.mono hB, own_mono h.f hB, own_mono h.p hB, own_mono h.s hB, own_mono h.e hB⟩
theorem CS.Own.cur {B g : Nat} (h : c.Own w base) (hc : CurOk B w g) (hg : w.grownBy w' (some g)) : c.Own w' base :=
  ⟨h.r.cur hc hg, h.f.kept hg (.inr (hc.own_ne h.f (by decide))), h.p.kept hg (.inr (hc.own_ne h.p (by decide))), h.s.kept hg (.inr (hc.own_ne h.s (by decide))), h.e.kept hg (.inr (hc.own_ne h.e (by decide)))⟩
theorem CS.Own.boxC {b : Nat} {cs : Array Value} (h : c.Own w base) (hg : w.grownBy w' (some b)) (hx : Box w b 58 cs) : c.Own w' base :=
  ⟨h.r.boxT hg hx (by decide) (by decide), h.f.kept hg (.inr (own_box_ne h.f hx (by decide))), h.p.kept hg (.inr (own_box_ne h.p hx (by decide))), h.s.kept hg (.inr (own_box_ne h.s hx (by decide))), h.e.kept hg (.inr (own_box_ne h.e hx (by decide)))⟩
theorem CS.Own.good (h : c.Own w base) (hk : c.ok = true) : c.Good := ⟨hk, own_hd h.f, own_hd h.e⟩
theorem CS.Own.at (h : c.Own w base) (hk : c.ok = true) : c.At w := by
  obtain ⟨h1, h2, h3, h4, h5, _⟩ := (h.good hk).parts
  simp only [bookB, storeB, seriesB, spellsB, eventsB, Bool.and_eq_true, decide_eq_true_eq] at h1 h2 h3 h4 h5
  exact ⟨h.r.rules, own_cap h.r.row, own_rec h.f, own_rec h.p, own_recv h.s, own_rec h.e, by omega, by omega, by omega, by omega, by omega⟩
end
theorem ok_book {c : CS} (h : c.ok = true) : bookB c.R c.Nn c.NF c.rn = true := by
  simp only [CS.ok, caseB, Bool.and_eq_true] at h
  exact h.1
theorem ok_put {c : CS} (h : c.ok = true) {R : Nat → Nat → Int} {Nn : Nat → Nat} {NF : Nat → Nat → Nat → Int} {n : Nat} (hb : bookB R Nn NF n = true) : caseB R Nn NF n c.F c.fn c.P c.pn c.b c.j c.S c.sn c.E c.en = true := by
  simp only [CS.ok, caseB, Bool.and_eq_true] at h ⊢
  exact ⟨hb, h.2⟩
theorem ok_first {F P S E : Nat → Nat → Int} {fn pn sn en : Nat} {b v : Int} {R : Nat → Nat → Int} {Nn : Nat → Nat} {NF : Nat → Nat → Nat → Int} (hF : storeB F fn = true) (hfn : fn ≤ 9) (hP : seriesB P pn = true) (hM : memberB b 5 S sn E en = true) (v0 : 0 ≤ v) (v1 : v < 300) :
    caseB R Nn NF 0 (catF (fun _ => fiv 1 0 80 0 (200000 + v * 100)) 1 F) (1 + fn) P pn b 5 S sn E en = true := by
  simp only [caseB, Bool.and_eq_true]
  refine ⟨rfl, ?_, hP, hM⟩
  refine store_front hF (by omega) ?_
  simp only [factB, Bool.and_eq_true]
  exact ⟨by decide, by decide, by decide, inB_true.2 (by omega)⟩
/-- A drawn case: a right one, in rows of its own. -/
def CaseDQ (B g : Nat) (w : World) (e : Ending) (w' : World) : Prop :=
  ∃ c : CS, e = .returned (.agg #[.slice c.RA c.rn c.rc, .slice c.FA c.fn c.fc, .slice c.PA c.pn c.pc, .int .i64 c.b, .int .i64 c.j, .slice c.SA c.sn c.sc, .slice c.EA c.en c.ec]) ∧ c.ok = true ∧ c.Own w' w.heap.size ∧ w.grownBy w' (some g) ∧ CurOk B w' g
set_option maxRecDepth 100000 in
set_option maxHeartbeats 16000000 in
theorem case_draw (B g : Nat) (w : World) (hc : CurOk B w g) : Calls Try.prog 48 #[.pointer (some ⟨g, 0, none⟩)] w (CaseDQ B g w) := by
  have gl := hc.lt
  have HC := Lib.hid (hc.alloc (.cells #[.slice none 0 0, .slice none 0 0, .slice none 0 0, .int .i64 0, .int .i64 0, .slice none 0 0, .slice none 0 0] 58))
  have X0 := Lib.hid (Box.made w 58 #[.slice none 0 0, .slice none 0 0, .slice none 0 0, .int .i64 0, .int .i64 0, .slice none 0 0, .slice none 0 0])
  have G0 := Lib.hid (grown_of_below ((Below.refl w.heap.size w).alloc (Nat.le_refl _) (.cells #[.slice none 0 0, .slice none 0 0, .slice none 0 0, .int .i64 0, .int .i64 0, .slice none 0 0, .slice none 0 0] 58)) (some g))
  have gn0 : w.heap.size ≠ g := by omega
  have z0 : (w.alloc (.cells #[.slice none 0 0, .slice none 0 0, .slice none 0 0, .int .i64 0, .int .i64 0, .slice none 0 0, .slice none 0 0] 58)).heap.size = w.heap.size + 1 := by simp
  clear hc
  go_enter Try.func48, Try.ntmps48
  go_wp2_with fail
  generalize w.alloc (.cells #[.slice none 0 0, .slice none 0 0, .slice none 0 0, .int .i64 0, .int .i64 0, .slice none 0 0, .slice none 0 0] 58) = W0 at *
  with_reducible refine (store_draw B g _ HC.out).mono ?_
  rintro e w1 ⟨fn, F, FA, fc, rfl, of, hF, hfn, hg1, hc1⟩
  have F1 := Lib.hid (own_mono of (show w.heap.size + 1 ≤ W0.heap.size by omega))
  have Y1 := Lib.hid (X0.out.grown hg1 (fun e => gn0 (Option.some.inj e)))
  have G1 := Lib.hid (grown_trans G0.out hg1)
  have C1 := Lib.hid hc1
  have z1 := hg1.size
  clear of hg1 hc1 HC X0 G0
  go_wp2_with fail
  with_reducible refine (series_draw B g _ C1.out).mono ?_
  rintro e w2 ⟨pn, P, PA, pc, rfl, op, hP, hpn, hg2, hc2⟩
  have F2 := Lib.hid (F1.out.kept hg2 (.inr (C1.out.own_ne F1.out (by decide))))
  have P2 := Lib.hid (own_mono op (show w.heap.size + 1 ≤ w1.heap.size by omega))
  have Y2 := Lib.hid (Y1.out.grown hg2 (fun e => gn0 (Option.some.inj e)))
  have G2 := Lib.hid (grown_trans G1.out hg2)
  have C2 := Lib.hid hc2
  have z2 := hg2.size
  clear op hg2 hc2 F1 Y1 G1 C1
  go_wp2_with fail
  with_reducible refine (member_draw B g _ C2.out).mono ?_
  rintro e w3 ⟨b, sn, S, L, SA, sc, en, E, EA, ec, rfl, hM, os, oe, hg3, hc3⟩
  have F3 := Lib.hid (own_below (F2.out.kept hg3 (.inr (C2.out.own_ne F2.out (by decide)))) ((Below.refl _ _).alloc (Nat.le_refl _) (.cells #[.slice none 0 0, .slice FA fn fc, .slice PA pn pc, .int .i64 b, .int .i64 5, .slice SA sn sc, .slice EA en ec] 58)))
  have P3 := Lib.hid (own_below (P2.out.kept hg3 (.inr (C2.out.own_ne P2.out (by decide)))) ((Below.refl _ _).alloc (Nat.le_refl _) (.cells #[.slice none 0 0, .slice FA fn fc, .slice PA pn pc, .int .i64 b, .int .i64 5, .slice SA sn sc, .slice EA en ec] 58)))
  have S3 := Lib.hid (own_below (own_mono os (show w.heap.size + 1 ≤ w2.heap.size by omega)) ((Below.refl _ _).alloc (Nat.le_refl _) (.cells #[.slice none 0 0, .slice FA fn fc, .slice PA pn pc, .int .i64 b, .int .i64 5, .slice SA sn sc, .slice EA en ec] 58)))
  have E3 := Lib.hid (own_below (own_mono oe (show w.heap.size + 1 ≤ w2.heap.size by omega)) ((Below.refl _ _).alloc (Nat.le_refl _) (.cells #[.slice none 0 0, .slice FA fn fc, .slice PA pn pc, .int .i64 b, .int .i64 5, .slice SA sn sc, .slice EA en ec] 58)))
  have Y3 := Lib.hid ((Y2.out.grown hg3 (fun e => gn0 (Option.some.inj e))).alloc (.cells #[.slice none 0 0, .slice FA fn fc, .slice PA pn pc, .int .i64 b, .int .i64 5, .slice SA sn sc, .slice EA en ec] 58))
  have R3 := Lib.hid (Box.made w3 58 #[.slice none 0 0, .slice FA fn fc, .slice PA pn pc, .int .i64 b, .int .i64 5, .slice SA sn sc, .slice EA en ec])
  have G3 := Lib.hid (grown_trans (grown_trans G2.out hg3) (grown_of_below ((Below.refl _ _).alloc (Nat.le_refl _) (.cells #[.slice none 0 0, .slice FA fn fc, .slice PA pn pc, .int .i64 b, .int .i64 5, .slice SA sn sc, .slice EA en ec] 58)) (some g)))
  have C3 := Lib.hid (hc3.alloc (.cells #[.slice none 0 0, .slice FA fn fc, .slice PA pn pc, .int .i64 b, .int .i64 5, .slice SA sn sc, .slice EA en ec] 58))
  have zg := hg3.size
  have wl3 : w.heap.size < w3.heap.size := by omega
  have gn3 : w3.heap.size ≠ g := by have := hc3.lt; omega
  clear os oe hg3 hc3 F2 P2 Y2 G2 C2 z1 z2 zg
  go_upto_region 2 with fail
  generalize w3.alloc (.cells #[.slice none 0 0, .slice FA fn fc, .slice PA pn pc, .int .i64 b, .int .i64 5, .slice SA sn sc, .slice EA en ec] 58) = W3 at *
  generalize w3.heap.size = g3 at *
  clear z0
  go_cut [4] (fun _ wx => ∃ c : CS, c.rn = 0 ∧ Hid (c.ok = true) ∧ c.Own wx (w.heap.size + 1) ∧ w.grownBy wx (some g) ∧ CurOk B wx g ∧ Box wx w.heap.size 58 #[.slice none 0 0, .slice none 0 0, .slice none 0 0, .int .i64 0, .int .i64 0, .slice none 0 0, .slice none 0 0] ∧ Box wx g3 58 #[.slice c.RA c.rn c.rc, .slice c.FA c.fn c.fc, .slice c.PA c.pn c.pc, .int .i64 c.b, .int .i64 c.j, .slice c.SA c.sn c.sc, .slice c.EA c.en c.ec])
  case first =>
    have FD := Lib.hid (below_draw B g 300 W3.drew (by omega) (by omega) (show CurOk B W3.drew g from C3.out))
    have GD := Lib.hid (show w.grownBy W3.drew (some g) from ⟨G3.out.os, G3.out.tape, G3.out.output, G3.out.size, G3.out.block⟩)
    have YD := Lib.hid (show Box W3.drew w.heap.size 58 #[.slice none 0 0, .slice none 0 0, .slice none 0 0, .int .i64 0, .int .i64 0, .slice none 0 0, .slice none 0 0] from Y3.out)
    have RD := Lib.hid (show Box W3.drew g3 58 #[.slice none 0 0, .slice FA fn fc, .slice PA pn pc, .int .i64 b, .int .i64 5, .slice SA sn sc, .slice EA en ec] from R3.out)
    have DF := Lib.hid (own_below F3.out (Below.refl _ _).drew)
    have DP := Lib.hid (own_below P3.out (Below.refl _ _).drew)
    have DS := Lib.hid (own_below S3.out (Below.refl _ _).drew)
    have DE := Lib.hid (own_below E3.out (Below.refl _ _).drew)
    have CD := Lib.hid (show CurOk B W3.drew g from C3.out)
    have td := R3.out.cell 1
    have ld := R3.out.lt
    simp at td
    clear F3 P3 S3 E3 Y3 R3 G3 C3
    go_region_law (first | (go_simp; go_at_call 50; (with_reducible refine FD.out.mono ?_); rintro e w5 ⟨v, v0, v1, rfl, hg5, hc5⟩; have r5 := RD.out.grown hg5 (fun e => gn3 (Option.some.inj e)); have tc5 := r5.cell 1; (simp at tc5); have u5 := r5.lt; have R5 := Lib.hid r5; have F5 := Lib.hid (DF.out.kept hg5 (.inr (CD.out.own_ne DF.out (by decide)))); have zz5 : w.heap.size + 1 ≤ w5.heap.size := (by omega); have N5 := Lib.hid (own_of_box (w := w5.alloc (.cells #[.int .i64 1, .int .i64 0, .int .i64 80, .int .i64 0, .int .i64 (200000 + v * 100)] 124)) (base := w.heap.size + 1) (k := 5) (n := 1) (F := fun _ => fiv 1 0 80 0 (200000 + v * 100)) (by omega) zz5 (Box.made w5 124 _) rfl (by decide) (fun i hi j hj => by obtain rfl : i = 0 := (by omega); rcases (show j = 0 ∨ j = 1 ∨ j = 2 ∨ j = 3 ∨ j = 4 by omega) with rfl | rfl | rfl | rfl | rfl <;> rfl)); have hw5 : IntKind.i64.wrap (v * 100) = v * 100 := (by rw [IntKind.wrap_i64]; omega); have hw6 : IntKind.i64.wrap (200000 + v * 100) = 200000 + v * 100 := (by rw [IntKind.wrap_i64]; omega)) | (refine step_app_recs (w := w5.alloc (.cells #[.int .i64 1, .int .i64 0, .int .i64 80, .int .i64 0, .int .i64 (200000 + v * 100)] 124)) (by rfl) (.tmp 17) (.tmp 20) 51 (by rfl) (w.heap.size + 1) 124 (.agg #[.int .i64 0, .int .i64 0, .int .i64 0, .int .i64 0, .int .i64 0]) 5 40 Try.underlying51 infFact rfl (by decide) (by decide) _ 1 _ N5.out FA fn fc F (own_anyA F5.out) (own_rec (own_below F5.out ((Below.refl _ _).alloc (Nat.le_refl _) (.cells #[.int .i64 1, .int .i64 0, .int .i64 80, .int .i64 0, .int .i64 (200000 + v * 100)] 124)))) (by omega) (by simp; omega) (by rfl) (by rfl) ?_; intro v7 w7 o7 hg7; obtain ⟨A7, c7, rfl, _, _⟩ := own_recs o7; have z7 := (R5.out.alloc (.cells #[.int .i64 1, .int .i64 0, .int .i64 80, .int .i64 0, .int .i64 (200000 + v * 100)] 124)).grown hg7 (box_ne_own (R5.out.alloc (.cells #[.int .i64 1, .int .i64 0, .int .i64 80, .int .i64 0, .int .i64 (200000 + v * 100)] 124)) N5.out (by decide)); have tc7 := z7.cell 1; (simp at tc7); have tf7 := z7.frozen 1; have u7 := z7.lt))
    all_goals
      have l5 := own_lo N5.out
      have P7 := (own_below (DP.out.kept hg5 (.inr (CD.out.own_ne DP.out (by decide)))) ((Below.refl _ _).alloc (Nat.le_refl _) (.cells #[.int .i64 1, .int .i64 0, .int .i64 80, .int .i64 0, .int .i64 (200000 + v * 100)] 124))).kept hg7 (own_own_ne (own_below (DP.out.kept hg5 (.inr (CD.out.own_ne DP.out (by decide)))) ((Below.refl _ _).alloc (Nat.le_refl _) (.cells #[.int .i64 1, .int .i64 0, .int .i64 80, .int .i64 0, .int .i64 (200000 + v * 100)] 124))) N5.out (by decide))
      have S7 := (own_below (DS.out.kept hg5 (.inr (CD.out.own_ne DS.out (by decide)))) ((Below.refl _ _).alloc (Nat.le_refl _) (.cells #[.int .i64 1, .int .i64 0, .int .i64 80, .int .i64 0, .int .i64 (200000 + v * 100)] 124))).kept hg7 (own_own_ne (own_below (DS.out.kept hg5 (.inr (CD.out.own_ne DS.out (by decide)))) ((Below.refl _ _).alloc (Nat.le_refl _) (.cells #[.int .i64 1, .int .i64 0, .int .i64 80, .int .i64 0, .int .i64 (200000 + v * 100)] 124))) N5.out (by decide))
      have E7 := (own_below (DE.out.kept hg5 (.inr (CD.out.own_ne DE.out (by decide)))) ((Below.refl _ _).alloc (Nat.le_refl _) (.cells #[.int .i64 1, .int .i64 0, .int .i64 80, .int .i64 0, .int .i64 (200000 + v * 100)] 124))).kept hg7 (own_own_ne (own_below (DE.out.kept hg5 (.inr (CD.out.own_ne DE.out (by decide)))) ((Below.refl _ _).alloc (Nat.le_refl _) (.cells #[.int .i64 1, .int .i64 0, .int .i64 80, .int .i64 0, .int .i64 (200000 + v * 100)] 124))) N5.out (by decide))
      have C7 := (hc5.alloc (.cells #[.int .i64 1, .int .i64 0, .int .i64 80, .int .i64 0, .int .i64 (200000 + v * 100)] 124)).grown hg7 (fun k e => ⟨by have h2 := hc5.low; have := l5 k e; omega, by have := l5 k e; omega⟩)
      have G7 := grown_moreC (grown_moreC (grown_trans GD.out hg5) (grown_of_below ((Below.refl _ _).alloc (Nat.le_refl _) (.cells #[.int .i64 1, .int .i64 0, .int .i64 80, .int .i64 0, .int .i64 (200000 + v * 100)] 124)) none) (fun i e => by cases e)) hg7 (fun i e => by have := l5 i e; omega)
      have Y7 := ((YD.out.grown hg5 (fun e => gn0 (Option.some.inj e))).alloc (.cells #[.int .i64 1, .int .i64 0, .int .i64 80, .int .i64 0, .int .i64 (200000 + v * 100)] 124)).grown hg7 (box_apart_lt (Nat.lt_succ_self _) l5)
      have s9 := grown_set (grown_refl w7 (some g3)) 1 (.slice A7 (1 + fn) c7)
      have C9 := Lib.hid (C7.grown s9 (fun i e => by cases e; have := C7.low; exact ⟨by omega, gn3⟩))
      have G9 := Lib.hid (grown_moreC G7 s9 (fun i e => by cases e; omega))
      have Y9 := Lib.hid (Y7.grown s9 (fun e => by have := Option.some.inj e; omega))
      have R9 := Lib.hid (show Box (w7.setCell ⟨g3, 1, none⟩ (.slice A7 (1 + fn) c7)) g3 58 #[.slice none 0 0, .slice A7 (1 + fn) c7, .slice PA pn pc, .int .i64 b, .int .i64 5, .slice SA sn sc, .slice EA en ec] from by simpa using z7.put 1 (.slice A7 (1 + fn) c7))
      have O9 := Lib.hid (CS.Own.boxC (c := ⟨none, 0, 0, fun _ _ => 0, fun _ => none, fun _ => 0, fun _ => 0, fun _ _ _ => 0, A7, 1 + fn, c7, catF (fun _ => fiv 1 0 80 0 (200000 + v * 100)) 1 F, PA, pn, pc, P, b, 5, SA, sn, sc, S, L, EA, en, ec, E⟩) ⟨own_rules_nil _ _ _ _ _ _ _, o7, P7, S7, E7⟩ s9 z7)
      have K9 := Lib.hid (ok_first (R := fun _ _ => 0) (Nn := fun _ => 0) (NF := fun _ _ _ => 0) hF hfn hP hM v0 (show v < 300 by omega))
      clear l5 P7 S7 E7 C7 G7 Y7 s9 z7 o7 hg7 hg5 hc5 R5 F5 N5 r5
      go_wp2_with fail
      go_meet
      exact ⟨⟨none, 0, 0, fun _ _ => 0, fun _ => none, fun _ => 0, fun _ => 0, fun _ _ _ => 0, A7, 1 + fn, c7, catF (fun _ => fiv 1 0 80 0 (200000 + v * 100)) 1 F, PA, pn, pc, P, b, 5, SA, sn, sc, S, L, EA, en, ec, E⟩, rfl, K9.out, O9.out, G9.out, C9.out, Y9.out, R9.out⟩
  case rest =>
    obtain ⟨wz, rfl⟩ : ∃ w0 : World, w0 = wc := ⟨_, rfl⟩
    clear F3 P3 S3 E3 Y3 R3 G3 C3
    obtain ⟨c0, hrn, hok, ho, hg, hcz, hx, hr⟩ := hcut
    have KO := Lib.hid hok
    have HO := Lib.hid ho
    have HG := Lib.hid hg
    have HC := Lib.hid hcz
    have HX := Lib.hid hx
    have HR := Lib.hid hr
    clear hok ho hg hcz hx hr
    go_wp2_with fail
    go_loopw [4] (fun i wr => ∃ (k : Nat) (c : CS), k ≤ 3 ∧ i = .int .i64 k ∧ c.rn ≤ k ∧ Hid (c.ok = true) ∧ c.Own wr (w.heap.size + 1) ∧ w.grownBy wr (some g) ∧ CurOk B wr g ∧ Box wr w.heap.size 58 #[.slice none 0 0, .slice none 0 0, .slice none 0 0, .int .i64 0, .int .i64 0, .slice none 0 0, .slice none 0 0] ∧ Box wr g3 58 #[.slice c.RA c.rn c.rc, .slice c.FA c.fn c.fc, .slice c.PA c.pn c.pc, .int .i64 c.b, .int .i64 c.j, .slice c.SA c.sn c.sc, .slice c.EA c.en c.ec]) (fun i _ => 3 - (intOf i).toNat)
    case atStart => exact ⟨0, c0, by omega, rfl, by omega, KO.out, HO.out, HG.out, HC.out, HX.out, HR.out⟩
    case round =>
      clear KO HO HG HC HX HR hrn
      obtain ⟨k, c, hk, rfl, hrn, hok, ho, hg, hcz, hx, hr⟩ := hrel
      have KO := Lib.hid hok.out
      have HO := Lib.hid ho
      have HG := Lib.hid hg
      have HC := Lib.hid hcz
      have HX := Lib.hid hx
      have HR := Lib.hid hr
      clear hok ho hg hcz hx hr
      go_wp2_with fail
      with_reducible refine (below_draw B g 3 _ (by omega) (by omega) HC.out).mono ?_
      rintro e w1 ⟨x, x0, x1, rfl, hg1, hc1⟩
      have O1 := Lib.hid (HO.out.cur HC.out hg1)
      have G1 := Lib.hid (grown_trans HG.out hg1)
      have C1 := Lib.hid hc1
      have X1 := Lib.hid (HX.out.grown hg1 (fun e => gn0 (Option.some.inj e)))
      have R1 := Lib.hid (HR.out.grown hg1 (fun e => gn3 (Option.some.inj e)))
      clear hg1 hc1 HO HG HC HX HR
      by_cases hlt : (k : Int) < 1 + x
      · go_upto_region 6 with fail
        have OD := Lib.hid (O1.out.below (Below.refl _ _).drew)
        have CD := Lib.hid (show CurOk B w1.drew g from C1.out)
        have GD := Lib.hid (show w.grownBy w1.drew (some g) from ⟨G1.out.os, G1.out.tape, G1.out.output, G1.out.size, G1.out.block⟩)
        have XD := Lib.hid (show Box w1.drew w.heap.size 58 #[.slice none 0 0, .slice none 0 0, .slice none 0 0, .int .i64 0, .int .i64 0, .slice none 0 0, .slice none 0 0] from X1.out)
        have RD := Lib.hid (show Box w1.drew g3 58 #[.slice c.RA c.rn c.rc, .slice c.FA c.fn c.fc, .slice c.PA c.pn c.pc, .int .i64 c.b, .int .i64 c.j, .slice c.SA c.sn c.sc, .slice c.EA c.en c.ec] from R1.out)
        have FD := Lib.hid (rule_draw B g w1.drew CD.out)
        have td := R1.out.cell 0
        have ld := R1.out.lt
        simp at td
        clear O1 G1 C1 X1 R1
        go_region_law (first | (go_simp; go_at_call 82; (with_reducible refine FD.out.mono ?_); rintro e w5 ⟨r0, r1, r2, r3, r4, r5, n5, F5, A5, c5, rfl, o5, hn5, hg5, hc5⟩; have y5 := RD.out.grown hg5 (fun e => gn3 (Option.some.inj e)); have tc5 := y5.cell 0; (simp at tc5); have u5 := y5.lt; have Y5 := Lib.hid y5; have O5 := Lib.hid (OD.out.cur CD.out hg5); have AD := Lib.hid (addRule_draw c.RA c.rn c.rc c.R c.NA c.Nn c.Nc c.NF r0 r1 r2 r3 r4 r5 A5 n5 c5 F5 w5 (by omega) (own_cap O5.out.r.row) O5.out.r.rules O5.out.r.any O5.out.r.small (ok_book KO.out) (own_rec o5) (own_anyA o5) hn5); clear y5) | (go_simp; go_at_call 81; (with_reducible refine AD.out.mono ?_); rintro e w6 ⟨A6, m6, c6, R6, NA6, Nn6, Nc6, NF6, ok6, rfl, o6, hm6, hb6, hl6⟩; have y6 := Y5.out.kept hl6; have tc6 := y6.cell 0; (simp at tc6); have tf6 := y6.frozen 0; have u6 := y6.lt))
        all_goals
          have z5 := hg5.size
          have zD : w.heap.size + 1 ≤ w1.drew.heap.size := by have := XD.out.lt; omega
          have O6 := O5.out.below hl6
          have G6 := grown_trans (grown_trans GD.out hg5) (grown_of_below hl6 (some g))
          have C6 := hc5.kept hl6
          have X6 := (XD.out.grown hg5 (fun e => gn0 (Option.some.inj e))).kept hl6
          have s9 := grown_set (grown_refl w6 (some g3)) 0 (.slice A6 m6 c6)
          have C9 := Lib.hid (C6.grown s9 (fun i e => by cases e; have := C6.low; exact ⟨by omega, gn3⟩))
          have G9 := Lib.hid (grown_moreC G6 s9 (fun i e => by cases e; omega))
          have X9 := Lib.hid (X6.grown s9 (fun e => by have := Option.some.inj e; omega))
          have R9 := Lib.hid (show Box (w6.setCell ⟨g3, 0, none⟩ (.slice A6 m6 c6)) g3 58 #[.slice A6 m6 c6, .slice c.FA c.fn c.fc, .slice c.PA c.pn c.pc, .int .i64 c.b, .int .i64 c.j, .slice c.SA c.sn c.sc, .slice c.EA c.en c.ec] from by simpa using y6.put 0 (.slice A6 m6 c6))
          have O9 := Lib.hid (CS.Own.boxC (c := ⟨A6, m6, c6, R6, NA6, Nn6, Nc6, NF6, c.FA, c.fn, c.fc, c.F, c.PA, c.pn, c.pc, c.P, c.b, c.j, c.SA, c.sn, c.sc, c.S, c.L, c.EA, c.en, c.ec, c.E⟩) ⟨o6.mono (by omega), O6.f, O6.p, O6.s, O6.e⟩ s9 y6)
          have K9 := Lib.hid (ok_put KO.out hb6)
          clear O6 G6 C6 X6 s9 y6 hl6 hg5 hc5 o6 o5 O5 Y5 AD FD OD CD GD XD RD hb6 td ld
          go_wp2
          go_roundw
          case rel => exact ⟨k + 1, ⟨A6, m6, c6, R6, NA6, Nn6, Nc6, NF6, c.FA, c.fn, c.fc, c.F, c.PA, c.pn, c.pc, c.P, c.b, c.j, c.SA, c.sn, c.sc, c.S, c.L, c.EA, c.en, c.ec, c.E⟩, by omega, by go_num, by show m6 ≤ k + 1; omega, K9.out, O9.out, G9.out, C9.out, X9.out, R9.out⟩
          case measure => simp [intOf]; omega
      · obtain ⟨t0, t1, t2, t3, t4, t5, t6⟩ := (show _ ∧ _ ∧ _ ∧ _ ∧ _ ∧ _ ∧ _ from ⟨R1.out.cell 0, R1.out.cell 1, R1.out.cell 2, R1.out.cell 3, R1.out.cell 4, R1.out.cell 5, R1.out.cell 6⟩)
        obtain ⟨s0, s1, s2, s3, s4, s5, s6⟩ := (show _ ∧ _ ∧ _ ∧ _ ∧ _ ∧ _ ∧ _ from ⟨X1.out.cell 0, X1.out.cell 1, X1.out.cell 2, X1.out.cell 3, X1.out.cell 4, X1.out.cell 5, X1.out.cell 6⟩)
        obtain ⟨f0, f1, f2, f3, f4, f5, f6⟩ := (show _ ∧ _ ∧ _ ∧ _ ∧ _ ∧ _ ∧ _ from ⟨X1.out.frozen 0, X1.out.frozen 1, X1.out.frozen 2, X1.out.frozen 3, X1.out.frozen 4, X1.out.frozen 5, X1.out.frozen 6⟩)
        simp at t0 t1 t2 t3 t4 t5 t6 s0 s1 s2 s3 s4 s5 s6
        have lv := X1.out.lt
        have lr := R1.out.lt
        have HS := Lib.hid (grown_set (grown_set (grown_set (grown_set (grown_set (grown_set (grown_set (grown_refl w1 (some w.heap.size)) 0 (.slice c.RA c.rn c.rc)) 1 (.slice c.FA c.fn c.fc)) 2 (.slice c.PA c.pn c.pc)) 3 (.int .i64 c.b)) 4 (.int .i64 c.j)) 5 (.slice c.SA c.sn c.sc)) 6 (.slice c.EA c.en c.ec))
        have G9 := Lib.hid (grown_moreC G1.out HS.out (fun i e => by cases e; exact Nat.le_refl _))
        have C9 := Lib.hid (C1.out.grown HS.out (fun i e => by cases e; have := C1.out.low; exact ⟨by omega, gn0⟩))
        have O9 := Lib.hid ((O1.out.boxC HS.out X1.out).mono (Nat.le_succ _))
        clear O1 G1 C1 X1 R1 HS
        go_wp2
        exact bodyPost_ret (v := .agg #[.slice c.RA c.rn c.rc, .slice c.FA c.fn c.fc, .slice c.PA c.pn c.pc, .int .i64 c.b, .int .i64 c.j, .slice c.SA c.sn c.sc, .slice c.EA c.en c.ec]) (by simp [results, Try.results48, go_sem, *]) rfl ⟨c, rfl, KO.out, O9.out, G9.out, C9.out⟩
end Go.Proofs.Ytgfcmeiffhffaaa
namespace Go.Proofs.Ytgfcmeiffhffaaa
open Go.RowKit

/-- A drawn case comes back from bytes. -/
def DrawnCQ (w : World) (e : Ending) (w' : World) : Prop :=
  ∃ c : CS, e = .returned (.agg #[.slice c.RA c.rn c.rc, .slice c.FA c.fn c.fc, .slice c.PA c.pn c.pc, .int .i64 c.b, .int .i64 c.j, .slice c.SA c.sn c.sc, .slice c.EA c.en c.ec]) ∧ c.Good ∧ c.At w' ∧ Below w.heap.size w w'
set_option maxRecDepth 100000 in
set_option maxHeartbeats 8000000 in
theorem drawCase_any (A : Option Addr) (n cap : Nat) (F : Nat → Int) (w : World) (hn : n ≤ 1048576) (hr : Row w .u8 A n F) : Calls Try.prog 17 #[.slice A n cap] w (DrawnCQ w) := by
  have HR := Lib.hid (hr.alloc (.cells #[.slice none 0 0, .slice none 0 0, .slice none 0 0, .int .i64 0, .int .i64 0, .slice none 0 0, .slice none 0 0] 58))
  have X0 := Lib.hid (Box.made w 58 #[.slice none 0 0, .slice none 0 0, .slice none 0 0, .int .i64 0, .int .i64 0, .slice none 0 0, .slice none 0 0])
  have B0 := Lib.hid ((Below.refl w.heap.size w).alloc (Nat.le_refl _) (.cells #[.slice none 0 0, .slice none 0 0, .slice none 0 0, .int .i64 0, .int .i64 0, .slice none 0 0, .slice none 0 0] 58))
  have z0 : (w.alloc (.cells #[.slice none 0 0, .slice none 0 0, .slice none 0 0, .int .i64 0, .int .i64 0, .slice none 0 0, .slice none 0 0] 58)).heap.size = w.heap.size + 1 := by simp
  clear hr
  go_enter Try.func17, Try.ntmps17
  go_wp2_with fail
  generalize w.alloc (.cells #[.slice none 0 0, .slice none 0 0, .slice none 0 0, .int .i64 0, .int .i64 0, .slice none 0 0, .slice none 0 0] 58) = W0 at *
  with_reducible refine (new_any A n cap F _ hn HR.out).mono ?_
  rintro e w1 ⟨g, rfl, hg, hb1, hc1⟩
  have z1 := hb1.size
  have X1 := Lib.hid (X0.out.kept hb1)
  have B1 := Lib.hid (B0.out.trans (hb1.mono (by omega)))
  clear hb1 X0 B0
  go_wp2_with fail
  with_reducible refine (case_draw _ g w1 hc1).mono ?_
  rintro e w2 ⟨c, rfl, hk, ho, hgw, _⟩
  have x2 := X1.out.grown hgw (fun e => by have := Option.some.inj e; omega)
  have B2 := B1.out.trans (grown_below hgw (B := w.heap.size) (by omega) (by omega))
  obtain ⟨s0, s1, s2, s3, s4, s5, s6⟩ := (show _ ∧ _ ∧ _ ∧ _ ∧ _ ∧ _ ∧ _ from ⟨x2.cell 0, x2.cell 1, x2.cell 2, x2.cell 3, x2.cell 4, x2.cell 5, x2.cell 6⟩)
  obtain ⟨f0, f1, f2, f3, f4, f5, f6⟩ := (show _ ∧ _ ∧ _ ∧ _ ∧ _ ∧ _ ∧ _ from ⟨x2.frozen 0, x2.frozen 1, x2.frozen 2, x2.frozen 3, x2.frozen 4, x2.frozen 5, x2.frozen 6⟩)
  simp at s0 s1 s2 s3 s4 s5 s6
  have l2 := x2.lt
  have hgs := grown_set (grown_set (grown_set (grown_set (grown_set (grown_set (grown_set (grown_refl w2 (some w.heap.size)) 0 (.slice c.RA c.rn c.rc)) 1 (.slice c.FA c.fn c.fc)) 2 (.slice c.PA c.pn c.pc)) 3 (.int .i64 c.b)) 4 (.int .i64 c.j)) 5 (.slice c.SA c.sn c.sc)) 6 (.slice c.EA c.en c.ec)
  have HB := Lib.hid (B2.grown hgs (Nat.le_of_lt l2) (fun b hb => by cases hb; exact Nat.le_refl _))
  have O9 := ho.boxC hgs x2
  have HA := Lib.hid (O9.at hk)
  have HG := Lib.hid (O9.good hk)
  clear O9 hgs x2 B2 ho hgw hc1 X1 B1
  go_wp2
  exact bodyPost_ret (v := .agg #[.slice c.RA c.rn c.rc, .slice c.FA c.fn c.fc, .slice c.PA c.pn c.pc, .int .i64 c.b, .int .i64 c.j, .slice c.SA c.sn c.sc, .slice c.EA c.en c.ec]) (by simp [results, Try.results17, go_sem, *]) rfl ⟨c, rfl, HG.out, HA.out, HB.out⟩
end Go.Proofs.Ytgfcmeiffhffaaa
