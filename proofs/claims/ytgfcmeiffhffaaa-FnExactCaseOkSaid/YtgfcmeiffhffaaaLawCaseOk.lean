/- Proved: for every case, the program's CaseOk answers what the reference's CaseOk answers, and leaves its argument as it was. No condition. -/
import Derived.Test.YtgfcmeiffhffaaaOpenC
import Derived.Outline
namespace Go.Proofs.Ytgfcmeiffhffaaa
open Go.ChangeShapes Go.WideShapes Go.ChangeAt Go.RowKit

theorem sumI_has {f : Nat → Nat} {n i : Nat} (hi : i < n) : (f i : Int) ≤ sumI (fun i => (f i : Int)) n := by
  have h1 := (sumI_nat (f := f) (show i + 1 ≤ n by omega)).2
  have h2 := (sumI_nat (f := f) (show i ≤ n by omega)).1
  simp only [sumI] at h1
  omega
set_option maxRecDepth 100000 in
set_option maxHeartbeats 8000000 in
theorem lawCaseOk (RA : Option Addr) (rn rc : Nat) (R : Nat → Nat → Int) (NA : Nat → Option Addr) (Nn Nc : Nat → Nat) (FA : Option Addr) (fn fc : Nat) (F : Nat → Nat → Int) (PA : Option Addr) (pn pc : Nat) (P : Nat → Nat → Int) (b j : Int) (SA : Option Addr) (sn sc : Nat) (S : Nat → Nat → Int) (L : Nat → Bool) (EA : Option Addr) (en ec : Nat) (E : Nat → Nat → Int) (w : World)
    (hz : rn ≤ rc ∧ rc ≤ maxLen ∧ fn ≤ maxLen ∧ pn ≤ maxLen ∧ sn ≤ maxLen ∧ en ≤ maxLen) (hr : RecV w 7 RA rn (ruleV R NA Nn Nc)) (hnn : ∀ i, i < rn → Recs w 6 (NA i) (Nn i) (readF w (NA i) 6)) (hns : ∀ i, i < rn → Nn i ≤ maxLen)
    (hf : Recs w 5 FA fn F) (hp : Recs w 3 PA pn P) (hs : RecV w 4 SA sn (spellV S L)) (he : Recs w 2 EA en E) :
    Calls Try.prog 4 #[.agg #[.slice RA rn rc, .slice FA fn fc, .slice PA pn pc, .int .i64 b, .int .i64 j, .slice SA sn sc, .slice EA en ec]] w fun e w' => e = .returned (.bool true) ∧ Below w.heap.size w w' := by
  obtain ⟨hz1, hz2, hz3, hz4, hz5, hz6⟩ := hz
  have hml : maxLen ≤ 9223372036854775807 := by unfold maxLen; omega
  have HZ := Lib.hid (szCase_any RA rn rc R NA Nn Nc FA fn fc PA pn pc b j SA sn sc EA en ec (w.alloc (.cells #[.slice RA rn rc, .slice FA fn fc, .slice PA pn pc, .int .i64 b, .int .i64 j, .slice SA sn sc, .slice EA en ec] 45)) (by omega) (fun i hi => Nat.le_trans (hns i hi) hml) (by omega) (by omega) (by omega) (by omega) (hr.alloc _))
  have hri := rulesI_nn Nn rn
  by_cases htot : caseI Nn rn fn pn sn en ≤ 1048576
  · have htot' := htot
    unfold caseI at htot'
    have hsm : ∀ i, i < rn → Nn i ≤ 1048576 := fun i hi => by
      have := sumI_has (f := Nn) hi
      unfold rulesI at htot'
      omega
    have HC := Lib.hid (show CaseAt w RA rn rc R NA Nn Nc (fun i => readF w (NA i) 6) FA fn F PA pn P SA sn S L EA en E from ⟨⟨hr, hnn, hsm⟩, hz1, hf, hp, hs, he, by omega, by omega, by omega, by omega, by omega⟩)
    rw [szI_low.2 (by omega)] at HZ
    have hneg : ¬ 1048576 - caseI Nn rn fn pn sn en < 0 := by omega
    clear hr hnn hns hf hp hs he hz1 hz2 hz3 hz4 hz5 hz6 hml hri htot htot' hsm
    generalize (fun i => readF w (NA i) 6) = NF at *
    generalize caseI Nn rn fn pn sn en = tot at *
    have TC := Lib.hid (fun w1 (h : Below w.heap.size w w1) => toCase_any RA rn rc R NA Nn Nc NF FA fn fc F PA pn pc P b j SA sn sc S L EA en ec E w1 (HC.out.kept h))
    go_enter Try.func4, Try.ntmps4
    go_wp2_with (go_at_call 11; (with_reducible refine (HZ.out).mono ?_); rintro e w1 ⟨rfl, hb1⟩; obtain ⟨hc1, hf1⟩ := bcell hb1; (try simp only [World.size_drew] at hc1 hf1); have hz1 := hb1.size; (try simp at hz1); (try have q1_0 : w.heap.size < w1.heap.size := by omega); (try have q1_1 : w.heap.size + 1 < w1.heap.size := by omega); (try have q1_2 : w.heap.size + 2 < w1.heap.size := by omega); (try have q1_3 : w.heap.size + 3 < w1.heap.size := by omega); (try have q1_4 : w.heap.size + 4 < w1.heap.size := by omega); (try have q1_0_0 : w0.heap.size < w1.heap.size := by omega); (try have q1_0_1 : w0.heap.size + 1 < w1.heap.size := by omega); (try have q1_2_0 : w2.heap.size < w1.heap.size := by omega); (try have q1_2_1 : w2.heap.size + 1 < w1.heap.size := by omega); (try have q1_3_0 : w3.heap.size < w1.heap.size := by omega); (try have q1_3_1 : w3.heap.size + 1 < w1.heap.size := by omega); (try have q1_4_0 : w4.heap.size < w1.heap.size := by omega); (try have q1_4_1 : w4.heap.size + 1 < w1.heap.size := by omega); (try have q1_5_0 : w5.heap.size < w1.heap.size := by omega); (try have q1_5_1 : w5.heap.size + 1 < w1.heap.size := by omega); (try have q1_6_0 : w6.heap.size < w1.heap.size := by omega); (try have q1_6_1 : w6.heap.size + 1 < w1.heap.size := by omega); (try have u1_b : b < w1.heap.size := by omega); (try have u1_q : q < w1.heap.size := by omega); (try have u1_g : g < w1.heap.size := by omega); (try have u1_g1 : g1 < w1.heap.size := by omega); (try have u1_g2 : g2 < w1.heap.size := by omega); (try have u1_g3 : g3 < w1.heap.size := by omega); (try have u1_g4 : g4 < w1.heap.size := by omega); (try have u1_g5 : g5 < w1.heap.size := by omega))
    have X1 := (Box.made w 45 #[.slice RA rn rc, .slice FA fn fc, .slice PA pn pc, .int .i64 b, .int .i64 j, .slice SA sn sc, .slice EA en ec]).kept hb1
    have B1 : Below w.heap.size w w1 := by (repeat (first | with_reducible exact Below.refl _ _ | with_reducible refine Below.drew ?_ | (with_reducible refine Below.alloc ?_ ?hsz _; case hsz => ((try simp) <;> (try omega))) | (with_reducible refine Below.setCell ?_ ?hsz _; case hsz => ((try simp) <;> (try omega))) | (with_reducible refine below_step (by with_reducible assumption) ?hsz ?_; case hsz => ((try simp) <;> (try omega)))))
    have s1 := B1.size
    clear hb1 hc1 hf1
    obtain ⟨⟨p0, p1, p2, p3, p4, p5, p6⟩, _⟩ := X1.seven
    have lx := X1.lt
    go_wp2_with fail
    with_reducible refine (TC.out _ B1).mono ?_
    rintro e w2 ⟨RB, rd, NB, Nd, FB, fd, PB, pd, SB, sd, EB, ed, rfl, hC, hb⟩
    have X2 := X1.kept hb
    have B2 := B1.trans (hb.mono s1)
    have s2 := B2.size
    have C2 := Lib.hid hC
    clear hb X1 B1 hC p0 p1 p2 p3 p4 p5 p6 lx
    go_wp2_with fail
    with_reducible refine (scaseOk_any RB rn rd R NB Nn Nd NF FB fn fd F PB pn pd P b j SB sn sd S L EB en ed E _ C2.out).mono ?_
    rintro e w3 ⟨rfl, hb⟩
    have X3 := X2.kept hb
    have B3 := B2.trans (hb.mono s2)
    have s3 := B3.size
    clear hb X2 B2 C2
    obtain ⟨⟨p0, p1, p2, p3, p4, p5, p6⟩, _⟩ := X3.seven
    have lx := X3.lt
    go_wp2_with fail
    with_reducible refine (TC.out _ B3).mono ?_
    rintro e w4 ⟨RB, rd, NB, Nd, FB, fd, PB, pd, SB, sd, EB, ed, rfl, hC, hb⟩
    have X4 := X3.kept hb
    have B4 := B3.trans (hb.mono s3)
    have s4 := B4.size
    have C5 := Lib.hid (hC.kept ((Below.refl w4.heap.size w4).alloc (Nat.le_refl _) (.cells #[.slice RB rn rd, .slice FB fn fd, .slice PB pn pd, .int .i64 b, .int .i64 j, .slice SB sn sd, .slice EB en ed] 58)))
    have Y5 := Box.made w4 58 #[.slice RB rn rd, .slice FB fn fd, .slice PB pn pd, .int .i64 b, .int .i64 j, .slice SB sn sd, .slice EB en ed]
    have X5 := X4.alloc (.cells #[.slice RB rn rd, .slice FB fn fd, .slice PB pn pd, .int .i64 b, .int .i64 j, .slice SB sn sd, .slice EB en ed] 58)
    have B5 := B4.alloc s4 (.cells #[.slice RB rn rd, .slice FB fn fd, .slice PB pn pd, .int .i64 b, .int .i64 j, .slice SB sn sd, .slice EB en ed] 58)
    clear hb X3 B3 hC p0 p1 p2 p3 p4 p5 p6 lx X4 B4
    go_wp2_with fail
    with_reducible refine (caseOk_any RB rn rd R NB Nn Nd NF FB fn fd F PB pn pd P b j SB sn sd S L EB en ed E _ C5.out).mono ?_
    rintro e w6 ⟨rfl, hb⟩
    have X6 := X5.kept hb
    have Y6 := Y5.kept hb
    have C6 := Lib.hid (C5.out.kept hb)
    have B6 := B5.trans (hb.mono B5.size)
    have s6 := B6.size
    clear hb X5 Y5 C5 B5
    obtain ⟨⟨p0, p1, p2, p3, p4, p5, p6⟩, _⟩ := X6.seven
    obtain ⟨⟨q0, q1, q2, q3, q4, q5, q6⟩, _⟩ := Y6.seven
    have lx := X6.lt
    have ly := Y6.lt
    generalize caseB R Nn NF rn F fn P pn b j S sn E en = ok at *
    have hok : (ok != ok) = false := by cases ok <;> rfl
    clear X6 Y6
    go_wp2_with fail
    go_region_held3 (fun w' => w'.cell? ⟨w.heap.size, 0, none⟩ = some (.slice RA rn rc) ∧ w'.cell? ⟨w.heap.size, 1, none⟩ = some (.slice FA fn fc) ∧ w'.cell? ⟨w.heap.size, 2, none⟩ = some (.slice PA pn pc) ∧ w'.cell? ⟨w.heap.size, 3, none⟩ = some (.int .i64 b) ∧ w'.cell? ⟨w.heap.size, 4, none⟩ = some (.int .i64 j) ∧ w'.cell? ⟨w.heap.size, 5, none⟩ = some (.slice SA sn sc) ∧ w'.cell? ⟨w.heap.size, 6, none⟩ = some (.slice EA en ec) ∧ w'.cell? ⟨w4.heap.size, 0, none⟩ = some (.slice RB rn rd) ∧ w'.cell? ⟨w4.heap.size, 1, none⟩ = some (.slice FB fn fd) ∧ w'.cell? ⟨w4.heap.size, 2, none⟩ = some (.slice PB pn pd) ∧ w'.cell? ⟨w4.heap.size, 3, none⟩ = some (.int .i64 b) ∧ w'.cell? ⟨w4.heap.size, 4, none⟩ = some (.int .i64 j) ∧ w'.cell? ⟨w4.heap.size, 5, none⟩ = some (.slice SB sn sd) ∧ w'.cell? ⟨w4.heap.size, 6, none⟩ = some (.slice EB en ed)) (simp [go_sem, *])
      (first | (go_at_call 13; (with_reducible refine (TC.out _ B6.drew).mono ?_); rintro e wa ⟨RD, re, ND, Ne, FD, fe, PD, pe, SD, se, ED, ee, rfl, hD, hba⟩; have D6 := Lib.hid hD; clear hD; obtain ⟨hca, hfa⟩ := bcell hba; (try simp only [World.size_drew] at hca hfa); have sa := hba.size; (try simp only [World.size_drew] at sa); have la : w.heap.size < wa.heap.size := (by omega); have lb : w4.heap.size < wa.heap.size := (by omega)) | (go_at_call 15; (with_reducible refine (eqCase_same RB rn rd R NB Nn Nd NF FB fn fd F PB pn pd P b j SB sn sd S L EB en ed E RD re ND Ne FD fe PD pe SD se ED ee _ ((C6.out.kept (Below.refl _ _).drew).kept hba) D6.out).mono ?_); rintro e wb ⟨rfl, hbb⟩; obtain ⟨hcb, hfb⟩ := bcell hbb; (try simp only [World.size_drew] at hcb hfb)))
    have B8 := (B6.drew.trans (hba.mono s6)).trans (hbb.mono (by omega))
    go_wp2_with fail
    go_ret
    exact ⟨rfl, B8⟩
  · rw [szI_low.1 (by omega)] at HZ
    clear hr hnn hns hf hp hs he hz1 hz2 hz3 hz4 hz5 hz6 hml hri htot
    go_enter Try.func4, Try.ntmps4
    go_wp2_with (go_at_call 11; (with_reducible refine (HZ.out).mono ?_); rintro e w1 ⟨rfl, hb1⟩; obtain ⟨hc1, hf1⟩ := bcell hb1; (try simp only [World.size_drew] at hc1 hf1); have hz1 := hb1.size; (try simp at hz1); (try have q1_0 : w.heap.size < w1.heap.size := by omega); (try have q1_1 : w.heap.size + 1 < w1.heap.size := by omega); (try have q1_2 : w.heap.size + 2 < w1.heap.size := by omega); (try have q1_3 : w.heap.size + 3 < w1.heap.size := by omega); (try have q1_4 : w.heap.size + 4 < w1.heap.size := by omega); (try have q1_0_0 : w0.heap.size < w1.heap.size := by omega); (try have q1_0_1 : w0.heap.size + 1 < w1.heap.size := by omega); (try have q1_2_0 : w2.heap.size < w1.heap.size := by omega); (try have q1_2_1 : w2.heap.size + 1 < w1.heap.size := by omega); (try have q1_3_0 : w3.heap.size < w1.heap.size := by omega); (try have q1_3_1 : w3.heap.size + 1 < w1.heap.size := by omega); (try have q1_4_0 : w4.heap.size < w1.heap.size := by omega); (try have q1_4_1 : w4.heap.size + 1 < w1.heap.size := by omega); (try have q1_5_0 : w5.heap.size < w1.heap.size := by omega); (try have q1_5_1 : w5.heap.size + 1 < w1.heap.size := by omega); (try have q1_6_0 : w6.heap.size < w1.heap.size := by omega); (try have q1_6_1 : w6.heap.size + 1 < w1.heap.size := by omega); (try have u1_b : b < w1.heap.size := by omega); (try have u1_q : q < w1.heap.size := by omega); (try have u1_g : g < w1.heap.size := by omega); (try have u1_g1 : g1 < w1.heap.size := by omega); (try have u1_g2 : g2 < w1.heap.size := by omega); (try have u1_g3 : g3 < w1.heap.size := by omega); (try have u1_g4 : g4 < w1.heap.size := by omega); (try have u1_g5 : g5 < w1.heap.size := by omega))
    go_ret
    exact ⟨rfl, by (repeat (first | with_reducible exact Below.refl _ _ | with_reducible refine Below.drew ?_ | (with_reducible refine Below.alloc ?_ ?hsz _; case hsz => ((try simp) <;> (try omega))) | (with_reducible refine Below.setCell ?_ ?hsz _; case hsz => ((try simp) <;> (try omega))) | (with_reducible refine below_step (by with_reducible assumption) ?hsz ?_; case hsz => ((try simp) <;> (try omega)))))⟩
set_option maxRecDepth 100000 in
theorem fnExactCaseOk_open {H : Type} {enc : TypeId × Value → H} (W : World) (base : Nat) (args : Array Value) (ds : List (DataW H)) (p : List MemPlace)
    (hval : ∀ (j : Nat) t v, Try.f4.params[j]? = some t → args[j]? = some v → Value.okWide Try.prog W .any base t v)
    (hA : DataW.TrodAll enc Try.prog W 0 (fun _ => true) true Try.f4.params.toList args.toList ds p) :
    Calls Try.prog 4 args W fun e W' => e = .returned (.bool true) ∧ Below W.heap.size W W' := by
  rw [Try.params4] at hA hval
  obtain ⟨v0, vs0, d0, ds0, p0, q0, hargs, rfl, rfl, h0, r0⟩ := trodAll_cons hA
  obtain ⟨rfl, rfl, rfl⟩ := trodAll_nil r0
  obtain rfl : args = #[v0] := by cases args; simp_all
  obtain ⟨RA, rn, rc, R, NA, Nn, Nc, FA, fn, fc, F, PA, pn, pc, P, b, j, SA, sn, sc, S, L, EA, en, ec, E, rfl, hz, hr, hnn, hns, hf, hp, hs, he⟩ := open_case (hval 0 45 v0 rfl rfl) h0
  exact lawCaseOk RA rn rc R NA Nn Nc FA fn fc F PA pn pc P b j SA sn sc S L EA en ec E W hz hr hnn hns hf hp hs he
set_option maxRecDepth 100000 in
theorem fnExactCaseOk_lifted (os : Os) (started : os.Started) (H : Type) (enc : TypeId × Value → H) :
    ReturnsInHanded {} Try.checked os 4 .any (Rows.fnExactCaseOkSpec.pre6 enc Try.prog Try.f4 Rows.fnExactCaseOkRow.domain false) (Rows.fnExactCaseOkSpec.post enc Try.prog Try.f4 false true false false) :=
  law_lifted (C := Try.checked) (s := Rows.fnExactCaseOkSpec) (tb := 4) Tryown TrylaidOut (by kernel_rfl) Try.func4 rfl Try.underlying4 (by kernel_rfl) rfl (fun H ds h => match ds, h with | [d0], _ => rfl) os started H enc
    (ChangeSpec.witness6 (enc := enc) (C := Try.checked) false ⟨#[], #[.agg #[.slice none 0 0, .slice none 0 0, .slice none 0 0, .int .i64 0, .int .i64 0, .slice none 0 0, .slice none 0 0]], []⟩ 8 (by kernel_rfl) (by kernel_rfl) (by kernel_rfl) (by kernel_rfl))
    (fun W base args ds p hval hA _ _ => fnExactCaseOk_open W base args ds p hval hA)
theorem fnExactCaseOk_holds : Rows.FnExactCaseOkSaid :=
  OpenClaim.holds_of_wide 4 Try.f4 rfl rfl rfl rfl rfl rfl rfl ⟨rfl, rfl, rfl, rfl, rfl⟩ rfl rfl rfl rfl rfl (by kernel_rfl) Try.func4 (by kernel_rfl)
    (of_decide_eq_true (by kernel_rfl)) (by unfold Func.isWrapper; first | (rw [if_pos (by decide +kernel)]; kernel_rfl) | (rw [if_neg (by decide +kernel)]; exact ⟨rfl, rfl⟩))
    (fun os started H enc _ => fnExactCaseOk_lifted os started H enc)
#print axioms fnExactCaseOk_holds
end Go.Proofs.Ytgfcmeiffhffaaa
