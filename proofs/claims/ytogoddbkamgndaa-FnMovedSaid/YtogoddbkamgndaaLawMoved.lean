/- Proved: for every byte string, a transfer of stays drawn from it keeps every month in one fund, and money that is moved is neither created nor lost. No condition. -/
import Derived.Test.YtogoddbkamgndaaOpen
import Derived.Test.YtogoddbkamgndaaDrawS
import Derived.Test.YtogoddbkamgndaaPlainM
import Derived.Deep.RegionHeld3
import Derived.Deep.RegionHeldLaw
import Derived.Deep.DeepCutAuto
import Derived.Outline
namespace Go.Proofs.Ytogoddbkamgndaa
open Go.ChangeShapes Go.WideShapes Go.ChangeAt Go.RowKit

theorem headed_some (b c : Nat) : Headed (some ⟨b, 0, none⟩) c := Or.inr ⟨b, rfl⟩
def coins (x y : Int) : Nat → Int := fun i => if i = 0 then x else if i = 1 then y else 5
theorem row3 {w : World} {g : Nat} {t : TypeId} {x y : Int} (h : Box w g t #[.int .i64 x, .int .i64 y, .int .i64 5]) : Row w .i64 (some ⟨g, 0, none⟩) 3 (coins x y) :=
  .inr ⟨g, 0, rfl, h.lt, fun i hi => by
    rw [h.cell]
    have : i = 0 ∨ i = 1 ∨ i = 2 := by omega
    rcases this with rfl | rfl | rfl <;> rfl⟩
theorem coins_ok {x y c : Int} (x0 : 0 ≤ x) (x1 : x ≤ 9999) (y0 : 0 ≤ y) (y1 : y ≤ 9999) (c0 : 0 ≤ c) : moneyB (coins x y) 3 0 1 c = decide (c ≤ x) := by
  have h : allB (fun i => inB (coins x y i) 0 1000000000000) 3 = true := allB_iff.2 fun i hi => by
    have : i = 0 ∨ i = 1 ∨ i = 2 := by omega
    rcases this with rfl | rfl | rfl <;> (refine inB_true.2 ?_; simp [coins]; try omega)
  have a : inB 0 0 (((3 : Nat) : Int) - 1) = true := inB_true.2 (by omega)
  have b : inB 1 0 (((3 : Nat) : Int) - 1) = true := inB_true.2 (by omega)
  unfold moneyB
  rw [h, a, b, decide_eq_true c0]
  simp [coins]
theorem coins_sum {x y c : Int} : moneyF (coins x y) 3 0 1 c 0 + moneyF (coins x y) 3 0 1 c 1 = x + y := by
  unfold moneyF
  split
  · simp [coins]; omega
  · simp [coins]
theorem coins_bd {x y c : Int} (x0 : 0 ≤ x) (x1 : x ≤ 9999) (y0 : 0 ≤ y) (y1 : y ≤ 9999) (c0 : 0 ≤ c) : 0 ≤ moneyF (coins x y) 3 0 1 c 0 ∧ moneyF (coins x y) 3 0 1 c 0 ≤ 9999 ∧ 0 ≤ moneyF (coins x y) 3 0 1 c 1 ∧ moneyF (coins x y) 3 0 1 c 1 ≤ 19998 := by
  have hb := coins_ok x0 x1 y0 y1 c0
  unfold moneyF
  rw [hb]
  split
  · rename_i h
    have := of_decide_eq_true h
    simp [coins]
    omega
  · simp [coins]; omega
set_option maxRecDepth 100000 in
set_option maxHeartbeats 8000000 in
theorem lawMoved (code : Option Addr) (n cap : Nat) (F : Nat → Int) (w : World) (_hl : n ≤ cap) (_hm : cap ≤ maxLen) (hr : Row w .u8 code n F) : Calls Try.prog 9 #[.slice code n cap] w fun e w' => e = .returned (.bool true) ∧ Below w.heap.size w w' := by
  by_cases hn : n ≤ 1048576
  · have hbig : decide (1048576 < n) = false := by simp; omega
    have HR := Lib.hid hr
    clear hr
    go_enter Try.func9, Try.ntmps9
    go_wp2_with (first | (go_at_call 25; (with_reducible refine (big_any code n cap _).mono ?_); rintro e w' ⟨rfl, rfl⟩))
    with_reducible refine (drawStays_any code n cap F _ hn HR.out).mono ?_
    rintro e w1 ⟨m, G, A1, c1, rfl, o1, hv, hm, _, hb1⟩
    have R1 := Lib.hid (own_rec o1)
    have HA := Lib.hid (own_anyA o1)
    have B1 := Lib.hid hb1
    have HV := Lib.hid hv
    have HR1 := Lib.hid (HR.out.kept hb1)
    have z1 := hb1.size
    clear hb1 o1 HR hv
    go_wp2_with fail
    with_reducible refine (places_any code n cap F _ hn HR1.out).mono ?_
    rintro e w2 ⟨q, qc, P, rfl, hq, hq2, hb2, hP, hcell⟩
    have p0 := hcell 0 (by omega)
    have p1 := hcell 1 (by omega)
    have p2 := Lib.hid (hcell 2 (by omega))
    have p3 := Lib.hid (hcell 3 (by omega))
    have p4 := Lib.hid (hcell 4 (by omega))
    obtain ⟨x00, x01⟩ := hP 0 (by omega)
    obtain ⟨x10, x11⟩ := hP 1 (by omega)
    obtain ⟨x20, x21⟩ := hP 2 (by omega)
    obtain ⟨x30, x31⟩ := hP 3 (by omega)
    obtain ⟨x40, x41⟩ := hP 4 (by omega)
    have B2 := Lib.hid (B1.out.trans (hb2.mono z1))
    have R2 := Lib.hid (R1.out.kept hb2)
    have z2 := B2.out.size
    clear hP hcell hb2 B1 R1 HR1
    generalize P 0 = x0 at *
    generalize P 1 = x1 at *
    generalize P 2 = x2 at *
    generalize P 3 = x3 at *
    generalize P 4 = x4 at *
    clear P
    have m0 : x0.tmod 120 = x0 % 120 := Int.tmod_eq_emod_of_nonneg x00
    have m1 : x1.tmod 9 = x1 % 9 := Int.tmod_eq_emod_of_nonneg x10
    obtain ⟨M1, M2, M3⟩ := moved (F := G) (n := m) (f := 1 + x1 % 9) (t := x0 % 120) HV.out
    have M1 := Lib.hid M1
    have M2 := Lib.hid M2
    have M3 := Lib.hid M3
    have HN : moveN G m (1 + x1 % 9) (x0 % 120) ≤ m + 1 := by unfold moveN; split <;> omega
    have MA := Lib.hid (fun w hr => move_any A1 m c1 G (1 + x1 % 9) (x0 % 120) w (by omega) HA.out hr)
    go_wp2_with fail
    with_reducible refine (MA.out _ R2.out).mono ?_
    rintro e w3 ⟨v3, rfl, o3, hb3⟩
    obtain ⟨A3, c3, rfl, _, _⟩ := own_recs o3
    have R3 := Lib.hid (own_rec o3)
    have L3 := Lib.hid (R2.out.kept hb3)
    have c02 := Lib.hid ((hb3.cell (p := ⟨q, 2, none⟩) hq2).trans p2.out)
    have c03 := Lib.hid ((hb3.cell (p := ⟨q, 3, none⟩) hq2).trans p3.out)
    have c04 := Lib.hid ((hb3.cell (p := ⟨q, 4, none⟩) hq2).trans p4.out)
    have B3 := Lib.hid (B2.out.trans (hb3.mono z2))
    have z3 := hb3.size
    clear o3 hb3 MA R2 B2 p2 p3 p4 p0 p1 m0 m1
    generalize moveB G m (1 + x1 % 9) (x0 % 120) = ok at *
    generalize moveG G m (1 + x1 % 9) (x0 % 120) = H at *
    generalize moveN G m (1 + x1 % 9) (x0 % 120) = h at *
    generalize x0 % 120 = t at *
    generalize hff : 1 + x1 % 9 = f at *
    go_wp2_with fail
    with_reducible refine (fund_any A1 m c1 G t _ (by omega) L3.out).mono ?_
    rintro e w4 ⟨rfl, hb4⟩
    have R4 := Lib.hid (R3.out.kept hb4)
    have L4 := Lib.hid (L3.out.kept hb4)
    have d2 := Lib.hid ((hb4.cell (p := ⟨q, 2, none⟩) (by show q < _; omega)).trans c02.out)
    have d3 := Lib.hid ((hb4.cell (p := ⟨q, 3, none⟩) (by show q < _; omega)).trans c03.out)
    have d4 := Lib.hid ((hb4.cell (p := ⟨q, 4, none⟩) (by show q < _; omega)).trans c04.out)
    have B4 := Lib.hid (B3.out.trans (hb4.mono (by omega)))
    have z4 := hb4.size
    clear hb4 R3 L3 c02 c03 c04 B3
    go_wp2_with fail
    go_loopw [10] (fun i wr => ∃ j : Nat, j ≤ 120 ∧ i = .int .i64 j ∧ Below w4.heap.size w4 wr) (fun i _ => (120 - intOf i).toNat)
    case atStart => exact ⟨0, by omega, rfl, Below.refl _ _⟩
    case round =>
      obtain ⟨j, hj, rfl, hbw⟩ := hrel
      have HB := Lib.hid hbw
      have zw := hbw.size
      clear hbw
      obtain ⟨wo, rfl⟩ : ∃ wo : World, wo = wr := ⟨_, rfl⟩
      by_cases hlt : j < 120
      · have hji : (j : Int) < 120 := by omega
        obtain ⟨k1, k2, k3⟩ := M1.out j
        go_wp2_with fail
        with_reducible refine (fund_any A3 h c3 H j _ (by omega) (R4.out.kept HB.out)).mono ?_
        rintro e w5 ⟨rfl, hb5⟩
        have B5 := Lib.hid (HB.out.trans (hb5.mono zw))
        have z5 := B5.out.size
        clear hb5 HB
        go_wp2_with fail
        with_reducible refine (sfund_any A1 m c1 G j _ (by omega) (L4.out.kept B5.out)).mono ?_
        rintro e w6 ⟨rfl, hb6⟩
        have B6 := Lib.hid (B5.out.trans (hb6.mono z5))
        clear hb6 B5
        generalize fundI H h j = x at *
        generalize fundI G m j = y at *
        have K1 := Lib.hid k1
        have K2 := Lib.hid k2
        have K3 := Lib.hid k3
        clear k1 k2 k3
        by_cases hxy : x = y
        · subst hxy
          clear K1 K2 K3
          have hq0 : ((x == 0) != (x == 0)) = false := by simp
          have hq1 : (x != x) = false := by simp
          rcases Bool.eq_false_or_eq_true (decide ((j : Int) < t)) with q1 | q1 <;> cases ok
          all_goals (go_wp2_with fail; go_roundw; (case rel => exact ⟨j + 1, by omega, by go_num, B6.out⟩); (case measure => simp [intOf]; omega))
        · have q1 : decide ((j : Int) < t) = false := decide_eq_false fun hh => hxy (K2.out hh)
          obtain rfl : ok = true := by
            rcases Bool.eq_false_or_eq_true ok with hb | hb
            · exact hb
            · exact absurd (K3.out hb) hxy
          have hz := K1.out
          have hne : (x != y) = true := by simp [hxy]
          clear K1 K2 K3
          rcases Bool.eq_false_or_eq_true (y == 0) with q2 | q2
          · rw [q2] at hz
            (go_wp2_with fail; go_roundw; (case rel => exact ⟨j + 1, by omega, by go_num, B6.out⟩); (case measure => simp [intOf]; omega))
          · rw [q2] at hz
            (go_wp2_with fail; go_roundw; (case rel => exact ⟨j + 1, by omega, by go_num, B6.out⟩); (case measure => simp [intOf]; omega))
      · obtain rfl : j = 120 := by omega
        have e2 := Lib.hid ((HB.out.cell (p := ⟨q, 2, none⟩) (by show q < _; omega)).trans d2.out)
        have e3 := Lib.hid ((HB.out.cell (p := ⟨q, 3, none⟩) (by show q < _; omega)).trans d3.out)
        have e4 := Lib.hid ((HB.out.cell (p := ⟨q, 4, none⟩) (by show q < _; omega)).trans d4.out)
        have BQ := Lib.hid (B4.out.trans (HB.out.mono (by omega)))
        have RQ := Lib.hid (R4.out.kept HB.out)
        have lq : q < wo.heap.size := by omega
        clear HB R4 L4 d2 d3 d4 B4
        go_wp2_with fail
        have f2 := e2.out
        have f3 := e3.out
        have f4 := e4.out
        go_cut [13, 14] (fun s13 s14 wx => ∃ (AM : Option Addr) (cM : Nat), s13 = .slice AM 3 cM ∧ s14 = .bool (moneyB (coins x2 x3) 3 0 1 x4) ∧ Below wo.heap.size wo wx ∧ Row wx .i64 AM 3 (moneyF (coins x2 x3) 3 0 1 x4))
        case first =>
          go_region_held3 (fun w' => w'.cell? ⟨q, 2, none⟩ = some (.int .i64 x2) ∧ w'.cell? ⟨q, 3, none⟩ = some (.int .i64 x3) ∧ w'.cell? ⟨q, 4, none⟩ = some (.int .i64 x4)) (simp [go_sem, *])
            (first | (go_at_call 29; (with_reducible refine (money_any _ 3 3 (coins x2 x3) 0 1 x4 _ (by omega) (headed_some _ _) (row3 (t := 3) (by (repeat (first | with_reducible assumption | with_reducible exact Box.made _ _ _ | (with_reducible refine Box.made_at ?hg; case hg => (simp; done)) | with_reducible refine Box.drew ?_ | with_reducible refine Box.alloc ?_ _ | (with_reducible refine Box.put2 (a := .int .i64 0) (b := .int .i64 0) ?_ _ _) | (with_reducible refine Box.far ?_ ?hg _; case hg => ((try simp) <;> (try omega))) | with_reducible refine Box.kept ?_ (by with_reducible assumption)))))).mono ?_); rintro e wm ⟨vm, rfl, om, hbm⟩; obtain ⟨AM, cM, rfl, _, rm, _⟩ := own_row om; have RM := Lib.hid rm; clear om rm; obtain ⟨hcm, hfm⟩ := bcell hbm; (try simp only [World.size_drew] at hcm hfm); have zm := hbm.size; (try simp at zm)))
          all_goals (go_wp2_with fail; go_meet; refine ⟨AM, cM, rfl, rfl, ?_, ?_⟩)
          all_goals first | (with_reducible refine Below.mono ?_ (Nat.le_refl _); (repeat (first | with_reducible exact Below.refl _ _ | with_reducible refine Below.drew ?_ | (with_reducible refine Below.alloc ?_ ?hsz _; case hsz => ((try simp) <;> (try omega))) | (with_reducible refine Below.setCell ?_ ?hsz _; case hsz => ((try simp) <;> (try omega))) | (with_reducible refine below_step (by with_reducible assumption) ?hsz ?_; case hsz => ((try simp) <;> (try omega))))); done) | exact RM.out
        case rest =>
          obtain ⟨wz, rfl⟩ : ∃ w0 : World, w0 = wc := ⟨_, rfl⟩
          obtain ⟨AM, cM, rfl, rfl, hbz, hrM⟩ := hcut
          rw [coins_ok x20 x21 x30 x31 x40]
          have hsum := coins_sum (x := x2) (y := x3) (c := x4)
          obtain ⟨u0, u1, u2, u3⟩ := coins_bd x20 x21 x30 x31 x40
          obtain ⟨bm, om, rfl, lm, g0⟩ := hrM.hid (i := 0) (by omega)
          obtain ⟨_, _, e, _, g1⟩ := hrM.hid (i := 1) (by omega)
          cases e
          have h2 := (hbz.cell (p := ⟨q, 2, none⟩) lq).trans e2.out
          have h3 := (hbz.cell (p := ⟨q, 3, none⟩) lq).trans e3.out
          have h4 := (hbz.cell (p := ⟨q, 4, none⟩) lq).trans e4.out
          have BZ := Lib.hid (BQ.out.trans (hbz.mono (by omega)))
          have RZ := Lib.hid (RQ.out.kept hbz)
          have lqz : q < wz.heap.size := Nat.lt_of_lt_of_le lq hbz.size
          rw [Nat.add_zero] at g0
          clear hbz hrM f2 f3 f4
          generalize moneyF (coins x2 x3) 3 0 1 x4 0 = y0 at *
          generalize moneyF (coins x2 x3) 3 0 1 x4 1 = y1 at *
          have FA := Lib.hid (fun w hr => fund_any A3 h c3 H t w (by omega) hr)
          have SA := Lib.hid (fun w hr => staysOk_any A3 h c3 H w (by omega) hr)
          rw [M3.out] at SA
          generalize hold : fundI G m t = old at *
          clear hold M1
          cases ok
          · clear M2
            rcases Bool.eq_false_or_eq_true (old != f) with r2 | r2
            · go_wp2_with fail
              refine wp_region_held_drew (S := (fun w' => w'.cell? ⟨q, 2, none⟩ = some (.int .i64 x2) ∧ w'.cell? ⟨q, 3, none⟩ = some (.int .i64 x3) ∧ w'.cell? ⟨q, 4, none⟩ = some (.int .i64 x4) ∧ w'.cell? ⟨bm, om, none⟩ = some (.int .i64 y0) ∧ w'.cell? ⟨bm, om + 1, none⟩ = some (.int .i64 y1))) (by kernel_rfl) (by (try dsimp only); simp [go_sem, *]) (fun hHeld => ?_)
              refine wpAnyH_take (i := 0) (oi := ?oi0a) (v := ?v0a) ?hi0a (by kernel_rfl) (by kernel_rfl) (by kernel_rfl) ?hQ0a ?hy0a (by assumption) ?hh0a
              case hi0a => simp only [List.getElem?_toArray, List.getElem?_cons_zero]; rfl
              case hy0a =>
                refine Or.inl ⟨by rfl, ?_⟩
                intro w hSw
                (try dsimp only at hSw)
                go_simp
                all_goals with_reducible rfl
              case hQ0a => exact fun _ _ _ h => h
              simp only [Act.put, List.setIfInBounds_toArray, List.set_cons_zero, List.set_cons_succ]
              refine wpAnyH_take (i := 1) (oi := ?oi1a) (v := ?v1a) ?hi1a (by kernel_rfl) (by kernel_rfl) (by kernel_rfl) ?hQ1a ?hy1a (by assumption) ?hh1a
              case hi1a => simp only [List.getElem?_toArray, List.getElem?_cons_succ, List.getElem?_cons_zero]; rfl
              case hy1a =>
                refine Or.inl ⟨by rfl, ?_⟩
                intro w hSw
                (try dsimp only at hSw)
                go_simp
                all_goals with_reducible rfl
              case hQ1a => exact fun _ _ _ h => h
              simp only [Act.put, List.setIfInBounds_toArray, List.set_cons_zero, List.set_cons_succ]
              refine wpAnyH_take (i := 2) (oi := ?oi2a) (v := ?v2a) ?hi2a (by kernel_rfl) (by kernel_rfl) (by kernel_rfl) ?hQ2a ?hy2a (by assumption) ?hh2a
              case hi2a => simp only [List.getElem?_toArray, List.getElem?_cons_succ, List.getElem?_cons_zero]; rfl
              case hy2a =>
                refine Or.inl ⟨by rfl, ?_⟩
                intro w hSw
                (try dsimp only at hSw)
                go_simp
                all_goals with_reducible rfl
              case hQ2a => exact fun _ _ _ h => h
              simp only [Act.put, List.setIfInBounds_toArray, List.set_cons_zero, List.set_cons_succ]
              refine wpAnyH_take (i := 3) (oi := ?oi3a) (v := undef) ?hi3a (by kernel_rfl) (by kernel_rfl) (by kernel_rfl) ?hQ3a ?hy3a (by assumption) ?hh3a
              case hi3a => simp only [List.getElem?_toArray, List.getElem?_cons_succ, List.getElem?_cons_zero]; rfl
              case hy3a => exact Or.inr ⟨by rfl, rfl⟩
              case hQ3a => exact fun _ _ _ h => h
              simp only [Act.put, List.setIfInBounds_toArray, List.set_cons_zero, List.set_cons_succ]
              refine wpAnyH_take (i := 4) (oi := ?oi4a) (v := undef) ?hi4a (by kernel_rfl) (by kernel_rfl) (by kernel_rfl) ?hQ4a ?hy4a (by assumption) ?hh4a
              case hi4a => simp only [List.getElem?_toArray, List.getElem?_cons_succ, List.getElem?_cons_zero]; rfl
              case hy4a => exact Or.inr ⟨by rfl, rfl⟩
              case hQ4a => exact fun _ _ _ h => h
              simp only [Act.put, List.setIfInBounds_toArray, List.set_cons_zero, List.set_cons_succ]
              refine wpAnyH_take (i := 5) (oi := ?oi5a) (v := undef) ?hi5a (by kernel_rfl) (by kernel_rfl) (by kernel_rfl) ?hQ5a ?hy5a (by assumption) ?hh5a
              case hi5a => simp only [List.getElem?_toArray, List.getElem?_cons_succ, List.getElem?_cons_zero]; rfl
              case hy5a => exact Or.inr ⟨by rfl, rfl⟩
              case hQ5a => exact fun _ _ _ h => h
              simp only [Act.put, List.setIfInBounds_toArray, List.set_cons_zero, List.set_cons_succ]
              refine wpAnyH_take (i := 6) (oi := ?oi6a) (v := undef) ?hi6a (by kernel_rfl) (by kernel_rfl) (by kernel_rfl) ?hQ6a ?hy6a (by assumption) ?hh6a
              case hi6a => simp only [List.getElem?_toArray, List.getElem?_cons_succ, List.getElem?_cons_zero]; rfl
              case hy6a => exact Or.inr ⟨by rfl, rfl⟩
              case hQ6a => exact fun _ _ _ h => h
              simp only [Act.put, List.setIfInBounds_toArray, List.set_cons_zero, List.set_cons_succ]
              refine wpAnyH_take (i := 7) (oi := ?oi7a) (v := undef) ?hi7a (by kernel_rfl) (by kernel_rfl) (by kernel_rfl) ?hQ7a ?hy7a (by assumption) ?hh7a
              case hi7a => simp only [List.getElem?_toArray, List.getElem?_cons_succ, List.getElem?_cons_zero]; rfl
              case hy7a => exact Or.inr ⟨by rfl, rfl⟩
              case hQ7a => exact fun _ _ _ h => h
              simp only [Act.put, List.setIfInBounds_toArray, List.set_cons_zero, List.set_cons_succ]
              refine wpAnyH_take (i := 8) (oi := ?oi8a) (v := ?v8a) ?hi8a (by kernel_rfl) (by kernel_rfl) (by kernel_rfl) ?hQ8a ?hy8a (by assumption) ?hh8a
              case hi8a => simp only [List.getElem?_toArray, List.getElem?_cons_succ, List.getElem?_cons_zero]; rfl
              case hy8a =>
                refine Or.inl ⟨by rfl, ?_⟩
                intro w hSw
                (try dsimp only at hSw)
                go_simp
                all_goals with_reducible rfl
              case hQ8a => exact fun _ _ _ h => h
              simp only [Act.put, List.setIfInBounds_toArray, List.set_cons_zero, List.set_cons_succ]
              refine wpAnyH_take (i := 9) (oi := ?oi9a) (v := ?v9a) ?hi9a (by kernel_rfl) (by kernel_rfl) (by kernel_rfl) ?hQ9a ?hy9a (by assumption) ?hh9a
              case hi9a => simp only [List.getElem?_toArray, List.getElem?_cons_succ, List.getElem?_cons_zero]; rfl
              case hy9a =>
                refine Or.inl ⟨by rfl, ?_⟩
                intro w hSw
                (try dsimp only at hSw)
                go_simp
                all_goals with_reducible rfl
              case hQ9a => exact fun _ _ _ h => h
              simp only [Act.put, List.setIfInBounds_toArray, List.set_cons_zero, List.set_cons_succ]
              refine wpAnyH_take (i := 10) (oi := ?oi10a) (v := ?v10a) ?hi10a (by kernel_rfl) (by kernel_rfl) (by kernel_rfl) ?hQ10a ?hy10a (by assumption) ?hh10a
              case hi10a => simp only [List.getElem?_toArray, List.getElem?_cons_succ, List.getElem?_cons_zero]; rfl
              case hy10a =>
                refine Or.inl ⟨by rfl, ?_⟩
                intro w hSw
                (try dsimp only at hSw)
                go_simp
                all_goals with_reducible rfl
              case hQ10a => exact fun _ _ _ h => h
              simp only [Act.put, List.setIfInBounds_toArray, List.set_cons_zero, List.set_cons_succ]
              refine wpAnyH_take (i := 11) (oi := ?oi11a) (v := ?v11a) ?hi11a (by kernel_rfl) (by kernel_rfl) (by kernel_rfl) ?hQ11a ?hy11a (by assumption) ?hh11a
              case hi11a => simp only [List.getElem?_toArray, List.getElem?_cons_succ, List.getElem?_cons_zero]; rfl
              case hy11a =>
                refine Or.inl ⟨by rfl, ?_⟩
                intro w hSw
                (try dsimp only at hSw)
                go_simp
                all_goals with_reducible rfl
              case hQ11a => exact fun _ _ _ h => h
              simp only [Act.put, List.setIfInBounds_toArray, List.set_cons_zero, List.set_cons_succ]
              refine wpAnyH_take (i := 12) (oi := ?oi12a) (v := ?v12a) ?hi12a (by kernel_rfl) (by kernel_rfl) (by kernel_rfl) ?hQ12a ?hy12a (by assumption) ?hh12a
              case hi12a => simp only [List.getElem?_toArray, List.getElem?_cons_succ, List.getElem?_cons_zero]; rfl
              case hy12a =>
                refine Or.inl ⟨by rfl, ?_⟩
                intro w hSw
                (try dsimp only at hSw)
                go_simp
                all_goals with_reducible rfl
              case hQ12a => exact fun _ _ _ h => h
              simp only [Act.put, List.setIfInBounds_toArray, List.set_cons_zero, List.set_cons_succ]
              refine wpAnyH_take (i := 13) (oi := ?oi13a) (v := ?v13a) ?hi13a (by kernel_rfl) (by kernel_rfl) (by kernel_rfl) ?hQ13a ?hy13a (by assumption) ?hh13a
              case hi13a => simp only [List.getElem?_toArray, List.getElem?_cons_succ, List.getElem?_cons_zero]; rfl
              case hy13a =>
                refine Or.inl ⟨by rfl, ?_⟩
                intro w hSw
                (try dsimp only at hSw)
                go_simp
                all_goals with_reducible rfl
              case hQ13a => exact fun _ _ _ h => h
              simp only [Act.put, List.setIfInBounds_toArray, List.set_cons_zero, List.set_cons_succ]
              refine wpAnyH_take (i := 14) (oi := ?oi14a) (v := ?v14a) ?hi14a (by kernel_rfl) (by kernel_rfl) (by kernel_rfl) ?hQ14a ?hy14a (by assumption) ?hh14a
              case hi14a => simp only [List.getElem?_toArray, List.getElem?_cons_succ, List.getElem?_cons_zero]; rfl
              case hy14a =>
                refine Or.inl ⟨by rfl, ?_⟩
                intro w hSw
                (try dsimp only at hSw)
                go_simp
                all_goals with_reducible rfl
              case hQ14a => exact fun _ _ _ h => h
              simp only [Act.put, List.setIfInBounds_toArray, List.set_cons_zero, List.set_cons_succ]
              refine wpAnyH_take (i := 15) (oi := ?oi15a) (v := ?v15a) ?hi15a (by kernel_rfl) (by kernel_rfl) (by kernel_rfl) ?hQ15a ?hy15a (by assumption) ?hh15a
              case hi15a => simp only [List.getElem?_toArray, List.getElem?_cons_succ, List.getElem?_cons_zero]; rfl
              case hy15a =>
                refine Or.inl ⟨by rfl, ?_⟩
                intro w hSw
                (try dsimp only at hSw)
                go_simp
                all_goals with_reducible rfl
              case hQ15a => exact fun _ _ _ h => h
              simp only [Act.put, List.setIfInBounds_toArray, List.set_cons_zero, List.set_cons_succ]
              refine wpAnyH_take (i := 16) (oi := ?oi16a) (v := ?v16a) ?hi16a (by kernel_rfl) (by kernel_rfl) (by kernel_rfl) ?hQ16a ?hy16a (by assumption) ?hh16a
              case hi16a => simp only [List.getElem?_toArray, List.getElem?_cons_succ, List.getElem?_cons_zero]; rfl
              case hy16a =>
                refine Or.inl ⟨by rfl, ?_⟩
                intro w hSw
                (try dsimp only at hSw)
                go_simp
                all_goals with_reducible rfl
              case hQ16a => exact fun _ _ _ h => h
              simp only [Act.put, List.setIfInBounds_toArray, List.set_cons_zero, List.set_cons_succ]
              refine wpAnyH_take (i := 17) (oi := ?oi17a) (v := ?v17a) ?hi17a (by kernel_rfl) (by kernel_rfl) (by kernel_rfl) ?hQ17a ?hy17a (by assumption) ?hh17a
              case hi17a => simp only [List.getElem?_toArray, List.getElem?_cons_succ, List.getElem?_cons_zero]; rfl
              case hy17a =>
                refine Or.inl ⟨by rfl, ?_⟩
                intro w hSw
                (try dsimp only at hSw)
                go_simp
                all_goals with_reducible rfl
              case hQ17a => exact fun _ _ _ h => h
              simp only [Act.put, List.setIfInBounds_toArray, List.set_cons_zero, List.set_cons_succ]
              refine wpAnyH_take (i := 18) (oi := ?oi18a) (v := ?v18a) ?hi18a (by kernel_rfl) (by kernel_rfl) (by kernel_rfl) ?hQ18a ?hy18a (by assumption) ?hh18a
              case hi18a => simp only [List.getElem?_toArray, List.getElem?_cons_succ, List.getElem?_cons_zero]; rfl
              case hy18a =>
                refine Or.inl ⟨by rfl, ?_⟩
                intro w hSw
                (try dsimp only at hSw)
                go_simp
                all_goals with_reducible rfl
              case hQ18a => exact fun _ _ _ h => h
              simp only [Act.put, List.setIfInBounds_toArray, List.set_cons_zero, List.set_cons_succ]
              refine wpAnyH_take (i := 19) (oi := ?oi19a) (v := ?v19a) ?hi19a (by kernel_rfl) (by kernel_rfl) (by kernel_rfl) ?hQ19a ?hy19a (by assumption) ?hh19a
              case hi19a => simp only [List.getElem?_toArray, List.getElem?_cons_succ, List.getElem?_cons_zero]; rfl
              case hy19a =>
                refine Or.inl ⟨by rfl, ?_⟩
                intro w hSw
                (try dsimp only at hSw)
                go_simp
                all_goals with_reducible rfl
              case hQ19a => exact fun _ _ _ h => h
              simp only [Act.put, List.setIfInBounds_toArray, List.set_cons_zero, List.set_cons_succ]
              refine wpAnyH_take (i := 20) (oi := ?oi20a) (v := ?v20a) ?hi20a (by kernel_rfl) (by kernel_rfl) (by kernel_rfl) ?hQ20a ?hy20a (by assumption) ?hh20a
              case hi20a => simp only [List.getElem?_toArray, List.getElem?_cons_succ, List.getElem?_cons_zero]; rfl
              case hy20a =>
                refine Or.inl ⟨by rfl, ?_⟩
                intro w hSw
                (try dsimp only at hSw)
                go_simp
                all_goals with_reducible rfl
              case hQ20a => exact fun _ _ _ h => h
              simp only [Act.put, List.setIfInBounds_toArray, List.set_cons_zero, List.set_cons_succ]
              refine wpAnyH_take (i := 21) (oi := ?oi21a) (v := ?v21a) ?hi21a (by kernel_rfl) (by kernel_rfl) (by kernel_rfl) ?hQ21a ?hy21a (by assumption) ?hh21a
              case hi21a => simp only [List.getElem?_toArray, List.getElem?_cons_succ, List.getElem?_cons_zero]; rfl
              case hy21a =>
                refine Or.inl ⟨by rfl, ?_⟩
                intro w hSw
                (try dsimp only at hSw)
                go_simp
                all_goals with_reducible rfl
              case hQ21a => exact fun _ _ _ h => h
              simp only [Act.put, List.setIfInBounds_toArray, List.set_cons_zero, List.set_cons_succ]
              refine wpAnyH_take (i := 22) (oi := ?oi22a) (v := ?v22a) ?hi22a (by kernel_rfl) (by kernel_rfl) (by kernel_rfl) ?hQ22a ?hy22a (by assumption) ?hh22a
              case hi22a => simp only [List.getElem?_toArray, List.getElem?_cons_succ, List.getElem?_cons_zero]; rfl
              case hy22a =>
                refine Or.inl ⟨by rfl, ?_⟩
                intro w hSw
                (try dsimp only at hSw)
                go_simp
                all_goals with_reducible rfl
              case hQ22a => exact fun _ _ _ h => h
              simp only [Act.put, List.setIfInBounds_toArray, List.set_cons_zero, List.set_cons_succ]
              refine wpAnyH_take (i := 23) (oi := ?oi23a) (v := ?v23a) ?hi23a (by kernel_rfl) (by kernel_rfl) (by kernel_rfl) ?hQ23a ?hy23a (by assumption) ?hh23a
              case hi23a => simp only [List.getElem?_toArray, List.getElem?_cons_succ, List.getElem?_cons_zero]; rfl
              case hy23a =>
                refine Or.inl ⟨by rfl, ?_⟩
                intro w hSw
                (try dsimp only at hSw)
                go_simp
                all_goals with_reducible rfl
              case hQ23a => exact fun _ _ _ h => h
              simp only [Act.put, List.setIfInBounds_toArray, List.set_cons_zero, List.set_cons_succ]
              refine wpAnyH_take (i := 24) (oi := ?oi24a) (v := ?v24a) ?hi24a (by kernel_rfl) (by kernel_rfl) (by kernel_rfl) ?hQ24a ?hy24a (by assumption) ?hh24a
              case hi24a => simp only [List.getElem?_toArray, List.getElem?_cons_succ, List.getElem?_cons_zero]; rfl
              case hy24a =>
                refine Or.inl ⟨by rfl, ?_⟩
                intro w hSw
                (try dsimp only at hSw)
                go_simp
                all_goals with_reducible rfl
              case hQ24a => exact fun _ _ _ h => h
              simp only [Act.put, List.setIfInBounds_toArray, List.set_cons_zero, List.set_cons_succ]
              refine wpAnyH_take (i := 25) (oi := ?oi25a) (v := ?v25a) ?hi25a (by kernel_rfl) (by kernel_rfl) (by kernel_rfl) ?hQ25a ?hy25a (by assumption) ?hh25a
              case hi25a => simp only [List.getElem?_toArray, List.getElem?_cons_succ, List.getElem?_cons_zero]; rfl
              case hy25a =>
                refine Or.inl ⟨by rfl, ?_⟩
                intro w hSw
                (try dsimp only at hSw)
                go_simp
                all_goals with_reducible rfl
              case hQ25a => exact fun _ _ _ h => h
              simp only [Act.put, List.setIfInBounds_toArray, List.set_cons_zero, List.set_cons_succ]
              refine wpAnyH_take (i := 26) (oi := ?oi26a) (v := ?v26a) ?hi26a (by kernel_rfl) (by kernel_rfl) (by kernel_rfl) ?hQ26a ?hy26a (by assumption) ?hh26a
              case hi26a => simp only [List.getElem?_toArray, List.getElem?_cons_succ, List.getElem?_cons_zero]; rfl
              case hy26a =>
                refine Or.inl ⟨by rfl, ?_⟩
                intro w hSw
                (try dsimp only at hSw)
                go_simp
                all_goals with_reducible rfl
              case hQ26a => exact fun _ _ _ h => h
              simp only [Act.put, List.setIfInBounds_toArray, List.set_cons_zero, List.set_cons_succ]
              refine wpAnyH_take (i := 27) (oi := ?oi27a) (v := ?v27a) ?hi27a (by kernel_rfl) (by kernel_rfl) (by kernel_rfl) ?hQ27a ?hy27a (by assumption) ?hh27a
              case hi27a => simp only [List.getElem?_toArray, List.getElem?_cons_succ, List.getElem?_cons_zero]; rfl
              case hy27a =>
                refine Or.inl ⟨by rfl, ?_⟩
                intro w hSw
                (try dsimp only at hSw)
                go_simp
                all_goals with_reducible rfl
              case hQ27a => exact fun _ _ _ h => h
              simp only [Act.put, List.setIfInBounds_toArray, List.set_cons_zero, List.set_cons_succ]
              refine wpAnyH_take (i := 28) (oi := ?oi28a) (v := ?v28a) ?hi28a (by kernel_rfl) (by kernel_rfl) (by kernel_rfl) ?hQ28a ?hy28a (by assumption) ?hh28a
              case hi28a => simp only [List.getElem?_toArray, List.getElem?_cons_succ, List.getElem?_cons_zero]; rfl
              case hy28a =>
                refine Or.inl ⟨by rfl, ?_⟩
                intro w hSw
                (try dsimp only at hSw)
                go_simp
                all_goals with_reducible rfl
              case hQ28a => exact fun _ _ _ h => h
              simp only [Act.put, List.setIfInBounds_toArray, List.set_cons_zero, List.set_cons_succ]
              refine wpAnyH_take (i := 29) (oi := ?oi29a) (v := ?v29a) ?hi29a (by kernel_rfl) (by kernel_rfl) (by kernel_rfl) ?hQ29a ?hy29a (by assumption) ?hh29a
              case hi29a => simp only [List.getElem?_toArray, List.getElem?_cons_succ, List.getElem?_cons_zero]; rfl
              case hy29a =>
                refine Or.inl ⟨by rfl, ?_⟩
                intro w hSw
                (try dsimp only at hSw)
                go_simp
                all_goals with_reducible rfl
              case hQ29a => exact fun _ _ _ h => h
              simp only [Act.put, List.setIfInBounds_toArray, List.set_cons_zero, List.set_cons_succ]
              refine wpAnyH_take (i := 30) (oi := ?oi30a) (v := ?v30a) ?hi30a (by kernel_rfl) (by kernel_rfl) (by kernel_rfl) ?hQ30a ?hy30a (by assumption) ?hh30a
              case hi30a => simp only [List.getElem?_toArray, List.getElem?_cons_succ, List.getElem?_cons_zero]; rfl
              case hy30a =>
                refine Or.inl ⟨by rfl, ?_⟩
                intro w hSw
                (try dsimp only at hSw)
                go_simp
                all_goals with_reducible rfl
              case hQ30a => exact fun _ _ _ h => h
              simp only [Act.put, List.setIfInBounds_toArray, List.set_cons_zero, List.set_cons_succ]
              refine wpAnyH_take (i := 31) (oi := ?oi31a) (v := ?v31a) ?hi31a (by kernel_rfl) (by kernel_rfl) (by kernel_rfl) ?hQ31a ?hy31a (by assumption) ?hh31a
              case hi31a => simp only [List.getElem?_toArray, List.getElem?_cons_succ, List.getElem?_cons_zero]; rfl
              case hy31a =>
                refine Or.inl ⟨by rfl, ?_⟩
                intro w hSw
                (try dsimp only at hSw)
                go_simp
                all_goals with_reducible rfl
              case hQ31a => exact fun _ _ _ h => h
              simp only [Act.put, List.setIfInBounds_toArray, List.set_cons_zero, List.set_cons_succ]
              refine wpAnyH_take (i := 32) (oi := ?oi32a) (v := ?v32a) ?hi32a (by kernel_rfl) (by kernel_rfl) (by kernel_rfl) ?hQ32a ?hy32a (by assumption) ?hh32a
              case hi32a => simp only [List.getElem?_toArray, List.getElem?_cons_succ, List.getElem?_cons_zero]; rfl
              case hy32a =>
                refine Or.inl ⟨by rfl, ?_⟩
                intro w hSw
                (try dsimp only at hSw)
                go_simp
                all_goals with_reducible rfl
              case hQ32a => exact fun _ _ _ h => h
              simp only [Act.put, List.setIfInBounds_toArray, List.set_cons_zero, List.set_cons_succ]
              refine wpAnyH_take (i := 33) (oi := ?oi33a) (v := ?v33a) ?hi33a (by kernel_rfl) (by kernel_rfl) (by kernel_rfl) ?hQ33a ?hy33a (by assumption) ?hh33a
              case hi33a => simp only [List.getElem?_toArray, List.getElem?_cons_succ, List.getElem?_cons_zero]; rfl
              case hy33a =>
                refine Or.inl ⟨by rfl, ?_⟩
                intro w hSw
                (try dsimp only at hSw)
                go_simp
                all_goals with_reducible rfl
              case hQ33a => exact fun _ _ _ h => h
              simp only [Act.put, List.setIfInBounds_toArray, List.set_cons_zero, List.set_cons_succ]
              refine wpAnyH_take (i := 34) (oi := ?oi34a) (v := ?v34a) ?hi34a (by kernel_rfl) (by kernel_rfl) (by kernel_rfl) ?hQ34a ?hy34a (by assumption) ?hh34a
              case hi34a => simp only [List.getElem?_toArray, List.getElem?_cons_succ, List.getElem?_cons_zero]; rfl
              case hy34a =>
                refine Or.inl ⟨by rfl, ?_⟩
                intro w hSw
                (try dsimp only at hSw)
                go_simp
                all_goals with_reducible rfl
              case hQ34a => exact fun _ _ _ h => h
              simp only [Act.put, List.setIfInBounds_toArray, List.set_cons_zero, List.set_cons_succ]
              refine wpAnyH_take (i := 35) (oi := ?oi35a) (v := ?v35a) ?hi35a (by kernel_rfl) (by kernel_rfl) (by kernel_rfl) ?hQ35a ?hy35a (by assumption) ?hh35a
              case hi35a => simp only [List.getElem?_toArray, List.getElem?_cons_succ, List.getElem?_cons_zero]; rfl
              case hy35a =>
                refine Or.inl ⟨by rfl, ?_⟩
                intro w hSw
                (try dsimp only at hSw)
                go_simp
                all_goals with_reducible rfl
              case hQ35a => exact fun _ _ _ h => h
              simp only [Act.put, List.setIfInBounds_toArray, List.set_cons_zero, List.set_cons_succ]
              refine wpAnyH_take (i := 36) (oi := ?oi36a) (v := ?v36a) ?hi36a (by kernel_rfl) (by kernel_rfl) (by kernel_rfl) ?hQ36a ?hy36a (by assumption) ?hh36a
              case hi36a => simp only [List.getElem?_toArray, List.getElem?_cons_succ, List.getElem?_cons_zero]; rfl
              case hy36a =>
                refine Or.inl ⟨by rfl, ?_⟩
                intro w hSw
                (try dsimp only at hSw)
                go_simp
                all_goals with_reducible rfl
              case hQ36a => exact fun _ _ _ h => h
              simp only [Act.put, List.setIfInBounds_toArray, List.set_cons_zero, List.set_cons_succ]
              refine wpAnyH_take (i := 37) (oi := ?oi37a) (v := ?v37a) ?hi37a (by kernel_rfl) (by kernel_rfl) (by kernel_rfl) ?hQ37a ?hy37a (by assumption) ?hh37a
              case hi37a => simp only [List.getElem?_toArray, List.getElem?_cons_succ, List.getElem?_cons_zero]; rfl
              case hy37a =>
                refine Or.inl ⟨by rfl, ?_⟩
                intro w hSw
                (try dsimp only at hSw)
                go_simp
                all_goals with_reducible rfl
              case hQ37a => exact fun _ _ _ h => h
              simp only [Act.put, List.setIfInBounds_toArray, List.set_cons_zero, List.set_cons_succ]
              refine wpAnyH_take (i := 38) (oi := ?oi38a) (v := ?v38a) ?hi38a (by kernel_rfl) (by kernel_rfl) (by kernel_rfl) ?hQ38a ?hy38a (by assumption) ?hh38a
              case hi38a => simp only [List.getElem?_toArray, List.getElem?_cons_succ, List.getElem?_cons_zero]; rfl
              case hy38a =>
                refine Or.inl ⟨by rfl, ?_⟩
                intro w hSw
                (try dsimp only at hSw)
                go_simp
                all_goals with_reducible rfl
              case hQ38a => exact fun _ _ _ h => h
              simp only [Act.put, List.setIfInBounds_toArray, List.set_cons_zero, List.set_cons_succ]
              refine wpAnyH_take (i := 39) (oi := ?oi39a) (v := ?v39a) ?hi39a (by kernel_rfl) (by kernel_rfl) (by kernel_rfl) ?hQ39a ?hy39a (by assumption) ?hh39a
              case hi39a => simp only [List.getElem?_toArray, List.getElem?_cons_succ, List.getElem?_cons_zero]; rfl
              case hy39a =>
                refine Or.inl ⟨by rfl, ?_⟩
                intro w hSw
                (try dsimp only at hSw)
                go_simp
                all_goals with_reducible rfl
              case hQ39a => exact fun _ _ _ h => h
              simp only [Act.put, List.setIfInBounds_toArray, List.set_cons_zero, List.set_cons_succ]
              refine wpAnyH_take (i := 40) (oi := ?oi40a) (v := ?v40a) ?hi40a (by kernel_rfl) (by kernel_rfl) (by kernel_rfl) ?hQ40a ?hy40a (by assumption) ?hh40a
              case hi40a => simp only [List.getElem?_toArray, List.getElem?_cons_succ, List.getElem?_cons_zero]; rfl
              case hy40a =>
                refine Or.inl ⟨by rfl, ?_⟩
                intro w hSw
                (try dsimp only at hSw)
                go_simp
                all_goals with_reducible rfl
              case hQ40a => exact fun _ _ _ h => h
              simp only [Act.put, List.setIfInBounds_toArray, List.set_cons_zero, List.set_cons_succ]
              refine wpAnyH_take (i := 41) (oi := ?oi41a) (v := ?v41a) ?hi41a (by kernel_rfl) (by kernel_rfl) (by kernel_rfl) ?hQ41a ?hy41a (by assumption) ?hh41a
              case hi41a => simp only [List.getElem?_toArray, List.getElem?_cons_succ, List.getElem?_cons_zero]; rfl
              case hy41a =>
                refine Or.inl ⟨by rfl, ?_⟩
                intro w hSw
                (try dsimp only at hSw)
                go_simp
                all_goals with_reducible rfl
              case hQ41a => exact fun _ _ _ h => h
              simp only [Act.put, List.setIfInBounds_toArray, List.set_cons_zero, List.set_cons_succ]
              refine wpAnyH_take (i := 42) (oi := ?oi42a) (v := ?v42a) ?hi42a (by kernel_rfl) (by kernel_rfl) (by kernel_rfl) ?hQ42a ?hy42a (by assumption) ?hh42a
              case hi42a => simp only [List.getElem?_toArray, List.getElem?_cons_succ, List.getElem?_cons_zero]; rfl
              case hy42a =>
                refine Or.inl ⟨by rfl, ?_⟩
                intro w hSw
                (try dsimp only at hSw)
                go_simp
                all_goals with_reducible rfl
              case hQ42a => exact fun _ _ _ h => h
              simp only [Act.put, List.setIfInBounds_toArray, List.set_cons_zero, List.set_cons_succ]
              refine wpAnyH_take (i := 43) (oi := ?oi43a) (v := ?v43a) ?hi43a (by kernel_rfl) (by kernel_rfl) (by kernel_rfl) ?hQ43a ?hy43a (by assumption) ?hh43a
              case hi43a => simp only [List.getElem?_toArray, List.getElem?_cons_succ, List.getElem?_cons_zero]; rfl
              case hy43a =>
                refine Or.inl ⟨by rfl, ?_⟩
                intro w hSw
                (try dsimp only at hSw)
                go_simp
                all_goals with_reducible rfl
              case hQ43a => exact fun _ _ _ h => h
              simp only [Act.put, List.setIfInBounds_toArray, List.set_cons_zero, List.set_cons_succ]
              refine wpAnyH_take (i := 44) (oi := ?oi44a) (v := ?v44a) ?hi44a (by kernel_rfl) (by kernel_rfl) (by kernel_rfl) ?hQ44a ?hy44a (by assumption) ?hh44a
              case hi44a => simp only [List.getElem?_toArray, List.getElem?_cons_succ, List.getElem?_cons_zero]; rfl
              case hy44a =>
                refine Or.inl ⟨by rfl, ?_⟩
                intro w hSw
                (try dsimp only at hSw)
                go_simp
                all_goals with_reducible rfl
              case hQ44a => exact fun _ _ _ h => h
              simp only [Act.put, List.setIfInBounds_toArray, List.set_cons_zero, List.set_cons_succ]
              refine wpAnyH_take (i := 45) (oi := ?oi45a) (v := ?v45a) ?hi45a (by kernel_rfl) (by kernel_rfl) (by kernel_rfl) ?hQ45a ?hy45a (by assumption) ?hh45a
              case hi45a => simp only [List.getElem?_toArray, List.getElem?_cons_succ, List.getElem?_cons_zero]; rfl
              case hy45a =>
                refine Or.inl ⟨by rfl, ?_⟩
                intro w hSw
                (try dsimp only at hSw)
                go_simp
                all_goals with_reducible rfl
              case hQ45a => exact fun _ _ _ h => h
              simp only [Act.put, List.setIfInBounds_toArray, List.set_cons_zero, List.set_cons_succ]
              refine wpAnyH_take (i := 46) (oi := ?oi46a) (v := ?v46a) ?hi46a (by kernel_rfl) (by kernel_rfl) (by kernel_rfl) ?hQ46a ?hy46a (by assumption) ?hh46a
              case hi46a => simp only [List.getElem?_toArray, List.getElem?_cons_succ, List.getElem?_cons_zero]; rfl
              case hy46a =>
                refine Or.inl ⟨by rfl, ?_⟩
                intro w hSw
                (try dsimp only at hSw)
                go_simp
                all_goals with_reducible rfl
              case hQ46a => exact fun _ _ _ h => h
              simp only [Act.put, List.setIfInBounds_toArray, List.set_cons_zero, List.set_cons_succ]
              refine wpAnyH_take (i := 47) (oi := ?oi47a) (v := undef) ?hi47a (by kernel_rfl) (by kernel_rfl) (by kernel_rfl) ?hQ47a ?hy47a (by assumption) ?hh47a
              case hi47a => simp only [List.getElem?_toArray, List.getElem?_cons_succ, List.getElem?_cons_zero]; rfl
              case hy47a => exact Or.inr ⟨by rfl, rfl⟩
              case hQ47a => exact fun _ _ _ h => h
              simp only [Act.put, List.setIfInBounds_toArray, List.set_cons_zero, List.set_cons_succ]
              refine wpAnyH_take (i := 48) (oi := ?oi48a) (v := undef) ?hi48a (by kernel_rfl) (by kernel_rfl) (by kernel_rfl) ?hQ48a ?hy48a (by assumption) ?hh48a
              case hi48a => simp only [List.getElem?_toArray, List.getElem?_cons_succ, List.getElem?_cons_zero]; rfl
              case hy48a => exact Or.inr ⟨by rfl, rfl⟩
              case hQ48a => exact fun _ _ _ h => h
              simp only [Act.put, List.setIfInBounds_toArray, List.set_cons_zero, List.set_cons_succ]
              refine wpAnyH_take (i := 49) (oi := ?oi49a) (v := ?v49a) ?hi49a (by kernel_rfl) (by kernel_rfl) (by kernel_rfl) ?hQ49a ?hy49a (by assumption) ?hh49a
              case hi49a => simp only [List.getElem?_toArray, List.getElem?_cons_succ, List.getElem?_cons_zero]; rfl
              case hy49a =>
                refine Or.inl ⟨by rfl, ?_⟩
                intro w hSw
                (try dsimp only at hSw)
                go_simp
                all_goals with_reducible rfl
              case hQ49a => exact fun _ _ _ h => h
              simp only [Act.put, List.setIfInBounds_toArray, List.set_cons_zero, List.set_cons_succ]
              refine wpAnyH_take (i := 50) (oi := ?oi50a) (v := ?v50a) ?hi50a (by kernel_rfl) (by kernel_rfl) (by kernel_rfl) ?hQ50a ?hy50a (by assumption) ?hh50a
              case hi50a => simp only [List.getElem?_toArray, List.getElem?_cons_succ, List.getElem?_cons_zero]; rfl
              case hy50a =>
                refine Or.inl ⟨by rfl, ?_⟩
                intro w hSw
                (try dsimp only at hSw)
                go_simp
                all_goals with_reducible rfl
              case hQ50a => exact fun _ _ _ h => h
              simp only [Act.put, List.setIfInBounds_toArray, List.set_cons_zero, List.set_cons_succ]
              refine wpAnyH_take (i := 51) (oi := ?oi51a) (v := ?v51a) ?hi51a (by kernel_rfl) (by kernel_rfl) (by kernel_rfl) ?hQ51a ?hy51a (by assumption) ?hh51a
              case hi51a => simp only [List.getElem?_toArray, List.getElem?_cons_succ, List.getElem?_cons_zero]; rfl
              case hy51a =>
                refine Or.inl ⟨by rfl, ?_⟩
                intro w hSw
                (try dsimp only at hSw)
                go_simp
                all_goals with_reducible rfl
              case hQ51a => exact fun _ _ _ h => h
              simp only [Act.put, List.setIfInBounds_toArray, List.set_cons_zero, List.set_cons_succ]
              refine wpAnyH_take (i := 52) (oi := ?oi52a) (v := ?v52a) ?hi52a (by kernel_rfl) (by kernel_rfl) (by kernel_rfl) ?hQ52a ?hy52a (by assumption) ?hh52a
              case hi52a => simp only [List.getElem?_toArray, List.getElem?_cons_succ, List.getElem?_cons_zero]; rfl
              case hy52a =>
                refine Or.inl ⟨by rfl, ?_⟩
                intro w hSw
                (try dsimp only at hSw)
                go_simp
                all_goals with_reducible rfl
              case hQ52a => exact fun _ _ _ h => h
              simp only [Act.put, List.setIfInBounds_toArray, List.set_cons_zero, List.set_cons_succ]
              refine wpAnyH_ready (rs := [53]) (by kernel_rfl) (by simp) ?_
              refine AllReadyH.cons (o := ?ooa) ?hoa (fun K hK => ?hsa) AllReadyH.nil
              case hoa => simp only [List.getElem?_toArray, List.getElem?_cons_succ, List.getElem?_cons_zero]; rfl
              go_simp
              go_at_call 19
              with_reducible refine (SA.out _ (by repeat (first | exact RZ.out | with_reducible refine Recs.drew ?_))).mono ?_
              rintro e wg ⟨rfl, hbg⟩
              obtain ⟨hcg, hfg⟩ := bcell hbg
              (try simp only [World.size_drew] at hcg hfg)
              refine hK.out _ _ (by (try dsimp only); simp [go_sem, *]) (fun hHeld => ?_)
              clear hK K
              try simp only [Act.put, List.setIfInBounds_toArray, List.set_cons_zero, List.set_cons_succ]
              refine wpAnyH_take (i := 54) (oi := ?oi54a) (v := ?v54a) ?hi54a (by kernel_rfl) (by kernel_rfl) (by kernel_rfl) ?hQ54a ?hy54a (by assumption) ?hh54a
              case hi54a => simp only [List.getElem?_toArray, List.getElem?_cons_succ, List.getElem?_cons_zero]; rfl
              case hy54a =>
                refine Or.inl ⟨by rfl, ?_⟩
                intro w hSw
                (try dsimp only at hSw)
                go_simp
                all_goals with_reducible rfl
              case hQ54a => exact fun _ _ _ h => h
              simp only [Act.put, List.setIfInBounds_toArray, List.set_cons_zero, List.set_cons_succ]
              refine wpAnyH_take (i := 55) (oi := ?oi55a) (v := ?v55a) ?hi55a (by kernel_rfl) (by kernel_rfl) (by kernel_rfl) ?hQ55a ?hy55a (by assumption) ?hh55a
              case hi55a => simp only [List.getElem?_toArray, List.getElem?_cons_succ, List.getElem?_cons_zero]; rfl
              case hy55a =>
                refine Or.inl ⟨by rfl, ?_⟩
                intro w hSw
                (try dsimp only at hSw)
                go_simp
                all_goals with_reducible rfl
              case hQ55a => exact fun _ _ _ h => h
              simp only [Act.put, List.setIfInBounds_toArray, List.set_cons_zero, List.set_cons_succ]
              refine wpAnyH_done (by kernel_rfl) ?_ _
              (all_goals go_wp2_with fail); (all_goals go_ret); (all_goals exact ⟨rfl, by have hbw := BZ.out; (repeat (first | with_reducible exact Below.refl _ _ | with_reducible refine Below.drew ?_ | (with_reducible refine Below.alloc ?_ ?hsz _; case hsz => ((try simp) <;> (try omega))) | (with_reducible refine Below.setCell ?_ ?hsz _; case hsz => ((try simp) <;> (try omega))) | (with_reducible refine below_step (by with_reducible assumption) ?hsz ?_; case hsz => ((try simp) <;> (try omega)))))⟩)
            · go_wp2_with fail
              refine wp_region_held_drew (S := (fun w' => w'.cell? ⟨q, 2, none⟩ = some (.int .i64 x2) ∧ w'.cell? ⟨q, 3, none⟩ = some (.int .i64 x3) ∧ w'.cell? ⟨q, 4, none⟩ = some (.int .i64 x4) ∧ w'.cell? ⟨bm, om, none⟩ = some (.int .i64 y0) ∧ w'.cell? ⟨bm, om + 1, none⟩ = some (.int .i64 y1))) (by kernel_rfl) (by (try dsimp only); simp [go_sem, *]) (fun hHeld => ?_)
              refine wpAnyH_take (i := 0) (oi := ?oi0b) (v := ?v0b) ?hi0b (by kernel_rfl) (by kernel_rfl) (by kernel_rfl) ?hQ0b ?hy0b (by assumption) ?hh0b
              case hi0b => simp only [List.getElem?_toArray, List.getElem?_cons_zero]; rfl
              case hy0b =>
                refine Or.inl ⟨by rfl, ?_⟩
                intro w hSw
                (try dsimp only at hSw)
                go_simp
                all_goals with_reducible rfl
              case hQ0b => exact fun _ _ _ h => h
              simp only [Act.put, List.setIfInBounds_toArray, List.set_cons_zero, List.set_cons_succ]
              refine wpAnyH_take (i := 1) (oi := ?oi1b) (v := ?v1b) ?hi1b (by kernel_rfl) (by kernel_rfl) (by kernel_rfl) ?hQ1b ?hy1b (by assumption) ?hh1b
              case hi1b => simp only [List.getElem?_toArray, List.getElem?_cons_succ, List.getElem?_cons_zero]; rfl
              case hy1b =>
                refine Or.inl ⟨by rfl, ?_⟩
                intro w hSw
                (try dsimp only at hSw)
                go_simp
                all_goals with_reducible rfl
              case hQ1b => exact fun _ _ _ h => h
              simp only [Act.put, List.setIfInBounds_toArray, List.set_cons_zero, List.set_cons_succ]
              refine wpAnyH_take (i := 2) (oi := ?oi2b) (v := ?v2b) ?hi2b (by kernel_rfl) (by kernel_rfl) (by kernel_rfl) ?hQ2b ?hy2b (by assumption) ?hh2b
              case hi2b => simp only [List.getElem?_toArray, List.getElem?_cons_succ, List.getElem?_cons_zero]; rfl
              case hy2b =>
                refine Or.inl ⟨by rfl, ?_⟩
                intro w hSw
                (try dsimp only at hSw)
                go_simp
                all_goals with_reducible rfl
              case hQ2b => exact fun _ _ _ h => h
              simp only [Act.put, List.setIfInBounds_toArray, List.set_cons_zero, List.set_cons_succ]
              refine wpAnyH_take (i := 3) (oi := ?oi3b) (v := undef) ?hi3b (by kernel_rfl) (by kernel_rfl) (by kernel_rfl) ?hQ3b ?hy3b (by assumption) ?hh3b
              case hi3b => simp only [List.getElem?_toArray, List.getElem?_cons_succ, List.getElem?_cons_zero]; rfl
              case hy3b => exact Or.inr ⟨by rfl, rfl⟩
              case hQ3b => exact fun _ _ _ h => h
              simp only [Act.put, List.setIfInBounds_toArray, List.set_cons_zero, List.set_cons_succ]
              refine wpAnyH_take (i := 4) (oi := ?oi4b) (v := undef) ?hi4b (by kernel_rfl) (by kernel_rfl) (by kernel_rfl) ?hQ4b ?hy4b (by assumption) ?hh4b
              case hi4b => simp only [List.getElem?_toArray, List.getElem?_cons_succ, List.getElem?_cons_zero]; rfl
              case hy4b => exact Or.inr ⟨by rfl, rfl⟩
              case hQ4b => exact fun _ _ _ h => h
              simp only [Act.put, List.setIfInBounds_toArray, List.set_cons_zero, List.set_cons_succ]
              refine wpAnyH_take (i := 5) (oi := ?oi5b) (v := undef) ?hi5b (by kernel_rfl) (by kernel_rfl) (by kernel_rfl) ?hQ5b ?hy5b (by assumption) ?hh5b
              case hi5b => simp only [List.getElem?_toArray, List.getElem?_cons_succ, List.getElem?_cons_zero]; rfl
              case hy5b => exact Or.inr ⟨by rfl, rfl⟩
              case hQ5b => exact fun _ _ _ h => h
              simp only [Act.put, List.setIfInBounds_toArray, List.set_cons_zero, List.set_cons_succ]
              refine wpAnyH_take (i := 6) (oi := ?oi6b) (v := undef) ?hi6b (by kernel_rfl) (by kernel_rfl) (by kernel_rfl) ?hQ6b ?hy6b (by assumption) ?hh6b
              case hi6b => simp only [List.getElem?_toArray, List.getElem?_cons_succ, List.getElem?_cons_zero]; rfl
              case hy6b => exact Or.inr ⟨by rfl, rfl⟩
              case hQ6b => exact fun _ _ _ h => h
              simp only [Act.put, List.setIfInBounds_toArray, List.set_cons_zero, List.set_cons_succ]
              refine wpAnyH_take (i := 7) (oi := ?oi7b) (v := undef) ?hi7b (by kernel_rfl) (by kernel_rfl) (by kernel_rfl) ?hQ7b ?hy7b (by assumption) ?hh7b
              case hi7b => simp only [List.getElem?_toArray, List.getElem?_cons_succ, List.getElem?_cons_zero]; rfl
              case hy7b => exact Or.inr ⟨by rfl, rfl⟩
              case hQ7b => exact fun _ _ _ h => h
              simp only [Act.put, List.setIfInBounds_toArray, List.set_cons_zero, List.set_cons_succ]
              refine wpAnyH_take (i := 8) (oi := ?oi8b) (v := ?v8b) ?hi8b (by kernel_rfl) (by kernel_rfl) (by kernel_rfl) ?hQ8b ?hy8b (by assumption) ?hh8b
              case hi8b => simp only [List.getElem?_toArray, List.getElem?_cons_succ, List.getElem?_cons_zero]; rfl
              case hy8b =>
                refine Or.inl ⟨by rfl, ?_⟩
                intro w hSw
                (try dsimp only at hSw)
                go_simp
                all_goals with_reducible rfl
              case hQ8b => exact fun _ _ _ h => h
              simp only [Act.put, List.setIfInBounds_toArray, List.set_cons_zero, List.set_cons_succ]
              refine wpAnyH_take (i := 9) (oi := ?oi9b) (v := ?v9b) ?hi9b (by kernel_rfl) (by kernel_rfl) (by kernel_rfl) ?hQ9b ?hy9b (by assumption) ?hh9b
              case hi9b => simp only [List.getElem?_toArray, List.getElem?_cons_succ, List.getElem?_cons_zero]; rfl
              case hy9b =>
                refine Or.inl ⟨by rfl, ?_⟩
                intro w hSw
                (try dsimp only at hSw)
                go_simp
                all_goals with_reducible rfl
              case hQ9b => exact fun _ _ _ h => h
              simp only [Act.put, List.setIfInBounds_toArray, List.set_cons_zero, List.set_cons_succ]
              refine wpAnyH_take (i := 10) (oi := ?oi10b) (v := ?v10b) ?hi10b (by kernel_rfl) (by kernel_rfl) (by kernel_rfl) ?hQ10b ?hy10b (by assumption) ?hh10b
              case hi10b => simp only [List.getElem?_toArray, List.getElem?_cons_succ, List.getElem?_cons_zero]; rfl
              case hy10b =>
                refine Or.inl ⟨by rfl, ?_⟩
                intro w hSw
                (try dsimp only at hSw)
                go_simp
                all_goals with_reducible rfl
              case hQ10b => exact fun _ _ _ h => h
              simp only [Act.put, List.setIfInBounds_toArray, List.set_cons_zero, List.set_cons_succ]
              refine wpAnyH_take (i := 11) (oi := ?oi11b) (v := ?v11b) ?hi11b (by kernel_rfl) (by kernel_rfl) (by kernel_rfl) ?hQ11b ?hy11b (by assumption) ?hh11b
              case hi11b => simp only [List.getElem?_toArray, List.getElem?_cons_succ, List.getElem?_cons_zero]; rfl
              case hy11b =>
                refine Or.inl ⟨by rfl, ?_⟩
                intro w hSw
                (try dsimp only at hSw)
                go_simp
                all_goals with_reducible rfl
              case hQ11b => exact fun _ _ _ h => h
              simp only [Act.put, List.setIfInBounds_toArray, List.set_cons_zero, List.set_cons_succ]
              refine wpAnyH_take (i := 12) (oi := ?oi12b) (v := ?v12b) ?hi12b (by kernel_rfl) (by kernel_rfl) (by kernel_rfl) ?hQ12b ?hy12b (by assumption) ?hh12b
              case hi12b => simp only [List.getElem?_toArray, List.getElem?_cons_succ, List.getElem?_cons_zero]; rfl
              case hy12b =>
                refine Or.inl ⟨by rfl, ?_⟩
                intro w hSw
                (try dsimp only at hSw)
                go_simp
                all_goals with_reducible rfl
              case hQ12b => exact fun _ _ _ h => h
              simp only [Act.put, List.setIfInBounds_toArray, List.set_cons_zero, List.set_cons_succ]
              refine wpAnyH_take (i := 13) (oi := ?oi13b) (v := ?v13b) ?hi13b (by kernel_rfl) (by kernel_rfl) (by kernel_rfl) ?hQ13b ?hy13b (by assumption) ?hh13b
              case hi13b => simp only [List.getElem?_toArray, List.getElem?_cons_succ, List.getElem?_cons_zero]; rfl
              case hy13b =>
                refine Or.inl ⟨by rfl, ?_⟩
                intro w hSw
                (try dsimp only at hSw)
                go_simp
                all_goals with_reducible rfl
              case hQ13b => exact fun _ _ _ h => h
              simp only [Act.put, List.setIfInBounds_toArray, List.set_cons_zero, List.set_cons_succ]
              refine wpAnyH_take (i := 14) (oi := ?oi14b) (v := ?v14b) ?hi14b (by kernel_rfl) (by kernel_rfl) (by kernel_rfl) ?hQ14b ?hy14b (by assumption) ?hh14b
              case hi14b => simp only [List.getElem?_toArray, List.getElem?_cons_succ, List.getElem?_cons_zero]; rfl
              case hy14b =>
                refine Or.inl ⟨by rfl, ?_⟩
                intro w hSw
                (try dsimp only at hSw)
                go_simp
                all_goals with_reducible rfl
              case hQ14b => exact fun _ _ _ h => h
              simp only [Act.put, List.setIfInBounds_toArray, List.set_cons_zero, List.set_cons_succ]
              refine wpAnyH_take (i := 15) (oi := ?oi15b) (v := ?v15b) ?hi15b (by kernel_rfl) (by kernel_rfl) (by kernel_rfl) ?hQ15b ?hy15b (by assumption) ?hh15b
              case hi15b => simp only [List.getElem?_toArray, List.getElem?_cons_succ, List.getElem?_cons_zero]; rfl
              case hy15b =>
                refine Or.inl ⟨by rfl, ?_⟩
                intro w hSw
                (try dsimp only at hSw)
                go_simp
                all_goals with_reducible rfl
              case hQ15b => exact fun _ _ _ h => h
              simp only [Act.put, List.setIfInBounds_toArray, List.set_cons_zero, List.set_cons_succ]
              refine wpAnyH_take (i := 16) (oi := ?oi16b) (v := ?v16b) ?hi16b (by kernel_rfl) (by kernel_rfl) (by kernel_rfl) ?hQ16b ?hy16b (by assumption) ?hh16b
              case hi16b => simp only [List.getElem?_toArray, List.getElem?_cons_succ, List.getElem?_cons_zero]; rfl
              case hy16b =>
                refine Or.inl ⟨by rfl, ?_⟩
                intro w hSw
                (try dsimp only at hSw)
                go_simp
                all_goals with_reducible rfl
              case hQ16b => exact fun _ _ _ h => h
              simp only [Act.put, List.setIfInBounds_toArray, List.set_cons_zero, List.set_cons_succ]
              refine wpAnyH_take (i := 17) (oi := ?oi17b) (v := ?v17b) ?hi17b (by kernel_rfl) (by kernel_rfl) (by kernel_rfl) ?hQ17b ?hy17b (by assumption) ?hh17b
              case hi17b => simp only [List.getElem?_toArray, List.getElem?_cons_succ, List.getElem?_cons_zero]; rfl
              case hy17b =>
                refine Or.inl ⟨by rfl, ?_⟩
                intro w hSw
                (try dsimp only at hSw)
                go_simp
                all_goals with_reducible rfl
              case hQ17b => exact fun _ _ _ h => h
              simp only [Act.put, List.setIfInBounds_toArray, List.set_cons_zero, List.set_cons_succ]
              refine wpAnyH_take (i := 18) (oi := ?oi18b) (v := ?v18b) ?hi18b (by kernel_rfl) (by kernel_rfl) (by kernel_rfl) ?hQ18b ?hy18b (by assumption) ?hh18b
              case hi18b => simp only [List.getElem?_toArray, List.getElem?_cons_succ, List.getElem?_cons_zero]; rfl
              case hy18b =>
                refine Or.inl ⟨by rfl, ?_⟩
                intro w hSw
                (try dsimp only at hSw)
                go_simp
                all_goals with_reducible rfl
              case hQ18b => exact fun _ _ _ h => h
              simp only [Act.put, List.setIfInBounds_toArray, List.set_cons_zero, List.set_cons_succ]
              refine wpAnyH_take (i := 19) (oi := ?oi19b) (v := ?v19b) ?hi19b (by kernel_rfl) (by kernel_rfl) (by kernel_rfl) ?hQ19b ?hy19b (by assumption) ?hh19b
              case hi19b => simp only [List.getElem?_toArray, List.getElem?_cons_succ, List.getElem?_cons_zero]; rfl
              case hy19b =>
                refine Or.inl ⟨by rfl, ?_⟩
                intro w hSw
                (try dsimp only at hSw)
                go_simp
                all_goals with_reducible rfl
              case hQ19b => exact fun _ _ _ h => h
              simp only [Act.put, List.setIfInBounds_toArray, List.set_cons_zero, List.set_cons_succ]
              refine wpAnyH_take (i := 20) (oi := ?oi20b) (v := ?v20b) ?hi20b (by kernel_rfl) (by kernel_rfl) (by kernel_rfl) ?hQ20b ?hy20b (by assumption) ?hh20b
              case hi20b => simp only [List.getElem?_toArray, List.getElem?_cons_succ, List.getElem?_cons_zero]; rfl
              case hy20b =>
                refine Or.inl ⟨by rfl, ?_⟩
                intro w hSw
                (try dsimp only at hSw)
                go_simp
                all_goals with_reducible rfl
              case hQ20b => exact fun _ _ _ h => h
              simp only [Act.put, List.setIfInBounds_toArray, List.set_cons_zero, List.set_cons_succ]
              refine wpAnyH_take (i := 21) (oi := ?oi21b) (v := ?v21b) ?hi21b (by kernel_rfl) (by kernel_rfl) (by kernel_rfl) ?hQ21b ?hy21b (by assumption) ?hh21b
              case hi21b => simp only [List.getElem?_toArray, List.getElem?_cons_succ, List.getElem?_cons_zero]; rfl
              case hy21b =>
                refine Or.inl ⟨by rfl, ?_⟩
                intro w hSw
                (try dsimp only at hSw)
                go_simp
                all_goals with_reducible rfl
              case hQ21b => exact fun _ _ _ h => h
              simp only [Act.put, List.setIfInBounds_toArray, List.set_cons_zero, List.set_cons_succ]
              refine wpAnyH_take (i := 22) (oi := ?oi22b) (v := ?v22b) ?hi22b (by kernel_rfl) (by kernel_rfl) (by kernel_rfl) ?hQ22b ?hy22b (by assumption) ?hh22b
              case hi22b => simp only [List.getElem?_toArray, List.getElem?_cons_succ, List.getElem?_cons_zero]; rfl
              case hy22b =>
                refine Or.inl ⟨by rfl, ?_⟩
                intro w hSw
                (try dsimp only at hSw)
                go_simp
                all_goals with_reducible rfl
              case hQ22b => exact fun _ _ _ h => h
              simp only [Act.put, List.setIfInBounds_toArray, List.set_cons_zero, List.set_cons_succ]
              refine wpAnyH_take (i := 23) (oi := ?oi23b) (v := ?v23b) ?hi23b (by kernel_rfl) (by kernel_rfl) (by kernel_rfl) ?hQ23b ?hy23b (by assumption) ?hh23b
              case hi23b => simp only [List.getElem?_toArray, List.getElem?_cons_succ, List.getElem?_cons_zero]; rfl
              case hy23b =>
                refine Or.inl ⟨by rfl, ?_⟩
                intro w hSw
                (try dsimp only at hSw)
                go_simp
                all_goals with_reducible rfl
              case hQ23b => exact fun _ _ _ h => h
              simp only [Act.put, List.setIfInBounds_toArray, List.set_cons_zero, List.set_cons_succ]
              refine wpAnyH_take (i := 24) (oi := ?oi24b) (v := ?v24b) ?hi24b (by kernel_rfl) (by kernel_rfl) (by kernel_rfl) ?hQ24b ?hy24b (by assumption) ?hh24b
              case hi24b => simp only [List.getElem?_toArray, List.getElem?_cons_succ, List.getElem?_cons_zero]; rfl
              case hy24b =>
                refine Or.inl ⟨by rfl, ?_⟩
                intro w hSw
                (try dsimp only at hSw)
                go_simp
                all_goals with_reducible rfl
              case hQ24b => exact fun _ _ _ h => h
              simp only [Act.put, List.setIfInBounds_toArray, List.set_cons_zero, List.set_cons_succ]
              refine wpAnyH_take (i := 25) (oi := ?oi25b) (v := ?v25b) ?hi25b (by kernel_rfl) (by kernel_rfl) (by kernel_rfl) ?hQ25b ?hy25b (by assumption) ?hh25b
              case hi25b => simp only [List.getElem?_toArray, List.getElem?_cons_succ, List.getElem?_cons_zero]; rfl
              case hy25b =>
                refine Or.inl ⟨by rfl, ?_⟩
                intro w hSw
                (try dsimp only at hSw)
                go_simp
                all_goals with_reducible rfl
              case hQ25b => exact fun _ _ _ h => h
              simp only [Act.put, List.setIfInBounds_toArray, List.set_cons_zero, List.set_cons_succ]
              refine wpAnyH_take (i := 26) (oi := ?oi26b) (v := ?v26b) ?hi26b (by kernel_rfl) (by kernel_rfl) (by kernel_rfl) ?hQ26b ?hy26b (by assumption) ?hh26b
              case hi26b => simp only [List.getElem?_toArray, List.getElem?_cons_succ, List.getElem?_cons_zero]; rfl
              case hy26b =>
                refine Or.inl ⟨by rfl, ?_⟩
                intro w hSw
                (try dsimp only at hSw)
                go_simp
                all_goals with_reducible rfl
              case hQ26b => exact fun _ _ _ h => h
              simp only [Act.put, List.setIfInBounds_toArray, List.set_cons_zero, List.set_cons_succ]
              refine wpAnyH_take (i := 27) (oi := ?oi27b) (v := ?v27b) ?hi27b (by kernel_rfl) (by kernel_rfl) (by kernel_rfl) ?hQ27b ?hy27b (by assumption) ?hh27b
              case hi27b => simp only [List.getElem?_toArray, List.getElem?_cons_succ, List.getElem?_cons_zero]; rfl
              case hy27b =>
                refine Or.inl ⟨by rfl, ?_⟩
                intro w hSw
                (try dsimp only at hSw)
                go_simp
                all_goals with_reducible rfl
              case hQ27b => exact fun _ _ _ h => h
              simp only [Act.put, List.setIfInBounds_toArray, List.set_cons_zero, List.set_cons_succ]
              refine wpAnyH_take (i := 28) (oi := ?oi28b) (v := ?v28b) ?hi28b (by kernel_rfl) (by kernel_rfl) (by kernel_rfl) ?hQ28b ?hy28b (by assumption) ?hh28b
              case hi28b => simp only [List.getElem?_toArray, List.getElem?_cons_succ, List.getElem?_cons_zero]; rfl
              case hy28b =>
                refine Or.inl ⟨by rfl, ?_⟩
                intro w hSw
                (try dsimp only at hSw)
                go_simp
                all_goals with_reducible rfl
              case hQ28b => exact fun _ _ _ h => h
              simp only [Act.put, List.setIfInBounds_toArray, List.set_cons_zero, List.set_cons_succ]
              refine wpAnyH_take (i := 29) (oi := ?oi29b) (v := ?v29b) ?hi29b (by kernel_rfl) (by kernel_rfl) (by kernel_rfl) ?hQ29b ?hy29b (by assumption) ?hh29b
              case hi29b => simp only [List.getElem?_toArray, List.getElem?_cons_succ, List.getElem?_cons_zero]; rfl
              case hy29b =>
                refine Or.inl ⟨by rfl, ?_⟩
                intro w hSw
                (try dsimp only at hSw)
                go_simp
                all_goals with_reducible rfl
              case hQ29b => exact fun _ _ _ h => h
              simp only [Act.put, List.setIfInBounds_toArray, List.set_cons_zero, List.set_cons_succ]
              refine wpAnyH_take (i := 30) (oi := ?oi30b) (v := ?v30b) ?hi30b (by kernel_rfl) (by kernel_rfl) (by kernel_rfl) ?hQ30b ?hy30b (by assumption) ?hh30b
              case hi30b => simp only [List.getElem?_toArray, List.getElem?_cons_succ, List.getElem?_cons_zero]; rfl
              case hy30b =>
                refine Or.inl ⟨by rfl, ?_⟩
                intro w hSw
                (try dsimp only at hSw)
                go_simp
                all_goals with_reducible rfl
              case hQ30b => exact fun _ _ _ h => h
              simp only [Act.put, List.setIfInBounds_toArray, List.set_cons_zero, List.set_cons_succ]
              refine wpAnyH_take (i := 31) (oi := ?oi31b) (v := ?v31b) ?hi31b (by kernel_rfl) (by kernel_rfl) (by kernel_rfl) ?hQ31b ?hy31b (by assumption) ?hh31b
              case hi31b => simp only [List.getElem?_toArray, List.getElem?_cons_succ, List.getElem?_cons_zero]; rfl
              case hy31b =>
                refine Or.inl ⟨by rfl, ?_⟩
                intro w hSw
                (try dsimp only at hSw)
                go_simp
                all_goals with_reducible rfl
              case hQ31b => exact fun _ _ _ h => h
              simp only [Act.put, List.setIfInBounds_toArray, List.set_cons_zero, List.set_cons_succ]
              refine wpAnyH_take (i := 32) (oi := ?oi32b) (v := ?v32b) ?hi32b (by kernel_rfl) (by kernel_rfl) (by kernel_rfl) ?hQ32b ?hy32b (by assumption) ?hh32b
              case hi32b => simp only [List.getElem?_toArray, List.getElem?_cons_succ, List.getElem?_cons_zero]; rfl
              case hy32b =>
                refine Or.inl ⟨by rfl, ?_⟩
                intro w hSw
                (try dsimp only at hSw)
                go_simp
                all_goals with_reducible rfl
              case hQ32b => exact fun _ _ _ h => h
              simp only [Act.put, List.setIfInBounds_toArray, List.set_cons_zero, List.set_cons_succ]
              refine wpAnyH_take (i := 33) (oi := ?oi33b) (v := ?v33b) ?hi33b (by kernel_rfl) (by kernel_rfl) (by kernel_rfl) ?hQ33b ?hy33b (by assumption) ?hh33b
              case hi33b => simp only [List.getElem?_toArray, List.getElem?_cons_succ, List.getElem?_cons_zero]; rfl
              case hy33b =>
                refine Or.inl ⟨by rfl, ?_⟩
                intro w hSw
                (try dsimp only at hSw)
                go_simp
                all_goals with_reducible rfl
              case hQ33b => exact fun _ _ _ h => h
              simp only [Act.put, List.setIfInBounds_toArray, List.set_cons_zero, List.set_cons_succ]
              refine wpAnyH_take (i := 34) (oi := ?oi34b) (v := ?v34b) ?hi34b (by kernel_rfl) (by kernel_rfl) (by kernel_rfl) ?hQ34b ?hy34b (by assumption) ?hh34b
              case hi34b => simp only [List.getElem?_toArray, List.getElem?_cons_succ, List.getElem?_cons_zero]; rfl
              case hy34b =>
                refine Or.inl ⟨by rfl, ?_⟩
                intro w hSw
                (try dsimp only at hSw)
                go_simp
                all_goals with_reducible rfl
              case hQ34b => exact fun _ _ _ h => h
              simp only [Act.put, List.setIfInBounds_toArray, List.set_cons_zero, List.set_cons_succ]
              refine wpAnyH_take (i := 35) (oi := ?oi35b) (v := ?v35b) ?hi35b (by kernel_rfl) (by kernel_rfl) (by kernel_rfl) ?hQ35b ?hy35b (by assumption) ?hh35b
              case hi35b => simp only [List.getElem?_toArray, List.getElem?_cons_succ, List.getElem?_cons_zero]; rfl
              case hy35b =>
                refine Or.inl ⟨by rfl, ?_⟩
                intro w hSw
                (try dsimp only at hSw)
                go_simp
                all_goals with_reducible rfl
              case hQ35b => exact fun _ _ _ h => h
              simp only [Act.put, List.setIfInBounds_toArray, List.set_cons_zero, List.set_cons_succ]
              refine wpAnyH_take (i := 36) (oi := ?oi36b) (v := ?v36b) ?hi36b (by kernel_rfl) (by kernel_rfl) (by kernel_rfl) ?hQ36b ?hy36b (by assumption) ?hh36b
              case hi36b => simp only [List.getElem?_toArray, List.getElem?_cons_succ, List.getElem?_cons_zero]; rfl
              case hy36b =>
                refine Or.inl ⟨by rfl, ?_⟩
                intro w hSw
                (try dsimp only at hSw)
                go_simp
                all_goals with_reducible rfl
              case hQ36b => exact fun _ _ _ h => h
              simp only [Act.put, List.setIfInBounds_toArray, List.set_cons_zero, List.set_cons_succ]
              refine wpAnyH_take (i := 37) (oi := ?oi37b) (v := ?v37b) ?hi37b (by kernel_rfl) (by kernel_rfl) (by kernel_rfl) ?hQ37b ?hy37b (by assumption) ?hh37b
              case hi37b => simp only [List.getElem?_toArray, List.getElem?_cons_succ, List.getElem?_cons_zero]; rfl
              case hy37b =>
                refine Or.inl ⟨by rfl, ?_⟩
                intro w hSw
                (try dsimp only at hSw)
                go_simp
                all_goals with_reducible rfl
              case hQ37b => exact fun _ _ _ h => h
              simp only [Act.put, List.setIfInBounds_toArray, List.set_cons_zero, List.set_cons_succ]
              refine wpAnyH_take (i := 38) (oi := ?oi38b) (v := ?v38b) ?hi38b (by kernel_rfl) (by kernel_rfl) (by kernel_rfl) ?hQ38b ?hy38b (by assumption) ?hh38b
              case hi38b => simp only [List.getElem?_toArray, List.getElem?_cons_succ, List.getElem?_cons_zero]; rfl
              case hy38b =>
                refine Or.inl ⟨by rfl, ?_⟩
                intro w hSw
                (try dsimp only at hSw)
                go_simp
                all_goals with_reducible rfl
              case hQ38b => exact fun _ _ _ h => h
              simp only [Act.put, List.setIfInBounds_toArray, List.set_cons_zero, List.set_cons_succ]
              refine wpAnyH_take (i := 39) (oi := ?oi39b) (v := ?v39b) ?hi39b (by kernel_rfl) (by kernel_rfl) (by kernel_rfl) ?hQ39b ?hy39b (by assumption) ?hh39b
              case hi39b => simp only [List.getElem?_toArray, List.getElem?_cons_succ, List.getElem?_cons_zero]; rfl
              case hy39b =>
                refine Or.inl ⟨by rfl, ?_⟩
                intro w hSw
                (try dsimp only at hSw)
                go_simp
                all_goals with_reducible rfl
              case hQ39b => exact fun _ _ _ h => h
              simp only [Act.put, List.setIfInBounds_toArray, List.set_cons_zero, List.set_cons_succ]
              refine wpAnyH_take (i := 40) (oi := ?oi40b) (v := ?v40b) ?hi40b (by kernel_rfl) (by kernel_rfl) (by kernel_rfl) ?hQ40b ?hy40b (by assumption) ?hh40b
              case hi40b => simp only [List.getElem?_toArray, List.getElem?_cons_succ, List.getElem?_cons_zero]; rfl
              case hy40b =>
                refine Or.inl ⟨by rfl, ?_⟩
                intro w hSw
                (try dsimp only at hSw)
                go_simp
                all_goals with_reducible rfl
              case hQ40b => exact fun _ _ _ h => h
              simp only [Act.put, List.setIfInBounds_toArray, List.set_cons_zero, List.set_cons_succ]
              refine wpAnyH_take (i := 41) (oi := ?oi41b) (v := ?v41b) ?hi41b (by kernel_rfl) (by kernel_rfl) (by kernel_rfl) ?hQ41b ?hy41b (by assumption) ?hh41b
              case hi41b => simp only [List.getElem?_toArray, List.getElem?_cons_succ, List.getElem?_cons_zero]; rfl
              case hy41b =>
                refine Or.inl ⟨by rfl, ?_⟩
                intro w hSw
                (try dsimp only at hSw)
                go_simp
                all_goals with_reducible rfl
              case hQ41b => exact fun _ _ _ h => h
              simp only [Act.put, List.setIfInBounds_toArray, List.set_cons_zero, List.set_cons_succ]
              refine wpAnyH_take (i := 42) (oi := ?oi42b) (v := ?v42b) ?hi42b (by kernel_rfl) (by kernel_rfl) (by kernel_rfl) ?hQ42b ?hy42b (by assumption) ?hh42b
              case hi42b => simp only [List.getElem?_toArray, List.getElem?_cons_succ, List.getElem?_cons_zero]; rfl
              case hy42b =>
                refine Or.inl ⟨by rfl, ?_⟩
                intro w hSw
                (try dsimp only at hSw)
                go_simp
                all_goals with_reducible rfl
              case hQ42b => exact fun _ _ _ h => h
              simp only [Act.put, List.setIfInBounds_toArray, List.set_cons_zero, List.set_cons_succ]
              refine wpAnyH_take (i := 43) (oi := ?oi43b) (v := ?v43b) ?hi43b (by kernel_rfl) (by kernel_rfl) (by kernel_rfl) ?hQ43b ?hy43b (by assumption) ?hh43b
              case hi43b => simp only [List.getElem?_toArray, List.getElem?_cons_succ, List.getElem?_cons_zero]; rfl
              case hy43b =>
                refine Or.inl ⟨by rfl, ?_⟩
                intro w hSw
                (try dsimp only at hSw)
                go_simp
                all_goals with_reducible rfl
              case hQ43b => exact fun _ _ _ h => h
              simp only [Act.put, List.setIfInBounds_toArray, List.set_cons_zero, List.set_cons_succ]
              refine wpAnyH_take (i := 44) (oi := ?oi44b) (v := ?v44b) ?hi44b (by kernel_rfl) (by kernel_rfl) (by kernel_rfl) ?hQ44b ?hy44b (by assumption) ?hh44b
              case hi44b => simp only [List.getElem?_toArray, List.getElem?_cons_succ, List.getElem?_cons_zero]; rfl
              case hy44b =>
                refine Or.inl ⟨by rfl, ?_⟩
                intro w hSw
                (try dsimp only at hSw)
                go_simp
                all_goals with_reducible rfl
              case hQ44b => exact fun _ _ _ h => h
              simp only [Act.put, List.setIfInBounds_toArray, List.set_cons_zero, List.set_cons_succ]
              refine wpAnyH_take (i := 45) (oi := ?oi45b) (v := ?v45b) ?hi45b (by kernel_rfl) (by kernel_rfl) (by kernel_rfl) ?hQ45b ?hy45b (by assumption) ?hh45b
              case hi45b => simp only [List.getElem?_toArray, List.getElem?_cons_succ, List.getElem?_cons_zero]; rfl
              case hy45b =>
                refine Or.inl ⟨by rfl, ?_⟩
                intro w hSw
                (try dsimp only at hSw)
                go_simp
                all_goals with_reducible rfl
              case hQ45b => exact fun _ _ _ h => h
              simp only [Act.put, List.setIfInBounds_toArray, List.set_cons_zero, List.set_cons_succ]
              refine wpAnyH_take (i := 46) (oi := ?oi46b) (v := ?v46b) ?hi46b (by kernel_rfl) (by kernel_rfl) (by kernel_rfl) ?hQ46b ?hy46b (by assumption) ?hh46b
              case hi46b => simp only [List.getElem?_toArray, List.getElem?_cons_succ, List.getElem?_cons_zero]; rfl
              case hy46b =>
                refine Or.inl ⟨by rfl, ?_⟩
                intro w hSw
                (try dsimp only at hSw)
                go_simp
                all_goals with_reducible rfl
              case hQ46b => exact fun _ _ _ h => h
              simp only [Act.put, List.setIfInBounds_toArray, List.set_cons_zero, List.set_cons_succ]
              refine wpAnyH_take (i := 47) (oi := ?oi47b) (v := ?v47b) ?hi47b (by kernel_rfl) (by kernel_rfl) (by kernel_rfl) ?hQ47b ?hy47b (by assumption) ?hh47b
              case hi47b => simp only [List.getElem?_toArray, List.getElem?_cons_succ, List.getElem?_cons_zero]; rfl
              case hy47b =>
                refine Or.inl ⟨by rfl, ?_⟩
                intro w hSw
                (try dsimp only at hSw)
                go_simp
                all_goals with_reducible rfl
              case hQ47b => exact fun _ _ _ h => h
              simp only [Act.put, List.setIfInBounds_toArray, List.set_cons_zero, List.set_cons_succ]
              refine wpAnyH_take (i := 48) (oi := ?oi48b) (v := ?v48b) ?hi48b (by kernel_rfl) (by kernel_rfl) (by kernel_rfl) ?hQ48b ?hy48b (by assumption) ?hh48b
              case hi48b => simp only [List.getElem?_toArray, List.getElem?_cons_succ, List.getElem?_cons_zero]; rfl
              case hy48b =>
                refine Or.inl ⟨by rfl, ?_⟩
                intro w hSw
                (try dsimp only at hSw)
                go_simp
                all_goals with_reducible rfl
              case hQ48b => exact fun _ _ _ h => h
              simp only [Act.put, List.setIfInBounds_toArray, List.set_cons_zero, List.set_cons_succ]
              refine wpAnyH_take (i := 49) (oi := ?oi49b) (v := ?v49b) ?hi49b (by kernel_rfl) (by kernel_rfl) (by kernel_rfl) ?hQ49b ?hy49b (by assumption) ?hh49b
              case hi49b => simp only [List.getElem?_toArray, List.getElem?_cons_succ, List.getElem?_cons_zero]; rfl
              case hy49b =>
                refine Or.inl ⟨by rfl, ?_⟩
                intro w hSw
                (try dsimp only at hSw)
                go_simp
                all_goals with_reducible rfl
              case hQ49b => exact fun _ _ _ h => h
              simp only [Act.put, List.setIfInBounds_toArray, List.set_cons_zero, List.set_cons_succ]
              refine wpAnyH_take (i := 50) (oi := ?oi50b) (v := ?v50b) ?hi50b (by kernel_rfl) (by kernel_rfl) (by kernel_rfl) ?hQ50b ?hy50b (by assumption) ?hh50b
              case hi50b => simp only [List.getElem?_toArray, List.getElem?_cons_succ, List.getElem?_cons_zero]; rfl
              case hy50b =>
                refine Or.inl ⟨by rfl, ?_⟩
                intro w hSw
                (try dsimp only at hSw)
                go_simp
                all_goals with_reducible rfl
              case hQ50b => exact fun _ _ _ h => h
              simp only [Act.put, List.setIfInBounds_toArray, List.set_cons_zero, List.set_cons_succ]
              refine wpAnyH_take (i := 51) (oi := ?oi51b) (v := ?v51b) ?hi51b (by kernel_rfl) (by kernel_rfl) (by kernel_rfl) ?hQ51b ?hy51b (by assumption) ?hh51b
              case hi51b => simp only [List.getElem?_toArray, List.getElem?_cons_succ, List.getElem?_cons_zero]; rfl
              case hy51b =>
                refine Or.inl ⟨by rfl, ?_⟩
                intro w hSw
                (try dsimp only at hSw)
                go_simp
                all_goals with_reducible rfl
              case hQ51b => exact fun _ _ _ h => h
              simp only [Act.put, List.setIfInBounds_toArray, List.set_cons_zero, List.set_cons_succ]
              refine wpAnyH_take (i := 52) (oi := ?oi52b) (v := ?v52b) ?hi52b (by kernel_rfl) (by kernel_rfl) (by kernel_rfl) ?hQ52b ?hy52b (by assumption) ?hh52b
              case hi52b => simp only [List.getElem?_toArray, List.getElem?_cons_succ, List.getElem?_cons_zero]; rfl
              case hy52b =>
                refine Or.inl ⟨by rfl, ?_⟩
                intro w hSw
                (try dsimp only at hSw)
                go_simp
                all_goals with_reducible rfl
              case hQ52b => exact fun _ _ _ h => h
              simp only [Act.put, List.setIfInBounds_toArray, List.set_cons_zero, List.set_cons_succ]
              refine wpAnyH_ready (rs := [53]) (by kernel_rfl) (by simp) ?_
              refine AllReadyH.cons (o := ?oob) ?hob (fun K hK => ?hsb) AllReadyH.nil
              case hob => simp only [List.getElem?_toArray, List.getElem?_cons_succ, List.getElem?_cons_zero]; rfl
              go_simp
              go_at_call 19
              with_reducible refine (SA.out _ (by repeat (first | exact RZ.out | with_reducible refine Recs.drew ?_))).mono ?_
              rintro e wg ⟨rfl, hbg⟩
              obtain ⟨hcg, hfg⟩ := bcell hbg
              (try simp only [World.size_drew] at hcg hfg)
              refine hK.out _ _ (by (try dsimp only); simp [go_sem, *]) (fun hHeld => ?_)
              clear hK K
              try simp only [Act.put, List.setIfInBounds_toArray, List.set_cons_zero, List.set_cons_succ]
              refine wpAnyH_take (i := 54) (oi := ?oi54b) (v := ?v54b) ?hi54b (by kernel_rfl) (by kernel_rfl) (by kernel_rfl) ?hQ54b ?hy54b (by assumption) ?hh54b
              case hi54b => simp only [List.getElem?_toArray, List.getElem?_cons_succ, List.getElem?_cons_zero]; rfl
              case hy54b =>
                refine Or.inl ⟨by rfl, ?_⟩
                intro w hSw
                (try dsimp only at hSw)
                go_simp
                all_goals with_reducible rfl
              case hQ54b => exact fun _ _ _ h => h
              simp only [Act.put, List.setIfInBounds_toArray, List.set_cons_zero, List.set_cons_succ]
              refine wpAnyH_take (i := 55) (oi := ?oi55b) (v := ?v55b) ?hi55b (by kernel_rfl) (by kernel_rfl) (by kernel_rfl) ?hQ55b ?hy55b (by assumption) ?hh55b
              case hi55b => simp only [List.getElem?_toArray, List.getElem?_cons_succ, List.getElem?_cons_zero]; rfl
              case hy55b =>
                refine Or.inl ⟨by rfl, ?_⟩
                intro w hSw
                (try dsimp only at hSw)
                go_simp
                all_goals with_reducible rfl
              case hQ55b => exact fun _ _ _ h => h
              simp only [Act.put, List.setIfInBounds_toArray, List.set_cons_zero, List.set_cons_succ]
              refine wpAnyH_done (by kernel_rfl) ?_ _
              (all_goals go_wp2_with fail); (all_goals go_ret); (all_goals exact ⟨rfl, by have hbw := BZ.out; (repeat (first | with_reducible exact Below.refl _ _ | with_reducible refine Below.drew ?_ | (with_reducible refine Below.alloc ?_ ?hsz _; case hsz => ((try simp) <;> (try omega))) | (with_reducible refine Below.setCell ?_ ?hsz _; case hsz => ((try simp) <;> (try omega))) | (with_reducible refine below_step (by with_reducible assumption) ?hsz ?_; case hsz => ((try simp) <;> (try omega)))))⟩)
          · obtain ⟨v1, v2⟩ := M2.out rfl
            have r2 : (old != f) = true := by simpa using v2
            rw [v1] at FA
            clear M2
            go_wp2_with fail
            (first | (go_region_held_law (fun w' => w'.cell? ⟨q, 2, none⟩ = some (.int .i64 x2) ∧ w'.cell? ⟨q, 3, none⟩ = some (.int .i64 x3) ∧ w'.cell? ⟨q, 4, none⟩ = some (.int .i64 x4) ∧ w'.cell? ⟨bm, om, none⟩ = some (.int .i64 y0) ∧ w'.cell? ⟨bm, om + 1, none⟩ = some (.int .i64 y1)) (simp [go_sem, *]) (first | (go_at_call 24; (with_reducible refine (FA.out _ (by repeat (first | exact RZ.out | with_reducible refine Recs.drew ?_ | with_reducible refine Recs.kept ?_ (by with_reducible assumption)))).mono ?_); rintro e wf ⟨rfl, hbf⟩; obtain ⟨hcf, hff⟩ := bcell hbf; (try simp only [World.size_drew] at hcf hff); have zf := hbf.size; (try simp at zf); have lqf : q < wf.heap.size := (by omega); have lmf : bm < wf.heap.size := (by omega)) | (go_at_call 19; (with_reducible refine (SA.out _ (by repeat (first | exact RZ.out | with_reducible refine Recs.drew ?_ | with_reducible refine Recs.kept ?_ (by with_reducible assumption)))).mono ?_); rintro e wg ⟨rfl, hbg⟩; obtain ⟨hcg, hfg⟩ := bcell hbg; (try simp only [World.size_drew] at hcg hfg)))) | fail)
            (all_goals go_wp2_with fail); (all_goals go_ret); (all_goals exact ⟨rfl, by have hbw := BZ.out; (repeat (first | with_reducible exact Below.refl _ _ | with_reducible refine Below.drew ?_ | (with_reducible refine Below.alloc ?_ ?hsz _; case hsz => ((try simp) <;> (try omega))) | (with_reducible refine Below.setCell ?_ ?hsz _; case hsz => ((try simp) <;> (try omega))) | (with_reducible refine below_step (by with_reducible assumption) ?hsz ?_; case hsz => ((try simp) <;> (try omega)))))⟩)
  · have hbig : decide (1048576 < n) = true := by simp; omega
    go_enter Try.func9, Try.ntmps9
    go_wp2_with (first | (go_at_call 25; (with_reducible refine (big_any code n cap _).mono ?_); rintro e w' ⟨rfl, rfl⟩))
    go_ret
    exact ⟨rfl, Below.refl _ _⟩
set_option maxRecDepth 100000 in
theorem fnMoved_open {H : Type} {enc : TypeId × Value → H} (W : World) (base : Nat) (args : Array Value) (ds : List (DataW H)) (p : List MemPlace)
    (hval : ∀ (j : Nat) t v, Try.f9.params[j]? = some t → args[j]? = some v → Value.okWide Try.prog W .any base t v)
    (hA : DataW.TrodAll enc Try.prog W 0 (fun _ => true) true Try.f9.params.toList args.toList ds p) :
    Calls Try.prog 9 args W fun e W' => e = .returned (.bool true) ∧ Below W.heap.size W W' := by
  rw [Try.params9] at hA hval
  obtain ⟨v0, vs0, d0, ds0, p0, q0, hargs, rfl, rfl, h0, r0⟩ := trodAll_cons hA
  obtain ⟨rfl, rfl, rfl⟩ := trodAll_nil r0
  obtain rfl : args = #[v0] := by cases args; simp_all
  obtain ⟨code, coden, codecap, codeF, rfl, hl0, hm0, hr0, hw0⟩ := open_row Try.underlying31 Try.underlying5 (by kernel_rfl) (hval 0 31 v0 rfl rfl) h0
  exact lawMoved code coden codecap codeF W hl0 hm0 hr0
set_option maxRecDepth 100000 in
theorem fnMoved_lifted (os : Os) (started : os.Started) (H : Type) (enc : TypeId × Value → H) :
    ReturnsInHanded {} Try.checked os 9 .any (Rows.fnMovedSpec.pre6 enc Try.prog Try.f9 Rows.fnMovedRow.domain false) (Rows.fnMovedSpec.post enc Try.prog Try.f9 false true false false) :=
  law_lifted (C := Try.checked) (s := Rows.fnMovedSpec) (tb := 4) Tryown TrylaidOut (by kernel_rfl) Try.func9 rfl Try.underlying4 (by kernel_rfl) rfl (fun H ds h => match ds, h with | [d0], _ => rfl) os started H enc
    (ChangeSpec.witness6 (enc := enc) (C := Try.checked) false ⟨#[], #[.slice none 0 0], []⟩ 8 (by kernel_rfl) (by kernel_rfl) (by kernel_rfl) (by kernel_rfl))
    (fun W base args ds p hval hA _ _ => fnMoved_open W base args ds p hval hA)
theorem fnMoved_holds : Rows.FnMovedSaid :=
  OpenClaim.holds_of_wide 9 Try.f9 rfl rfl rfl rfl rfl rfl rfl ⟨rfl, rfl, rfl, rfl, rfl⟩ rfl rfl rfl rfl rfl (by kernel_rfl) Try.func9 (by kernel_rfl)
    (of_decide_eq_true (by kernel_rfl)) (by unfold Func.isWrapper; first | (rw [if_pos (by decide +kernel)]; kernel_rfl) | (rw [if_neg (by decide +kernel)]; exact ⟨rfl, rfl⟩))
    (fun os started H enc _ => fnMoved_lifted os started H enc)
#print axioms fnMoved_holds
end Go.Proofs.Ytogoddbkamgndaa
