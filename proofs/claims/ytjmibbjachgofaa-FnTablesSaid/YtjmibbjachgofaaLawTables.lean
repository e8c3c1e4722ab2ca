/- Proved: for every byte string, the table drawn from it is certain death outside its ages, improving it by nothing changes nothing, and improving it lowers no life's chance. No condition. -/
import Derived.Test.YtjmibbjachgofaaOpen
import Derived.Test.YtjmibbjachgofaaDrawT
import Derived.Test.YtjmibbjachgofaaPlainT
import Derived.Deep.RegionHeld3
import Derived.Deep.DeepCutAuto
import Derived.BigQuiet
import Derived.Outline
namespace Go.Proofs.Ytjmibbjachgofaa
open Go.ChangeShapes Go.WideShapes Go.ChangeAt Go.RowKit

set_option maxRecDepth 100000 in
set_option maxHeartbeats 8000000 in
theorem lawTables (code : Option Addr) (n cap : Nat) (F : Nat → Int) (w : World) (_hl : n ≤ cap) (_hm : cap ≤ maxLen) (hr : Row w .u8 code n F) : Calls Try.prog 7 #[.slice code n cap] w fun e w' => e = .returned (.bool true) ∧ Below w.heap.size w w' := by
  by_cases hn : n ≤ 1048576
  · have hbig : decide (1048576 < n) = false := by simp; omega
    have HR := Lib.hid hr
    clear hr
    go_enter Try.func7, Try.ntmps7
    go_wp2_with (first | (go_at_call 15; (with_reducible refine (big_any code n cap _).mono ?_); rintro e w' ⟨rfl, rfl⟩))
    with_reducible refine (drawTable_any code n cap F _ hn HR.out).mono ?_
    rintro e w1 ⟨f, m, G, A1, c1, rfl, o1, hv, f0, f1, m0, m1, hb1⟩
    have O1 := Lib.hid (o1.alloc (.cells #[.int .i64 f, .slice A1 m c1] 39))
    have T1 := Box.made w1 39 #[.int .i64 f, .slice A1 m c1]
    have B1 := hb1.alloc hb1.size (.cells #[.int .i64 f, .slice A1 m c1] 39)
    have R1 := Lib.hid ((HR.out.kept hb1).alloc (.cells #[.int .i64 f, .slice A1 m c1] 39))
    have HV := Lib.hid hv
    have z1 := hb1.size
    clear hb1 o1 hv
    go_wp2_with fail
    with_reducible refine (places_any code n cap F _ hn R1.out).mono ?_
    rintro e w2 ⟨q, qc, P, rfl, hq, hq2, hb2, hP, hcell⟩
    have p0 := hcell 0 (by omega)
    obtain ⟨b0, b1⟩ := hP 0 (by omega)
    have T2 := T1.kept hb2
    have O2 := Lib.hid (own_below O1.out hb2)
    have B2 := B1.trans (hb2.mono (by simp; omega))
    have z2 := hb2.size
    simp only [World.size_alloc] at z2 hq
    clear hP hcell hb2 T1 O1 B1 R1
    generalize P 0 = x0 at p0 b0 b1
    obtain ⟨t0, t1, t2, t3⟩ := T2.two
    go_wp2_with fail
    with_reducible refine (improve_any f A1 m c1 G 0 5 _ (by omega) (own_headed O2.out) (own_rows O2.out)).mono ?_
    rintro e w3 ⟨A2, c2, rfl, o3, hb3⟩
    have T3 := (T2.kept hb3).alloc (.cells #[.int .i64 f, .slice A2 m c2] 39)
    have X3 := Box.made w3 39 #[.int .i64 f, .slice A2 m c2]
    have O3 := Lib.hid ((own_below O2.out hb3).alloc (.cells #[.int .i64 f, .slice A2 m c2] 39))
    have OX := Lib.hid ((own_congr (G := G) o3 (fun i _ => impR_zero _ _ _ _ _)).alloc (.cells #[.int .i64 f, .slice A2 m c2] 39))
    have B3 := (B2.trans (hb3.mono (by omega))).alloc (by have := hb3.size; omega) (.cells #[.int .i64 f, .slice A2 m c2] 39)
    have z3 := hb3.size
    have p3 : (w3.alloc (.cells #[.int .i64 f, .slice A2 m c2] 39)).cell? ⟨q, 0, none⟩ = some (.int .i64 x0) := by
      have h := (hb3.cell (p := ⟨q, 0, none⟩) hq2).trans p0
      have h2 := ((Below.refl w3.heap.size w3).alloc (Nat.le_refl _) (.cells #[.int .i64 f, .slice A2 m c2] 39)).cell (p := ⟨q, 0, none⟩) (by show q < w3.heap.size; omega)
      exact h2.trans h
    have gt1 : w1.heap.size < (w3.alloc (.cells #[.int .i64 f, .slice A2 m c2] 39)).heap.size := by simp; omega
    have gq : q < (w3.alloc (.cells #[.int .i64 f, .slice A2 m c2] 39)).heap.size := by simp; omega
    clear hb3 o3 T2 O2 B2 p0 t0 t1 t2 t3
    go_wp2_with fail
    obtain ⟨g2, hg2⟩ : ∃ g2, g2 = w3.heap.size := ⟨_, rfl⟩
    rw [← hg2] at X3 ⊢
    have gx1 : g2 < (w3.alloc (.cells #[.int .i64 f, .slice A2 m c2] 39)).heap.size := by rw [hg2]; simp
    have gne : w1.heap.size ≠ g2 := by omega
    generalize w3.alloc (.cells #[.int .i64 f, .slice A2 m c2] 39) = W at *
    clear hg2 z3
    obtain ⟨t0, t1, t2, t3⟩ := T3.two
    go_cut [6] (fun s6 wx => ∃ (g3 : Nat) (A3 : Option Addr) (c3 : Nat), s6 = .pointer (some ⟨g3, 0, none⟩) ∧ Below w.heap.size w wx ∧ Box wx w1.heap.size 39 #[.int .i64 f, .slice A1 m c1] ∧ Box wx g2 39 #[.int .i64 f, .slice A2 m c2] ∧ Box wx g3 39 #[.int .i64 f, .slice A3 m c3] ∧ Row wx .i64 A1 m G ∧ Row wx .i64 A2 m G ∧ Row wx .i64 A3 m (impR f m G (1 + x0 % 99) 1))
    case first =>
      have hmod : x0.tmod 99 = x0 % 99 := Int.tmod_eq_emod_of_nonneg b0
      have hwr : IntKind.i64.wrap (1 + x0 % 99) = 1 + x0 % 99 := by rw [IntKind.wrap_i64]; omega
      go_region_held3 (fun w' => w'.cell? ⟨w1.heap.size, 0, none⟩ = some (.int .i64 f) ∧ w'.cell? ⟨w1.heap.size, 1, none⟩ = some (.slice A1 m c1) ∧ w'.cell? ⟨q, 0, none⟩ = some (.int .i64 x0)) (simp [go_sem, *])
        (first | (go_at_call 31; (with_reducible refine (improve_any f A1 m c1 G (1 + x0 % 99) 1 W.drew (by omega) (own_headed O3.out) ((own_rows O3.out).drew)).mono ?_); rintro e w4 ⟨A3, c3, rfl, o4, hb4⟩; have OO4 := Lib.hid o4; clear o4; have BW := Lib.hid (((Below.refl W.heap.size W).drew).trans hb4); obtain ⟨hc4, hf4⟩ := bcell hb4; (try simp only [World.size_drew] at hc4 hf4); have s4 := hb4.size; (try simp only [World.size_drew] at s4); (try simp only [World.size_alloc] at s4); (try have u8 := Nat.lt_of_succ_le s4); have u1 : w1.heap.size < w4.heap.size := (by omega); have u2 : q < w4.heap.size := (by omega); have u3 : g2 < w4.heap.size := (by omega)) | (go_at_call 31; (with_reducible refine (improve_any f A1 m c1 G (1 + x0 % 99) 1 ((W.alloc (.cells #[.int .i64 0, .slice none 0 0] 39)).drew) (by omega) (own_headed O3.out) (((own_rows O3.out).alloc _).drew)).mono ?_); rintro e w4 ⟨A3, c3, rfl, o4, hb4⟩; have OO4 := Lib.hid o4; clear o4; have BW := Lib.hid ((((Below.refl W.heap.size W).alloc (Nat.le_refl _) (.cells #[.int .i64 0, .slice none 0 0] 39)).drew).trans (hb4.mono (by simp))); have NB := Lib.hid ((Box.made W 39 #[.int .i64 0, .slice none 0 0]).drew.kept hb4); obtain ⟨hc4, hf4⟩ := bcell hb4; (try simp only [World.size_drew] at hc4 hf4); have s4 := hb4.size; (try simp only [World.size_drew] at s4); (try simp only [World.size_alloc] at s4); (try have u8 := Nat.lt_of_succ_le s4); have u1 : w1.heap.size < w4.heap.size := (by omega); have u2 : q < w4.heap.size := (by omega); have u3 : g2 < w4.heap.size := (by omega)))
      all_goals go_goals
      all_goals
        go_wp2_with fail
        go_meet
        refine ⟨_, A3, c3, rfl, ?_, ?_, ?_, ?_, ?_, ?_, ?_⟩
      all_goals
        have zW := B3.size
        have zB := BW.out.size
        have b4 := B3.trans (BW.out.mono zW)
        have t4 := T3.kept BW.out
        have x4 := X3.kept BW.out
        have o1' := own_below O3.out BW.out
        have o2' := own_below OX.out BW.out
      all_goals first
        | exact b4.alloc (Nat.le_trans zW zB) _
        | exact t4.alloc _
        | exact x4.alloc _
        | exact Box.made _ _ _
        | exact own_rows (o1'.alloc _)
        | exact own_rows (o2'.alloc _)
        | exact own_rows (OO4.out.alloc _)
        | exact (b4.setCell (p := ⟨W.heap.size, 0, none⟩) zW _).setCell (p := ⟨W.heap.size, 1, none⟩) zW _
        | exact (t4.far (p := ⟨W.heap.size, 0, none⟩) (by simp; omega) _).far (p := ⟨W.heap.size, 1, none⟩) (by simp; omega) _
        | exact (x4.far (p := ⟨W.heap.size, 0, none⟩) (by simp; omega) _).far (p := ⟨W.heap.size, 1, none⟩) (by simp; omega) _
        | (have := (NB.out.put 0 (.int .i64 f)).put 1 (.slice A3 m c3); simpa using this)
        | exact own_rows (own_setBox (own_setBox o1' NB.out (by decide) 0 _) (NB.out.put 0 _) (by decide) 1 _)
        | exact own_rows (own_setBox (own_setBox o2' NB.out (by decide) 0 _) (NB.out.put 0 _) (by decide) 1 _)
        | exact own_rows (own_setBox (own_setBox OO4.out NB.out (by decide) 0 _) (NB.out.put 0 _) (by decide) 1 _)
        | trace_state
    case rest =>
      obtain ⟨g3, A3, c3, rfl, hbx, T, X, Y, rt, rx, ry⟩ := hcut
      have RT := Lib.hid rt
      have RX := Lib.hid rx
      have RY := Lib.hid ry
      have HBX := Lib.hid hbx
      have HW := Lib.hid (fun (a : Int) (v : Int) (h : deathI f m G a = v) w1 (h1 : Row w1 .i64 A1 m G) => by have := death_any f A1 m c1 G a w1 (by omega) h1; rw [h] at this; exact this : ∀ (a v : Int), deathI f m G a = v → ∀ w1, Row w1 .i64 A1 m G → Calls Try.prog 32 #[.agg #[.int .i64 f, .slice A1 m c1], .int .i64 a] w1 fun e w' => e = .returned (.int .i64 v) ∧ Below w1.heap.size w1 w')
      have HT := Lib.hid (fun w1 (h1 : Row w1 .i64 A3 m (impR f m G (1 + x0 % 99) 1)) => by have := tableOk_any f A3 m c3 _ w1 (by omega) h1; rw [impR_ok HV.out] at this; exact this : ∀ w1, Row w1 .i64 A3 m (impR f m G (1 + x0 % 99) 1) → Calls Try.prog 33 #[.agg #[.int .i64 f, .slice A3 m c3]] w1 fun e w' => e = .returned (.bool true) ∧ Below w1.heap.size w1 w')
      have zx := hbx.size
      clear rt rx ry hbx T3 X3 O3 OX B3 p3 gt1 gq gx1 t0 t1 t2 t3
      obtain ⟨t0, t1, t2, t3⟩ := T.two
      obtain ⟨y0, y1, y2, y3⟩ := X.two
      obtain ⟨q0, q1, q2, q3⟩ := Y.two
      go_wp2_with fail
      clear t0 t1 t2 t3 y0 y1 y2 y3 q0 q1 q2 q3
      go_loopw [7] (fun i wr => ∃ k : Nat, k ≤ m ∧ i = .int .i64 k ∧ Below wc.heap.size wc wr) (fun i _ => m - (intOf i).toNat)
      case atStart => exact ⟨0, Nat.zero_le _, rfl, Below.refl _ _⟩
      case round =>
        obtain ⟨k, hk, rfl, hbw⟩ := hrel
        have T5 := T.kept hbw
        have X5 := X.kept hbw
        have Y5 := Y.kept hbw
        have HB := Lib.hid hbw
        have zz := hbw.size
        obtain ⟨t0, t1, t2, t3⟩ := T5.two
        obtain ⟨y0, y1, y2, y3⟩ := X5.two
        obtain ⟨q0, q1, q2, q3⟩ := Y5.two
        have lt0 := T5.lt
        have lx0 := X5.lt
        have ly0 := Y5.lt
        have RT5 := Lib.hid (RT.out.kept hbw)
        have RY5 := Lib.hid (RY.out.kept hbw)
        by_cases hlt : k < m
        · have hki : (k : Int) < (m : Int) := by omega
          have hk0 : (0 : Int) ≤ (k : Int) := by omega
          have HD := Lib.hid (HW.out (f + k) (G k) (death_at HV.out hlt))
          have hy := (impR_bd HV.out (1 + x0 % 99) 1 hlt).2
          have hy2 : decide (G k < impR f m G (1 + x0 % 99) 1 k) = false := by simp; omega
          have hw2 : IntKind.i64.wrap (f + (k : Int)) = f + k := by rw [IntKind.wrap_i64]; omega
          obtain ⟨b1, o1, e1, l1, d1⟩ := Row.hid (RT.out.kept hbw) hlt
          obtain ⟨b2, o2, e2, l2, d2⟩ := Row.hid (RX.out.kept hbw) hlt
          obtain ⟨b3, o3, e3, l3, d3⟩ := Row.hid (RY.out.kept hbw) hlt
          subst e1 e2 e3
          generalize impR f m G (1 + x0 % 99) 1 k = yk at d3 hy hy2
          clear hbw hy
          go_wp2_with fail
          go_region_held3 (fun w' => w'.cell? ⟨w1.heap.size, 0, none⟩ = some (.int .i64 f) ∧ w'.cell? ⟨w1.heap.size, 1, none⟩ = some (.slice (some ⟨b1, o1, none⟩) m c1) ∧ w'.cell? ⟨g2, 0, none⟩ = some (.int .i64 f) ∧ w'.cell? ⟨g2, 1, none⟩ = some (.slice (some ⟨b2, o2, none⟩) m c2) ∧ w'.cell? ⟨g3, 0, none⟩ = some (.int .i64 f) ∧ w'.cell? ⟨g3, 1, none⟩ = some (.slice (some ⟨b3, o3, none⟩) m c3) ∧ w'.cell? ⟨b1, o1 + k, none⟩ = some (.int .i64 (G k)) ∧ w'.cell? ⟨b2, o2 + k, none⟩ = some (.int .i64 (G k)) ∧ w'.cell? ⟨b3, o3 + k, none⟩ = some (.int .i64 yk)) (simp [go_sem, *])
            (first | (go_at_call 32; (with_reducible refine (HD.out _ RT5.out.drew).mono ?_); rintro e w5 ⟨rfl, hb5⟩; obtain ⟨hc5, hf5⟩ := bcell hb5; (try simp only [World.size_drew] at hc5 hf5)))
          have HB5 := Lib.hid (HB.out.drew.trans (hb5.mono zz))
          clear hc5 hf5 hb5
          go_wp2_with fail
          go_roundw
          case rel => exact ⟨k + 1, by omega, by go_num, HB5.out⟩
          case measure => simp [intOf]; omega
        · obtain rfl : k = m := by omega
          have H1 := Lib.hid (HW.out (f - 1) 1000000 (death_out (.inl (by omega))))
          have H2 := Lib.hid (HW.out (f + k) 1000000 (death_out (.inr (by omega))))
          clear hbw
          go_wp2_with (first | (go_at_call 32; (with_reducible refine (H1.out _ RT5.out).mono ?_); rintro e w5 ⟨rfl, hb5⟩; obtain ⟨hc5, hf5⟩ := bcell hb5; (try simp only [World.size_drew] at hc5 hf5); have hz5 := hb5.size; (try simp at hz5); (try have q5_0 : w.heap.size < w5.heap.size := by omega); (try have q5_1 : w.heap.size + 1 < w5.heap.size := by omega); (try have q5_2 : w.heap.size + 2 < w5.heap.size := by omega); (try have q5_3 : w.heap.size + 3 < w5.heap.size := by omega); (try have q5_4 : w.heap.size + 4 < w5.heap.size := by omega); (try have q5_0_0 : w0.heap.size < w5.heap.size := by omega); (try have q5_0_1 : w0.heap.size + 1 < w5.heap.size := by omega); (try have q5_1_0 : w1.heap.size < w5.heap.size := by omega); (try have q5_1_1 : w1.heap.size + 1 < w5.heap.size := by omega); (try have q5_2_0 : w2.heap.size < w5.heap.size := by omega); (try have q5_2_1 : w2.heap.size + 1 < w5.heap.size := by omega); (try have q5_3_0 : w3.heap.size < w5.heap.size := by omega); (try have q5_3_1 : w3.heap.size + 1 < w5.heap.size := by omega); (try have q5_4_0 : w4.heap.size < w5.heap.size := by omega); (try have q5_4_1 : w4.heap.size + 1 < w5.heap.size := by omega); (try have q5_6_0 : w6.heap.size < w5.heap.size := by omega); (try have q5_6_1 : w6.heap.size + 1 < w5.heap.size := by omega); (try have u5_b : b < w5.heap.size := by omega); (try have u5_q : q < w5.heap.size := by omega); (try have u5_g : g < w5.heap.size := by omega); (try have u5_g1 : g1 < w5.heap.size := by omega); (try have u5_g2 : g2 < w5.heap.size := by omega); (try have u5_g3 : g3 < w5.heap.size := by omega); (try have u5_g4 : g4 < w5.heap.size := by omega); (try have u5_g5 : g5 < w5.heap.size := by omega)) | (go_at_call 32; (with_reducible refine (H2.out _ (RT5.out.kept hb5)).mono ?_); rintro e w6 ⟨rfl, hb6⟩; obtain ⟨hc6, hf6⟩ := bcell hb6; (try simp only [World.size_drew] at hc6 hf6); have hz6 := hb6.size; (try simp at hz6); (try have q6_0 : w.heap.size < w6.heap.size := by omega); (try have q6_1 : w.heap.size + 1 < w6.heap.size := by omega); (try have q6_2 : w.heap.size + 2 < w6.heap.size := by omega); (try have q6_3 : w.heap.size + 3 < w6.heap.size := by omega); (try have q6_4 : w.heap.size + 4 < w6.heap.size := by omega); (try have q6_0_0 : w0.heap.size < w6.heap.size := by omega); (try have q6_0_1 : w0.heap.size + 1 < w6.heap.size := by omega); (try have q6_1_0 : w1.heap.size < w6.heap.size := by omega); (try have q6_1_1 : w1.heap.size + 1 < w6.heap.size := by omega); (try have q6_2_0 : w2.heap.size < w6.heap.size := by omega); (try have q6_2_1 : w2.heap.size + 1 < w6.heap.size := by omega); (try have q6_3_0 : w3.heap.size < w6.heap.size := by omega); (try have q6_3_1 : w3.heap.size + 1 < w6.heap.size := by omega); (try have q6_4_0 : w4.heap.size < w6.heap.size := by omega); (try have q6_4_1 : w4.heap.size + 1 < w6.heap.size := by omega); (try have q6_5_0 : w5.heap.size < w6.heap.size := by omega); (try have q6_5_1 : w5.heap.size + 1 < w6.heap.size := by omega); (try have u6_b : b < w6.heap.size := by omega); (try have u6_q : q < w6.heap.size := by omega); (try have u6_g : g < w6.heap.size := by omega); (try have u6_g1 : g1 < w6.heap.size := by omega); (try have u6_g2 : g2 < w6.heap.size := by omega); (try have u6_g3 : g3 < w6.heap.size := by omega); (try have u6_g4 : g4 < w6.heap.size := by omega); (try have u6_g5 : g5 < w6.heap.size := by omega)) | (go_at_call 33; (with_reducible refine (HT.out _ ((RY5.out.kept hb5).kept hb6)).mono ?_); rintro e w7 ⟨rfl, hb7⟩; obtain ⟨hc7, hf7⟩ := bcell hb7; (try simp only [World.size_drew] at hc7 hf7); have hz7 := hb7.size; (try simp at hz7); (try have q7_0 : w.heap.size < w7.heap.size := by omega); (try have q7_1 : w.heap.size + 1 < w7.heap.size := by omega); (try have q7_2 : w.heap.size + 2 < w7.heap.size := by omega); (try have q7_3 : w.heap.size + 3 < w7.heap.size := by omega); (try have q7_4 : w.heap.size + 4 < w7.heap.size := by omega); (try have q7_0_0 : w0.heap.size < w7.heap.size := by omega); (try have q7_0_1 : w0.heap.size + 1 < w7.heap.size := by omega); (try have q7_1_0 : w1.heap.size < w7.heap.size := by omega); (try have q7_1_1 : w1.heap.size + 1 < w7.heap.size := by omega); (try have q7_2_0 : w2.heap.size < w7.heap.size := by omega); (try have q7_2_1 : w2.heap.size + 1 < w7.heap.size := by omega); (try have q7_3_0 : w3.heap.size < w7.heap.size := by omega); (try have q7_3_1 : w3.heap.size + 1 < w7.heap.size := by omega); (try have q7_4_0 : w4.heap.size < w7.heap.size := by omega); (try have q7_4_1 : w4.heap.size + 1 < w7.heap.size := by omega); (try have q7_5_0 : w5.heap.size < w7.heap.size := by omega); (try have q7_5_1 : w5.heap.size + 1 < w7.heap.size := by omega); (try have q7_6_0 : w6.heap.size < w7.heap.size := by omega); (try have q7_6_1 : w6.heap.size + 1 < w7.heap.size := by omega); (try have u7_b : b < w7.heap.size := by omega); (try have u7_q : q < w7.heap.size := by omega); (try have u7_g : g < w7.heap.size := by omega); (try have u7_g1 : g1 < w7.heap.size := by omega); (try have u7_g2 : g2 < w7.heap.size := by omega); (try have u7_g3 : g3 < w7.heap.size := by omega); (try have u7_g4 : g4 < w7.heap.size := by omega); (try have u7_g5 : g5 < w7.heap.size := by omega)))
          go_ret
          exact ⟨rfl, (HBX.out.trans (HB.out.mono zx)).trans ((hb5.trans ((hb6.mono hb5.size).trans (hb7.mono (Nat.le_trans hb5.size hb6.size)))).mono (Nat.le_trans zx zz))⟩
  · have hbig : decide (1048576 < n) = true := by simp; omega
    go_enter Try.func7, Try.ntmps7
    go_wp2_with (first | (go_at_call 15; (with_reducible refine (big_any code n cap _).mono ?_); rintro e w' ⟨rfl, rfl⟩))
    go_ret
    exact ⟨rfl, Below.refl _ _⟩
set_option maxRecDepth 100000 in
theorem fnTables_open {H : Type} {enc : TypeId × Value → H} (W : World) (base : Nat) (args : Array Value) (ds : List (DataW H)) (p : List MemPlace)
    (hval : ∀ (j : Nat) t v, Try.f7.params[j]? = some t → args[j]? = some v → Value.okWide Try.prog W .any base t v)
    (hA : DataW.TrodAll enc Try.prog W 0 (fun _ => true) true Try.f7.params.toList args.toList ds p) :
    Calls Try.prog 7 args W fun e W' => e = .returned (.bool true) ∧ Below W.heap.size W W' := by
  rw [Try.params7] at hA hval
  obtain ⟨v0, vs0, d0, ds0, p0, q0, hargs, rfl, rfl, h0, r0⟩ := trodAll_cons hA
  obtain ⟨rfl, rfl, rfl⟩ := trodAll_nil r0
  obtain rfl : args = #[v0] := by cases args; simp_all
  obtain ⟨code, coden, codecap, codeF, rfl, hl0, hm0, hr0, hw0⟩ := open_row Try.underlying22 Try.underlying5 (by kernel_rfl) (hval 0 22 v0 rfl rfl) h0
  exact lawTables code coden codecap codeF W hl0 hm0 hr0
theorem fnTables_lifted (os : Os) (started : os.Started) (H : Type) (enc : TypeId × Value → H) :
    ReturnsInHanded {} Try.checked os 7 .any (Rows.fnTablesSpec.pre6 enc Try.prog Try.f7 Rows.fnTablesRow.domain false) (Rows.fnTablesSpec.post enc Try.prog Try.f7 false true false false) :=
  law_lifted (C := Try.checked) (s := Rows.fnTablesSpec) (tb := 4) Tryown TrylaidOut (by kernel_rfl) Try.func7 rfl Try.underlying4 (by kernel_rfl) rfl (fun H ds h => match ds, h with | [d0], _ => rfl) os started H enc
    (ChangeSpec.witness6 (enc := enc) (C := Try.checked) false ⟨#[], #[.slice none 0 0], []⟩ 8 (by kernel_rfl) (by kernel_rfl) (by kernel_rfl) (by kernel_rfl))
    (fun W base args ds p hval hA _ _ => fnTables_open W base args ds p hval hA)
theorem fnTables_holds : Rows.FnTablesSaid :=
  OpenClaim.holds_of_wide 7 Try.f7 rfl rfl rfl rfl rfl rfl rfl ⟨rfl, rfl, rfl, rfl, rfl⟩ rfl rfl rfl rfl rfl (by kernel_rfl) Try.func7 (by kernel_rfl)
    (of_decide_eq_true (by kernel_rfl)) (by unfold Func.isWrapper; first | (rw [if_pos (by decide +kernel)]; kernel_rfl) | (rw [if_neg (by decide +kernel)]; exact ⟨rfl, rfl⟩))
    (fun os started H enc _ => fnTables_lifted os started H enc)
#print axioms fnTables_holds
end Go.Proofs.Ytjmibbjachgofaa
