/- Contracts of HeirPayments, of the program and of the reference. -/
import Derived.Test.YtoebibgkpmppdaaEnt
import Derived.Test.YtoebibgkpmppdaaAllocS
namespace Go.Proofs.Ytoebibgkpmppdaa
open Go.RowKit

/-- What heir i is entitled to in month t, in percent. -/
def heirW (F : Nat → Nat → Int) (n : Nat) (t : Int) (i : Nat) : Int := if entB F n t (n + 1) i = true then F i 1 else 0
def payB (F : Nat → Nat → Int) (n : Nat) (T : Int) : Bool := heirsB F n && inB T 0 1000000000
def payN (F : Nat → Nat → Int) (n : Nat) (T : Int) : Nat := if payB F n T = true then n else 0
def payG (F : Nat → Nat → Int) (n : Nat) (T t : Int) (i : Nat) : Int := if 100 < sumI (heirW F n t) n then alcG T (heirW F n t) n i else T * heirW F n t i / 100
theorem payN_le (F : Nat → Nat → Int) (n : Nat) (T : Int) : payN F n T ≤ n := by
  unfold payN
  split <;> omega
theorem heirW_bd {F : Nat → Nat → Int} {n : Nat} (h : heirsB F n = true) (t : Int) {i : Nat} (hi : i < n) : 0 ≤ heirW F n t i ∧ heirW F n t i ≤ 100 := by
  have := (heirB_true ((heirsB_true h).1 i hi)).2.1
  unfold heirW
  split <;> omega
theorem heirs_ten {F : Nat → Nat → Int} {n : Nat} (h : heirsB F n = true) : n ≤ 10 := (distB_true (heirsB_true h).2.1).2
theorem heir_parts {F : Nat → Nat → Int} {n : Nat} {T t : Int} (h : payB F n T = true) (hs : 100 < sumI (heirW F n t) n) : Parts T (heirW F n t) n := by
  simp only [payB, Bool.and_eq_true] at h
  obtain ⟨t0, t1⟩ := inB_true.1 h.2
  refine ⟨?_, heirs_ten h.1, fun i hi => heirW_bd h.1 t hi, hs, t0, t1⟩
  rcases Nat.eq_zero_or_pos n with h0 | h0
  · subst h0; simp [sumI] at hs
  · omega
set_option maxRecDepth 100000 in
set_option maxHeartbeats 8000000 in
theorem heirPay_any (A : Option Addr) (n cap : Nat) (F : Nat → Nat → Int) (T t : Int) (w : World) (hn : n ≤ 1048576) (hr : Recs w 4 A n F) :
    Calls Try.prog 27 #[.slice A n cap, .int .i64 T, .int .i64 t] w (IntsQ (payN F n T) (payG F n T t) w) := by
  obtain ⟨i0, hi0, iz0, iz1, iz2⟩ := info_parts int_inf
  have HR := Lib.hid hr
  clear hr
  rcases Bool.eq_false_or_eq_true (heirsB F n) with s1 | s1
  · rcases Bool.eq_false_or_eq_true (inB T 0 1000000000) with s2 | s2
    · have hpb : payB F n T = true := by simp [payB, s1, s2]
      have HN := Lib.hid (show payN F n T = n by simp [payN, hpb])
      have HPB := Lib.hid hpb
      have HS := Lib.hid s1
      have h10 := heirs_ten s1
      obtain ⟨t0, t1⟩ := inB_true.1 s2
      rw [HN.out]
      clear hpb
      go_enter Try.func27, Try.ntmps27
      go_wp2_with (first | (go_at_call 14; (with_reducible refine (heirsOk_any A n cap F _ hn HR.out).mono ?_); rintro e w1 ⟨rfl, hb1⟩; obtain ⟨hc1, hf1⟩ := bcell hb1; (try simp only [World.size_drew] at hc1 hf1); have hz1 := hb1.size; (try simp at hz1); (try have q1_0 : w.heap.size < w1.heap.size := by omega); (try have q1_1 : w.heap.size + 1 < w1.heap.size := by omega); (try have q1_2 : w.heap.size + 2 < w1.heap.size := by omega); (try have q1_3 : w.heap.size + 3 < w1.heap.size := by omega); (try have q1_4 : w.heap.size + 4 < w1.heap.size := by omega); (try have q1_0_0 : w0.heap.size < w1.heap.size := by omega); (try have q1_0_1 : w0.heap.size + 1 < w1.heap.size := by omega); (try have q1_2_0 : w2.heap.size < w1.heap.size := by omega); (try have q1_2_1 : w2.heap.size + 1 < w1.heap.size := by omega); (try have q1_3_0 : w3.heap.size < w1.heap.size := by omega); (try have q1_3_1 : w3.heap.size + 1 < w1.heap.size := by omega); (try have q1_4_0 : w4.heap.size < w1.heap.size := by omega); (try have q1_4_1 : w4.heap.size + 1 < w1.heap.size := by omega); (try have q1_5_0 : w5.heap.size < w1.heap.size := by omega); (try have q1_5_1 : w5.heap.size + 1 < w1.heap.size := by omega); (try have q1_6_0 : w6.heap.size < w1.heap.size := by omega); (try have q1_6_1 : w6.heap.size + 1 < w1.heap.size := by omega); (try have u1_b : b < w1.heap.size := by omega); (try have u1_q : q < w1.heap.size := by omega); (try have u1_g : g < w1.heap.size := by omega); (try have u1_g1 : g1 < w1.heap.size := by omega); (try have u1_g2 : g2 < w1.heap.size := by omega); (try have u1_g3 : g3 < w1.heap.size := by omega); (try have u1_g4 : g4 < w1.heap.size := by omega); (try have u1_g5 : g5 < w1.heap.size := by omega)) | (go_at_call 37; (with_reducible refine (within_any T 0 1000000000 _).mono ?_); rintro e w' ⟨rfl, rfl⟩))
      have HB1 := Lib.hid hb1
      have z1 := hb1.size
      clear s1 s2 hc1 hf1 hb1
      go_loopw [7, 8, 26] (fun v s i wr => ∃ m : Nat, m ≤ n ∧ i = .int .i64 m ∧ s = .int .i64 (sumI (heirW F n t) m) ∧ wr.ownsRow w.heap.size 3 1 v m (ints (heirW F n t) m) ∧ Below w.heap.size w wr) (fun _ _ i _ => n - (intOf i).toNat)
      case atStart => exact ⟨0, Nat.zero_le _, rfl, rfl, own_mono (own_empty w1 _ _ (Nat.le_refl _)) z1, HB1.out.alloc z1 _⟩
      case round =>
        clear HB1 z1
        obtain ⟨m, hm, rfl, rfl, hown, hbw⟩ := hrel
        have zw := hbw.size
        by_cases hlt : m < n
        · obtain ⟨b, off, e, hb, c0, c1, c2, c3⟩ := HR.out.at4 hlt
          have d0 := (hbw.cell (p := ⟨b, off + m * 4, none⟩) hb).trans c0
          have d1 := (hbw.cell (p := ⟨b, off + m * 4 + 1, none⟩) hb).trans c1
          have d2 := (hbw.cell (p := ⟨b, off + m * 4 + 2, none⟩) hb).trans c2
          have d3 := (hbw.cell (p := ⟨b, off + m * 4 + 3, none⟩) hb).trans c3
          have RW := Lib.hid ((HR.out.kept hbw).alloc (.cells #[.int .i64 (F m 0), .int .i64 (F m 1), .int .i64 (F m 2), .int .i64 (F m 3)] 43))
          have HE := Lib.hid (fun w1 hr1 => ent_any A n cap F t hn n m (F m 0) w1 hlt ((distB_true (heirsB_true HS.out).2.1).1 m hlt) (heirs_ends HS.out hlt) hr1)
          obtain ⟨u0, u1⟩ := sumI_bd (f := heirW F n t) (n := m) (fun i hi => heirW_bd HS.out t (i := i) (by omega))
          obtain ⟨x0, x1⟩ := heirW_bd HS.out t hlt
          have HM := Lib.hid (show ints (heirW F n t) (m + 1) = ints (heirW F n t) m ++ [.int .i64 (heirW F n t m)] from ints_succ _ _)
          have HV := Lib.hid (show sumI (heirW F n t) (m + 1) = sumI (heirW F n t) m + heirW F n t m from rfl)
          subst e
          have hmi : (m : Int) < (n : Int) := by omega
          have hm0 : (0 : Int) ≤ (m : Int) := by omega
          have HB := Lib.hid hbw
          have HO := Lib.hid hown
          clear c0 c1 c2 c3 hb hbw hown
          rcases Bool.eq_false_or_eq_true (entB F n t (n + 1) m) with k1 | k1
          · rw [k1] at HE
            have hx : heirW F n t m = F m 1 := by simp [heirW, k1]
            rw [hx] at HM HV x0 x1
            clear hx
            generalize sumI (heirW F n t) m = u at *
            go_wp2_with (first | (go_at_call 42; (with_reducible refine (HE.out _ RW.out).mono ?_); rintro e w2 ⟨rfl, hb2⟩; obtain ⟨hc2, hf2⟩ := bcell hb2; (try simp only [World.size_drew] at hc2 hf2); have hz2 := hb2.size; (try simp at hz2); (try have q2_0 : w.heap.size < w2.heap.size := by omega); (try have q2_1 : w.heap.size + 1 < w2.heap.size := by omega); (try have q2_2 : w.heap.size + 2 < w2.heap.size := by omega); (try have q2_3 : w.heap.size + 3 < w2.heap.size := by omega); (try have q2_4 : w.heap.size + 4 < w2.heap.size := by omega); (try have q2_0_0 : w0.heap.size < w2.heap.size := by omega); (try have q2_0_1 : w0.heap.size + 1 < w2.heap.size := by omega); (try have q2_1_0 : w1.heap.size < w2.heap.size := by omega); (try have q2_1_1 : w1.heap.size + 1 < w2.heap.size := by omega); (try have q2_3_0 : w3.heap.size < w2.heap.size := by omega); (try have q2_3_1 : w3.heap.size + 1 < w2.heap.size := by omega); (try have q2_4_0 : w4.heap.size < w2.heap.size := by omega); (try have q2_4_1 : w4.heap.size + 1 < w2.heap.size := by omega); (try have q2_5_0 : w5.heap.size < w2.heap.size := by omega); (try have q2_5_1 : w5.heap.size + 1 < w2.heap.size := by omega); (try have q2_6_0 : w6.heap.size < w2.heap.size := by omega); (try have q2_6_1 : w6.heap.size + 1 < w2.heap.size := by omega); (try have u2_b : b < w2.heap.size := by omega); (try have u2_q : q < w2.heap.size := by omega); (try have u2_g : g < w2.heap.size := by omega); (try have u2_g1 : g1 < w2.heap.size := by omega); (try have u2_g2 : g2 < w2.heap.size := by omega); (try have u2_g3 : g3 < w2.heap.size := by omega); (try have u2_g4 : g4 < w2.heap.size := by omega); (try have u2_g5 : g5 < w2.heap.size := by omega)) | (at_builtin; refine wpList_append_own_at _ rfl _ _ 29 rfl w.heap.size 3 i0 (.int .i64 0) 1 8 Try.underlying29 hi0 iz0 iz1 iz2 rfl (by decide) _ _ _ rfl (World.ownsRow.alloc (own_below (HO.out.alloc _) hb2) _) ⟨w2.heap.size, 0, none⟩ 1 1 [.int .i64 (F m 1)] rfl rfl ?c1 ?c2 ?c3 ?c4 ?c5 ?_))
            case c1 => exact cell_one_new w2 _ _
            (case c2 => intro u hu; simp at hu; subst hu; rfl); (case c3 => unfold maxLen; omega); (case c4 => omega); (case c5 => first | omega | (simp; done) | (simp; omega))
            intro v3 w3 ho3 hg3 _ _
            have hb3 : Below w.heap.size w w3 := own_below_lo (World.ownsRow.alloc (own_below (HO.out.alloc (.cells #[.int .i64 (F m 0), .int .i64 (F m 1), .int .i64 (F m 2), .int .i64 (F m 3)] 43)) hb2) _) (((HB.out.alloc zw _).trans (hb2.mono (by simp; omega))).alloc (by omega) _) (Nat.le_refl _) (by simp; omega) hg3
            rw [← HM.out] at ho3
            have HB3 := Lib.hid hb3
            have HO3 := Lib.hid ho3
            clear hb2 hc2 hf2 hb3 ho3 hg3 HO HB RW HE d0 d1 d2 d3
            go_wp2
            go_roundw
            case rel => exact ⟨m + 1, by omega, by go_num, by first | (rw [HV.out]; done) | (rw [HV.out]; go_num) | (rw [HV.out]; simp; done), HO3.out, HB3.out⟩
            case measure => simp [intOf]; omega
          · rw [k1] at HE
            have hx : heirW F n t m = 0 := by simp [heirW, k1]
            rw [hx] at HM HV x0 x1
            clear hx
            generalize sumI (heirW F n t) m = u at *
            go_wp2_with (first | (go_at_call 42; (with_reducible refine (HE.out _ RW.out).mono ?_); rintro e w2 ⟨rfl, hb2⟩; obtain ⟨hc2, hf2⟩ := bcell hb2; (try simp only [World.size_drew] at hc2 hf2); have hz2 := hb2.size; (try simp at hz2); (try have q2_0 : w.heap.size < w2.heap.size := by omega); (try have q2_1 : w.heap.size + 1 < w2.heap.size := by omega); (try have q2_2 : w.heap.size + 2 < w2.heap.size := by omega); (try have q2_3 : w.heap.size + 3 < w2.heap.size := by omega); (try have q2_4 : w.heap.size + 4 < w2.heap.size := by omega); (try have q2_0_0 : w0.heap.size < w2.heap.size := by omega); (try have q2_0_1 : w0.heap.size + 1 < w2.heap.size := by omega); (try have q2_1_0 : w1.heap.size < w2.heap.size := by omega); (try have q2_1_1 : w1.heap.size + 1 < w2.heap.size := by omega); (try have q2_3_0 : w3.heap.size < w2.heap.size := by omega); (try have q2_3_1 : w3.heap.size + 1 < w2.heap.size := by omega); (try have q2_4_0 : w4.heap.size < w2.heap.size := by omega); (try have q2_4_1 : w4.heap.size + 1 < w2.heap.size := by omega); (try have q2_5_0 : w5.heap.size < w2.heap.size := by omega); (try have q2_5_1 : w5.heap.size + 1 < w2.heap.size := by omega); (try have q2_6_0 : w6.heap.size < w2.heap.size := by omega); (try have q2_6_1 : w6.heap.size + 1 < w2.heap.size := by omega); (try have u2_b : b < w2.heap.size := by omega); (try have u2_q : q < w2.heap.size := by omega); (try have u2_g : g < w2.heap.size := by omega); (try have u2_g1 : g1 < w2.heap.size := by omega); (try have u2_g2 : g2 < w2.heap.size := by omega); (try have u2_g3 : g3 < w2.heap.size := by omega); (try have u2_g4 : g4 < w2.heap.size := by omega); (try have u2_g5 : g5 < w2.heap.size := by omega)) | (at_builtin; refine wpList_append_own_at _ rfl _ _ 29 rfl w.heap.size 3 i0 (.int .i64 0) 1 8 Try.underlying29 hi0 iz0 iz1 iz2 rfl (by decide) _ _ _ rfl (World.ownsRow.alloc (own_below (HO.out.alloc _) hb2) _) ⟨w2.heap.size, 0, none⟩ 1 1 [.int .i64 (0)] rfl rfl ?c1 ?c2 ?c3 ?c4 ?c5 ?_))
            case c1 => exact cell_one_new w2 _ _
            (case c2 => intro u hu; simp at hu; subst hu; rfl); (case c3 => unfold maxLen; omega); (case c4 => omega); (case c5 => first | omega | (simp; done) | (simp; omega))
            intro v3 w3 ho3 hg3 _ _
            have hb3 : Below w.heap.size w w3 := own_below_lo (World.ownsRow.alloc (own_below (HO.out.alloc (.cells #[.int .i64 (F m 0), .int .i64 (F m 1), .int .i64 (F m 2), .int .i64 (F m 3)] 43)) hb2) _) (((HB.out.alloc zw _).trans (hb2.mono (by simp; omega))).alloc (by omega) _) (Nat.le_refl _) (by simp; omega) hg3
            rw [← HM.out] at ho3
            have HB3 := Lib.hid hb3
            have HO3 := Lib.hid ho3
            clear hb2 hc2 hf2 hb3 ho3 hg3 HO HB RW HE d0 d1 d2 d3
            go_wp2
            go_roundw
            case rel => exact ⟨m + 1, by omega, by go_num, by first | (rw [HV.out]; done) | (rw [HV.out]; go_num) | (rw [HV.out]; simp; done), HO3.out, HB3.out⟩
            case measure => simp [intOf]; omega
        · obtain rfl : n = m := by omega
          have HO := Lib.hid hown
          have HB := Lib.hid hbw
          obtain ⟨A1, c1, rfl, _, _, _⟩ := own_row hown
          clear hown hbw
          rcases Bool.eq_false_or_eq_true (decide (100 < sumI (heirW F n t) n)) with k1 | k1
          · have hlt2 := of_decide_eq_true k1
            have HG := Lib.hid (show payG F n T t = alcG T (heirW F n t) n by funext i; simp only [payG]; rw [if_pos hlt2])
            have HP := Lib.hid (heir_parts (t := t) HPB.out hlt2)
            go_wp2_with fail
            with_reducible refine (allocate_any A1 n c1 T (heirW F n t) _ HP.out (own_rows HO.out)).mono ?_
            rintro e w2 ⟨v, rfl, ho2, hb2⟩
            have HO2 := Lib.hid ho2
            have HB2 := Lib.hid (HB.out.trans (hb2.mono zw))
            clear ho2 hb2
            go_wp2
            go_ret
            exact ⟨_, rfl, by rw [HG.out]; exact own_mono HO2.out zw, HB2.out⟩
          · have hge := of_decide_eq_false k1
            have HG := Lib.hid (show payG F n T t = fun i => T * heirW F n t i / 100 by funext i; simp only [payG]; rw [if_neg hge])
            go_wp2_with fail
            go_loopw [12, 53] (fun v i wx => ∃ m : Nat, m ≤ n ∧ i = .int .i64 m ∧ wx.ownsRow w.heap.size 3 1 v m (ints (fun i => T * heirW F n t i / 100) m) ∧ wx.ownsRow w.heap.size 3 1 (.slice A1 n c1) n (ints (heirW F n t) n) ∧ v.ownBlock ≠ (Value.slice A1 n c1).ownBlock ∧ Below w.heap.size w wx) (fun _ i _ => n - (intOf i).toNat)
            case atStart =>
              refine ⟨0, Nat.zero_le _, rfl, own_mono (own_empty wr _ _ (Nat.le_refl _)) zw, HO.out.alloc _, ?_, HB.out.alloc zw _⟩
              intro e
              have := own_hi HO.out wr.heap.size e.symm
              omega
            case round =>
              obtain ⟨m, hm, rfl, ho1, ho2, hne, hbw⟩ := hrel
              by_cases hlt : m < n
              · obtain ⟨_, _, e, _, _, hat⟩ := own_row ho2
                cases e
                obtain ⟨g, rfl, _, lg, hcell, _⟩ := hat (by omega)
                have ck := hcell m hlt
                obtain ⟨x0, x1⟩ := heirW_bd HS.out t hlt
                have p0 : 0 ≤ T * heirW F n t m := Int.mul_nonneg t0 x0
                have p1 : T * heirW F n t m ≤ 100000000000 := Int.le_trans (Int.mul_le_mul t1 x1 x0 (by decide)) (by decide)
                have HM := Lib.hid (show ints (fun i => T * heirW F n t i / 100) (m + 1) = ints (fun i => T * heirW F n t i / 100) m ++ [.int .i64 (T * heirW F n t m / 100)] from ints_succ _ _)
                have hmi : (m : Int) < (n : Int) := by omega
                have hm0 : (0 : Int) ≤ (m : Int) := by omega
                have zw2 := hbw.size
                have HO1 := Lib.hid ho1
                have HO2 := Lib.hid ho2
                have HNE := Lib.hid hne
                have HBX := Lib.hid hbw
                clear ho1 ho2 hne hbw hat hcell HO HB
                generalize heirW F n t m = x at *
                go_wp2_with ((at_builtin; refine wpList_append_own_at _ rfl _ _ 29 rfl w.heap.size 3 i0 (.int .i64 0) 1 8 Try.underlying29 hi0 iz0 iz1 iz2 rfl (by decide) _ _ _ rfl (HO1.out.alloc _) ⟨wr.heap.size, 0, none⟩ 1 1 [.int .i64 (T * x / 100)] rfl rfl ?c1 ?c2 ?c3 ?c4 ?c5 ?_))
                case c1 => exact cell_one_new wr _ _
                (case c2 => intro u hu; simp at hu; subst hu; rfl); (case c3 => unfold maxLen; omega); (case c4 => omega); (case c5 => first | omega | (simp; done) | (simp; omega))
                intro v3 w3 ho3 hg3 _ hat3
                rw [← HM.out] at ho3
                have O2 := Lib.hid ((HO2.out.alloc (.cells #[.int .i64 (T * x / 100)] 3)).kept hg3 (.inr (fun e => HNE.out e.symm)))
                have HB3 := Lib.hid (own_below_lo (HO1.out.alloc (.cells #[.int .i64 (T * x / 100)] 3)) (HBX.out.alloc (by omega) _) (Nat.le_refl _) (by simp; omega) hg3)
                have N3 := Lib.hid (apart_new (g := wr.heap.size + 1) (HO2.out.alloc (.cells #[.int .i64 (T * x / 100)] 3)) (by simp) HNE.out hat3)
                have O3 := Lib.hid ho3
                clear ho3 hg3 hat3 HO1 HO2 HNE HBX
                go_wp2
                go_roundw
                case rel => exact ⟨m + 1, by omega, by go_num, O3.out, O2.out, N3.out, HB3.out⟩
                case measure => simp [intOf]; omega
              · obtain rfl : n = m := by omega
                go_wp2
                go_ret
                exact ⟨_, rfl, by rw [HG.out]; exact ho1, hbw⟩
    · have HN := Lib.hid (show payN F n T = 0 by simp [payN, payB, s2])
      rw [HN.out]
      go_enter Try.func27, Try.ntmps27
      go_wp2_with (first | (go_at_call 14; (with_reducible refine (heirsOk_any A n cap F _ hn HR.out).mono ?_); rintro e w1 ⟨rfl, hb1⟩; obtain ⟨hc1, hf1⟩ := bcell hb1; (try simp only [World.size_drew] at hc1 hf1); have hz1 := hb1.size; (try simp at hz1); (try have q1_0 : w.heap.size < w1.heap.size := by omega); (try have q1_1 : w.heap.size + 1 < w1.heap.size := by omega); (try have q1_2 : w.heap.size + 2 < w1.heap.size := by omega); (try have q1_3 : w.heap.size + 3 < w1.heap.size := by omega); (try have q1_4 : w.heap.size + 4 < w1.heap.size := by omega); (try have q1_0_0 : w0.heap.size < w1.heap.size := by omega); (try have q1_0_1 : w0.heap.size + 1 < w1.heap.size := by omega); (try have q1_2_0 : w2.heap.size < w1.heap.size := by omega); (try have q1_2_1 : w2.heap.size + 1 < w1.heap.size := by omega); (try have q1_3_0 : w3.heap.size < w1.heap.size := by omega); (try have q1_3_1 : w3.heap.size + 1 < w1.heap.size := by omega); (try have q1_4_0 : w4.heap.size < w1.heap.size := by omega); (try have q1_4_1 : w4.heap.size + 1 < w1.heap.size := by omega); (try have q1_5_0 : w5.heap.size < w1.heap.size := by omega); (try have q1_5_1 : w5.heap.size + 1 < w1.heap.size := by omega); (try have q1_6_0 : w6.heap.size < w1.heap.size := by omega); (try have q1_6_1 : w6.heap.size + 1 < w1.heap.size := by omega); (try have u1_b : b < w1.heap.size := by omega); (try have u1_q : q < w1.heap.size := by omega); (try have u1_g : g < w1.heap.size := by omega); (try have u1_g1 : g1 < w1.heap.size := by omega); (try have u1_g2 : g2 < w1.heap.size := by omega); (try have u1_g3 : g3 < w1.heap.size := by omega); (try have u1_g4 : g4 < w1.heap.size := by omega); (try have u1_g5 : g5 < w1.heap.size := by omega)) | (go_at_call 37; (with_reducible refine (within_any T 0 1000000000 _).mono ?_); rintro e w' ⟨rfl, rfl⟩))
      go_ret
      exact ⟨_, rfl, World.ownsRow_nil _ _ _ _, by (repeat (first | with_reducible exact Below.refl _ _ | with_reducible refine Below.drew ?_ | (with_reducible refine Below.alloc ?_ ?hsz _; case hsz => ((try simp) <;> (try omega))) | (with_reducible refine Below.setCell ?_ ?hsz _; case hsz => ((try simp) <;> (try omega))) | (with_reducible refine below_step (by with_reducible assumption) ?hsz ?_; case hsz => ((try simp) <;> (try omega)))))⟩
  · have HN := Lib.hid (show payN F n T = 0 by simp [payN, payB, s1])
    rw [HN.out]
    go_enter Try.func27, Try.ntmps27
    go_wp2_with (first | (go_at_call 14; (with_reducible refine (heirsOk_any A n cap F _ hn HR.out).mono ?_); rintro e w1 ⟨rfl, hb1⟩; obtain ⟨hc1, hf1⟩ := bcell hb1; (try simp only [World.size_drew] at hc1 hf1); have hz1 := hb1.size; (try simp at hz1); (try have q1_0 : w.heap.size < w1.heap.size := by omega); (try have q1_1 : w.heap.size + 1 < w1.heap.size := by omega); (try have q1_2 : w.heap.size + 2 < w1.heap.size := by omega); (try have q1_3 : w.heap.size + 3 < w1.heap.size := by omega); (try have q1_4 : w.heap.size + 4 < w1.heap.size := by omega); (try have q1_0_0 : w0.heap.size < w1.heap.size := by omega); (try have q1_0_1 : w0.heap.size + 1 < w1.heap.size := by omega); (try have q1_2_0 : w2.heap.size < w1.heap.size := by omega); (try have q1_2_1 : w2.heap.size + 1 < w1.heap.size := by omega); (try have q1_3_0 : w3.heap.size < w1.heap.size := by omega); (try have q1_3_1 : w3.heap.size + 1 < w1.heap.size := by omega); (try have q1_4_0 : w4.heap.size < w1.heap.size := by omega); (try have q1_4_1 : w4.heap.size + 1 < w1.heap.size := by omega); (try have q1_5_0 : w5.heap.size < w1.heap.size := by omega); (try have q1_5_1 : w5.heap.size + 1 < w1.heap.size := by omega); (try have q1_6_0 : w6.heap.size < w1.heap.size := by omega); (try have q1_6_1 : w6.heap.size + 1 < w1.heap.size := by omega); (try have u1_b : b < w1.heap.size := by omega); (try have u1_q : q < w1.heap.size := by omega); (try have u1_g : g < w1.heap.size := by omega); (try have u1_g1 : g1 < w1.heap.size := by omega); (try have u1_g2 : g2 < w1.heap.size := by omega); (try have u1_g3 : g3 < w1.heap.size := by omega); (try have u1_g4 : g4 < w1.heap.size := by omega); (try have u1_g5 : g5 < w1.heap.size := by omega)) | (go_at_call 37; (with_reducible refine (within_any T 0 1000000000 _).mono ?_); rintro e w' ⟨rfl, rfl⟩))
    go_ret
    exact ⟨_, rfl, World.ownsRow_nil _ _ _ _, by (repeat (first | with_reducible exact Below.refl _ _ | with_reducible refine Below.drew ?_ | (with_reducible refine Below.alloc ?_ ?hsz _; case hsz => ((try simp) <;> (try omega))) | (with_reducible refine Below.setCell ?_ ?hsz _; case hsz => ((try simp) <;> (try omega))) | (with_reducible refine below_step (by with_reducible assumption) ?hsz ?_; case hsz => ((try simp) <;> (try omega)))))⟩
end Go.Proofs.Ytoebibgkpmppdaa
