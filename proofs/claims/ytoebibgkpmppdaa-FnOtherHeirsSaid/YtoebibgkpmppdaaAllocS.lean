/- Contract of the reference's Allocate, at one to ten weights of a hundred at most and of more than a hundred together. -/
import Derived.Test.YtoebibgkpmppdaaAlloc
namespace Go.Proofs.Ytoebibgkpmppdaa
open Go.RowKit

theorem own_setFar {w : World} {base : Nat} {e : TypeId} {v : Value} {n : Nat} {xs : List Value} {g : Nat} (h : w.ownsRow base e 1 v n xs) (hne : v.ownBlock ≠ some g) (i : Nat) (u : Value) : (w.setCell ⟨g, i, none⟩ u).ownsRow base e 1 v n xs :=
  h.kept (grown_set (grown_refl w (some g)) _ _) (.inr hne)
set_option maxRecDepth 100000 in
set_option maxHeartbeats 8000000 in
theorem sallocate_any (A : Option Addr) (n cap : Nat) (T : Int) (W : Nat → Int) (w : World) (hp : Parts T W n) (hr : Row w .i64 A n W) :
    Calls Try.prog 43 #[.int .i64 T, .slice A n cap] w (IntsQ n (alcG T W n) w) := by
  obtain ⟨i0, hi0, iz0, iz1, iz2⟩ := info_parts int_inf
  have n1 := hp.n1
  have n2 := hp.n2
  have s0 := hp.s
  have s1 := hp.s1
  have t0 := hp.t0
  have t1 := hp.t1
  have q1 : inB T 0 1000000000 = true := inB_true.2 ⟨t0, t1⟩
  have q2 : inB (n : Int) 1 40 = true := inB_true.2 (by omega)
  have q4 : (sumI W n == 0) = false := by simp; omega
  have HP := Lib.hid hp
  have HR := Lib.hid hr
  clear hr hp
  go_enter Try.func43, Try.ntmps43
  go_wp2_with (first | (go_at_call 32; (with_reducible refine (l01In_any T 0 1000000000 _).mono ?_); rintro e w' ⟨rfl, rfl⟩) | (go_at_call 32; (with_reducible refine (l01In_any n 1 40 _).mono ?_); rintro e w' ⟨rfl, rfl⟩))
  go_loopw [6, 7] (fun s i wr => ∃ m : Nat, m ≤ n ∧ i = .int .i64 m ∧ s = .int .i64 (sumI W m) ∧ Below w.heap.size w wr ∧ wr.ownsRow w.heap.size 3 1 (.slice (some ⟨w.heap.size, 0, none⟩) 0 0) 0 []) (fun _ i _ => n - (intOf i).toNat)
  case atStart => exact ⟨0, Nat.zero_le _, rfl, rfl, by (repeat (first | with_reducible exact Below.refl _ _ | with_reducible refine Below.drew ?_ | (with_reducible refine Below.alloc ?_ ?hsz _; case hsz => ((try simp) <;> (try omega))) | (with_reducible refine Below.setCell ?_ ?hsz _; case hsz => ((try simp) <;> (try omega))) | (with_reducible refine below_step (by with_reducible assumption) ?hsz ?_; case hsz => ((try simp) <;> (try omega))))), own_empty _ _ _ (Nat.le_refl _)⟩
  case round =>
    obtain ⟨m, hm, rfl, rfl, hbw, ho⟩ := hrel
    by_cases hlt : m < n
    · obtain ⟨b, off, rfl, hb, ck⟩ := HR.out.hid hlt
      have dk : wr.cell? ⟨b, off + m, none⟩ = some (.int .i64 (W m)) := (hbw.cell (p := ⟨b, off + m, none⟩) hb).trans ck
      have hmi : (m : Int) < (n : Int) := by omega
      have hm0 : (0 : Int) ≤ (m : Int) := by omega
      obtain ⟨w0, w1⟩ := HP.out.w m hlt
      have q3 : inB (W m) 0 1000000 = true := inB_true.2 (by omega)
      obtain ⟨u0, u1⟩ := sumI_bd (f := W) (n := m) (fun i hi => HP.out.w i (by omega))
      clear ck hb
      go_wp2_with (go_at_call 32; (with_reducible refine (l01In_any (W m) 0 1000000 _).mono ?_); rintro e w' ⟨rfl, rfl⟩)
      go_roundw
      case rel => exact ⟨m + 1, by omega, by go_num, by go_num, hbw, ho⟩
      case measure => simp [intOf]; omega
    · obtain rfl : n = m := by omega
      have HO := Lib.hid ho
      have HB := Lib.hid hbw
      have zw := hbw.size
      clear hbw ho
      go_wp2_with fail
      go_loopw [5, 8, 9, 10] (fun v1 l v2 i wx => ∃ m : Nat, m ≤ n ∧ i = .int .i64 m ∧ l = .int .i64 (T - sumI (alF T W n) m) ∧ wx.ownsRow w.heap.size 3 1 v1 m (ints (alF T W n) m) ∧ wx.ownsRow w.heap.size 3 1 v2 m (ints (alR T W n) m) ∧ v1.ownBlock ≠ v2.ownBlock ∧ Below w.heap.size w wx) (fun _ _ _ i _ => n - (intOf i).toNat)
      case atStart =>
        refine ⟨0, Nat.zero_le _, rfl, by simp [sumI], HO.out.alloc _, own_empty_up (by omega) (by simp), ?_, HB.out.alloc (by omega) _⟩
        have := own_hi HO.out w.heap.size rfl
        simp [Value.ownBlock]
        omega
      case round =>
        obtain ⟨m, hm, rfl, rfl, ho1, ho2, hne, hbw⟩ := hrel
        have zw2 := hbw.size
        by_cases hlt : m < n
        · obtain ⟨b, off, e, hb, ck⟩ := HR.out.hid hlt
          have dk : wr.cell? ⟨b, off + m, none⟩ = some (.int .i64 (W m)) := (hbw.cell (p := ⟨b, off + m, none⟩) hb).trans ck
          have hmi : (m : Int) < (n : Int) := by omega
          have hm0 : (0 : Int) ≤ (m : Int) := by omega
          obtain ⟨p0, p1⟩ := HP.out.p hlt
          obtain ⟨f0, f1⟩ := HP.out.f hlt
          obtain ⟨r0, r1⟩ := HP.out.r m
          obtain ⟨u0, u1⟩ := sumI_bd (f := alF T W n) (n := m) (lo := 0) (hi := 1000000000) (fun i hi => by have := HP.out.f (i := i) (by omega); omega)
          have mi : (T * W m).tdiv (sumI W n) = alF T W n m := Int.tdiv_eq_ediv_of_nonneg p0
          have mr : (T * W m).tmod (sumI W n) = alR T W n m := Int.tmod_eq_emod_of_nonneg p0
          have wi : IntKind.i64.wrap (T * W m) = T * W m := by rw [IntKind.wrap_i64]; omega
          have vi : IntKind.i64.wrap (alF T W n m) = alF T W n m := by rw [IntKind.wrap_i64]; omega
          have vr : IntKind.i64.wrap (alR T W n m) = alR T W n m := by rw [IntKind.wrap_i64]; omega
          have n0 : ¬ sumI W n = 0 := by omega
          have HV := Lib.hid (show T - sumI (alF T W n) (m + 1) = T - sumI (alF T W n) m - alF T W n m by simp only [sumI]; omega)
          have HM := Lib.hid (show ints (alF T W n) (m + 1) = ints (alF T W n) m ++ [.int .i64 (alF T W n m)] from ints_succ _ _)
          have HM2 := Lib.hid (show ints (alR T W n) (m + 1) = ints (alR T W n) m ++ [.int .i64 (alR T W n m)] from ints_succ _ _)
          have HO1 := Lib.hid ho1
          have HO2 := Lib.hid ho2
          have HNE := Lib.hid hne
          have HB2 := Lib.hid hbw
          subst e
          clear ck hb ho1 ho2 hne hbw
          generalize ints (alF T W n) m = La at *
          generalize ha : alF T W n m = a at *
          generalize hrr : alR T W n m = r at *
          generalize hp : T * W m = p at *
          generalize hS : sumI W n = S at *
          generalize sumI (alF T W n) m = u at *
          generalize ints (alR T W n) m = Lb at *
          go_wp2_with (at_builtin; refine wpList_append_own_at _ rfl _ _ 29 rfl w.heap.size 3 i0 (.int .i64 0) 1 8 Try.underlying29 hi0 iz0 iz1 iz2 rfl (by decide) _ _ _ rfl (HO1.out.alloc _) ⟨wr.heap.size, 0, none⟩ 1 1 [.int .i64 a] rfl rfl ?c1 ?c2 ?c3 ?c4 ?c5 ?_)
          case c1 => exact cell_one_new wr _ _
          case c2 => intro u hu; simp at hu; subst hu; rfl
          case c3 => unfold maxLen; omega
          case c4 => omega
          case c5 => simp; omega
          intro v3 w3 ho3 hg3 _ hat3
          rw [← HM.out] at ho3
          have O2 := Lib.hid ((HO2.out.alloc (.cells #[.int .i64 a] 3)).kept hg3 (.inr (fun e => HNE.out e.symm)))
          have HB3 := Lib.hid (own_below_lo (HO1.out.alloc (.cells #[.int .i64 a] 3)) (HB2.out.alloc (by omega) _) (Nat.le_refl _) (by simp; omega) hg3)
          have N3 := Lib.hid (apart_new (g := wr.heap.size + 1) (HO2.out.alloc (.cells #[.int .i64 a] 3)) (by simp) HNE.out hat3)
          have O3 := Lib.hid ho3
          have z3 := HB3.out.size
          clear ho3 hg3 hat3 HO1 HO2 HNE HB2
          go_wp2_with (at_builtin; refine wpList_append_own_at _ rfl _ _ 29 rfl w.heap.size 3 i0 (.int .i64 0) 1 8 Try.underlying29 hi0 iz0 iz1 iz2 rfl (by decide) _ _ _ rfl (O2.out.alloc _) ⟨w3.heap.size, 0, none⟩ 1 1 [.int .i64 r] rfl rfl ?c1 ?c2 ?c3 ?c4 ?c5 ?_)
          case c1 => exact cell_one_new w3 _ _
          case c2 => intro u hu; simp at hu; subst hu; rfl
          case c3 => unfold maxLen; omega
          case c4 => omega
          case c5 => simp; omega
          intro v4 w4 ho4 hg4 _ hat4
          rw [← HM2.out] at ho4
          have P1 := Lib.hid ((O3.out.alloc (.cells #[.int .i64 r] 3)).kept hg4 (.inr N3.out))
          have HB4 := Lib.hid (own_below_lo (O2.out.alloc (.cells #[.int .i64 r] 3)) (HB3.out.alloc (by omega) _) (Nat.le_refl _) (by simp; omega) hg4)
          have N4 := Lib.hid (apart_new (g := w3.heap.size + 1) (O3.out.alloc (.cells #[.int .i64 r] 3)) (by simp) (fun e => N3.out e.symm) hat4)
          have P2 := Lib.hid ho4
          clear ho4 hg4 hat4 O2 O3 N3 HB3
          go_wp2
          go_roundw
          case rel => exact ⟨m + 1, by omega, by go_num, by rw [HV.out], P1.out, P2.out, fun e => N4.out e.symm, HB4.out⟩
          case measure => simp [intOf]; omega
        · obtain rfl : n = m := by omega
          have hL := HP.out.left
          rw [show T - sumI (alF T W n) n = alL T W n from rfl]
          obtain ⟨L, hLe⟩ := Int.eq_ofNat_of_zero_le hL.1
          have HF := Lib.hid (show alcG T W n = upJ (alG T W n) (alF T W n) L by unfold alcG; rw [hLe, Int.toNat_natCast])
          rw [hLe] at hL ⊢
          clear hLe
          obtain ⟨A2, c2, rfl, _, _, hh2⟩ := own_row ho2
          obtain ⟨g2, rfl, k2, l2', _, _⟩ := hh2 (by omega)
          obtain ⟨A1, c1, rfl, _, _, hh1⟩ := own_row ho1
          obtain ⟨g1, rfl, k1, l1', _, _⟩ := hh1 (by omega)
          have hg12 : g1 ≠ g2 := fun e => hne (by rw [e]; rfl)
          have HO1 := Lib.hid ho1
          have HO2 := Lib.hid ho2
          have HB2 := Lib.hid hbw
          clear hh1 hh2 ho1 ho2 hne hbw
          go_wp2_with fail
          go_loopw [8] (fun l wx => ∃ j k : Nat, j + k = L ∧ l = .int .i64 k ∧ wx.ownsRow w.heap.size 3 1 (.slice (some ⟨g1, 0, none⟩) n c1) n (ints (upJ (alG T W n) (alF T W n) j) n) ∧ wx.ownsRow w.heap.size 3 1 (.slice (some ⟨g2, 0, none⟩) n c2) n (ints (downJ (-1) (alG T W n) (alR T W n) j) n) ∧ Below w.heap.size w wx) (fun l _ => (intOf l).toNat)
          case atStart => exact ⟨0, L, by omega, rfl, HO1.out, HO2.out, HB2.out⟩
          case round =>
            obtain ⟨j, k, hjk, rfl, ho1, ho2, hbw⟩ := hrel
            by_cases hk0 : k = 0
            · subst hk0
              obtain rfl : j = L := by omega
              go_wp2
              go_ret
              exact ⟨_, rfl, by rw [HF.out]; exact ho1, hbw⟩
            · obtain ⟨k, rfl⟩ : ∃ k', k = k' + 1 := ⟨k - 1, by omega⟩
              have hz : decide (0 < k + 1) = true := by simp
              have HT := Lib.hid (HP.out.top (j := j) (by omega))
              have hU := Lib.hid (fun i (hi : i < n) => upJ_one HP.out (show j ≤ n by omega) hi)
              have HS1 := Lib.hid (fun i => show upJ (alG T W n) (alF T W n) (j + 1) i = if i = (alG T W n j).toNat then upJ (alG T W n) (alF T W n) j i + 1 else upJ (alG T W n) (alF T W n) j i from rfl)
              have HS2 := Lib.hid (fun i => show downJ (-1) (alG T W n) (alR T W n) (j + 1) i = if i = (alG T W n j).toNat then -1 else downJ (-1) (alG T W n) (alR T W n) j i from rfl)
              have hgn := Lib.hid (show (alG T W n j).toNat < n by have := alG_in (T := T) (W := W) (show j < n by omega); omega)
              have P1 := Lib.hid ho1
              have P2 := Lib.hid ho2
              have PB := Lib.hid hbw
              generalize hu' : upJ (alG T W n) (alF T W n) (j + 1) = U' at *
              generalize hd' : downJ (-1) (alG T W n) (alR T W n) (j + 1) = D' at *
              generalize hu : upJ (alG T W n) (alF T W n) j = U at *
              generalize hd : downJ (-1) (alG T W n) (alR T W n) j = D at *
              generalize (alG T W n j).toNat = gj at *
              clear ho1 ho2 hbw hu hd HO1 HO2 HB2
              obtain ⟨wo, rfl⟩ : ∃ wo : World, wo = wr := ⟨_, rfl⟩
              go_wp2_with fail
              go_loopw [12, 13] (fun b i wx => ∃ c m : Nat, 1 ≤ m ∧ m ≤ n ∧ c < m ∧ b = .int .i64 c ∧ i = .int .i64 m ∧ Hid (Top D m c) ∧ wx.ownsRow w.heap.size 3 1 (.slice (some ⟨g1, 0, none⟩) n c1) n (ints U n) ∧ wx.ownsRow w.heap.size 3 1 (.slice (some ⟨g2, 0, none⟩) n c2) n (ints D n) ∧ Below w.heap.size w wx) (fun _ i _ => n - (intOf i).toNat)
              case atStart => exact ⟨0, 1, Nat.le_refl _, by omega, by omega, rfl, rfl, ⟨fun t ht => by obtain rfl : t = 0 := (by omega); exact Int.le_refl _, fun t ht => by omega⟩, P1.out, P2.out, PB.out⟩
              case round =>
                obtain ⟨c, m, h1m, hm, hcm, rfl, rfl, htop, ho1, ho2, hbw⟩ := hrel
                obtain ⟨_, _, e, _, _, hat⟩ := own_row ho2
                cases e
                obtain ⟨_, e, _, lg, hcell, hfz⟩ := hat (by omega)
                cases e
                by_cases hlm : m < n
                · have cc := hcell c (by omega)
                  have cm := hcell m hlm
                  have hci : (c : Int) < (n : Int) := by omega
                  have hc0 : (0 : Int) ≤ (c : Int) := by omega
                  have hmi : (m : Int) < (n : Int) := by omega
                  have hm0 : (0 : Int) ≤ (m : Int) := by omega
                  have HX := Lib.hid (htop.out.next hcm)
                  have Q1 := Lib.hid ho1
                  have Q2 := Lib.hid ho2
                  have QB := Lib.hid hbw
                  clear hat hcell hfz ho1 ho2 hbw htop
                  rcases Bool.eq_false_or_eq_true (decide (D c < D m)) with q | q
                  · have HX2 := Lib.hid (show Top D (m + 1) m by have := HX.out; rwa [if_pos (of_decide_eq_true q)] at this)
                    clear HX
                    go_wp2_with fail
                    go_big_quiet (fail)
                    go_wp2
                    go_roundw
                    case rel => exact ⟨m, m + 1, by omega, by omega, by omega, rfl, by go_num, HX2.out, own_below Q1.out (below_drewN (Below.refl _ _) _), own_below Q2.out (below_drewN (Below.refl _ _) _), below_drewN QB.out _⟩
                    case measure => simp [intOf]; omega
                  · have HX2 := Lib.hid (show Top D (m + 1) c by have := HX.out; rwa [if_neg (of_decide_eq_false q)] at this)
                    clear HX
                    go_wp2_with fail
                    go_big_quiet (fail)
                    go_wp2
                    go_roundw
                    case rel => exact ⟨c, m + 1, by omega, by omega, by omega, rfl, by go_num, HX2.out, own_below Q1.out (below_drewN (Below.refl _ _) _), own_below Q2.out (below_drewN (Below.refl _ _) _), below_drewN QB.out _⟩
                    case measure => simp [intOf]; omega
                · obtain rfl : n = m := by omega
                  obtain rfl : gj = c := Top.uniq hgn.out hcm HT.out htop.out
                  obtain ⟨_, _, e, _, _, hat1⟩ := own_row ho1
                  cases e
                  obtain ⟨_, e, _, lg1, hcell1, hfz1⟩ := hat1 (by omega)
                  cases e
                  have cu := hcell1 gj hcm
                  have fu := hfz1 gj
                  have fd := hfz gj
                  have cd := hcell gj hcm
                  obtain ⟨uu0, uu1⟩ := hU.out gj hcm
                  have hci : (gj : Int) < (n : Int) := by omega
                  have hc0 : (0 : Int) ≤ (gj : Int) := by omega
                  have hg21 : g2 ≠ g1 := fun e => hg12 e.symm
                  have Q1 := Lib.hid (own_setFar (own_congr (G := U') (own_set ho1 hcm (U gj + 1)) (fun i _ => by rw [HS1.out i]; split <;> simp [*])) (g := g2) (by simp [Value.ownBlock, hg12]) gj (.int .i64 (-1)))
                  have Q2 := Lib.hid (own_congr (G := D') (own_set (own_setFar ho2 (g := g1) (by simp [Value.ownBlock, hg21]) gj (.int .i64 (U gj + 1))) hcm (-1)) (fun i _ => by rw [HS2.out i]))
                  have QB := Lib.hid ((hbw.setCell (p := ⟨g1, gj, none⟩) k1 (.int .i64 (U gj + 1))).setCell (p := ⟨g2, gj, none⟩) k2 (.int .i64 (-1)))
                  clear hat hcell hfz hat1 hcell1 hfz1 ho1 ho2 hbw htop
                  go_wp2
                  go_roundw
                  case rel => exact ⟨j + 1, k, by omega, by go_num, by rw [hu']; exact Q1.out, by rw [hd']; exact Q2.out, QB.out⟩
                  case measure => simp [intOf]
end Go.Proofs.Ytoebibgkpmppdaa
