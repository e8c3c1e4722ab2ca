/- Contract of the library's insertion sort under Allocate's order: by falling rests. -/
import Derived.Test.YtoebibgkpmppdaaCmp
import Derived.Test.YtoebibgkpmppdaaAllocP
import Derived.Test.YtoebibgkpmppdaaOwnSet
import Derived.Test.YtoebibgkpmppdaaIntS
import Derived.BigRegion
import Derived.RegionTactic
import Derived.Deep.AppendLies
namespace Go.Proofs.Ytoebibgkpmppdaa
open Go.RowKit

/-- What Allocate's closure reads: the amount, the weights and their sum. -/
structure Sums (w : World) (b1 b2 b3 : Nat) (A : Option Addr) (n cap : Nat) (T : Int) (W : Nat → Int) : Prop where
  c1 : w.cell? ⟨b1, 0, none⟩ = some (.int .i64 T)
  c2 : w.cell? ⟨b2, 0, none⟩ = some (.slice A n cap)
  c3 : w.cell? ⟨b3, 0, none⟩ = some (.int .i64 (sumI W n))
  r : Row w .i64 A n W
theorem Sums.drewN {w : World} {b1 b2 b3 : Nat} {A : Option Addr} {n cap : Nat} {T : Int} {W : Nat → Int} (h : Sums w b1 b2 b3 A n cap T W) (q : Nat) : Sums (w.drewN q) b1 b2 b3 A n cap T W := ⟨h.c1, h.c2, h.c3, h.r.drewN q⟩
theorem Sums.moved {w w' : World} {g b1 b2 b3 : Nat} {A : Option Addr} {n cap : Nat} {T : Int} {W : Nat → Int} (h : Sums w b1 b2 b3 A n cap T W) (hg : w.grownBy w' (some g)) (h1 : b1 ≠ g) (h2 : b2 ≠ g) (h3 : b3 ≠ g) (hA : ∀ b off, A = some ⟨b, off, none⟩ → b ≠ g) : Sums w' b1 b2 b3 A n cap T W :=
  ⟨(hg.cell_far ⟨b1, 0, none⟩ (lt_of_cell h.c1) (by simpa using h1)).trans h.c1, (hg.cell_far ⟨b2, 0, none⟩ (lt_of_cell h.c2) (by simpa using h2)).trans h.c2, (hg.cell_far ⟨b3, 0, none⟩ (lt_of_cell h.c3) (by simpa using h3)).trans h.c3, h.r.moved hg (fun b off e e' => hA b off e (by simpa using e'))⟩
theorem Sums.kept {w w' : World} {b1 b2 b3 : Nat} {A : Option Addr} {n cap : Nat} {T : Int} {W : Nat → Int} (h : Sums w b1 b2 b3 A n cap T W) (hb : Below w.heap.size w w') : Sums w' b1 b2 b3 A n cap T W :=
  ⟨(hb.cell (p := ⟨b1, 0, none⟩) (lt_of_cell h.c1)).trans h.c1, (hb.cell (p := ⟨b2, 0, none⟩) (lt_of_cell h.c2)).trans h.c2, (hb.cell (p := ⟨b3, 0, none⟩) (lt_of_cell h.c3)).trans h.c3, h.r.kept hb⟩
theorem cmpI_neg (a b : Int) : cmpI a b = cmpI (-b) (-a) := by
  unfold cmpI
  (repeat' split) <;> omega
theorem byRest_any (A : Option Addr) (n cap : Nat) (T : Int) (W : Nat → Int) (b1 b2 b3 : Nat) (x y : Int) (w : World) (hp : Parts T W n) (hs : Sums w b1 b2 b3 A n cap T W) (hx : 0 ≤ x ∧ x < n) (hy : 0 ≤ y ∧ y < n) :
    Calls Try.prog 52 #[.int .i64 x, .int .i64 y, .pointer (some ⟨b1, 0, none⟩), .pointer (some ⟨b2, 0, none⟩), .pointer (some ⟨b3, 0, none⟩)] w fun e w' => e = .returned (.int .i64 (cmpI (alK T W n x) (alK T W n y))) ∧ ∃ q, w' = w.drewN q := by
  obtain ⟨x0, x1⟩ := hx
  obtain ⟨y0, y1⟩ := hy
  obtain ⟨i, rfl⟩ := Int.eq_ofNat_of_zero_le x0
  obtain ⟨j, rfl⟩ := Int.eq_ofNat_of_zero_le y0
  obtain ⟨h1, h2, h3, hr⟩ := hs
  obtain ⟨b, off, rfl, hb, ci⟩ := hr.hid (show i < n by omega)
  obtain ⟨b', off', e, _, cj⟩ := hr.hid (show j < n by omega)
  cases e
  obtain ⟨i0, i1⟩ := hp.p (show i < n by omega)
  obtain ⟨j0, j1⟩ := hp.p (show j < n by omega)
  have s0 := hp.s
  have s1 := hp.s1
  have mi : (T * W i).tmod (sumI W n) = alR T W n i := Int.tmod_eq_emod_of_nonneg i0
  have mj : (T * W j).tmod (sumI W n) = alR T W n j := Int.tmod_eq_emod_of_nonneg j0
  have hE : cmpI (alK T W n i) (alK T W n j) = cmpI (alR T W n j) (alR T W n i) := by rw [cmpI_neg (alR T W n j)]; rfl
  have wi : IntKind.i64.wrap (T * W i) = T * W i := by rw [IntKind.wrap_i64]; omega
  have wj : IntKind.i64.wrap (T * W j) = T * W j := by rw [IntKind.wrap_i64]; omega
  have HE := Lib.hid hE
  have n0 : ¬ sumI W n = 0 := by omega
  obtain ⟨ri0, ri1⟩ := hp.r i
  obtain ⟨rj0, rj1⟩ := hp.r j
  have vi : IntKind.i64.wrap (alR T W n i) = alR T W n i := by rw [IntKind.wrap_i64]; omega
  have vj : IntKind.i64.wrap (alR T W n j) = alR T W n j := by rw [IntKind.wrap_i64]; omega
  clear hr hE
  generalize hS : sumI W n = S at *
  generalize hP : T * W i = p at *
  generalize hQ : T * W j = q at *
  generalize alR T W n i = ri at *
  generalize alR T W n j = rj at *
  go_enter Try.func52, Try.ntmps52
  go_wp2_with fail
  go_big_quiet ((go_at_call 53; exact quiet_eq (compare_any rj ri _)))
  go_wp2
  go_ret
  exact ⟨ret_int HE.out.symm, _, rfl⟩
set_option maxRecDepth 100000 in
set_option maxHeartbeats 8000000 in
theorem insertionA_any (A : Option Addr) (n cap : Nat) (T : Int) (W : Nat → Int) (b1 b2 b3 g base m c : Nat) (D : Nat → Int) (w : World) (hp0 : Parts T W n) (hr : Sums w b1 b2 b3 A n cap T W) (hm : 0 < m) (hm2 : m ≤ 1048576)
    (ho : w.ownsRow base 3 1 (.slice (some ⟨g, 0, none⟩) m c) m (ints D m)) (hD : ∀ t, t < m → 0 ≤ D t ∧ D t < n) (hb1 : b1 ≠ g) (hb2 : b2 ≠ g) (hb3 : b3 ≠ g) (hA : ∀ b off, A = some ⟨b, off, none⟩ → b ≠ g) :
    Calls Try.prog 61 #[.slice (some ⟨g, 0, none⟩) m c, .int .i64 0, .int .i64 m, .func (.func 52) #[] #[.pointer (some ⟨b1, 0, none⟩), .pointer (some ⟨b2, 0, none⟩), .pointer (some ⟨b3, 0, none⟩)]] w fun e w' => e = .returned (.tuple #[]) ∧ w'.ownsRow base 3 1 (.slice (some ⟨g, 0, none⟩) m c) m (ints (sortF (alK T W n) D m) m) ∧ w.grownBy w' (some g) := by
  have HR := Lib.hid hr
  have HP0 := Lib.hid hp0
  have HO := Lib.hid (own_congr (G := sortF (alK T W n) D 1) ho (fun i _ => (sortF_one _ _ _).symm))
  have HD := Lib.hid (fun k (hk : k ≤ m) => sortF_mem (K := alK T W n) (p := fun x => 0 ≤ x ∧ x < n) hD k hk)
  have HA := Lib.hid hA
  clear hr hp0 ho hA hD
  go_enter Try.func61, Try.ntmps61
  go_wp2_with fail
  go_loopw [8] (fun s wr => ∃ i : Nat, 1 ≤ i ∧ i ≤ m ∧ s = .int .i64 i ∧ wr.ownsRow base 3 1 (.slice (some ⟨g, 0, none⟩) m c) m (ints (sortF (alK T W n) D i) m) ∧ w.grownBy wr (some g)) (fun s _ => m - (intOf s).toNat)
  case atStart => exact ⟨1, Nat.le_refl _, by omega, rfl, HO.out, grown_refl _ _⟩
  case round =>
    obtain ⟨i, hi1, him, rfl, ho, hg⟩ := hrel
    by_cases hlt : i < m
    · have hii : (i : Int) < (m : Int) := by omega
      have HO1 := Lib.hid (own_congr (G := putF (sortF (alK T W n) D i) (sortF (alK T W n) D i i) i i) ho (fun t _ => (putF_self _ _ _).symm))
      have HS := Lib.hid (fun t (ht : t < m) => HD.out i (by omega) t ht)
      have HG := Lib.hid hg
      clear ho hg
      obtain ⟨wo, rfl⟩ : ∃ wo : World, wo = wr := ⟨_, rfl⟩
      have HE := Lib.hid (show sortF (alK T W n) D (i + 1) = putF (sortF (alK T W n) D i) (sortF (alK T W n) D i i) i (posF (alK T W n) (sortF (alK T W n) D i) (sortF (alK T W n) D i i) i) from rfl)
      generalize sortF (alK T W n) D i = P at HO1 HS HE
      obtain ⟨x, hx⟩ : ∃ x, x = P i := ⟨_, rfl⟩
      have hx' := HS.out i hlt
      rw [← hx] at HO1 HE hx'
      clear hx
      go_wp2_with fail
      go_loopw [9] (fun s ws => ∃ j : Nat, j ≤ i ∧ s = .int .i64 j ∧ ws.ownsRow base 3 1 (.slice (some ⟨g, 0, none⟩) m c) m (ints (putF P x i j) m) ∧ w.grownBy ws (some g) ∧ Hid (posF (alK T W n) P x i = posF (alK T W n) P x j)) (fun s _ => (intOf s).toNat)
      case atStart => exact ⟨i, Nat.le_refl _, rfl, HO1.out, HG.out, rfl⟩
      case round =>
        obtain ⟨j, hj, rfl, ho, hg, hp⟩ := hrel
        by_cases hj0 : j = 0
        · have hz2 : decide (0 < j) = false := by simp; omega
          have HJ := Lib.hid hj0
          clear hj0
          go_wp2_with fail
          go_big_quiet (fail)
          go_wp2
          go_roundw
          case rel => exact ⟨i + 1, by omega, by omega, by go_num, own_below (by rw [HE.out, hp.out, HJ.out]; rw [HJ.out] at ho; exact ho) (below_drewN (Below.refl _ _) _), grown_drewN hg _⟩
          case measure => simp [intOf]; omega
        · obtain ⟨k, rfl⟩ : ∃ k, j = k + 1 := ⟨j - 1, by omega⟩
          obtain ⟨_, _, e, _, _, hat⟩ := own_row ho
          cases e
          obtain ⟨_, e, _, lg, hcell, hfz⟩ := hat hm
          cases e
          have cj : wr.cell? ⟨g, k + 1, none⟩ = some (.int .i64 x) := by have := hcell (k + 1) (by omega); rwa [show putF P x i (k + 1) (k + 1) = x by unfold putF; rw [if_neg (by omega), if_pos rfl]] at this
          have ck : wr.cell? ⟨g, k, none⟩ = some (.int .i64 (P k)) := by have := hcell k (by omega); rwa [show putF P x i (k + 1) k = P k by unfold putF; rw [if_pos (by omega)]] at this
          have fj := hfz (k + 1)
          have fk := hfz k
          have hPk := HS.out k (by omega)
          have HC := Lib.hid (fun q => byRest_any A n cap T W b1 b2 b3 x (P k) (wr.drewN q) HP0.out (HR.out.moved (grown_drewN hg q) hb1 hb2 hb3 HA.out) hx' hPk)
          clear hat hcell hfz
          have hw1 : IntKind.i64.wrap (((k + 1 : Nat) : Int) - 1) = (k : Int) := by rw [IntKind.wrap_i64]; omega
          have hki : (k : Int) < (m : Int) := by omega
          have hkj : ((k + 1 : Nat) : Int) < (m : Int) := by omega
          have hk0 : (0 : Int) ≤ (k : Int) := by omega
          have hz2 : decide (0 < k + 1) = true := by simp
          rcases Bool.eq_false_or_eq_true (decide (alK T W n x < alK T W n (P k))) with q1 | q1
          · have q2 : decide (cmpI (alK T W n x) (alK T W n (P k)) < 0) = true := by rw [cmpI_lt]; exact q1
            have HP := Lib.hid (show posF (alK T W n) P x i = posF (alK T W n) P x k by rw [hp.out]; simp only [posF]; rw [if_pos (of_decide_eq_true q1)])
            have HO2 := Lib.hid ho
            clear q1 hx' hPk ho
            go_wp2_with fail
            go_big_quiet ((go_at_call 52; exact Calls.quiet_of (HC.out _)))
            go_wp2_with fail
            go_big_region
            go_wp2
            go_roundw
            case rel => exact ⟨k, by omega, by go_num, own_congr (own_set (own_set (own_below HO2.out (below_drewN (Below.refl _ _) (nq + 1))) (show k + 1 < m by omega) (P k)) (show k < m by omega) x) (fun t _ => putF_swap P x (show k + 1 ≤ i by omega) t), grown_set (grown_set (grown_drewN hg _) _ _) _ _, HP.out⟩
            case measure => simp [intOf]
          · have q2 : decide (cmpI (alK T W n x) (alK T W n (P k)) < 0) = false := by rw [cmpI_lt]; exact q1
            have HP := Lib.hid (show posF (alK T W n) P x i = k + 1 by rw [hp.out]; simp only [posF]; rw [if_neg (of_decide_eq_false q1)])
            have HO2 := Lib.hid ho
            clear q1 hx' hPk ho
            go_wp2_with fail
            go_big_quiet ((go_at_call 52; exact Calls.quiet_of (HC.out _)))
            go_wp2
            go_roundw
            case rel => exact ⟨i + 1, by omega, by omega, by go_num, own_below (by rw [HE.out, HP.out]; exact HO2.out) (below_drewN (Below.refl _ _) _), grown_drewN hg _⟩
            case measure => simp [intOf]; omega
    · have hie : i = m := by omega
      subst hie
      go_wp2
      exact bodyPost_end (v := .tuple #[]) (by simp [results, Try.results61, go_sem]) rfl ⟨rfl, ho, hg⟩
theorem insertionA_none (v : Value) (b1 b2 b3 : Nat) (w : World) :
    Calls Try.prog 61 #[v, .int .i64 0, .int .i64 0, .func (.func 52) #[] #[.pointer (some ⟨b1, 0, none⟩), .pointer (some ⟨b2, 0, none⟩), .pointer (some ⟨b3, 0, none⟩)]] w fun e w' => e = .returned (.tuple #[]) ∧ w = w' := by
  go_enter Try.func61, Try.ntmps61
  go_wp2_with fail
  refine wp_loop_rounds 1 ?_
  rw [rounds_succ]
  go_wp2
  exact bodyPost_end (v := .tuple #[]) (by simp [results, Try.results61, go_sem]) rfl ⟨rfl, rfl⟩
/-- At most ten numbers: the stable sort is the insertion sort alone. -/
theorem stableA_any (b1 b2 b3 m c : Nat) (A1 : Option Addr) (w : World) (hm : m ≤ 10) (Q : World → Prop)
    (h : Calls Try.prog 61 #[.slice A1 m c, .int .i64 0, .int .i64 m, .func (.func 52) #[] #[.pointer (some ⟨b1, 0, none⟩), .pointer (some ⟨b2, 0, none⟩), .pointer (some ⟨b3, 0, none⟩)]] w fun e w' => e = .returned (.tuple #[]) ∧ Q w') :
    Calls Try.prog 58 #[.slice A1 m c, .int .i64 m, .func (.func 52) #[] #[.pointer (some ⟨b1, 0, none⟩), .pointer (some ⟨b2, 0, none⟩), .pointer (some ⟨b3, 0, none⟩)]] w fun e w' => e = .returned (.tuple #[]) ∧ Q w' := by
  have H := Lib.hid h
  clear h
  have d1 : ¬ (20 : Int) ≤ (m : Int) := by omega
  have d2 : ¬ (20 : Int) < (m : Int) := by omega
  go_enter Try.func58, Try.ntmps58
  go_wp2_with fail
  refine wp_loop_rounds 1 ?_
  rw [rounds_succ]
  go_wp2_with fail
  with_reducible refine (H.out).mono ?_
  rintro e w1 ⟨rfl, hq⟩
  have HQ := Lib.hid hq
  clear hq
  go_wp2_with fail
  refine wp_loop_rounds 1 ?_
  rw [rounds_succ]
  go_wp2
  exact bodyPost_end (v := .tuple #[]) (by simp [results, Try.results58, go_sem]) rfl ⟨rfl, HQ.out⟩
theorem sortStableA_any (b1 b2 b3 m c : Nat) (A1 : Option Addr) (w : World) (hm : m ≤ 10) (Q : World → Prop)
    (h : Calls Try.prog 61 #[.slice A1 m c, .int .i64 0, .int .i64 m, .func (.func 52) #[] #[.pointer (some ⟨b1, 0, none⟩), .pointer (some ⟨b2, 0, none⟩), .pointer (some ⟨b3, 0, none⟩)]] w fun e w' => e = .returned (.tuple #[]) ∧ Q w') :
    Calls Try.prog 51 #[.slice A1 m c, .func (.func 52) #[] #[.pointer (some ⟨b1, 0, none⟩), .pointer (some ⟨b2, 0, none⟩), .pointer (some ⟨b3, 0, none⟩)]] w fun e w' => e = .returned (.tuple #[]) ∧ Q w' := by
  have H := Lib.hid (stableA_any b1 b2 b3 m c A1 w hm Q h)
  clear h
  go_enter Try.func51, Try.ntmps51
  go_wp2_with fail
  with_reducible refine (H.out).mono ?_
  rintro e w1 ⟨rfl, hq⟩
  have HQ := Lib.hid hq
  clear hq
  go_wp2
  exact bodyPost_end (v := .tuple #[]) (by simp [results, Try.results51, go_sem]) rfl ⟨rfl, HQ.out⟩
end Go.Proofs.Ytoebibgkpmppdaa
