/- Contract of the library's insertion sort over order numbers, by their months of effect. -/
import Derived.Test.YtebgkmmmjmipnaaCmp
import Derived.Test.YtebgkmmmjmipnaaOwnSet
import Derived.BigRegion
import Derived.RegionTactic
import Derived.Deep.AppendLies
namespace Go.Proofs.Ytebgkmmmjmipnaa
open Go.RowKit

set_option maxRecDepth 100000 in
set_option maxHeartbeats 8000000 in
theorem insertion_any (A : Option Addr) (n cap : Nat) (F : Nat → Nat → Int) (b1 g base m c : Nat) (D : Nat → Int) (w : World) (hr : Recs w 3 A n F) (h1 : w.cell? ⟨b1, 0, none⟩ = some (.slice A n cap)) (hm : 0 < m) (hm2 : m ≤ 1048576)
    (ho : w.ownsRow base 3 1 (.slice (some ⟨g, 0, none⟩) m c) m (ints D m)) (hD : ∀ t, t < m → 0 ≤ D t ∧ D t < n) (hb1 : b1 ≠ g) (hA : ∀ b off, A = some ⟨b, off, none⟩ → b ≠ g) :
    Calls Try.prog 57 #[.slice (some ⟨g, 0, none⟩) m c, .int .i64 0, .int .i64 m, .func (.func 40) #[] #[.pointer (some ⟨b1, 0, none⟩)]] w fun e w' => e = .returned (.tuple #[]) ∧ w'.ownsRow base 3 1 (.slice (some ⟨g, 0, none⟩) m c) m (ints (sortF (effK F) D m) m) ∧ w.grownBy w' (some g) := by
  have HR := Lib.hid hr
  have H1 := Lib.hid h1
  have HO := Lib.hid (own_congr (G := sortF (effK F) D 1) ho (fun i _ => (sortF_one _ _ _).symm))
  have HD := Lib.hid (fun k (hk : k ≤ m) => sortF_mem (K := effK F) (p := fun x => 0 ≤ x ∧ x < n) hD k hk)
  have HA := Lib.hid hA
  have l1 := lt_of_cell h1
  clear hr h1 ho hA hD
  go_enter Try.func57, Try.ntmps57
  go_wp2_with fail
  go_loopw [8] (fun s wr => ∃ i : Nat, 1 ≤ i ∧ i ≤ m ∧ s = .int .i64 i ∧ wr.ownsRow base 3 1 (.slice (some ⟨g, 0, none⟩) m c) m (ints (sortF (effK F) D i) m) ∧ w.grownBy wr (some g)) (fun s _ => m - (intOf s).toNat)
  case atStart => exact ⟨1, Nat.le_refl _, by omega, rfl, HO.out, grown_refl _ _⟩
  case round =>
    obtain ⟨i, hi1, him, rfl, ho, hg⟩ := hrel
    by_cases hlt : i < m
    · have hii : (i : Int) < (m : Int) := by omega
      have HO1 := Lib.hid (own_congr (G := putF (sortF (effK F) D i) (sortF (effK F) D i i) i i) ho (fun t _ => (putF_self _ _ _).symm))
      have HS := Lib.hid (fun t (ht : t < m) => HD.out i (by omega) t ht)
      have HG := Lib.hid hg
      clear ho hg
      obtain ⟨wo, rfl⟩ : ∃ wo : World, wo = wr := ⟨_, rfl⟩
      have HE := Lib.hid (show sortF (effK F) D (i + 1) = putF (sortF (effK F) D i) (sortF (effK F) D i i) i (posF (effK F) (sortF (effK F) D i) (sortF (effK F) D i i) i) from rfl)
      generalize sortF (effK F) D i = P at HO1 HS HE
      obtain ⟨x, hx⟩ : ∃ x, x = P i := ⟨_, rfl⟩
      have hx' := HS.out i hlt
      rw [← hx] at HO1 HE hx'
      clear hx
      go_wp2_with fail
      go_loopw [9] (fun s ws => ∃ j : Nat, j ≤ i ∧ s = .int .i64 j ∧ ws.ownsRow base 3 1 (.slice (some ⟨g, 0, none⟩) m c) m (ints (putF P x i j) m) ∧ w.grownBy ws (some g) ∧ Hid (posF (effK F) P x i = posF (effK F) P x j)) (fun s _ => (intOf s).toNat)
      case atStart => exact ⟨i, Nat.le_refl _, rfl, HO1.out, HG.out, rfl⟩
      case round =>
        obtain ⟨j, hj, rfl, ho, hg, hp⟩ := hrel
        by_cases hj0 : j = 0
        · have hz2 : decide (0 < j) = false := by simp; omega
          have HJ := Lib.hid hj0
          clear hj0
          go_wp2_with fail
          go_big_quiet (fail)
          go_wp2
          go_roundw
          case rel => exact ⟨i + 1, by omega, by omega, by go_num, own_below (by rw [HE.out, hp.out, HJ.out]; rw [HJ.out] at ho; exact ho) (below_drewN (Below.refl _ _) _), grown_drewN hg _⟩
          case measure => simp [intOf]; omega
        · obtain ⟨k, rfl⟩ : ∃ k, j = k + 1 := ⟨j - 1, by omega⟩
          obtain ⟨_, _, e, _, _, hat⟩ := own_row ho
          cases e
          obtain ⟨_, e, _, lg, hcell, hfz⟩ := hat hm
          cases e
          have cj : wr.cell? ⟨g, k + 1, none⟩ = some (.int .i64 x) := by have := hcell (k + 1) (by omega); rwa [show putF P x i (k + 1) (k + 1) = x by unfold putF; rw [if_neg (by omega), if_pos rfl]] at this
          have ck : wr.cell? ⟨g, k, none⟩ = some (.int .i64 (P k)) := by have := hcell k (by omega); rwa [show putF P x i (k + 1) k = P k by unfold putF; rw [if_pos (by omega)]] at this
          have fj := hfz (k + 1)
          have fk := hfz k
          have hPk := HS.out k (by omega)
          have HC := Lib.hid (fun q => byEff_any A n cap F b1 x (P k) (wr.drewN q) (HR.out.moved (grown_drewN hg q) (fun b off e e' => HA.out b off e (by simpa using e'))) (by have := (hg.cell_far ⟨b1, 0, none⟩ l1 (by simpa using hb1)).trans H1.out; exact this) hx' hPk)
          clear hat hcell hfz
          have hw1 : IntKind.i64.wrap (((k + 1 : Nat) : Int) - 1) = (k : Int) := by rw [IntKind.wrap_i64]; omega
          have hki : (k : Int) < (m : Int) := by omega
          have hkj : ((k + 1 : Nat) : Int) < (m : Int) := by omega
          have hk0 : (0 : Int) ≤ (k : Int) := by omega
          have hz2 : decide (0 < k + 1) = true := by simp
          rcases Bool.eq_false_or_eq_true (decide (effK F x < effK F (P k))) with q1 | q1
          · have q2 : decide (cmpI (effK F x) (effK F (P k)) < 0) = true := by rw [cmpI_lt]; exact q1
            have HP := Lib.hid (show posF (effK F) P x i = posF (effK F) P x k by rw [hp.out]; simp only [posF]; rw [if_pos (of_decide_eq_true q1)])
            have HO2 := Lib.hid ho
            clear q1 hx' hPk ho
            go_wp2_with fail
            go_big_quiet ((go_at_call 40; exact Calls.quiet_of (HC.out _)))
            go_wp2_with fail
            go_big_region
            go_wp2
            go_roundw
            case rel => exact ⟨k, by omega, by go_num, own_congr (own_set (own_set (own_below HO2.out (below_drewN (Below.refl _ _) (nq + 1))) (show k + 1 < m by omega) (P k)) (show k < m by omega) x) (fun t _ => putF_swap P x (show k + 1 ≤ i by omega) t), grown_set (grown_set (grown_drewN hg _) _ _) _ _, HP.out⟩
            case measure => simp [intOf]
          · have q2 : decide (cmpI (effK F x) (effK F (P k)) < 0) = false := by rw [cmpI_lt]; exact q1
            have HP := Lib.hid (show posF (effK F) P x i = k + 1 by rw [hp.out]; simp only [posF]; rw [if_neg (of_decide_eq_false q1)])
            have HO2 := Lib.hid ho
            clear q1 hx' hPk ho
            go_wp2_with fail
            go_big_quiet ((go_at_call 40; exact Calls.quiet_of (HC.out _)))
            go_wp2
            go_roundw
            case rel => exact ⟨i + 1, by omega, by omega, by go_num, own_below (by rw [HE.out, HP.out]; exact HO2.out) (below_drewN (Below.refl _ _) _), grown_drewN hg _⟩
            case measure => simp [intOf]; omega
    · have hie : i = m := by omega
      subst hie
      go_wp2
      exact bodyPost_end (v := .tuple #[]) (by simp [results, Try.results57, go_sem]) rfl ⟨rfl, ho, hg⟩
theorem insertion_none (v : Value) (b1 : Nat) (w : World) :
    Calls Try.prog 57 #[v, .int .i64 0, .int .i64 0, .func (.func 40) #[] #[.pointer (some ⟨b1, 0, none⟩)]] w fun e w' => e = .returned (.tuple #[]) ∧ w = w' := by
  go_enter Try.func57, Try.ntmps57
  go_wp2_with fail
  refine wp_loop_rounds 1 ?_
  rw [rounds_succ]
  go_wp2
  exact bodyPost_end (v := .tuple #[]) (by simp [results, Try.results57, go_sem]) rfl ⟨rfl, rfl⟩
/-- At most ten numbers: the stable sort is the insertion sort alone. -/
theorem stable_any (b1 m c : Nat) (A1 : Option Addr) (w : World) (hm : m ≤ 10) (Q : World → Prop)
    (h : Calls Try.prog 57 #[.slice A1 m c, .int .i64 0, .int .i64 m, .func (.func 40) #[] #[.pointer (some ⟨b1, 0, none⟩)]] w fun e w' => e = .returned (.tuple #[]) ∧ Q w') :
    Calls Try.prog 49 #[.slice A1 m c, .int .i64 m, .func (.func 40) #[] #[.pointer (some ⟨b1, 0, none⟩)]] w fun e w' => e = .returned (.tuple #[]) ∧ Q w' := by
  have H := Lib.hid h
  clear h
  have d1 : ¬ (20 : Int) ≤ (m : Int) := by omega
  have d2 : ¬ (20 : Int) < (m : Int) := by omega
  go_enter Try.func49, Try.ntmps49
  go_wp2_with fail
  refine wp_loop_rounds 1 ?_
  rw [rounds_succ]
  go_wp2_with fail
  with_reducible refine (H.out).mono ?_
  rintro e w1 ⟨rfl, hq⟩
  have HQ := Lib.hid hq
  clear hq
  go_wp2_with fail
  refine wp_loop_rounds 1 ?_
  rw [rounds_succ]
  go_wp2
  exact bodyPost_end (v := .tuple #[]) (by simp [results, Try.results49, go_sem]) rfl ⟨rfl, HQ.out⟩
theorem sortStable_any (b1 m c : Nat) (A1 : Option Addr) (w : World) (hm : m ≤ 10) (Q : World → Prop)
    (h : Calls Try.prog 57 #[.slice A1 m c, .int .i64 0, .int .i64 m, .func (.func 40) #[] #[.pointer (some ⟨b1, 0, none⟩)]] w fun e w' => e = .returned (.tuple #[]) ∧ Q w') :
    Calls Try.prog 39 #[.slice A1 m c, .func (.func 40) #[] #[.pointer (some ⟨b1, 0, none⟩)]] w fun e w' => e = .returned (.tuple #[]) ∧ Q w' := by
  have H := Lib.hid (stable_any b1 m c A1 w hm Q h)
  clear h
  go_enter Try.func39, Try.ntmps39
  go_wp2_with fail
  with_reducible refine (H.out).mono ?_
  rintro e w1 ⟨rfl, hq⟩
  have HQ := Lib.hid hq
  clear hq
  go_wp2
  exact bodyPost_end (v := .tuple #[]) (by simp [results, Try.results39, go_sem]) rfl ⟨rfl, HQ.out⟩
end Go.Proofs.Ytebgkmmmjmipnaa
