/- Contracts of IsEntitled, of the program and of the reference. -/
import Derived.Test.YtoebibgkpmppdaaHeirs
namespace Go.Proofs.Ytoebibgkpmppdaa
open Go.RowKit

/-- Is heir k entitled in month t? (so many heirs looked at, at most) -/
def entB (F : Nat → Nat → Int) (n : Nat) (t : Int) : Nat → Nat → Bool
  | 0, _ => false
  | f + 1, k => !decide (t < 0) && !decide (F k 2 ≤ t) && (F k 3 == 0 || !entB F n t f (hAt F n (F k 3)).toNat)
/-- The way from heir k on ends after at most so many steps. -/
def ends (F : Nat → Nat → Int) (n : Nat) : Nat → Nat → Prop
  | 0, k => F k 3 = 0
  | f + 1, k => F k 3 = 0 ∨ ∃ j, j < n ∧ hAt F n (F k 3) = (j : Nat) ∧ ends F n f j
theorem cyc_some {F : Nat → Nat → Int} {n i : Nat} : ∀ (f k : Nat) (out : List Int) (d : Nat), 1 ≤ d → d ≤ f → itI F n d k = i → (∀ e, 1 ≤ e → e ≤ d → 0 ≤ itI F n e k) → cyc F n i f k out ≠ none
  | 0, _, _, d, h1, h2, _, _ => by omega
  | f + 1, k, out, d, h1, h2, h3, h4 => by
    have h5 : 0 ≤ nxt F n k := by
      have := h4 1 (Nat.le_refl _) h1
      have e : itI F n 1 k = nxt F n k := stepI_nat F n k
      rwa [e] at this
    rw [cyc_succ]
    unfold chk
    rw [if_neg (by omega)]
    by_cases hx : nxt F n k = i
    · rw [if_pos hx]; simp
    · rw [if_neg hx]
      have e : ((nxt F n k).toNat : Int) = nxt F n k := Int.toNat_of_nonneg h5
      match d, h1 with
      | d + 1, _ =>
        have h6 : itI F n d (nxt F n k) = i := by
          have : itI F n (d + 1) k = itI F n d (stepI F n k) := rfl
          rw [this, stepI_nat] at h3
          exact h3
        have hd : 1 ≤ d := by
          rcases Nat.eq_zero_or_pos d with h0 | h0
          · subst h0; exact absurd h6 hx
          · exact h0
        refine cyc_some f (nxt F n k).toNat _ d hd (by omega) (by rw [e]; exact h6) (fun e' a b => ?_)
        have := h4 (e' + 1) (by omega) (by omega)
        have h7 : itI F n (e' + 1) k = itI F n e' (stepI F n k) := rfl
        rw [h7, stepI_nat] at this
        rw [e]
        exact this
theorem heirs_next {F : Nat → Nat → Int} {n k : Nat} (h : heirsB F n = true) (hk : k < n) (hz : ¬ F k 3 = 0) : ∃ j, j < n ∧ hAt F n (F k 3) = (j : Nat) := by
  rcases (heirB_true ((heirsB_true h).1 k hk)).2.2.2 with h1 | ⟨_, h1⟩
  · exact absurd h1 hz
  · rcases hAt_cases F n (F k 3) with h2 | ⟨j, h2, hj⟩
    · omega
    · exact ⟨j, hj, h2⟩
theorem ends_or {F : Nat → Nat → Int} {n : Nat} (h : heirsB F n = true) : ∀ (f k : Nat), k < n → ends F n f k ∨ ∀ t, t ≤ f + 1 → 0 ≤ itI F n t k
  | 0, k, hk => by
    by_cases hz : F k 3 = 0
    · exact .inl hz
    · refine .inr fun t ht => ?_
      obtain ⟨j, hj, e⟩ := heirs_next h hk hz
      match t, ht with
      | 0, _ => show (0 : Int) ≤ k; omega
      | 1, _ =>
        show 0 ≤ stepI F n k
        rw [stepI_nat, nxt_at hz, e]; omega
  | f + 1, k, hk => by
    by_cases hz : F k 3 = 0
    · exact .inl (.inl hz)
    · obtain ⟨j, hj, e⟩ := heirs_next h hk hz
      rcases ends_or h f j hj with h1 | h1
      · exact .inl (.inr ⟨j, hj, e, h1⟩)
      · refine .inr fun t ht => ?_
        match t, ht with
        | 0, _ => show (0 : Int) ≤ k; omega
        | t + 1, ht =>
          have : itI F n (t + 1) k = itI F n t (stepI F n k) := rfl
          rw [this, stepI_nat, nxt_at hz, e]
          exact h1 t (by omega)
theorem heirs_ends {F : Nat → Nat → Int} {n k : Nat} (h : heirsB F n = true) (hk : k < n) : ends F n n k := by
  rcases ends_or h n k hk with h1 | h1
  · exact h1
  · exfalso
    obtain ⟨s, t, hst, htn, e⟩ := pigeon n (fun j => (itI F n j k).toNat) (fun j hj => by
      show (itI F n j k).toNat < n
      have h2 := h1 j (by omega)
      match j, hj with
      | 0, _ => show ((k : Int)).toNat < n; omega
      | j + 1, _ =>
        have h3 := itI_lt F n k j
        omega)
    have e' : (itI F n s k).toNat = (itI F n t k).toNat := e
    have hs := h1 s (by omega)
    have ht := h1 t (by omega)
    obtain ⟨i, hi⟩ := Int.eq_ofNat_of_zero_le hs
    have hti : itI F n t k = i := by omega
    have hin : i < n := by
      match s, hi, hst with
      | 0, hi, _ =>
        have : itI F n 0 k = k := rfl
        omega
      | s + 1, hi, _ =>
        have h3 := itI_lt F n k s
        omega
    have hc : cyc1 F n i ≠ none := by
      refine cyc_some n i _ (t - s) (by omega) (by omega) ?_ (fun e a b => ?_)
      · have h4 := itI_add F n s (t - s) k
        have h5 : s + (t - s) = t := by omega
        rw [h5, hti, hi] at h4
        exact h4.symm
      · have h4 := itI_add F n s e k
        rw [hi] at h4
        rw [← h4]
        exact h1 (s + e) (by omega)
    have h0 := (heirsB_true h).2
    have h6 : cycle F n = cycR F n := by unfold cycle; rw [if_pos h0.1]
    rw [h6] at h0
    rcases cycR_cases F n with ⟨_, hnone⟩ | ⟨m, L, _, _, e2, h7, _⟩
    · exact hc (hnone i hin)
    · rw [e2] at h0; omega
def entI (F : Nat → Nat → Int) (n : Nat) (id t : Int) : Bool := heirsB F n && (decide (0 ≤ hAt F n id) && entB F n t (n + 1) (hAt F n id).toNat)
theorem entB_past {F : Nat → Nat → Int} {n f k : Nat} {t : Int} (h : decide (t < 0) = true) : entB F n t (f + 1) k = false := by simp only [entB, h, Bool.not_true, Bool.false_and]
theorem entB_late {F : Nat → Nat → Int} {n f k : Nat} {t : Int} (h : decide (F k 2 ≤ t) = true) : entB F n t (f + 1) k = false := by simp only [entB, h, Bool.not_true, Bool.and_false, Bool.false_and]
theorem entB_top {F : Nat → Nat → Int} {n f k : Nat} {t : Int} (h1 : decide (t < 0) = false) (h2 : decide (F k 2 ≤ t) = false) (h : (F k 3 == 0) = true) : entB F n t (f + 1) k = true := by simp only [entB, h1, h2, h, Bool.not_false, Bool.true_or, Bool.and_self]
theorem entB_after {F : Nat → Nat → Int} {n f k j : Nat} {t : Int} (h1 : decide (t < 0) = false) (h2 : decide (F k 2 ≤ t) = false) (h : (F k 3 == 0) = false) (hj : hAt F n (F k 3) = j) : entB F n t (f + 1) k = !entB F n t f j := by
  simp only [entB, h1, h2, h, hj, Bool.not_false, Bool.false_or, Bool.true_and, Int.toNat_natCast]
set_option maxHeartbeats 2000000 in
theorem ent_any (A : Option Addr) (n cap : Nat) (F : Nat → Nat → Int) (t : Int) (hn : n ≤ 1048576) (f : Nat) : ∀ (k : Nat) (id : Int) (w : World), k < n → hAt F n id = k → ends F n f k → Recs w 4 A n F →
    Calls Try.prog 42 #[.slice A n cap, .int .i64 id, .int .i64 t] w fun e w' => e = .returned (.bool (entB F n t (f + 1) k)) ∧ Below w.heap.size w w' := by
  induction f with
  | zero =>
    intro k id w hk hid he hr
    have HR := Lib.hid hr
    have HH := heirAt_any A n cap F id w hn hr
    rw [hid] at HH
    have HA := Lib.hid HH
    obtain ⟨b, off, rfl, hb, c0, c1, c2, c3⟩ := HR.out.at4 hk
    have hki : (k : Int) < (n : Int) := by omega
    have hk0 : (0 : Int) ≤ (k : Int) := by omega
    have hz : (F k 3 == 0) = true := by rw [show F k 3 = 0 from he]; rfl
    clear hid he hr HH c0 c1
    rcases Bool.eq_false_or_eq_true (decide (t < 0)) with t1 | t1
    · have HE := Lib.hid (entB_past (F := F) (n := n) (f := 0) (k := k) t1)
      go_enter Try.func42, Try.ntmps42
      go_wp2_with (first | (go_at_call 39; (with_reducible refine (HA.out).mono ?_); rintro e w1 ⟨rfl, hb1⟩; obtain ⟨hc1, hf1⟩ := bcell hb1))
      go_ret
      exact ⟨ret_bool HE.out.symm, hb1⟩
    · rcases Bool.eq_false_or_eq_true (decide (F k 2 ≤ t)) with t2 | t2
      · have HE := Lib.hid (entB_late (F := F) (n := n) (f := 0) (k := k) t2)
        go_enter Try.func42, Try.ntmps42
        go_wp2_with (first | (go_at_call 39; (with_reducible refine (HA.out).mono ?_); rintro e w1 ⟨rfl, hb1⟩; obtain ⟨hc1, hf1⟩ := bcell hb1))
        go_ret
        exact ⟨ret_bool HE.out.symm, hb1⟩
      · have HE := Lib.hid (entB_top (n := n) (f := 0) (k := k) t1 t2 hz)
        go_enter Try.func42, Try.ntmps42
        go_wp2_with (first | (go_at_call 39; (with_reducible refine (HA.out).mono ?_); rintro e w1 ⟨rfl, hb1⟩; obtain ⟨hc1, hf1⟩ := bcell hb1))
        go_ret
        exact ⟨ret_bool HE.out.symm, hb1⟩
  | succ f ih =>
    intro k id w hk hid he hr
    have IH := Lib.hid ih
    have HR := Lib.hid hr
    have HH := heirAt_any A n cap F id w hn hr
    rw [hid] at HH
    have HA := Lib.hid HH
    obtain ⟨b, off, rfl, hb, c0, c1, c2, c3⟩ := HR.out.at4 hk
    have hki : (k : Int) < (n : Int) := by omega
    have hk0 : (0 : Int) ≤ (k : Int) := by omega
    have HEN := Lib.hid he
    clear hid he hr HH c0 c1 ih
    rcases Bool.eq_false_or_eq_true (decide (t < 0)) with t1 | t1
    · have HE := Lib.hid (entB_past (F := F) (n := n) (f := f + 1) (k := k) t1)
      go_enter Try.func42, Try.ntmps42
      go_wp2_with (first | (go_at_call 39; (with_reducible refine (HA.out).mono ?_); rintro e w1 ⟨rfl, hb1⟩; obtain ⟨hc1, hf1⟩ := bcell hb1))
      go_ret
      exact ⟨ret_bool HE.out.symm, hb1⟩
    · rcases Bool.eq_false_or_eq_true (decide (F k 2 ≤ t)) with t2 | t2
      · have HE := Lib.hid (entB_late (F := F) (n := n) (f := f + 1) (k := k) t2)
        go_enter Try.func42, Try.ntmps42
        go_wp2_with (first | (go_at_call 39; (with_reducible refine (HA.out).mono ?_); rintro e w1 ⟨rfl, hb1⟩; obtain ⟨hc1, hf1⟩ := bcell hb1))
        go_ret
        exact ⟨ret_bool HE.out.symm, hb1⟩
      · rcases Bool.eq_false_or_eq_true (F k 3 == 0) with hz | hz
        · have HE := Lib.hid (entB_top (n := n) (f := f + 1) (k := k) t1 t2 hz)
          go_enter Try.func42, Try.ntmps42
          go_wp2_with (first | (go_at_call 39; (with_reducible refine (HA.out).mono ?_); rintro e w1 ⟨rfl, hb1⟩; obtain ⟨hc1, hf1⟩ := bcell hb1))
          go_ret
          exact ⟨ret_bool HE.out.symm, hb1⟩
        · rcases HEN.out with h0 | ⟨j, hj, hjx, hej⟩
          · rw [h0] at hz; cases hz
          · have HE := Lib.hid (entB_after (n := n) (f := f + 1) (k := k) t1 t2 hz hjx)
            have HJ := Lib.hid (fun w1 hr1 => IH.out j (F k 3) w1 hj hjx hej hr1)
            clear hjx hej
            go_enter Try.func42, Try.ntmps42
            go_wp2_with (first | (go_at_call 39; (with_reducible refine (HA.out).mono ?_); rintro e w1 ⟨rfl, hb1⟩; obtain ⟨hc1, hf1⟩ := bcell hb1) | (go_at_call 42; (with_reducible refine (HJ.out _ (HR.out.kept hb1)).mono ?_); rintro e w2 ⟨rfl, hb2⟩))
            go_ret
            exact ⟨ret_bool HE.out.symm, hb1.trans (hb2.mono hb1.size)⟩
theorem ent_none (A : Option Addr) (n cap : Nat) (F : Nat → Nat → Int) (id t : Int) (w : World) (hn : n ≤ 1048576) (hid : hAt F n id = -1) (hr : Recs w 4 A n F) :
    Calls Try.prog 42 #[.slice A n cap, .int .i64 id, .int .i64 t] w fun e w' => e = .returned (.bool false) ∧ Below w.heap.size w w' := by
  have HH := heirAt_any A n cap F id w hn hr
  rw [hid] at HH
  have HA := Lib.hid HH
  clear hid HH hr
  go_enter Try.func42, Try.ntmps42
  go_wp2_with (go_at_call 39; (with_reducible refine (HA.out).mono ?_); rintro e w1 ⟨rfl, hb1⟩)
  go_ret
  exact ⟨rfl, hb1⟩
theorem isEntitled_any (A : Option Addr) (n cap : Nat) (F : Nat → Nat → Int) (id t : Int) (w : World) (hn : n ≤ 1048576) (hr : Recs w 4 A n F) :
    Calls Try.prog 25 #[.slice A n cap, .int .i64 id, .int .i64 t] w fun e w' => e = .returned (.bool (entI F n id t)) ∧ Below w.heap.size w w' := by
  have HR := Lib.hid hr
  clear hr
  rcases Bool.eq_false_or_eq_true (heirsB F n) with s1 | s1
  · have HE := Lib.hid (show ∀ w1, Recs w1 4 A n F → Calls Try.prog 42 #[.slice A n cap, .int .i64 id, .int .i64 t] w1 fun e w' => e = .returned (.bool (entI F n id t)) ∧ Below w1.heap.size w1 w' by
      intro w1 hr1
      rcases hAt_cases F n id with h | ⟨k, h, hk⟩
      · have e : entI F n id t = false := by simp [entI, h]
        rw [e]
        exact ent_none A n cap F id t w1 hn h hr1
      · have e : entI F n id t = entB F n t (n + 1) k := by simp [entI, s1, h]
        rw [e]
        exact ent_any A n cap F t hn n k id w1 hk h (heirs_ends s1 hk) hr1)
    go_enter Try.func25, Try.ntmps25
    go_wp2_with (first | (go_at_call 14; (with_reducible refine (heirsOk_any A n cap F _ hn HR.out).mono ?_); rintro e w1 ⟨rfl, hb1⟩; obtain ⟨hc1, hf1⟩ := bcell hb1; (try simp only [World.size_drew] at hc1 hf1); have hz1 := hb1.size; (try simp at hz1); (try have q1_0 : w.heap.size < w1.heap.size := by omega); (try have q1_1 : w.heap.size + 1 < w1.heap.size := by omega); (try have q1_2 : w.heap.size + 2 < w1.heap.size := by omega); (try have q1_3 : w.heap.size + 3 < w1.heap.size := by omega); (try have q1_4 : w.heap.size + 4 < w1.heap.size := by omega); (try have q1_0_0 : w0.heap.size < w1.heap.size := by omega); (try have q1_0_1 : w0.heap.size + 1 < w1.heap.size := by omega); (try have q1_2_0 : w2.heap.size < w1.heap.size := by omega); (try have q1_2_1 : w2.heap.size + 1 < w1.heap.size := by omega); (try have q1_3_0 : w3.heap.size < w1.heap.size := by omega); (try have q1_3_1 : w3.heap.size + 1 < w1.heap.size := by omega); (try have q1_4_0 : w4.heap.size < w1.heap.size := by omega); (try have q1_4_1 : w4.heap.size + 1 < w1.heap.size := by omega); (try have q1_5_0 : w5.heap.size < w1.heap.size := by omega); (try have q1_5_1 : w5.heap.size + 1 < w1.heap.size := by omega); (try have q1_6_0 : w6.heap.size < w1.heap.size := by omega); (try have q1_6_1 : w6.heap.size + 1 < w1.heap.size := by omega); (try have u1_b : b < w1.heap.size := by omega); (try have u1_q : q < w1.heap.size := by omega); (try have u1_g : g < w1.heap.size := by omega); (try have u1_g1 : g1 < w1.heap.size := by omega); (try have u1_g2 : g2 < w1.heap.size := by omega); (try have u1_g3 : g3 < w1.heap.size := by omega); (try have u1_g4 : g4 < w1.heap.size := by omega); (try have u1_g5 : g5 < w1.heap.size := by omega)) | (go_at_call 42; (with_reducible refine (HE.out _ (HR.out.kept hb1)).mono ?_); rintro e w2 ⟨rfl, hb2⟩))
    go_ret
    exact ⟨rfl, hb1.trans (hb2.mono hb1.size)⟩
  · have HE := Lib.hid (show entI F n id t = false by simp [entI, s1])
    go_enter Try.func25, Try.ntmps25
    go_wp2_with (go_at_call 14; (with_reducible refine (heirsOk_any A n cap F _ hn HR.out).mono ?_); rintro e w1 ⟨rfl, hb1⟩; obtain ⟨hc1, hf1⟩ := bcell hb1; (try simp only [World.size_drew] at hc1 hf1); have hz1 := hb1.size; (try simp at hz1); (try have q1_0 : w.heap.size < w1.heap.size := by omega); (try have q1_1 : w.heap.size + 1 < w1.heap.size := by omega); (try have q1_2 : w.heap.size + 2 < w1.heap.size := by omega); (try have q1_3 : w.heap.size + 3 < w1.heap.size := by omega); (try have q1_4 : w.heap.size + 4 < w1.heap.size := by omega); (try have q1_0_0 : w0.heap.size < w1.heap.size := by omega); (try have q1_0_1 : w0.heap.size + 1 < w1.heap.size := by omega); (try have q1_2_0 : w2.heap.size < w1.heap.size := by omega); (try have q1_2_1 : w2.heap.size + 1 < w1.heap.size := by omega); (try have q1_3_0 : w3.heap.size < w1.heap.size := by omega); (try have q1_3_1 : w3.heap.size + 1 < w1.heap.size := by omega); (try have q1_4_0 : w4.heap.size < w1.heap.size := by omega); (try have q1_4_1 : w4.heap.size + 1 < w1.heap.size := by omega); (try have q1_5_0 : w5.heap.size < w1.heap.size := by omega); (try have q1_5_1 : w5.heap.size + 1 < w1.heap.size := by omega); (try have q1_6_0 : w6.heap.size < w1.heap.size := by omega); (try have q1_6_1 : w6.heap.size + 1 < w1.heap.size := by omega); (try have u1_b : b < w1.heap.size := by omega); (try have u1_q : q < w1.heap.size := by omega); (try have u1_g : g < w1.heap.size := by omega); (try have u1_g1 : g1 < w1.heap.size := by omega); (try have u1_g2 : g2 < w1.heap.size := by omega); (try have u1_g3 : g3 < w1.heap.size := by omega); (try have u1_g4 : g4 < w1.heap.size := by omega); (try have u1_g5 : g5 < w1.heap.size := by omega))
    go_ret
    exact ⟨ret_bool HE.out.symm, hb1⟩
set_option maxHeartbeats 2000000 in
theorem sent_any (A : Option Addr) (n cap : Nat) (F : Nat → Nat → Int) (t : Int) (hn : n ≤ 1048576) (f : Nat) : ∀ (k : Nat) (w : World), k < n → ends F n f k → Recs w 4 A n F →
    Calls Try.prog 41 #[.slice A n cap, .int .i64 k, .int .i64 t] w fun e w' => e = .returned (.bool (entB F n t (f + 1) k)) ∧ Below w.heap.size w w' := by
  induction f with
  | zero =>
    intro k w hk he hr
    have HR := Lib.hid hr
    obtain ⟨b, off, rfl, hb, c0, c1, c2, c3⟩ := HR.out.at4 hk
    have hki : (k : Int) < (n : Int) := by omega
    have hk0 : (0 : Int) ≤ (k : Int) := by omega
    have hz : (F k 3 == 0) = true := by rw [show F k 3 = 0 from he]; rfl
    clear he hr
    rcases Bool.eq_false_or_eq_true (decide (t < 0)) with t1 | t1
    · have HE := Lib.hid (entB_past (F := F) (n := n) (f := 0) (k := k) t1)
      go_enter Try.func41, Try.ntmps41
      go_wp2
      go_ret
      exact ⟨ret_bool HE.out.symm, by (repeat (first | with_reducible exact Below.refl _ _ | with_reducible refine Below.drew ?_ | (with_reducible refine Below.alloc ?_ ?hsz _; case hsz => ((try simp) <;> (try omega))) | (with_reducible refine Below.setCell ?_ ?hsz _; case hsz => ((try simp) <;> (try omega))) | (with_reducible refine below_step (by with_reducible assumption) ?hsz ?_; case hsz => ((try simp) <;> (try omega)))))⟩
    · rcases Bool.eq_false_or_eq_true (decide (F k 2 ≤ t)) with t2 | t2
      · have HE := Lib.hid (entB_late (F := F) (n := n) (f := 0) (k := k) t2)
        go_enter Try.func41, Try.ntmps41
        go_wp2
        go_ret
        exact ⟨ret_bool HE.out.symm, by (repeat (first | with_reducible exact Below.refl _ _ | with_reducible refine Below.drew ?_ | (with_reducible refine Below.alloc ?_ ?hsz _; case hsz => ((try simp) <;> (try omega))) | (with_reducible refine Below.setCell ?_ ?hsz _; case hsz => ((try simp) <;> (try omega))) | (with_reducible refine below_step (by with_reducible assumption) ?hsz ?_; case hsz => ((try simp) <;> (try omega)))))⟩
      · have HE := Lib.hid (entB_top (n := n) (f := 0) (k := k) t1 t2 hz)
        go_enter Try.func41, Try.ntmps41
        go_wp2
        go_ret
        exact ⟨ret_bool HE.out.symm, by (repeat (first | with_reducible exact Below.refl _ _ | with_reducible refine Below.drew ?_ | (with_reducible refine Below.alloc ?_ ?hsz _; case hsz => ((try simp) <;> (try omega))) | (with_reducible refine Below.setCell ?_ ?hsz _; case hsz => ((try simp) <;> (try omega))) | (with_reducible refine below_step (by with_reducible assumption) ?hsz ?_; case hsz => ((try simp) <;> (try omega)))))⟩
  | succ f ih =>
    intro k w hk he hr
    have IH := Lib.hid ih
    have HR := Lib.hid (hr.alloc (.cells #[.int .i64 (F k 0), .int .i64 (F k 1), .int .i64 (F k 2), .int .i64 (F k 3)] 43))
    obtain ⟨b, off, rfl, hb, c0, c1, c2, c3⟩ := hr.at4 hk
    have hki : (k : Int) < (n : Int) := by omega
    have hk0 : (0 : Int) ≤ (k : Int) := by omega
    have HEN := Lib.hid he
    clear he hr ih
    rcases Bool.eq_false_or_eq_true (decide (t < 0)) with t1 | t1
    · have HE := Lib.hid (entB_past (F := F) (n := n) (f := f + 1) (k := k) t1)
      go_enter Try.func41, Try.ntmps41
      go_wp2
      go_ret
      exact ⟨ret_bool HE.out.symm, by (repeat (first | with_reducible exact Below.refl _ _ | with_reducible refine Below.drew ?_ | (with_reducible refine Below.alloc ?_ ?hsz _; case hsz => ((try simp) <;> (try omega))) | (with_reducible refine Below.setCell ?_ ?hsz _; case hsz => ((try simp) <;> (try omega))) | (with_reducible refine below_step (by with_reducible assumption) ?hsz ?_; case hsz => ((try simp) <;> (try omega)))))⟩
    · rcases Bool.eq_false_or_eq_true (decide (F k 2 ≤ t)) with t2 | t2
      · have HE := Lib.hid (entB_late (F := F) (n := n) (f := f + 1) (k := k) t2)
        go_enter Try.func41, Try.ntmps41
        go_wp2
        go_ret
        exact ⟨ret_bool HE.out.symm, by (repeat (first | with_reducible exact Below.refl _ _ | with_reducible refine Below.drew ?_ | (with_reducible refine Below.alloc ?_ ?hsz _; case hsz => ((try simp) <;> (try omega))) | (with_reducible refine Below.setCell ?_ ?hsz _; case hsz => ((try simp) <;> (try omega))) | (with_reducible refine below_step (by with_reducible assumption) ?hsz ?_; case hsz => ((try simp) <;> (try omega)))))⟩
      · rcases Bool.eq_false_or_eq_true (F k 3 == 0) with hz | hz
        · have HE := Lib.hid (entB_top (n := n) (f := f + 1) (k := k) t1 t2 hz)
          go_enter Try.func41, Try.ntmps41
          go_wp2
          go_ret
          exact ⟨ret_bool HE.out.symm, by (repeat (first | with_reducible exact Below.refl _ _ | with_reducible refine Below.drew ?_ | (with_reducible refine Below.alloc ?_ ?hsz _; case hsz => ((try simp) <;> (try omega))) | (with_reducible refine Below.setCell ?_ ?hsz _; case hsz => ((try simp) <;> (try omega))) | (with_reducible refine below_step (by with_reducible assumption) ?hsz ?_; case hsz => ((try simp) <;> (try omega)))))⟩
        · rcases HEN.out with h0 | ⟨j, hj, hjx, hej⟩
          · rw [h0] at hz; cases hz
          · have HE := Lib.hid (entB_after (n := n) (f := f + 1) (k := k) t1 t2 hz hjx)
            have HJ := Lib.hid (IH.out j _ hj hej HR.out)
            have HH := l19At_any (some ⟨b, off, none⟩) n cap F (F k 3) _ hn HR.out
            rw [hjx] at HH
            have HA := Lib.hid HH
            clear hjx hej HH
            go_enter Try.func41, Try.ntmps41
            go_wp2_with (first | (go_at_call 34; (with_reducible refine (HA.out).mono ?_); rintro e w' ⟨rfl, rfl⟩) | (go_at_call 41; (with_reducible refine (HJ.out).mono ?_); rintro e w2 ⟨rfl, hb2⟩))
            go_ret
            exact ⟨ret_bool HE.out.symm, by (repeat (first | with_reducible exact Below.refl _ _ | with_reducible refine Below.drew ?_ | (with_reducible refine Below.alloc ?_ ?hsz _; case hsz => ((try simp) <;> (try omega))) | (with_reducible refine Below.setCell ?_ ?hsz _; case hsz => ((try simp) <;> (try omega))) | (with_reducible refine below_step (by with_reducible assumption) ?hsz ?_; case hsz => ((try simp) <;> (try omega)))))⟩
theorem sisEntitled_any (A : Option Addr) (n cap : Nat) (F : Nat → Nat → Int) (id t : Int) (w : World) (hn : n ≤ 1048576) (hr : Recs w 4 A n F) :
    Calls Try.prog 24 #[.slice A n cap, .int .i64 id, .int .i64 t] w fun e w' => e = .returned (.bool (entI F n id t)) ∧ Below w.heap.size w w' := by
  have HR := Lib.hid hr
  have HH := l19At_any A n cap F id w hn hr
  clear hr
  rcases hAt_cases F n id with h | ⟨k, h, hk⟩
  · rw [h] at HH
    have HA := Lib.hid HH
    have HE := Lib.hid (show entI F n id t = false by simp [entI, h])
    clear h HH
    go_enter Try.func24, Try.ntmps24
    go_wp2_with (go_at_call 34; (with_reducible refine (HA.out).mono ?_); rintro e w' ⟨rfl, rfl⟩)
    go_ret
    exact ⟨ret_bool HE.out.symm, Below.refl _ _⟩
  · rw [h] at HH
    have HA := Lib.hid HH
    have hk0 : (0 : Int) ≤ (k : Int) := by omega
    rcases Bool.eq_false_or_eq_true (heirsB F n) with s1 | s1
    · have HE := Lib.hid (show entI F n id t = entB F n t (n + 1) k by simp [entI, s1, h])
      have HJ := Lib.hid (fun w1 hr1 => sent_any A n cap F t hn n k w1 hk (heirs_ends s1 hk) hr1)
      clear h HH
      go_enter Try.func24, Try.ntmps24
      go_wp2_with (first | (go_at_call 34; (with_reducible refine (HA.out).mono ?_); rintro e w' ⟨rfl, rfl⟩) | (go_at_call 12; (with_reducible refine (sheirsOk_any A n cap F _ hn HR.out).mono ?_); rintro e w1 ⟨rfl, hb1⟩; obtain ⟨hc1, hf1⟩ := bcell hb1; (try simp only [World.size_drew] at hc1 hf1); have hz1 := hb1.size; (try simp at hz1); (try have q1_0 : w.heap.size < w1.heap.size := by omega); (try have q1_1 : w.heap.size + 1 < w1.heap.size := by omega); (try have q1_2 : w.heap.size + 2 < w1.heap.size := by omega); (try have q1_3 : w.heap.size + 3 < w1.heap.size := by omega); (try have q1_4 : w.heap.size + 4 < w1.heap.size := by omega); (try have q1_0_0 : w0.heap.size < w1.heap.size := by omega); (try have q1_0_1 : w0.heap.size + 1 < w1.heap.size := by omega); (try have q1_2_0 : w2.heap.size < w1.heap.size := by omega); (try have q1_2_1 : w2.heap.size + 1 < w1.heap.size := by omega); (try have q1_3_0 : w3.heap.size < w1.heap.size := by omega); (try have q1_3_1 : w3.heap.size + 1 < w1.heap.size := by omega); (try have q1_4_0 : w4.heap.size < w1.heap.size := by omega); (try have q1_4_1 : w4.heap.size + 1 < w1.heap.size := by omega); (try have q1_5_0 : w5.heap.size < w1.heap.size := by omega); (try have q1_5_1 : w5.heap.size + 1 < w1.heap.size := by omega); (try have q1_6_0 : w6.heap.size < w1.heap.size := by omega); (try have q1_6_1 : w6.heap.size + 1 < w1.heap.size := by omega); (try have u1_b : b < w1.heap.size := by omega); (try have u1_q : q < w1.heap.size := by omega); (try have u1_g : g < w1.heap.size := by omega); (try have u1_g1 : g1 < w1.heap.size := by omega); (try have u1_g2 : g2 < w1.heap.size := by omega); (try have u1_g3 : g3 < w1.heap.size := by omega); (try have u1_g4 : g4 < w1.heap.size := by omega); (try have u1_g5 : g5 < w1.heap.size := by omega)) | (go_at_call 41; (with_reducible refine (HJ.out _ (HR.out.kept hb1)).mono ?_); rintro e w2 ⟨rfl, hb2⟩))
      go_ret
      exact ⟨ret_bool HE.out.symm, hb1.trans (hb2.mono hb1.size)⟩
    · have HE := Lib.hid (show entI F n id t = false by simp [entI, s1])
      clear h HH
      go_enter Try.func24, Try.ntmps24
      go_wp2_with (first | (go_at_call 34; (with_reducible refine (HA.out).mono ?_); rintro e w' ⟨rfl, rfl⟩) | (go_at_call 12; (with_reducible refine (sheirsOk_any A n cap F _ hn HR.out).mono ?_); rintro e w1 ⟨rfl, hb1⟩; obtain ⟨hc1, hf1⟩ := bcell hb1; (try simp only [World.size_drew] at hc1 hf1); have hz1 := hb1.size; (try simp at hz1); (try have q1_0 : w.heap.size < w1.heap.size := by omega); (try have q1_1 : w.heap.size + 1 < w1.heap.size := by omega); (try have q1_2 : w.heap.size + 2 < w1.heap.size := by omega); (try have q1_3 : w.heap.size + 3 < w1.heap.size := by omega); (try have q1_4 : w.heap.size + 4 < w1.heap.size := by omega); (try have q1_0_0 : w0.heap.size < w1.heap.size := by omega); (try have q1_0_1 : w0.heap.size + 1 < w1.heap.size := by omega); (try have q1_2_0 : w2.heap.size < w1.heap.size := by omega); (try have q1_2_1 : w2.heap.size + 1 < w1.heap.size := by omega); (try have q1_3_0 : w3.heap.size < w1.heap.size := by omega); (try have q1_3_1 : w3.heap.size + 1 < w1.heap.size := by omega); (try have q1_4_0 : w4.heap.size < w1.heap.size := by omega); (try have q1_4_1 : w4.heap.size + 1 < w1.heap.size := by omega); (try have q1_5_0 : w5.heap.size < w1.heap.size := by omega); (try have q1_5_1 : w5.heap.size + 1 < w1.heap.size := by omega); (try have q1_6_0 : w6.heap.size < w1.heap.size := by omega); (try have q1_6_1 : w6.heap.size + 1 < w1.heap.size := by omega); (try have u1_b : b < w1.heap.size := by omega); (try have u1_q : q < w1.heap.size := by omega); (try have u1_g : g < w1.heap.size := by omega); (try have u1_g1 : g1 < w1.heap.size := by omega); (try have u1_g2 : g2 < w1.heap.size := by omega); (try have u1_g3 : g3 < w1.heap.size := by omega); (try have u1_g4 : g4 < w1.heap.size := by omega); (try have u1_g5 : g5 < w1.heap.size := by omega)))
      go_ret
      exact ⟨ret_bool HE.out.symm, hb1⟩
end Go.Proofs.Ytoebibgkpmppdaa
