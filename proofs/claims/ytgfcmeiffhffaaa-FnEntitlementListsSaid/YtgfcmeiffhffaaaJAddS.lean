/- Contract of the reference's AddEvent. -/
import Derived.Test.YtgfcmeiffhffaaaJRecEvent
import Derived.Test.YtgfcmeiffhffaaaJRecApp
import Derived.Test.YtgfcmeiffhffaaaJStatusAt
namespace Go.Proofs.Ytgfcmeiffhffaaa
open Go.RowKit

/-- Where an event of month t is put in: ahead of the first later one. -/
def posE (F : Nat → Nat → Int) (t : Int) : Nat → Nat
  | 0 => 0
  | n + 1 => if posE F t n < n then posE F t n else if t < F n 1 then n else n + 1
theorem posE_le (F : Nat → Nat → Int) (t : Int) : ∀ n, posE F t n ≤ n
  | 0 => Nat.le_refl _
  | n + 1 => by
    have := posE_le F t n
    simp only [posE]
    split
    · omega
    · split <;> omega
theorem posE_spec (F : Nat → Nat → Int) (t : Int) : ∀ n, (∀ i, i < posE F t n → F i 1 ≤ t) ∧ (posE F t n < n → t < F (posE F t n) 1)
  | 0 => ⟨fun i hi => by simp [posE] at hi, fun h => by simp [posE] at h⟩
  | n + 1 => by
    obtain ⟨h1, h2⟩ := posE_spec F t n
    have h3 := posE_le F t n
    simp only [posE]
    split
    · rename_i h4
      exact ⟨h1, fun _ => h2 h4⟩
    · have h5 : posE F t n = n := by omega
      rw [h5] at h1
      split
      · rename_i h6
        exact ⟨h1, fun _ => h6⟩
      · exact ⟨fun i hi => by
          rcases Nat.lt_or_ge i n with h | h
          · exact h1 i h
          · obtain rfl : i = n := by omega
            omega, fun h => by omega⟩
def addB (F : Nat → Nat → Int) (n : Nat) (k t : Int) : Bool := eventsB F n && eventsB (insF F (posE F t n) (pair k t)) (n + 1)
def addN (F : Nat → Nat → Int) (n : Nat) (k t : Int) : Nat := if addB F n k t = true then n + 1 else n
def addG (F : Nat → Nat → Int) (n : Nat) (k t : Int) : Nat → Nat → Int := if addB F n k t = true then insF F (posE F t n) (pair k t) else F
/-- A new row of events and a truth value come back. -/
def AddQ (F : Nat → Nat → Int) (n : Nat) (k t : Int) (w : World) (e : Ending) (w' : World) : Prop :=
  ∃ v, e = .returned (.tuple #[v, .bool (addB F n k t)]) ∧ w'.ownsRow w.heap.size 106 2 v (addN F n k t) (recs (addG F n k t) 2 (addN F n k t)) ∧ Below w.heap.size w w'
theorem add_yes {F : Nat → Nat → Int} {n : Nat} {k t : Int} {w w' : World} {v : Value} (h : addB F n k t = true) (ho : w'.ownsRow w.heap.size 106 2 v (n + 1) (recs (insF F (posE F t n) (pair k t)) 2 (n + 1))) (hb : Below w.heap.size w w') : AddQ F n k t w (.returned (.tuple #[v, .bool true])) w' :=
  ⟨v, by rw [h], by simpa [addN, addG, h] using ho, hb⟩
theorem add_no {F : Nat → Nat → Int} {n : Nat} {k t : Int} {w w' : World} {v : Value} (h : addB F n k t = false) (ho : w'.ownsRow w.heap.size 106 2 v n (recs F 2 n)) (hb : Below w.heap.size w w') : AddQ F n k t w (.returned (.tuple #[v, .bool false])) w' :=
  ⟨v, by rw [h], by simpa [addN, addG, h] using ho, hb⟩
set_option maxHeartbeats 4000000 in
theorem sadd_any (A : Option Addr) (n cap : Nat) (F : Nat → Nat → Int) (k t : Int) (w : World) (hn : n ≤ 1048576) (hA : AnyA A cap) (hr : Recs w 2 A n F) :
    Calls Try.prog 129 #[.slice A n cap, .agg #[.int .i64 k, .int .i64 t]] w (AddQ F n k t w) := by
  have HR := Lib.hid hr
  clear hr
  obtain ⟨p, hp⟩ : ∃ p, p = posE F t n := ⟨_, rfl⟩
  obtain ⟨P1, P2⟩ := posE_spec F t n
  have P0 := posE_le F t n
  rw [← hp] at P0 P1 P2
  have HP1 := Lib.hid P1
  have HP2 := Lib.hid P2
  have HP := Lib.hid hp
  obtain ⟨H, hH⟩ : ∃ H, H = insF F p (pair k t) := ⟨_, rfl⟩
  have HL := Lib.hid (show ∀ i, i < p → ∀ j, H i j = F i j from fun i hi j => by rw [hH, insF_lt hi])
  have HE := Lib.hid (show ∀ j, H p j = pair k t j from fun j => by rw [hH, insF_at])
  have HG := Lib.hid (show ∀ i, p ≤ i → ∀ j, H (i + 1) j = F i j from fun i hi j => by rw [hH, insF_gt hi])
  have HH := Lib.hid (show insF F (posE F t n) (pair k t) = H by rw [hH, hp])
  clear P1 P2 hp hH
  have E0 := (Box.made w 106 #[.int .i64 k, .int .i64 t]).alloc (.cells #[] 106)
  have O0 := own_rec_empty (w.alloc (.cells #[.int .i64 k, .int .i64 t] 106)) (w.heap.size + 1) 106 2 H (by simp)
  simp only [World.size_alloc] at O0
  go_enter Try.func129, Try.ntmps129
  go_wp2_with fail
  go_loopw [6, 7, 8] (fun v u i wr => ∃ m : Nat, m ≤ n ∧ i = .int .i64 m ∧ u = .bool (decide (p < m)) ∧ wr.ownsRow (w.heap.size + 1) 106 2 v (if p < m then m + 1 else m) (recs H 2 (if p < m then m + 1 else m)) ∧ Box wr w.heap.size 106 #[.int .i64 k, .int .i64 t] ∧ Below w.heap.size w wr) (fun _ _ i _ => n - (intOf i).toNat)
  case atStart => exact ⟨0, Nat.zero_le _, rfl, by simp, by simpa using O0, E0, by (repeat (first | with_reducible exact Below.refl _ _ | with_reducible refine Below.drew ?_ | (with_reducible refine Below.alloc ?_ ?hsz _; case hsz => ((try simp) <;> (try omega))) | (with_reducible refine Below.setCell ?_ ?hsz _; case hsz => ((try simp) <;> (try omega))) | (with_reducible refine below_step (by with_reducible assumption) ?hsz ?_; case hsz => ((try simp) <;> (try omega)))))⟩
  case round =>
    clear O0 E0
    obtain ⟨m, hm, rfl, rfl, ho, hx, hb⟩ := hrel
    have zb := hb.size
    have zx := hx.lt
    by_cases hlt : m < n
    · obtain ⟨b, off, e, hbl, c0, c1⟩ := HR.out.at2 hlt
      have hmi : (m : Int) < (n : Int) := by omega
      have hm0 : (0 : Int) ≤ (m : Int) := by omega
      have d0 := (hb.cell (p := ⟨b, off + m * 2, none⟩) hbl).trans c0
      have d1 := (hb.cell (p := ⟨b, off + m * 2 + 1, none⟩) hbl).trans c1
      subst e
      have C0 := Lib.hid c0
      have C1 := Lib.hid c1
      clear c0 c1
      rcases (show p < m ∨ m = p ∨ m < p by omega) with h | h | h
      · rw [if_pos h] at ho
        have hq : decide (p < m) = true := decide_eq_true h
        rw [hq]
        clear hq
        go_wp2_with fail
        go_big_quiet (fail)
        (have O := Lib.hid (own_below ho (below_drewN (Below.refl _ _) nq)); have X := Lib.hid (hx.drewN nq); have HB := Lib.hid (below_drewN hb nq); have e0 : (wr.drewN nq).cell? ⟨b, off + m * 2, none⟩ = some (.int .i64 (F m 0)) := d0; have e1 : (wr.drewN nq).cell? ⟨b, off + m * 2 + 1, none⟩ = some (.int .i64 (F m 1)) := d1; have zW : w.heap.size ≤ (wr.drewN nq).heap.size := zb; have zX : w.heap.size < (wr.drewN nq).heap.size := zx; clear ho hx hb d0 d1 zb zx; generalize wr.drewN nq = W at *)
        obtain ⟨c, hc⟩ : ∃ c, c = m + 1 := ⟨_, rfl⟩
        rw [← hc] at O
        have HC := Lib.hid hc
        clear hc
        have hcn : c + 1 ≤ 1048600 := by have := HC.out; omega
        go_wp2_with (at_builtin; refine wpList_app_recs rfl (.tmp 32) (.tmp 37) 29 (by rfl) (w.heap.size + 1) 106 (.agg #[.int .i64 0, .int .i64 0]) 2 16 Try.underlying29 infEvent rfl (by decide) (by decide) _ c H (O.out.alloc _) (some ⟨W.heap.size, 0, none⟩) 1 1 (fun _ => pair (F m 0) (F m 1)) (.inr ⟨_, _, rfl⟩) (recs_pair (Box.made W _ _)) (by omega) (by simp; omega) rfl rfl ?_); (intro v9 w9 o9 hg9); (have l9 := own_lo O.out); (have X9 := Lib.hid ((X.out.alloc (.cells #[.int .i64 (F m 0), .int .i64 (F m 1)] 106)).grown hg9 (fun e => by have := l9 _ e.symm; omega))); (have B9 := Lib.hid (below_grown (HB.out.alloc zW (.cells #[.int .i64 (F m 0), .int .i64 (F m 1)] 106)) hg9 (by simp; omega) (fun k e => by have := l9 k e; omega)))
        have O9 := Lib.hid (own_snoc o9 (by decide) (fun j hj => (pair_eta (H := F m) j hj).trans (by rw [HC.out]; exact (HG.out m (by omega) j).symm)))
        clear o9 hg9 l9
        go_wp2
        go_roundw
        case rel => exact ⟨m + 1, by omega, by go_num, by simp; omega, by rw [if_pos (by omega), ← HC.out]; exact O9.out, X9.out, B9.out⟩
        case measure => simp [intOf]; omega
      · subst h
        rw [if_neg (by omega)] at ho
        have hq : decide (m < m) = false := by simp
        have hq2 : decide (t < F m 1) = true := decide_eq_true (HP2.out hlt)
        rw [hq]
        clear hq
        obtain ⟨x0, x1, _, _⟩ := hx.two
        go_wp2_with fail
        go_big_quiet (fail)
        clear x0 x1
        (have O := Lib.hid (own_below ho (below_drewN (Below.refl _ _) nq)); have X := Lib.hid (hx.drewN nq); have HB := Lib.hid (below_drewN hb nq); have e0 : (wr.drewN nq).cell? ⟨b, off + m * 2, none⟩ = some (.int .i64 (F m 0)) := d0; have e1 : (wr.drewN nq).cell? ⟨b, off + m * 2 + 1, none⟩ = some (.int .i64 (F m 1)) := d1; have zW : w.heap.size ≤ (wr.drewN nq).heap.size := zb; have zX : w.heap.size < (wr.drewN nq).heap.size := zx; clear ho hx hb d0 d1 zb zx; generalize wr.drewN nq = W at *)
        obtain ⟨x0, x1, _, _⟩ := X.out.two
        clear e0 e1
        go_wp2_with (at_builtin; refine wpList_app_recs rfl (.tmp 28) (.tmp 30) 29 (by rfl) (w.heap.size + 1) 106 (.agg #[.int .i64 0, .int .i64 0]) 2 16 Try.underlying29 infEvent rfl (by decide) (by decide) _ m H (O.out.alloc _) (some ⟨W.heap.size, 0, none⟩) 1 1 (fun _ => pair k t) (.inr ⟨_, _, rfl⟩) (recs_pair (Box.made W _ _)) (by omega) (by simp; omega) rfl rfl ?_)
        intro v7 w7 o7 hg7
        have l7 := own_lo O.out
        have X7 := Lib.hid ((X.out.alloc (.cells #[.int .i64 k, .int .i64 t] 106)).grown hg7 (fun e => by have := l7 _ e.symm; omega))
        have B7 := Lib.hid (below_grown (HB.out.alloc zW (.cells #[.int .i64 k, .int .i64 t] 106)) hg7 (by simp; omega) (fun k e => by have := l7 k e; omega))
        have O7 := Lib.hid (own_snoc o7 (by decide) (fun j hj => (HE.out j).symm))
        clear x0 x1 O X HB o7 hg7 l7 zW zX
        have X := X7
        have O := O7
        have HB := B7
        have zW := B7.out.size
        have zX := X7.out.lt
        have e0 := (HB.out.cell (p := ⟨b, off + m * 2, none⟩) hbl).trans C0.out
        have e1 := (HB.out.cell (p := ⟨b, off + m * 2 + 1, none⟩) hbl).trans C1.out
        clear X7 O7 B7
        generalize w7 = W at *
        have hcn : m + 1 + 1 ≤ 1048600 := by omega
        obtain ⟨c, hc⟩ : ∃ c, c = m + 1 := ⟨_, rfl⟩
        rw [← hc] at O hcn
        have HC := Lib.hid hc
        clear hc
        go_wp2_with (at_builtin; refine wpList_app_recs rfl (.tmp 32) (.tmp 37) 29 (by rfl) (w.heap.size + 1) 106 (.agg #[.int .i64 0, .int .i64 0]) 2 16 Try.underlying29 infEvent rfl (by decide) (by decide) _ c H (O.out.alloc _) (some ⟨W.heap.size, 0, none⟩) 1 1 (fun _ => pair (F m 0) (F m 1)) (.inr ⟨_, _, rfl⟩) (recs_pair (Box.made W _ _)) (by omega) (by simp; omega) rfl rfl ?_); (intro v9 w9 o9 hg9); (have l9 := own_lo O.out); (have X9 := Lib.hid ((X.out.alloc (.cells #[.int .i64 (F m 0), .int .i64 (F m 1)] 106)).grown hg9 (fun e => by have := l9 _ e.symm; omega))); (have B9 := Lib.hid (below_grown (HB.out.alloc zW (.cells #[.int .i64 (F m 0), .int .i64 (F m 1)] 106)) hg9 (by simp; omega) (fun k e => by have := l9 k e; omega)))
        have O9 := Lib.hid (own_snoc o9 (by decide) (fun j hj => (pair_eta (H := F m) j hj).trans (by rw [HC.out]; exact (HG.out m (by omega) j).symm)))
        clear o9 hg9 l9
        go_wp2
        go_roundw
        case rel => exact ⟨m + 1, by omega, by go_num, by simp, by rw [if_pos (by omega), ← HC.out]; exact O9.out, X9.out, B9.out⟩
        case measure => simp [intOf]; omega
      · rw [if_neg (by omega)] at ho
        have hq : decide (p < m) = false := by simp; omega
        have hq2 : decide (t < F m 1) = false := by have := HP1.out m h; simp; omega
        rw [hq]
        clear hq
        obtain ⟨x0, x1, _, _⟩ := hx.two
        go_wp2_with fail
        go_big_quiet (fail)
        clear x0 x1
        (have O := Lib.hid (own_below ho (below_drewN (Below.refl _ _) nq)); have X := Lib.hid (hx.drewN nq); have HB := Lib.hid (below_drewN hb nq); have e0 : (wr.drewN nq).cell? ⟨b, off + m * 2, none⟩ = some (.int .i64 (F m 0)) := d0; have e1 : (wr.drewN nq).cell? ⟨b, off + m * 2 + 1, none⟩ = some (.int .i64 (F m 1)) := d1; have zW : w.heap.size ≤ (wr.drewN nq).heap.size := zb; have zX : w.heap.size < (wr.drewN nq).heap.size := zx; clear ho hx hb d0 d1 zb zx; generalize wr.drewN nq = W at *)
        obtain ⟨c, hc⟩ : ∃ c, c = m := ⟨_, rfl⟩
        rw [← hc] at O
        have HC := Lib.hid hc
        clear hc
        have hcn : c + 1 ≤ 1048600 := by have := HC.out; omega
        go_wp2_with (at_builtin; refine wpList_app_recs rfl (.tmp 32) (.tmp 37) 29 (by rfl) (w.heap.size + 1) 106 (.agg #[.int .i64 0, .int .i64 0]) 2 16 Try.underlying29 infEvent rfl (by decide) (by decide) _ c H (O.out.alloc _) (some ⟨W.heap.size, 0, none⟩) 1 1 (fun _ => pair (F m 0) (F m 1)) (.inr ⟨_, _, rfl⟩) (recs_pair (Box.made W _ _)) (by omega) (by simp; omega) rfl rfl ?_); (intro v9 w9 o9 hg9); (have l9 := own_lo O.out); (have X9 := Lib.hid ((X.out.alloc (.cells #[.int .i64 (F m 0), .int .i64 (F m 1)] 106)).grown hg9 (fun e => by have := l9 _ e.symm; omega))); (have B9 := Lib.hid (below_grown (HB.out.alloc zW (.cells #[.int .i64 (F m 0), .int .i64 (F m 1)] 106)) hg9 (by simp; omega) (fun k e => by have := l9 k e; omega)))
        have O9 := Lib.hid (own_snoc o9 (by decide) (fun j hj => (pair_eta (H := F m) j hj).trans (by rw [HC.out]; exact (HL.out m h j).symm)))
        clear o9 hg9 l9
        go_wp2
        go_roundw
        case rel => exact ⟨m + 1, by omega, by go_num, by simp; omega, by rw [if_neg (by omega), ← HC.out]; exact O9.out, X9.out, B9.out⟩
        case measure => simp [intOf]; omega
    · obtain rfl : m = n := by omega
      have HA := Lib.hid hA
      clear hA hlt
      rcases (show p < m ∨ p = m by omega) with h | h
      · rw [if_pos h] at ho
        have hq : decide (p < m) = true := decide_eq_true h
        rw [hq]
        clear hq
        have O := Lib.hid ho
        have HB := Lib.hid hb
        clear ho hb hx
        (obtain ⟨A1, c1, rfl, _, _⟩ := own_recs O.out); go_wp2_with fail; (with_reducible refine (seventsOk_any A m cap F _ (by omega) (HR.out.kept HB.out)).mono ?_); (rintro e w1 ⟨rfl, hb1⟩); (have O1 := Lib.hid (own_below O.out hb1)); (have B1 := Lib.hid (HB.out.trans (hb1.mono HB.out.size))); (have z1 := B1.out.size); (clear O HB hb1)
        rcases Bool.eq_false_or_eq_true (eventsB F m) with s1 | s1
        · have S1 := Lib.hid s1
          rw [s1]
          clear s1
          go_wp2_with fail; (with_reducible refine (seventsOk_big A1 (m + 1) c1 H _ (by omega) (own_rec O1.out)).mono ?_); (rintro e w2 ⟨rfl, hb2⟩); (have O2 := Lib.hid (own_below O1.out hb2)); (have B2 := Lib.hid (B1.out.trans (hb2.mono z1))); (have z2 := B2.out.size); (clear O1 B1 hb2)
          rcases Bool.eq_false_or_eq_true (eventsB H (m + 1)) with s2 | s2
          · have S3 := Lib.hid (show addB F m k t = true by unfold addB; rw [HH.out, S1.out, s2]; rfl)
            rw [s2]
            clear s2
            go_wp2
            go_ret2
            exact add_yes S3.out (by rw [HH.out]; exact own_mono O2.out (by omega)) B2.out
          · have S3 := Lib.hid (show addB F m k t = false by unfold addB; rw [HH.out, S1.out, s2]; rfl)
            rw [s2]
            clear s2 O2 z2
            have B3 := B2
            generalize w2 = w3 at *
            (have z3 := B3.out.size); (have R3 := Lib.hid ((HR.out.kept B3.out).alloc (.cells #[] 106))); (have E3 := Lib.hid (own_rec_empty w3 w.heap.size 106 2 (fun _ _ => 0) z3))
            go_wp2_with (at_builtin; refine wpList_app_recs rfl (.tmp 53) (.tmp 54) 29 (by rfl) w.heap.size 106 (.agg #[.int .i64 0, .int .i64 0]) 2 16 Try.underlying29 infEvent rfl (by decide) (by decide) _ 0 (fun _ _ => 0) E3.out A m cap F HA.out R3.out (by omega) (by simp; omega) rfl rfl ?_); (intro v4 w4 o4 hg4); (rw [catF_zero] at o4); (have O4 := Lib.hid o4); (have B4 := Lib.hid ((B3.out.alloc z3 (.cells #[] 106)).grown hg4 (by simp; omega) (fun k e => by cases e; exact z3))); (clear o4 hg4); go_wp2; go_ret2; exact add_no S3.out O4.out B4.out
        · have S3 := Lib.hid (show addB F m k t = false by unfold addB; rw [s1]; rfl)
          rw [s1]
          clear s1 O1 z1
          have B3 := B1
          generalize w1 = w3 at *
          (have z3 := B3.out.size); (have R3 := Lib.hid ((HR.out.kept B3.out).alloc (.cells #[] 106))); (have E3 := Lib.hid (own_rec_empty w3 w.heap.size 106 2 (fun _ _ => 0) z3))
          go_wp2_with (at_builtin; refine wpList_app_recs rfl (.tmp 53) (.tmp 54) 29 (by rfl) w.heap.size 106 (.agg #[.int .i64 0, .int .i64 0]) 2 16 Try.underlying29 infEvent rfl (by decide) (by decide) _ 0 (fun _ _ => 0) E3.out A m cap F HA.out R3.out (by omega) (by simp; omega) rfl rfl ?_); (intro v4 w4 o4 hg4); (rw [catF_zero] at o4); (have O4 := Lib.hid o4); (have B4 := Lib.hid ((B3.out.alloc z3 (.cells #[] 106)).grown hg4 (by simp; omega) (fun k e => by cases e; exact z3))); (clear o4 hg4); go_wp2; go_ret2; exact add_no S3.out O4.out B4.out
      · subst h
        rw [if_neg (by omega)] at ho
        have hq : decide (p < p) = false := by simp
        rw [hq]
        clear hq
        obtain ⟨x0, x1, _, _⟩ := hx.two
        have OO := Lib.hid ho
        have HBB := Lib.hid hb
        clear ho hb
        have l7 := own_lo OO.out
        go_wp2_with (at_builtin; refine wpList_app_recs rfl (.tmp 41) (.tmp 43) 29 (by rfl) (w.heap.size + 1) 106 (.agg #[.int .i64 0, .int .i64 0]) 2 16 Try.underlying29 infEvent rfl (by decide) (by decide) _ p H (OO.out.alloc _) (some ⟨wr.heap.size, 0, none⟩) 1 1 (fun _ => pair k t) (.inr ⟨_, _, rfl⟩) (recs_pair (Box.made wr _ _)) (by omega) (by simp; omega) rfl rfl ?_)
        intro v7 w7 o7 hg7
        have HB := Lib.hid (below_grown (HBB.out.alloc zb (.cells #[.int .i64 k, .int .i64 t] 106)) hg7 (by simp; omega) (fun k e => by have := l7 k e; omega))
        have O := Lib.hid (own_snoc o7 (by decide) (fun j hj => (HE.out j).symm))
        clear x0 x1 hx OO HBB o7 hg7 l7
        (obtain ⟨A1, c1, rfl, _, _⟩ := own_recs O.out); go_wp2_with fail; (with_reducible refine (seventsOk_any A p cap F _ (by omega) (HR.out.kept HB.out)).mono ?_); (rintro e w1 ⟨rfl, hb1⟩); (have O1 := Lib.hid (own_below O.out hb1)); (have B1 := Lib.hid (HB.out.trans (hb1.mono HB.out.size))); (have z1 := B1.out.size); (clear O HB hb1)
        rcases Bool.eq_false_or_eq_true (eventsB F p) with s1 | s1
        · have S1 := Lib.hid s1
          rw [s1]
          clear s1
          go_wp2_with fail; (with_reducible refine (seventsOk_big A1 (p + 1) c1 H _ (by omega) (own_rec O1.out)).mono ?_); (rintro e w2 ⟨rfl, hb2⟩); (have O2 := Lib.hid (own_below O1.out hb2)); (have B2 := Lib.hid (B1.out.trans (hb2.mono z1))); (have z2 := B2.out.size); (clear O1 B1 hb2)
          rcases Bool.eq_false_or_eq_true (eventsB H (p + 1)) with s2 | s2
          · have S3 := Lib.hid (show addB F p k t = true by unfold addB; rw [HH.out, S1.out, s2]; rfl)
            rw [s2]
            clear s2
            go_wp2
            go_ret2
            exact add_yes S3.out (by rw [HH.out]; exact own_mono O2.out (by omega)) B2.out
          · have S3 := Lib.hid (show addB F p k t = false by unfold addB; rw [HH.out, S1.out, s2]; rfl)
            rw [s2]
            clear s2 O2 z2
            have B3 := B2
            generalize w2 = w3 at *
            (have z3 := B3.out.size); (have R3 := Lib.hid ((HR.out.kept B3.out).alloc (.cells #[] 106))); (have E3 := Lib.hid (own_rec_empty w3 w.heap.size 106 2 (fun _ _ => 0) z3))
            go_wp2_with (at_builtin; refine wpList_app_recs rfl (.tmp 53) (.tmp 54) 29 (by rfl) w.heap.size 106 (.agg #[.int .i64 0, .int .i64 0]) 2 16 Try.underlying29 infEvent rfl (by decide) (by decide) _ 0 (fun _ _ => 0) E3.out A p cap F HA.out R3.out (by omega) (by simp; omega) rfl rfl ?_); (intro v4 w4 o4 hg4); (rw [catF_zero] at o4); (have O4 := Lib.hid o4); (have B4 := Lib.hid ((B3.out.alloc z3 (.cells #[] 106)).grown hg4 (by simp; omega) (fun k e => by cases e; exact z3))); (clear o4 hg4); go_wp2; go_ret2; exact add_no S3.out O4.out B4.out
        · have S3 := Lib.hid (show addB F p k t = false by unfold addB; rw [s1]; rfl)
          rw [s1]
          clear s1 O1 z1
          have B3 := B1
          generalize w1 = w3 at *
          (have z3 := B3.out.size); (have R3 := Lib.hid ((HR.out.kept B3.out).alloc (.cells #[] 106))); (have E3 := Lib.hid (own_rec_empty w3 w.heap.size 106 2 (fun _ _ => 0) z3))
          go_wp2_with (at_builtin; refine wpList_app_recs rfl (.tmp 53) (.tmp 54) 29 (by rfl) w.heap.size 106 (.agg #[.int .i64 0, .int .i64 0]) 2 16 Try.underlying29 infEvent rfl (by decide) (by decide) _ 0 (fun _ _ => 0) E3.out A p cap F HA.out R3.out (by omega) (by simp; omega) rfl rfl ?_); (intro v4 w4 o4 hg4); (rw [catF_zero] at o4); (have O4 := Lib.hid o4); (have B4 := Lib.hid ((B3.out.alloc z3 (.cells #[] 106)).grown hg4 (by simp; omega) (fun k e => by cases e; exact z3))); (clear o4 hg4); go_wp2; go_ret2; exact add_no S3.out O4.out B4.out
end Go.Proofs.Ytgfcmeiffhffaaa
