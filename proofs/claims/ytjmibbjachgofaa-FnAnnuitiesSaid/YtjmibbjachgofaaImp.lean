/- Contract of the program's Improve. -/
import Derived.Test.YtjmibbjachgofaaClone
import Derived.Test.YtjmibbjachgofaaTabY
import Derived.Test.YtjmibbjachgofaaIntT
import Derived.Deep.RegionHeld3
import Derived.Deep.DeepCutAuto
namespace Go.Proofs.Ytjmibbjachgofaa
open Go.RowKit

/-- A number of the table after k years. -/
def impV (p v : Int) : Nat → Int
  | 0 => v
  | k + 1 => impV p v k * (100 - p) / 100
def impB (f : Int) (n : Nat) (F : Nat → Int) (p y : Int) : Bool := tableB f n F && inB p 0 100 && inB y 0 200
def impR (f : Int) (n : Nat) (F : Nat → Int) (p y : Int) (i : Nat) : Int := if impB f n F p y = true ∧ i + 1 < n then impV p (F i) y.toNat else F i
theorem impV_bd {p v : Int} (p0 : 0 ≤ p) (p1 : p ≤ 100) (v0 : 0 ≤ v) (v1 : v ≤ 1000000) : ∀ k, 0 ≤ impV p v k ∧ impV p v k ≤ 1000000
  | 0 => ⟨v0, v1⟩
  | k + 1 => by
    obtain ⟨a, b⟩ := impV_bd p0 p1 v0 v1 k
    have c : 0 ≤ impV p v k * (100 - p) := Int.mul_nonneg a (by omega)
    have d : impV p v k * (100 - p) ≤ 1000000 * 100 := Int.mul_le_mul b (by omega) (by omega) (by omega)
    simp only [impV]
    omega
/-- The numbers while the loops run: those below i are done, number i has gone through k years. -/
def impG (p : Int) (y : Nat) (F : Nat → Int) (i k : Nat) (j : Nat) : Int := if j < i then impV p (F j) y else if j = i then impV p (F j) k else F j
set_option maxHeartbeats 2000000 in
theorem improve_any (f : Int) (A : Option Addr) (n cap : Nat) (F : Nat → Int) (p y : Int) (w : World) (hn : n ≤ 1048576) (hA : Headed A cap) (hr : Row w .i64 A n F) :
    Calls Try.prog 31 #[.agg #[.int .i64 f, .slice A n cap], .int .i64 p, .int .i64 y] w (TableQ f n (impR f n F p y) w) := by
  have HR := Lib.hid ((hr.alloc (.cells #[.int .i64 f, .slice A n cap] 39)).alloc (.cells #[.int .i64 0, .slice none 0 0] 39))
  have HR0 := Lib.hid hr
  clear hr
  unfold TableQ
  go_enter Try.func31, Try.ntmps31
  go_wp2_with fail
  have T1 : Box ((w.alloc (.cells #[.int .i64 f, .slice A n cap] 39)).alloc (.cells #[.int .i64 0, .slice none 0 0] 39)) w.heap.size 39 #[.int .i64 f, .slice A n cap] := by (repeat (first | with_reducible assumption | with_reducible exact Box.made _ _ _ | (with_reducible refine Box.made_at ?hg; case hg => (simp; done)) | with_reducible refine Box.drew ?_ | with_reducible refine Box.alloc ?_ _ | (with_reducible refine Box.put2 (a := .int .i64 0) (b := .int .i64 0) ?_ _ _) | (with_reducible refine Box.far ?_ ?hg _; case hg => ((try simp) <;> (try omega))) | with_reducible refine Box.kept ?_ (by with_reducible assumption)))
  have X1 : Box ((w.alloc (.cells #[.int .i64 f, .slice A n cap] 39)).alloc (.cells #[.int .i64 0, .slice none 0 0] 39)) (w.heap.size + 1) 39 #[.int .i64 0, .slice none 0 0] := by (repeat (first | with_reducible assumption | with_reducible exact Box.made _ _ _ | (with_reducible refine Box.made_at ?hg; case hg => (simp; done)) | with_reducible refine Box.drew ?_ | with_reducible refine Box.alloc ?_ _ | (with_reducible refine Box.put2 (a := .int .i64 0) (b := .int .i64 0) ?_ _ _) | (with_reducible refine Box.far ?_ ?hg _; case hg => ((try simp) <;> (try omega))) | with_reducible refine Box.kept ?_ (by with_reducible assumption)))
  have B1 : Below w.heap.size w ((w.alloc (.cells #[.int .i64 f, .slice A n cap] 39)).alloc (.cells #[.int .i64 0, .slice none 0 0] 39)) := by (repeat (first | with_reducible exact Below.refl _ _ | with_reducible refine Below.drew ?_ | (with_reducible refine Below.alloc ?_ ?hsz _; case hsz => ((try simp) <;> (try omega))) | (with_reducible refine Below.setCell ?_ ?hsz _; case hsz => ((try simp) <;> (try omega))) | (with_reducible refine below_step (by with_reducible assumption) ?hsz ?_; case hsz => ((try simp) <;> (try omega)))))
  generalize (w.alloc (.cells #[.int .i64 f, .slice A n cap] 39)).alloc (.cells #[.int .i64 0, .slice none 0 0] 39) = W at *
  have l1 := X1.lt
  have l2 := T1.lt
  obtain ⟨t1, t2, t3, t4⟩ := T1.two
  go_cut [7] (fun s7 wx => ∃ (g : Nat) (A2 : Option Addr) (c2 : Nat), s7 = .pointer (some ⟨g, 0, none⟩) ∧ Below w.heap.size w wx ∧ Box wx w.heap.size 39 #[.int .i64 f, .slice A n cap] ∧ Box wx (w.heap.size + 1) 39 #[.int .i64 0, .slice none 0 0] ∧ Box wx g 39 #[.int .i64 f, .slice A2 n c2] ∧ wx.ownsRow w.heap.size 3 1 (.slice A2 n c2) n (ints F n) ∧ w.heap.size + 1 < g)
  case first =>
    go_region_held3 (fun w' => w'.cell? ⟨w.heap.size, 0, none⟩ = some (.int .i64 f) ∧ w'.cell? ⟨w.heap.size, 1, none⟩ = some (.slice A n cap)) (simp [go_sem, *])
      (first | (go_at_call 60; (with_reducible refine (cloneInts_any A n cap F _ hn hA (by repeat (first | exact HR.out | with_reducible refine Row.drew ?_ | with_reducible refine Row.alloc ?_ _))).mono ?_); rintro e w4 ⟨v, rfl, o4, hb4⟩; obtain ⟨A4, c4, rfl, _⟩ := own_row o4; have RR4 := Lib.hid o4; clear o4; obtain ⟨hc4, hf4⟩ := bcell hb4; (try simp only [World.size_drew] at hc4 hf4); have s4 := hb4.size; (try simp only [World.size_drew] at s4); (try simp only [World.size_alloc] at s4); (try have u8 := Nat.lt_of_succ_le s4); have u1 : w.heap.size < w4.heap.size := (by omega)))
    all_goals go_goals
    all_goals
      go_wp2_with fail
      go_meet
      refine ⟨_, A4, c4, rfl, ?_, ?_, ?_, ?_, ?_, ?_⟩
    all_goals first | ((repeat (first | with_reducible assumption | with_reducible exact Box.made _ _ _ | (with_reducible refine Box.made_at ?hg; case hg => (simp; done)) | with_reducible refine Box.drew ?_ | with_reducible refine Box.alloc ?_ _ | (with_reducible refine Box.put2 (a := .int .i64 0) (b := .slice none 0 0) ?_ _ _) | (with_reducible refine Box.far ?_ ?hg _; case hg => ((try simp) <;> (try omega))) | with_reducible refine Box.kept ?_ (by with_reducible assumption))); done) | ((repeat (first | with_reducible exact Below.refl _ _ | with_reducible refine Below.drew ?_ | (with_reducible refine Below.alloc ?_ ?hsz _; case hsz => ((try simp) <;> (try omega))) | (with_reducible refine Below.setCell ?_ ?hsz _; case hsz => ((try simp) <;> (try omega))) | (with_reducible refine below_step (by with_reducible assumption) ?hsz ?_; case hsz => ((try simp) <;> (try omega))))); done) | omega | (refine own_mono (RR4.out.alloc _) ?_; first | omega | (simp; omega)) | (have bx : Box w4 W.heap.size 39 #[.int .i64 0, .slice none 0 0] := (by (repeat (first | with_reducible assumption | with_reducible exact Box.made _ _ _ | (with_reducible refine Box.made_at ?hg; case hg => (simp; done)) | with_reducible refine Box.drew ?_ | with_reducible refine Box.alloc ?_ _ | (with_reducible refine Box.put2 (a := .int .i64 0) (b := .slice none 0 0) ?_ _ _) | (with_reducible refine Box.far ?_ ?hg _; case hg => ((try simp) <;> (try omega))) | with_reducible refine Box.kept ?_ (by with_reducible assumption)))); refine own_mono (own_setBox (own_setBox RR4.out bx (by decide) _ _) (bx.put _ _) (by decide) _ _) ?_; first | omega | (simp; omega)) | trace_state
  case rest =>
    obtain ⟨g, A2, c2', rfl, hbx, x1, x2, x3, ho, lg⟩ := hcut
    have HW := Lib.hid (HR0.out.kept hbx)
    have lz := hbx.size
    have lg2 := x3.lt
    obtain ⟨t1, t2, t3, t4⟩ := x1.two
    obtain ⟨e1, e2, e3, e4⟩ := x3.two
    obtain ⟨f1, f2, f3, f4⟩ := x2.two
    have lx2 := x2.lt
    rcases Bool.eq_false_or_eq_true (tableB f n F) with c1 | c1 <;> rcases Bool.eq_false_or_eq_true (inB p 0 100) with c2 | c2 <;> rcases Bool.eq_false_or_eq_true (inB y 0 200) with c3 | c3
    · obtain ⟨_, _, tn0, tn1, _, tF, _⟩ := tableB_true c1
      obtain ⟨p0, p1⟩ := inB_true.1 c2
      obtain ⟨y0, y1⟩ := inB_true.1 c3
      obtain ⟨m, rfl⟩ := Int.eq_ofNat_of_zero_le y0
      have hb : impB f n F p m = true := by simp [impB, c1, c2, c3]
      obtain ⟨A3, c3', hv, _, _, hat⟩ := own_row ho
      cases hv
      obtain ⟨ga, rfl, hg1, hg2, _, _⟩ := hat (by omega)
      have HO := Lib.hid (own_congr (G := impG p m F 0 0) ho (fun i _ => by simp only [impG]; split; omega; split <;> rfl))
      clear ho hat
      go_wp2_with (first | (go_at_call 33; (with_reducible refine (tableOk_any f _ n cap F _ (by omega) HW.out).mono ?_); rintro e w1 ⟨rfl, hb1⟩; obtain ⟨hc1, hf1⟩ := bcell hb1; (try simp only [World.size_drew] at hc1 hf1); have hz1 := hb1.size; (try simp at hz1); (try have q1_0 : w.heap.size < w1.heap.size := by omega); (try have q1_1 : w.heap.size + 1 < w1.heap.size := by omega); (try have q1_2 : w.heap.size + 2 < w1.heap.size := by omega); (try have q1_3 : w.heap.size + 3 < w1.heap.size := by omega); (try have q1_4 : w.heap.size + 4 < w1.heap.size := by omega); (try have q1_0_0 : w0.heap.size < w1.heap.size := by omega); (try have q1_0_1 : w0.heap.size + 1 < w1.heap.size := by omega); (try have q1_2_0 : w2.heap.size < w1.heap.size := by omega); (try have q1_2_1 : w2.heap.size + 1 < w1.heap.size := by omega); (try have q1_3_0 : w3.heap.size < w1.heap.size := by omega); (try have q1_3_1 : w3.heap.size + 1 < w1.heap.size := by omega); (try have q1_4_0 : w4.heap.size < w1.heap.size := by omega); (try have q1_4_1 : w4.heap.size + 1 < w1.heap.size := by omega); (try have q1_5_0 : w5.heap.size < w1.heap.size := by omega); (try have q1_5_1 : w5.heap.size + 1 < w1.heap.size := by omega); (try have q1_6_0 : w6.heap.size < w1.heap.size := by omega); (try have q1_6_1 : w6.heap.size + 1 < w1.heap.size := by omega); (try have u1_b : b < w1.heap.size := by omega); (try have u1_q : q < w1.heap.size := by omega); (try have u1_g : g < w1.heap.size := by omega); (try have u1_g1 : g1 < w1.heap.size := by omega); (try have u1_g2 : g2 < w1.heap.size := by omega); (try have u1_g3 : g3 < w1.heap.size := by omega); (try have u1_g4 : g4 < w1.heap.size := by omega); (try have u1_g5 : g5 < w1.heap.size := by omega)) | (go_at_call 55; (with_reducible refine (within_any p 0 100 _).mono ?_); rintro e w' ⟨rfl, rfl⟩) | (go_at_call 55; (with_reducible refine (within_any m 0 200 _).mono ?_); rintro e w' ⟨rfl, rfl⟩))
      have y2 := x2.kept hb1
      have y3 := x3.kept hb1
      have O1 := own_below HO.out hb1
      have B1' : Below w.heap.size w w1 := hbx.trans (hb1.mono (by omega))
      clear hb1 hc1 hf1 HO HW x1 x2 x3 hbx e1 e2 e3 e4 f1 f2 f3 f4 t1 t2 t3 t4
      go_loopw [33] (fun s wr => ∃ i : Nat, i + 1 ≤ n ∧ s = .int .i64 i ∧ wr.ownsRow w.heap.size 3 1 (.slice (some ⟨ga, 0, none⟩) n c2') n (ints (impG p m F i 0) n) ∧ Below w.heap.size w wr ∧ Box wr (w.heap.size + 1) 39 #[.int .i64 0, .slice none 0 0] ∧ Box wr g 39 #[.int .i64 f, .slice (some ⟨ga, 0, none⟩) n c2']) (fun s _ => n - (intOf s).toNat)
      case atStart => exact ⟨0, by omega, rfl, O1, B1', y2, y3⟩
      case round =>
        obtain ⟨i, hi, rfl, ho, hbw, x2, x3⟩ := hrel
        by_cases hlt : i + 1 < n
        · have hd : ((i : Int) < (n : Int) - 1) = True := by simp; omega
          go_wp2_with fail
          obtain ⟨v0, v1⟩ := tF i (by omega)
          obtain ⟨wo, rfl⟩ : ∃ wo : World, wo = wr := ⟨_, rfl⟩
          go_loopw [37] (fun s ws => ∃ j : Nat, j ≤ m ∧ s = .int .i64 j ∧ ws.ownsRow w.heap.size 3 1 (.slice (some ⟨ga, 0, none⟩) n c2') n (ints (impG p m F i j) n) ∧ Below w.heap.size w ws ∧ Box ws (w.heap.size + 1) 39 #[.int .i64 0, .slice none 0 0] ∧ Box ws g 39 #[.int .i64 f, .slice (some ⟨ga, 0, none⟩) n c2']) (fun s _ => m - (intOf s).toNat)
          case atStart => exact ⟨0, Nat.zero_le _, rfl, ho, hbw, x2, x3⟩
          case round =>
            obtain ⟨j, hj, rfl, hoj, hbj, z2, z3⟩ := hrel
            by_cases hlj : j < m
            · obtain ⟨A4, c4, hv, _, _, hat⟩ := own_row hoj
              cases hv
              obtain ⟨g4, he, _, hg4, hcell, hfz⟩ := hat (by omega)
              cases he
              have hci := hcell i (by omega)
              have hfi := hfz i
              have hGi : impG p m F i j i = impV p (F i) j := by simp [impG]
              rw [hGi] at hci
              obtain ⟨b0, b1⟩ := impV_bd p0 p1 v0 v1 j
              have b2 : 0 ≤ impV p (F i) j * (100 - p) := Int.mul_nonneg b0 (by omega)
              have b3 : impV p (F i) j * (100 - p) ≤ 100000000 := Int.le_trans (Int.mul_le_mul b1 (show 100 - p ≤ 100 by omega) (by omega) (by omega)) (by omega)
              obtain ⟨e1, e2, e3, e4⟩ := z3.two
              have lz3 := z3.lt
              have hne := own_box_ne hoj z3 (by decide)
              have hn2 := own_box_ne hoj z2 (by decide)
              have hii : (i : Int) < (n : Int) := by omega
              have hi0 : (0 : Int) ≤ (i : Int) := by omega
              clear hcell hfz hat
              go_wp2_with fail
              go_region_with (skip)
              all_goals
                go_wp2_with fail
                go_roundw
                case rel => exact ⟨j + 1, by omega, by go_num, by first | exact own_congr (G := impG p m F i (j + 1)) (own_set hoj (show i < n by omega) (impV p (F i) j * (100 - p) / 100)) (fun t _ => by simp only [impG]; (repeat' split) <;> first | rfl | omega | (subst_vars; rfl)) | exact (own_congr (G := impG p m F i (j + 1)) (own_set hoj (show i < n by omega) (impV p (F i) j * (100 - p) / 100)) (fun t _ => by simp only [impG]; (repeat' split) <;> first | rfl | omega | (subst_vars; rfl))).drew, by first | exact hbj.setCell hg1 _ | exact (hbj.setCell hg1 _).drew, by first | exact z2.far (fun e => hn2 (by simp [Value.ownBlock, e])) _ | exact (z2.far (fun e => hn2 (by simp [Value.ownBlock, e])) _).drew, by first | exact z3.far (fun e => hne (by simp [Value.ownBlock, e])) _ | exact (z3.far (fun e => hne (by simp [Value.ownBlock, e])) _).drew⟩
                case measure => simp [intOf]; omega
            · obtain rfl : j = m := by omega
              go_wp2
              go_roundw
              case rel => exact ⟨i + 1, by omega, by go_num, own_congr (G := impG p j F (i + 1) 0) hoj (fun t _ => by simp only [impG]; (repeat' split) <;> first | rfl | omega | (subst_vars; rfl)), hbj, z2, z3⟩
              case measure => simp [intOf]; omega
        · have hi' : i + 1 = n := by omega
          obtain ⟨e1, e2, e3, e4⟩ := x3.two
          obtain ⟨f1, f2, f3, f4⟩ := x2.two
          have lz3 := x3.lt
          have hd : ((i : Int) < (n : Int) - 1) = False := by simp; omega
          go_wp2
          exact bodyPost_ret (v := .agg #[.int .i64 f, .slice (some ⟨ga, 0, none⟩) n c2']) (by simp [results, Try.results31, go_sem, *]) rfl ⟨_, c2', rfl, own_setBox (own_setBox (own_congr (G := impR f n F p m) ho (fun t ht => by simp only [impG, impR, hb, true_and, Int.toNat_natCast]; (repeat' split) <;> first | rfl | omega)) x2 (by decide) _ _) (x2.put _ _) (by decide) _ _, by (repeat (first | with_reducible exact Below.refl _ _ | with_reducible refine Below.drew ?_ | (with_reducible refine Below.alloc ?_ ?hsz _; case hsz => ((try simp) <;> (try omega))) | (with_reducible refine Below.setCell ?_ ?hsz _; case hsz => ((try simp) <;> (try omega))) | (with_reducible refine below_step (by with_reducible assumption) ?hsz ?_; case hsz => ((try simp) <;> (try omega)))))⟩
    all_goals
      have hb : impB f n F p y = false := by simp [impB, c1, c2, c3]
      have HO := Lib.hid (own_congr (G := impR f n F p y) ho (fun i _ => by simp [impR, hb]))
      clear ho hb
      go_wp2_with (first | (go_at_call 33; (with_reducible refine (tableOk_any f A n cap F _ (by omega) HW.out).mono ?_); rintro e w1 ⟨rfl, hb1⟩; obtain ⟨hc1, hf1⟩ := bcell hb1; (try simp only [World.size_drew] at hc1 hf1); have hz1 := hb1.size; (try simp at hz1); (try have q1_0 : w.heap.size < w1.heap.size := by omega); (try have q1_1 : w.heap.size + 1 < w1.heap.size := by omega); (try have q1_2 : w.heap.size + 2 < w1.heap.size := by omega); (try have q1_3 : w.heap.size + 3 < w1.heap.size := by omega); (try have q1_4 : w.heap.size + 4 < w1.heap.size := by omega); (try have q1_0_0 : w0.heap.size < w1.heap.size := by omega); (try have q1_0_1 : w0.heap.size + 1 < w1.heap.size := by omega); (try have q1_2_0 : w2.heap.size < w1.heap.size := by omega); (try have q1_2_1 : w2.heap.size + 1 < w1.heap.size := by omega); (try have q1_3_0 : w3.heap.size < w1.heap.size := by omega); (try have q1_3_1 : w3.heap.size + 1 < w1.heap.size := by omega); (try have q1_4_0 : w4.heap.size < w1.heap.size := by omega); (try have q1_4_1 : w4.heap.size + 1 < w1.heap.size := by omega); (try have q1_5_0 : w5.heap.size < w1.heap.size := by omega); (try have q1_5_1 : w5.heap.size + 1 < w1.heap.size := by omega); (try have q1_6_0 : w6.heap.size < w1.heap.size := by omega); (try have q1_6_1 : w6.heap.size + 1 < w1.heap.size := by omega); (try have u1_b : b < w1.heap.size := by omega); (try have u1_q : q < w1.heap.size := by omega); (try have u1_g : g < w1.heap.size := by omega); (try have u1_g1 : g1 < w1.heap.size := by omega); (try have u1_g2 : g2 < w1.heap.size := by omega); (try have u1_g3 : g3 < w1.heap.size := by omega); (try have u1_g4 : g4 < w1.heap.size := by omega); (try have u1_g5 : g5 < w1.heap.size := by omega)) | (go_at_call 55; (with_reducible refine (within_any p 0 100 _).mono ?_); rintro e w' ⟨rfl, rfl⟩) | (go_at_call 55; (with_reducible refine (within_any y 0 200 _).mono ?_); rintro e w' ⟨rfl, rfl⟩))
      have y2 := x2.kept hb1
      have O1 := own_below HO.out hb1
      exact bodyPost_ret (v := .agg #[.int .i64 f, .slice A2 n c2']) (by simp [results, Try.results31, go_sem, *]) rfl ⟨A2, c2', rfl, own_setBox (own_setBox O1 y2 (by decide) _ _) (y2.put _ _) (by decide) _ _, by (repeat (first | with_reducible exact Below.refl _ _ | with_reducible refine Below.drew ?_ | (with_reducible refine Below.alloc ?_ ?hsz _; case hsz => ((try simp) <;> (try omega))) | (with_reducible refine Below.setCell ?_ ?hsz _; case hsz => ((try simp) <;> (try omega))) | (with_reducible refine below_step (by with_reducible assumption) ?hsz ?_; case hsz => ((try simp) <;> (try omega)))))⟩
end Go.Proofs.Ytjmibbjachgofaa
