/- Contract of the program's Allocate, at one to ten weights of a hundred at most and of more than a hundred together. -/
import Derived.Test.YtoebibgkpmppdaaInsA
import Derived.Test.YtoebibgkpmppdaaTabW
import Derived.Test.YtoebibgkpmppdaaList
import Derived.Maps.AppendAt
namespace Go.Proofs.Ytoebibgkpmppdaa
open Go.RowKit

theorem own_box_lo {w w' : World} {base : Nat} {e : TypeId} {v : Value} {n : Nat} {xs : List Value} {g : Nat} {t : TypeId} {cs : Array Value} (h : w.ownsRow base e 1 v n xs) (hx : Box w g t cs) (hg : g < base) (hgr : w.grownBy w' v.ownBlock) : Box w' g t cs :=
  hx.grown hgr (box_apart_lt hg (own_lo h))
theorem own_below_lo {w0 w w' : World} {B base : Nat} {e : TypeId} {v : Value} {n : Nat} {xs : List Value} (h : w.ownsRow base e 1 v n xs) (hb : Below B w0 w) (hB : B ≤ base) (hw : B ≤ w.heap.size) (hgr : w.grownBy w' v.ownBlock) : Below B w0 w' :=
  hb.grown hgr hw (fun b hb => Nat.le_trans hB (own_lo h b hb))
theorem apart_new {w : World} {base : Nat} {e : TypeId} {v v1 v2 : Value} {n : Nat} {xs : List Value} {g : Nat} (h : w.ownsRow base e 1 v2 n xs) (hg : w.heap.size ≤ g) (hne : v.ownBlock ≠ v2.ownBlock) (h1 : v1.ownBlock = v.ownBlock ∨ v1.ownBlock = some g) : v1.ownBlock ≠ v2.ownBlock := by
  rcases h1 with h1 | h1
  · rw [h1]; exact hne
  · rw [h1]
    intro e
    have := own_hi h g e.symm
    omega
theorem own_empty_up {w : World} {base g : Nat} {e : TypeId} (hb : base ≤ w.heap.size) (hg : g = w.heap.size) : (w.alloc (.cells #[] e)).ownsRow base e 1 (.slice (some ⟨g, 0, none⟩) 0 0) 0 [] := by
  subst hg
  exact own_empty w base e hb
theorem own_capA {w : World} {base : Nat} {e : TypeId} {g n c : Nat} {xs : List Value} (h : w.ownsRow base e 1 (.slice (some ⟨g, 0, none⟩) n c) n xs) : n ≤ c := by
  rcases h.2 with ⟨h1, _⟩ | ⟨g', cap, cur, hv, hg, hh, hnc, hcm, hcs, hx⟩
  · cases h1
  · cases hv; omega
theorem upJ_one {T : Int} {W : Nat → Int} {n : Nat} (hp : Parts T W n) {j i : Nat} (hj : j ≤ n) (hi : i < n) : 0 ≤ upJ (alG T W n) (alF T W n) j i ∧ upJ (alG T W n) (alF T W n) j i ≤ 1000000001 := by
  have h1 := hp.f hi
  have h2 := hp.t1
  rcases upJ_bd (G := alG T W n) (f := alF T W n) (m := n) (fun i j hij hj => alG_ne hij hj) i j hj with ⟨h, _⟩ | ⟨h, _⟩ <;> omega
set_option maxRecDepth 100000 in
set_option maxHeartbeats 8000000 in
theorem allocate_any (A : Option Addr) (n cap : Nat) (T : Int) (W : Nat → Int) (w : World) (hp : Parts T W n) (hr : Row w .i64 A n W) :
    Calls Try.prog 44 #[.int .i64 T, .slice A n cap] w (IntsQ n (alcG T W n) w) := by
  obtain ⟨i0, hi0, iz0, iz1, iz2⟩ := info_parts int_inf
  have n1 := hp.n1
  have n2 := hp.n2
  have s0 := hp.s
  have s1 := hp.s1
  have t0 := hp.t0
  have t1 := hp.t1
  have q1 : inB T 0 1000000000 = true := inB_true.2 ⟨t0, t1⟩
  have q2 : inB (n : Int) 1 40 = true := inB_true.2 (by omega)
  have q3 : allB (fun i => inB (W i) 0 1000000) n = true := allB_iff.2 fun i hi => inB_true.2 (by have := hp.w i hi; omega)
  have q4 : (sumI W n == 0) = false := by simp; omega
  have HP := Lib.hid hp
  have HR := Lib.hid hr
  clear hr hp
  go_enter Try.func44, Try.ntmps44
  go_wp2_with fail
  go_loopw [17] (fun i wr => ∃ m : Nat, m ≤ n ∧ i = .int .i64 m ∧ Below w.heap.size w wr ∧ Box wr w.heap.size 3 #[.int .i64 T] ∧ Box wr (w.heap.size + 1) 29 #[.slice A n cap] ∧ Box wr (w.heap.size + 2) 3 #[.int .i64 (sumI W m)]) (fun i _ => n - (intOf i).toNat)
  case atStart =>
    refine ⟨0, Nat.zero_le _, rfl, ?_, ?_, ?_, ?_⟩
    · (repeat (first | with_reducible exact Below.refl _ _ | with_reducible refine Below.drew ?_ | (with_reducible refine Below.alloc ?_ ?hsz _; case hsz => ((try simp) <;> (try omega))) | (with_reducible refine Below.setCell ?_ ?hsz _; case hsz => ((try simp) <;> (try omega))) | (with_reducible refine below_step (by with_reducible assumption) ?hsz ?_; case hsz => ((try simp) <;> (try omega)))))
    · (repeat (first | with_reducible assumption | with_reducible exact Box.made _ _ _ | (with_reducible refine Box.made_at ?hg; case hg => (simp; done)) | with_reducible refine Box.drew ?_ | with_reducible refine Box.alloc ?_ _ | (with_reducible refine Box.put2 (a := .int .i64 0) (b := .int .i64 0) ?_ _ _) | (with_reducible refine Box.far ?_ ?hg _; case hg => ((try simp) <;> (try omega))) | with_reducible refine Box.kept ?_ (by with_reducible assumption)))
    · (repeat (first | with_reducible assumption | with_reducible exact Box.made _ _ _ | (with_reducible refine Box.made_at ?hg; case hg => (simp; done)) | with_reducible refine Box.drew ?_ | with_reducible refine Box.alloc ?_ _ | (with_reducible refine Box.put2 (a := .int .i64 0) (b := .int .i64 0) ?_ _ _) | (with_reducible refine Box.far ?_ ?hg _; case hg => ((try simp) <;> (try omega))) | with_reducible refine Box.kept ?_ (by with_reducible assumption)))
    · exact Box.made_at (by simp)
  case round =>
    obtain ⟨m, hm, rfl, hbw, x0, x1, x2⟩ := hrel
    have l2 := x2.lt
    by_cases hlt : m < n
    · obtain ⟨b, off, rfl, hb, ck⟩ := HR.out.hid hlt
      have dk : wr.cell? ⟨b, off + m, none⟩ = some (.int .i64 (W m)) := (hbw.cell (p := ⟨b, off + m, none⟩) hb).trans ck
      have e2 := x2.cell 0
      have f2 := x2.frozen 0
      have hmi : (m : Int) < (n : Int) := by omega
      have hm0 : (0 : Int) ≤ (m : Int) := by omega
      obtain ⟨w0, w1⟩ := HP.out.w m hlt
      obtain ⟨u0, u1⟩ := sumI_bd (f := W) (n := m) (fun i hi => HP.out.w i (by omega))
      clear ck hb
      go_wp2
      go_roundw
      case rel => exact ⟨m + 1, by omega, by go_num, hbw.setCell (p := ⟨w.heap.size + 2, 0, none⟩) (by show w.heap.size ≤ w.heap.size + 2; omega) _, x0.far (p := ⟨w.heap.size + 2, 0, none⟩) (by show w.heap.size ≠ w.heap.size + 2; omega) _, x1.far (p := ⟨w.heap.size + 2, 0, none⟩) (by show w.heap.size + 1 ≠ w.heap.size + 2; omega) _, x2.put 0 _⟩
      case measure => simp [intOf]; omega
    · obtain rfl : n = m := by omega
      have RW := Lib.hid (HR.out.kept hbw)
      have e0 := x0.cell 0
      have e1 := x1.cell 0
      have e2 := x2.cell 0
      have l0 := x0.lt
      have l1 := x1.lt
      have HB := Lib.hid hbw
      clear hbw
      go_wp2_with (first | (go_at_call 37; (with_reducible refine (within_any T 0 1000000000 _).mono ?_); rintro e w' ⟨rfl, rfl⟩) | (go_at_call 37; (with_reducible refine (within_any n 1 40 _).mono ?_); rintro e w' ⟨rfl, rfl⟩) | (go_at_call 50; (with_reducible refine (allWithin_any A n cap W 0 1000000 _ (by omega) RW.out).mono ?_); rintro e w1 ⟨rfl, hb1⟩; obtain ⟨hc1, hf1⟩ := bcell hb1; (try simp only [World.size_drew] at hc1 hf1); have hz1 := hb1.size; (try simp at hz1); (try have q1_0 : w.heap.size < w1.heap.size := by omega); (try have q1_1 : w.heap.size + 1 < w1.heap.size := by omega); (try have q1_2 : w.heap.size + 2 < w1.heap.size := by omega); (try have q1_3 : w.heap.size + 3 < w1.heap.size := by omega); (try have q1_4 : w.heap.size + 4 < w1.heap.size := by omega); (try have q1_0_0 : w0.heap.size < w1.heap.size := by omega); (try have q1_0_1 : w0.heap.size + 1 < w1.heap.size := by omega); (try have q1_2_0 : w2.heap.size < w1.heap.size := by omega); (try have q1_2_1 : w2.heap.size + 1 < w1.heap.size := by omega); (try have q1_3_0 : w3.heap.size < w1.heap.size := by omega); (try have q1_3_1 : w3.heap.size + 1 < w1.heap.size := by omega); (try have q1_4_0 : w4.heap.size < w1.heap.size := by omega); (try have q1_4_1 : w4.heap.size + 1 < w1.heap.size := by omega); (try have q1_5_0 : w5.heap.size < w1.heap.size := by omega); (try have q1_5_1 : w5.heap.size + 1 < w1.heap.size := by omega); (try have q1_6_0 : w6.heap.size < w1.heap.size := by omega); (try have q1_6_1 : w6.heap.size + 1 < w1.heap.size := by omega); (try have u1_b : b < w1.heap.size := by omega); (try have u1_q : q < w1.heap.size := by omega); (try have u1_g : g < w1.heap.size := by omega); (try have u1_g1 : g1 < w1.heap.size := by omega); (try have u1_g2 : g2 < w1.heap.size := by omega); (try have u1_g3 : g3 < w1.heap.size := by omega); (try have u1_g4 : g4 < w1.heap.size := by omega); (try have u1_g5 : g5 < w1.heap.size := by omega)))
      have B1 := Lib.hid (HB.out.trans (hb1.mono (by omega)))
      have Y0 := Lib.hid (x0.kept hb1)
      have Y1 := Lib.hid (x1.kept hb1)
      have Y2 := Lib.hid (x2.kept hb1)
      have R1 := Lib.hid (RW.out.kept hb1)
      have z1 := Y2.out.lt
      clear hb1 hc1 hf1 HB RW x0 x1 x2 e0 e1 e2 l0 l1 l2 q1 q2 q3 q4
      go_loopw [8, 9, 10, 48] (fun v1 v2 l i wx => ∃ m : Nat, m ≤ n ∧ i = .int .i64 m ∧ l = .int .i64 (T - sumI (alF T W n) m) ∧ wx.ownsRow (w.heap.size + 3) 3 1 v1 m (ints (alF T W n) m) ∧ wx.ownsRow (w.heap.size + 3) 3 1 v2 m (ints (fun i => (i : Int)) m) ∧ v1.ownBlock ≠ v2.ownBlock ∧ Below w.heap.size w wx ∧ Box wx w.heap.size 3 #[.int .i64 T] ∧ Box wx (w.heap.size + 1) 29 #[.slice A n cap] ∧ Box wx (w.heap.size + 2) 3 #[.int .i64 (sumI W n)]) (fun _ _ _ i _ => n - (intOf i).toNat)
      case atStart =>
        refine ⟨0, Nat.zero_le _, rfl, by simp [sumI], (own_empty w1 _ _ (by omega)).alloc _, own_empty_up (by simp; omega) (by simp), ?_, (B1.out.alloc (by omega) _).alloc (by simp; omega) _, (Y0.out.alloc _).alloc _, (Y1.out.alloc _).alloc _, (Y2.out.alloc _).alloc _⟩
        simp [Value.ownBlock]
      case round =>
        obtain ⟨m, hm, rfl, rfl, ho1, ho2, hne, hbw, x0, x1, x2⟩ := hrel
        have l2 := x2.lt
        by_cases hlt : m < n
        · obtain ⟨b, off, e, hb, ck⟩ := HR.out.hid hlt
          have dk : wr.cell? ⟨b, off + m, none⟩ = some (.int .i64 (W m)) := (hbw.cell (p := ⟨b, off + m, none⟩) hb).trans ck
          have e0 := x0.cell 0
          have e2 := x2.cell 0
          have l0 := x0.lt
          have hmi : (m : Int) < (n : Int) := by omega
          have hm0 : (0 : Int) ≤ (m : Int) := by omega
          obtain ⟨p0, p1⟩ := HP.out.p hlt
          obtain ⟨f0, f1⟩ := HP.out.f hlt
          obtain ⟨u0, u1⟩ := sumI_bd (f := alF T W n) (n := m) (lo := 0) (hi := 1000000000) (fun i hi => by have := HP.out.f (i := i) (by omega); omega)
          have mi : (T * W m).tdiv (sumI W n) = alF T W n m := Int.tdiv_eq_ediv_of_nonneg p0
          have wi : IntKind.i64.wrap (T * W m) = T * W m := by rw [IntKind.wrap_i64]; omega
          have vi : IntKind.i64.wrap (alF T W n m) = alF T W n m := by rw [IntKind.wrap_i64]; omega
          have n0 : ¬ sumI W n = 0 := by omega
          have HV := Lib.hid (show T - sumI (alF T W n) (m + 1) = T - sumI (alF T W n) m - alF T W n m by simp only [sumI]; omega)
          have HM := Lib.hid (show ints (alF T W n) (m + 1) = ints (alF T W n) m ++ [.int .i64 (alF T W n m)] from ints_succ _ _)
          have HM2 := Lib.hid (show ints (fun i => (i : Int)) (m + 1) = ints (fun i => (i : Int)) m ++ [.int .i64 (m : Int)] from ints_succ _ _)
          have HO1 := Lib.hid ho1
          have HO2 := Lib.hid ho2
          have HNE := Lib.hid hne
          have HB := Lib.hid hbw
          have X0 := Lib.hid x0
          have X1 := Lib.hid x1
          have X2 := Lib.hid x2
          subst e
          clear ck hb ho1 ho2 hne hbw x0 x1 x2
          generalize ints (alF T W n) m = La at *
          generalize ha : alF T W n m = a at *
          generalize hp : T * W m = p at *
          generalize hS : sumI W n = S at *
          generalize sumI (alF T W n) m = u at *
          generalize ints (fun i => (i : Int)) m = Lb at *
          go_wp2_with (at_builtin; refine wpList_append_own_at _ rfl _ _ 29 rfl (w.heap.size + 3) 3 i0 (.int .i64 0) 1 8 Try.underlying29 hi0 iz0 iz1 iz2 rfl (by decide) _ _ _ rfl (HO1.out.alloc _) ⟨wr.heap.size, 0, none⟩ 1 1 [.int .i64 a] rfl rfl ?c1 ?c2 ?c3 ?c4 ?c5 ?_)
          case c1 => exact cell_one_new wr _ _
          case c2 => intro u hu; simp at hu; subst hu; rfl
          case c3 => unfold maxLen; omega
          case c4 => omega
          case c5 => simp; omega
          intro v3 w3 ho3 hg3 _ hat3
          rw [← HM.out] at ho3
          have O2 := Lib.hid ((HO2.out.alloc (.cells #[.int .i64 a] 3)).kept hg3 (.inr (fun e => HNE.out e.symm)))
          have Y0 := Lib.hid (own_box_lo (HO1.out.alloc _) (X0.out.alloc _) (by omega) hg3)
          have Y1 := Lib.hid (own_box_lo (HO1.out.alloc _) (X1.out.alloc _) (by omega) hg3)
          have Y2 := Lib.hid (own_box_lo (HO1.out.alloc _) (X2.out.alloc _) (by omega) hg3)
          have HB3 := Lib.hid (own_below_lo (HO1.out.alloc (.cells #[.int .i64 a] 3)) (HB.out.alloc (by omega) _) (by omega) (by simp; omega) hg3)
          have N3 := Lib.hid (apart_new (g := wr.heap.size + 1) (HO2.out.alloc (.cells #[.int .i64 a] 3)) (by simp) HNE.out hat3)
          have O3 := Lib.hid ho3
          obtain ⟨A3, c3, rfl, _, _, hh3⟩ := own_row ho3
          obtain ⟨g3, rfl, _, _, _, _⟩ := hh3 (by omega)
          have z3 := Y2.out.lt
          clear ho3 hg3 hat3 hh3 HO1 HO2 HNE HB X0 X1 X2
          go_wp2_with (at_builtin; refine wpList_append_own_at _ rfl _ _ 29 rfl (w.heap.size + 3) 3 i0 (.int .i64 0) 1 8 Try.underlying29 hi0 iz0 iz1 iz2 rfl (by decide) _ _ _ rfl (O2.out.alloc _) ⟨w3.heap.size, 0, none⟩ 1 1 [.int .i64 m] rfl rfl ?c1 ?c2 ?c3 ?c4 ?c5 ?_)
          case c1 => exact cell_one_new w3 _ _
          case c2 => intro u hu; simp at hu; subst hu; rfl
          case c3 => unfold maxLen; omega
          case c4 => omega
          case c5 => simp; omega
          intro v4 w4 ho4 hg4 _ hat4
          rw [← HM2.out] at ho4
          have P1 := Lib.hid ((O3.out.alloc (.cells #[.int .i64 m] 3)).kept hg4 (.inr N3.out))
          have Z0 := Lib.hid (own_box_lo (O2.out.alloc _) (Y0.out.alloc _) (by omega) hg4)
          have Z1 := Lib.hid (own_box_lo (O2.out.alloc _) (Y1.out.alloc _) (by omega) hg4)
          have Z2 := Lib.hid (own_box_lo (O2.out.alloc _) (Y2.out.alloc _) (by omega) hg4)
          have HB4 := Lib.hid (own_below_lo (O2.out.alloc (.cells #[.int .i64 m] 3)) (HB3.out.alloc (by omega) _) (by omega) (by simp; omega) hg4)
          have N4 := Lib.hid (apart_new (g := w3.heap.size + 1) (O3.out.alloc (.cells #[.int .i64 m] 3)) (by simp) (fun e => N3.out e.symm) hat4)
          have P2 := Lib.hid ho4
          obtain ⟨_, _, e, _, _, hh⟩ := own_row P1.out
          cases e
          obtain ⟨_, e, _, hgl, hcell, _⟩ := hh (by omega)
          cases e
          have cm := hcell m (by omega)
          rw [ha] at cm
          have hm1 : (m : Int) < ((m + 1 : Nat) : Int) := by omega
          clear ho4 hg4 hat4 hh hcell O2 O3 N3 HB3 Y0 Y1 Y2
          go_wp2
          go_roundw
          case rel => exact ⟨m + 1, by omega, by go_num, by rw [HV.out], P1.out, P2.out, fun e => N4.out e.symm, HB4.out, Z0.out, Z1.out, Z2.out⟩
          case measure => simp [intOf]; omega
        · obtain rfl : n = m := by omega
          have hL := HP.out.left
          rw [show T - sumI (alF T W n) n = alL T W n from rfl]
          obtain ⟨L, hLe⟩ := Int.eq_ofNat_of_zero_le hL.1
          have HF := Lib.hid (show alcG T W n = upJ (alG T W n) (alF T W n) L by unfold alcG; rw [hLe, Int.toNat_natCast])
          rw [hLe] at hL ⊢
          clear hLe
          obtain ⟨A2, c2, rfl, _, _, hh2⟩ := own_row ho2
          obtain ⟨g2, rfl, k2, l2', _, _⟩ := hh2 (by omega)
          obtain ⟨A1, c1, rfl, _, _, hh1⟩ := own_row ho1
          obtain ⟨g1, rfl, k1, l1', _, _⟩ := hh1 (by omega)
          have hcap := own_capA ho2
          have hg12 : g1 ≠ g2 := fun e => hne (by rw [e]; rfl)
          have ins := insertionA_any A n cap T W w.heap.size (w.heap.size + 1) (w.heap.size + 2) g2 (w.heap.size + 3) n c2 (fun i => (i : Int)) wr HP.out ⟨x0.cell 0, x1.cell 0, x2.cell 0, HR.out.kept hbw⟩ (by omega) (by omega) ho2 (fun t ht => by omega) (by omega) (by omega) (by omega) (fun b off e => by have := HR.out.low (by omega) b off e; omega)
          have HS := Lib.hid (sortStableA_any w.heap.size (w.heap.size + 1) (w.heap.size + 2) n c2 (some ⟨g2, 0, none⟩) wr n2 (fun w' => w'.ownsRow (w.heap.size + 3) 3 1 (.slice (some ⟨g2, 0, none⟩) n c2) n (ints (alG T W n) n) ∧ wr.grownBy w' (some g2)) ins)
          have HO1 := Lib.hid ho1
          have HB := Lib.hid hbw
          clear ins hh1 hh2 ho1 ho2 hne hbw x0 x1 x2
          go_wp2_with fail
          with_reducible refine (HS.out).mono ?_
          rintro e w5 ⟨rfl, ho5, hg5⟩
          have O1 := Lib.hid (HO1.out.kept hg5 (.inr (by simp [Value.ownBlock, hg12])))
          have HB5 := Lib.hid (HB.out.grown hg5 (by omega) (fun k e => by cases e; omega))
          have RG := Lib.hid (own_rows ho5)
          have hLc : L ≤ c2 := by omega
          have hLc' : (L : Int) ≤ (c2 : Int) := by omega
          have z5 := hg5.size
          clear HO1 HB HS ho5 hg5
          go_wp2_with fail
          go_loopw [79] (fun i wx => ∃ j : Nat, j ≤ L ∧ i = .int .i64 j ∧ wx.ownsRow (w.heap.size + 3) 3 1 (.slice (some ⟨g1, 0, none⟩) n c1) n (ints (upJ (alG T W n) (alF T W n) j) n) ∧ Below w.heap.size w wx ∧ Row wx .i64 (some ⟨g2, 0, none⟩) n (alG T W n)) (fun i _ => L - (intOf i).toNat)
          case atStart => exact ⟨0, Nat.zero_le _, rfl, O1.out, HB5.out, RG.out⟩
          case round =>
            obtain ⟨j, hj, rfl, ho, hbw, hrw⟩ := hrel
            by_cases hjl : j < L
            · obtain ⟨y0, y1⟩ := alG_in (T := T) (W := W) (show j < n by omega)
              obtain ⟨i, hi⟩ := Int.eq_ofNat_of_zero_le y0
              have hin : i < n := by omega
              obtain ⟨b', off', e', hb', ck⟩ := hrw.hid (show j < n by omega)
              cases e'
              have cg : wr.cell? ⟨g2, j, none⟩ = some (.int .i64 i) := by rw [← hi]; simpa using ck
              obtain ⟨_, _, e2, _, _, hat⟩ := own_row ho
              cases e2
              obtain ⟨_, e2, gz, gl, hcell, hfz⟩ := hat (by omega)
              cases e2
              have gi := hcell i hin
              have fi := hfz i
              obtain ⟨m0, m1⟩ := upJ_one HP.out (show j ≤ n by omega) hin
              have hji : (j : Int) < (L : Int) := by omega
              have hj0 : (0 : Int) ≤ (j : Int) := by omega
              have hii : (i : Int) < (n : Int) := by omega
              have hi0 : (0 : Int) ≤ (i : Int) := by omega
              have HS := Lib.hid (hrw.moved (grown_set (grown_refl wr (some g1)) i (.int .i64 (upJ (alG T W n) (alF T W n) j i + 1))) (fun b off e => by cases e; simp; omega))
              have HO2 := Lib.hid (own_congr (G := upJ (alG T W n) (alF T W n) (j + 1)) (own_set ho hin (upJ (alG T W n) (alF T W n) j i + 1)) (fun x _ => by simp only [upJ, hi, Int.toNat_natCast]; split <;> simp [*]))
              have HB2 := Lib.hid (hbw.setCell (p := ⟨g1, i, none⟩) (by show w.heap.size ≤ g1; omega) (.int .i64 (upJ (alG T W n) (alF T W n) j i + 1)))
              clear hcell hfz hat ck ho hbw hrw y0 y1 hb' hi O1 HB5 RG
              generalize upJ (alG T W n) (alF T W n) j i = x at *
              go_wp2
              go_roundw
              case rel => exact ⟨j + 1, by omega, by go_num, HO2.out, HB2.out, HS.out⟩
              case measure => simp [intOf]; omega
            · obtain rfl : j = L := by omega
              go_wp2
              go_ret
              exact ⟨_, rfl, by rw [HF.out]; exact own_mono ho (show w.heap.size ≤ w.heap.size + 3 by omega), hbw⟩
end Go.Proofs.Ytoebibgkpmppdaa
