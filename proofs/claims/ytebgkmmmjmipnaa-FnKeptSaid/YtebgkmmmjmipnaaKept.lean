/- Contracts of KeptShare, of the program and of the reference. -/
import Derived.Test.YtebgkmmmjmipnaaFrac
import Derived.Test.YtebgkmmmjmipnaaSplit
import Derived.Test.YtebgkmmmjmipnaaSeqS
namespace Go.Proofs.Ytebgkmmmjmipnaa
open Go.RowKit

/-- What an order leaves, of a hundred. -/
def pctP (F : Nat → Nat → Int) (G : Nat → Int) (j : Nat) : Nat := (100 - F (G j).toNat 2).toNat
/-- The share that is kept after the first j orders of the sequence G, as a reduced fraction. -/
def keptP (F : Nat → Nat → Int) (G : Nat → Int) : Nat → Nat × Nat
  | 0 => (1, 1)
  | j + 1 => (redN ((keptP F G j).1 * redN (pctP F G j) 100) ((keptP F G j).2 * redD (pctP F G j) 100), redD ((keptP F G j).1 * redN (pctP F G j) 100) ((keptP F G j).2 * redD (pctP F G j) 100))
def keptK (F : Nat → Nat → Int) (G : Nat → Int) : Nat → Bool := allB fun j => redB ((keptP F G j).1 * redN (pctP F G j) 100) ((keptP F G j).2 * redD (pctP F G j) 100)
theorem pct_red : ∀ p, p < 101 → redB p 100 = true ∧ redN p 100 ≤ redD p 100 ∧ redD p 100 ≤ 100 := by decide +kernel
theorem redX_true {a b : Nat} (h : redB a b = true) : redX a b = (redN a b : Nat) := by simp [redX, h]
theorem redY_true {a b : Nat} (h : redB a b = true) : redY a b = (redD a b : Nat) := by simp [redY, h]
theorem redX_false {a b : Nat} (h : redB a b = false) : redX a b = 0 := by simp [redX, h]
theorem redY_false {a b : Nat} (h : redB a b = false) : redY a b = 0 := by simp [redY, h]
theorem kept_ok {F : Nat → Nat → Int} {G : Nat → Int} : ∀ {j : Nat}, keptK F G j = true → (∀ i, i < j → pctP F G i ≤ 100) → fracB (keptP F G j).1 (keptP F G j).2 = true ∧ (keptP F G j).1 ≤ (keptP F G j).2 ∧ (keptP F G j).2 ≤ 1000000
  | 0, _, _ => ⟨(by decide +kernel : fracB 1 1 = true), Nat.le_refl _, (by decide : (1 : Nat) ≤ 1000000)⟩
  | j + 1, h, hp => by
    simp only [keptK, allB, Bool.and_eq_true] at h
    obtain ⟨_, h2, _⟩ := kept_ok (j := j) h.1 (fun i hi => hp i (by omega))
    obtain ⟨_, q2, _⟩ := pct_red (pctP F G j) (by have := hp j (by omega); omega)
    have hb := h.2
    simp only [redB] at hb
    obtain ⟨_, d1, _, _⟩ := fracB_true hb
    exact ⟨hb, Nat.div_le_div_right (Nat.mul_le_mul h2 q2), d1⟩
def keptB (F : Nat → Nat → Int) (n : Nat) (t k : Int) : Bool := ordersB F n && keptK F (seqG F n t k) (seqL F t k n).length
def keptX (F : Nat → Nat → Int) (n : Nat) (t k : Int) : Int := if keptB F n t k = true then ((keptP F (seqG F n t k) (seqL F t k n).length).1 : Nat) else (0 : Int)
def keptY (F : Nat → Nat → Int) (n : Nat) (t k : Int) : Int := if keptB F n t k = true then ((keptP F (seqG F n t k) (seqL F t k n).length).2 : Nat) else (0 : Int)
theorem keptK_less {F : Nat → Nat → Int} {G : Nat → Int} {s j : Nat} (hj : j < s) (h : keptK F G (j + 1) = false) : keptK F G s = false := by
  rw [Bool.eq_false_iff]
  intro hs
  have := allB_iff.1 hs
  rw [Bool.eq_false_iff] at h
  exact h (allB_iff.2 fun i hi => this i (by omega))
theorem kept_false {F : Nat → Nat → Int} {n : Nat} {t k : Int} (h : keptB F n t k = false) : keptX F n t k = 0 ∧ keptY F n t k = 0 := ⟨by simp [keptX, h], by simp [keptY, h]⟩
theorem fracV_false {F : Nat → Nat → Int} {n : Nat} {t k : Int} (h : keptB F n t k = false) {w w' : World} (hb : Below w.heap.size w w') : FracV (keptX F n t k) (keptY F n t k) (keptB F n t k) w (.returned (.tuple #[.agg #[.int .i64 0, .int .i64 0], .bool false])) w' := by
  obtain ⟨a, b⟩ := kept_false h
  rw [a, b, h]
  exact ⟨rfl, hb⟩
set_option maxHeartbeats 8000000 in
theorem kept_any (A : Option Addr) (n cap : Nat) (F : Nat → Nat → Int) (t k : Int) (w : World) (hn : n ≤ 1048576) (hr : Recs w 3 A n F) :
    Calls Try.prog 27 #[.slice A n cap, .int .i64 t, .int .i64 k] w (FracV (keptX F n t k) (keptY F n t k) (keptB F n t k) w) := by
  have HR := Lib.hid hr
  have HR0 := Lib.hid (hr.alloc (.cells #[.int .i64 0, .int .i64 0] 40))
  clear hr
  go_enter Try.func27, Try.ntmps27
  go_wp2_with fail
  with_reducible refine (ordersOk_any A n cap F _ hn HR0.out).mono ?_
  rintro e w1 ⟨rfl, hb1⟩
  have X1 := (Box.made w 40 #[.int .i64 0, .int .i64 0]).kept hb1
  have B1 := Lib.hid (((Below.refl w.heap.size w).alloc (Nat.le_refl _) (.cells #[.int .i64 0, .int .i64 0] 40)).trans (hb1.mono (by simp)))
  have z1 := X1.lt
  clear hb1 HR0
  rcases Bool.eq_false_or_eq_true (ordersB F n) with s1 | s1
  · have HQ := Lib.hid (show seqN F n t k = (seqL F t k n).length by simp [seqN, s1])
    have HG := Lib.hid (fun j => seqG_in (F := F) (n := n) (t := t) (k := k) (j := j))
    have HP := Lib.hid (fun i => order_pct (i := i) s1)
    have HB := Lib.hid (show keptB F n t k = keptK F (seqG F n t k) (seqL F t k n).length by simp [keptB, s1])
    have HX := Lib.hid (fun (h : keptK F (seqG F n t k) (seqL F t k n).length = true) => show keptX F n t k = ((keptP F (seqG F n t k) (seqL F t k n).length).1 : Nat) by simp [keptX, keptB, s1, h])
    have HY := Lib.hid (fun (h : keptK F (seqG F n t k) (seqL F t k n).length = true) => show keptY F n t k = ((keptP F (seqG F n t k) (seqL F t k n).length).2 : Nat) by simp [keptY, keptB, s1, h])
    have hlen := Nat.le_trans (seqL_le F t k n) hn
    rw [s1]
    clear s1
    obtain ⟨e1, e2, e3, e4⟩ := X1.two
    go_wp2_with fail
    with_reducible refine (seq_any A n cap F t k _ hn ((HR.out.kept B1.out).alloc _)).mono ?_
    rintro e w2 ⟨v, rfl, o2, hb2⟩
    rw [HQ.out] at o2
    obtain ⟨A2, c2, rfl, _, r2, hat⟩ := own_row o2
    have X2 := Lib.hid ((X1.alloc _).kept hb2)
    have Y2 := Lib.hid ((Box.made w1 40 #[.int .i64 1, .int .i64 1]).kept hb2)
    have B2 := Lib.hid ((B1.out.alloc (Nat.le_of_lt z1) _).trans (hb2.mono (by simp; omega)))
    have R2 := Lib.hid r2
    have HA := Lib.hid (fun (h : 0 < (seqL F t k n).length) b off (e : A2 = some ⟨b, off, none⟩) => (by
      obtain ⟨g, e1, h1, _⟩ := hat h
      rw [e1] at e
      cases e
      simp at h1
      omega : b ≠ w1.heap.size ∧ b ≠ w.heap.size))
    have z2 : w1.heap.size < w2.heap.size := by have := hb2.size; simp at this; omega
    generalize hgg : w1.heap.size = g at *
    generalize seqG F n t k = G at *
    generalize (seqL F t k n).length = s at *
    clear hb2 o2 r2 hat B1 X1 e1 e2 e3 e4
    go_wp2_with fail
    go_loopw [25] (fun i wr => ∃ j : Nat, j ≤ s ∧ i = .int .i64 j ∧ Hid (keptK F G j = true) ∧ Below w.heap.size w wr ∧ g < wr.heap.size ∧ Box wr w.heap.size 40 #[.int .i64 0, .int .i64 0] ∧ Box wr g 40 #[.int .i64 (keptP F G j).1, .int .i64 (keptP F G j).2] ∧ Row wr .i64 A2 s G) (fun i _ => s - (intOf i).toNat)
    case atStart => exact ⟨0, Nat.zero_le _, rfl, rfl, B2.out, z2, X2.out, Y2.out, R2.out⟩
    case round =>
      obtain ⟨j, hj, rfl, hK, hbw, hzw, X, Y, hrw⟩ := hrel
      clear X2 Y2 B2 R2
      obtain ⟨e1, e2, e3, e4⟩ := X.two
      obtain ⟨f1, f2, f3, f4⟩ := Y.two
      by_cases hlt : j < s
      · obtain ⟨g0, g1⟩ := HG.out j hlt
        obtain ⟨i, hi⟩ := Int.eq_ofNat_of_zero_le g0
        have hin : i < n := by omega
        obtain ⟨p0, p1⟩ := HP.out i hin
        obtain ⟨b, off, e, hb, _, _, d2⟩ := HR.out.at3 hin
        have c2 := (hbw.cell (p := ⟨b, off + i * 3 + 2, none⟩) hb).trans d2
        obtain ⟨b', off', e', hb', ck⟩ := hrw.hid hlt
        have cg : wr.cell? ⟨b', off' + j, none⟩ = some (.int .i64 i) := by rw [← hi]; exact ck
        have hji : (j : Int) < (s : Int) := by omega
        have hii : (i : Int) < (n : Int) := by omega
        have hi0 : (0 : Int) ≤ (i : Int) := by omega
        have hpp : 100 - F i 2 = (pctP F G j : Int) := by simp only [pctP, hi, Int.toNat_natCast]; omega
        have hp1 : pctP F G j < 101 := by omega
        obtain ⟨q1, q2, q3⟩ := pct_red (pctP F G j) hp1
        obtain ⟨r1, r2, r3⟩ := kept_ok hK.out (fun x hx => by
          obtain ⟨g0, g1⟩ := HG.out x (by omega)
          have := HP.out (G x).toNat (by omega)
          simp only [pctP]
          omega)
        have HS := Lib.hid (fun h : redB ((keptP F G j).1 * redN (pctP F G j) 100) ((keptP F G j).2 * redD (pctP F G j) 100) = true => show keptK F G (j + 1) = true by
          have := hK.out
          simp only [keptK, allB] at this ⊢
          rw [this, h]
          rfl)
        have HT := Lib.hid (fun h : redB ((keptP F G j).1 * redN (pctP F G j) 100) ((keptP F G j).2 * redD (pctP F G j) 100) = false => show keptK F G s = false from keptK_less hlt (by
          simp only [keptK, allB]
          rw [h, Bool.and_false]))
        have HU := Lib.hid (show keptP F G (j + 1) = (redN ((keptP F G j).1 * redN (pctP F G j) 100) ((keptP F G j).2 * redD (pctP F G j) 100), redD ((keptP F G j).1 * redN (pctP F G j) 100) ((keptP F G j).2 * redD (pctP F G j) 100)) from rfl)
        have HNEW := Lib.hid (fun w => by have h := fracNew_any (pctP F G j) 100 (by omega) (by omega) (by omega) w; rw [q1, redX_true q1, redY_true q1] at h; exact h : ∀ w, Calls Try.prog 44 #[.int .i64 (pctP F G j : Nat), .int .i64 100] w (FracV (redN (pctP F G j) 100 : Nat) (redD (pctP F G j) 100 : Nat) true w))
        have HMUL := Lib.hid (fracMul_any _ _ _ _ r1 (show fracB (redN (pctP F G j) 100) (redD (pctP F G j) 100) = true from q1) (by omega) (by omega))
        have HK := hK
        subst e
        subst e'
        clear ck d2 g0 g1 r1 q1 hK
        generalize (keptP F G j).1 = a at *
        generalize (keptP F G j).2 = b1 at *
        generalize redN (pctP F G j) 100 = c at *
        generalize redD (pctP F G j) 100 = d at *
        generalize pctP F G j = p at *
        generalize F i 2 = y at *
        obtain ⟨wo, rfl⟩ : ∃ wo : World, wo = wr := ⟨_, rfl⟩
        go_wp2_with fail
        with_reducible refine (HNEW.out _).mono ?_
        rintro e w3 ⟨rfl, hb3⟩
        have z3 := hb3.size
        have X3 := X.kept hb3
        have Y3 := Y.kept hb3
        have H3 := Lib.hid (hrw.kept hb3)
        have B3 := Lib.hid (hbw.trans (hb3.mono (by omega)))
        clear hb3 e1 e2 e3 e4 f1 f2 f3 f4 X Y hrw hbw c2 cg
        obtain ⟨e1, e2, e3, e4⟩ := X3.two
        obtain ⟨f1, f2, f3, f4⟩ := Y3.two
        have lg : g < w3.heap.size := Y3.lt
        have lw : w.heap.size < w3.heap.size := X3.lt
        go_wp2_with fail
        with_reducible refine (HMUL.out _).mono ?_
        rintro e w4 ⟨rfl, hb4⟩
        have z4 := hb4.size
        simp only [World.size_alloc] at z4
        have X4 := (X3.alloc (.cells #[.int .i64 c, .int .i64 d] 40)).kept hb4
        have Y4 := (Y3.alloc (.cells #[.int .i64 c, .int .i64 d] 40)).kept hb4
        have H4 := Lib.hid ((H3.out.alloc (.cells #[.int .i64 c, .int .i64 d] 40)).kept hb4)
        have B4 := Lib.hid ((B3.out.alloc (by omega) (.cells #[.int .i64 c, .int .i64 d] 40)).trans (hb4.mono (by simp; omega)))
        clear hb4 e1 e2 e3 e4 f1 f2 f3 f4 X3 Y3 H3 B3
        have lw4 := X4.lt
        have lg4 := Y4.lt
        obtain ⟨e1, e2, e3, e4⟩ := X4.two
        obtain ⟨f1, f2, f3, f4⟩ := Y4.two
        rcases Bool.eq_false_or_eq_true (redB (a * c) (b1 * d)) with k1 | k1
        · rw [redX_true k1, redY_true k1, k1]
          have HV := Lib.hid (HS.out k1)
          generalize redN (a * c) (b1 * d) = x at *
          generalize redD (a * c) (b1 * d) = y' at *
          clear HS HT k1
          go_wp2_with fail
          go_roundw
          case rel => exact ⟨j + 1, by omega, by go_num, HV.out, (by have hbw := B4.out; (repeat (first | with_reducible exact Below.refl _ _ | with_reducible refine Below.drew ?_ | (with_reducible refine Below.alloc ?_ ?hsz _; case hsz => ((try simp) <;> (try omega))) | (with_reducible refine Below.setCell ?_ ?hsz _; case hsz => ((try simp) <;> (try omega))) | (with_reducible refine below_step (by with_reducible assumption) ?hsz ?_; case hsz => ((try simp) <;> (try omega)))))), (by simp [World.setCell]; omega), ((X4.far (by simp; omega) _).far (by simp; omega) _).alloc _, (by rw [HU.out]; exact (Y4.put2 _ _).alloc _), (row_set (row_set H4.out (fun h b off e => (HA.out h b off e).1) _ _) (fun h b off e => (HA.out h b off e).1) _ _).alloc _⟩
          case measure => simp [intOf]; omega
        · rw [redX_false k1, redY_false k1, k1]
          have HF := Lib.hid (show keptB F n t k = false by rw [HB.out]; exact HT.out k1)
          clear HS HT
          go_wp2_with fail
          exact bodyPost_ret (v := .tuple #[.agg #[.int .i64 0, .int .i64 0], .bool false]) (by simp [results, Try.results27, go_sem, *]) rfl (fracV_false HF.out (by have hbw := B4.out; (repeat (first | with_reducible exact Below.refl _ _ | with_reducible refine Below.drew ?_ | (with_reducible refine Below.alloc ?_ ?hsz _; case hsz => ((try simp) <;> (try omega))) | (with_reducible refine Below.setCell ?_ ?hsz _; case hsz => ((try simp) <;> (try omega))) | (with_reducible refine below_step (by with_reducible assumption) ?hsz ?_; case hsz => ((try simp) <;> (try omega)))))))
      · obtain rfl : j = s := by omega
        have HV := Lib.hid (show FracV (keptX F n t k) (keptY F n t k) (keptB F n t k) w (.returned (.tuple #[.agg #[.int .i64 (keptP F G j).1, .int .i64 (keptP F G j).2], .bool true])) ((wr.setCell ⟨w.heap.size, 0, none⟩ (.int .i64 (keptP F G j).1)).setCell ⟨w.heap.size, 1, none⟩ (.int .i64 (keptP F G j).2)) from ⟨by rw [HX.out hK.out, HY.out hK.out, HB.out, hK.out], by (repeat (first | with_reducible exact Below.refl _ _ | with_reducible refine Below.drew ?_ | (with_reducible refine Below.alloc ?_ ?hsz _; case hsz => ((try simp) <;> (try omega))) | (with_reducible refine Below.setCell ?_ ?hsz _; case hsz => ((try simp) <;> (try omega))) | (with_reducible refine below_step (by with_reducible assumption) ?hsz ?_; case hsz => ((try simp) <;> (try omega)))))⟩)
        have lw : w.heap.size < wr.heap.size := X.lt
        clear HX HY HB hK
        generalize (keptP F G j).1 = x at *
        generalize (keptP F G j).2 = y at *
        go_wp2_with fail
        exact bodyPost_ret (v := .tuple #[.agg #[.int .i64 x, .int .i64 y], .bool true]) (by simp [results, Try.results27, go_sem, *]) rfl HV.out
  · have HF := Lib.hid (show keptB F n t k = false by simp [keptB, s1])
    rw [s1]
    obtain ⟨e1, e2, e3, e4⟩ := X1.two
    go_wp2_with fail
    exact bodyPost_ret (v := .tuple #[.agg #[.int .i64 0, .int .i64 0], .bool false]) (by simp [results, Try.results27, go_sem, *]) rfl (fracV_false HF.out (by have hbw := B1.out; (repeat (first | with_reducible exact Below.refl _ _ | with_reducible refine Below.drew ?_ | (with_reducible refine Below.alloc ?_ ?hsz _; case hsz => ((try simp) <;> (try omega))) | (with_reducible refine Below.setCell ?_ ?hsz _; case hsz => ((try simp) <;> (try omega))) | (with_reducible refine below_step (by with_reducible assumption) ?hsz ?_; case hsz => ((try simp) <;> (try omega)))))))
end Go.Proofs.Ytebgkmmmjmipnaa
