/- Plain words on split amounts, and the contract of the program's SplitAmount. -/
import Derived.Test.YtebgkmmmjmipnaaSeq
import Derived.Test.YtebgkmmmjmipnaaOwnSet
import Derived.Test.YtebgkmmmjmipnaaIntS
namespace Go.Proofs.Ytebgkmmmjmipnaa
open Go.RowKit

/-- What is left of a after the first j orders of the sequence G. -/
def leftS (F : Nat → Nat → Int) (G : Nat → Int) (a : Int) : Nat → Int
  | 0 => a
  | j + 1 => leftS F G a j - leftS F G a j * F (G j).toNat 2 / 100
/-- What order i has got after the first j orders of the sequence G. -/
def partS (F : Nat → Nat → Int) (G : Nat → Int) (a : Int) : Nat → Nat → Int
  | 0, _ => 0
  | j + 1, i => if i = (G j).toNat then leftS F G a j * F i 2 / 100 else partS F G a j i
theorem split_bd {s d : Int} (s0 : 0 ≤ s) (s1 : s ≤ 1000000000) (d0 : 0 ≤ d) (d1 : d ≤ 100) : 0 ≤ s * d ∧ s * d ≤ 100000000000 ∧ 0 ≤ s * d / 100 ∧ s * d / 100 ≤ s := by
  have a : 0 ≤ s * d := Int.mul_nonneg s0 d0
  have c : s * d ≤ s * 100 := Int.mul_le_mul_of_nonneg_left d1 s0
  omega
theorem order_pct {F : Nat → Nat → Int} {n i : Nat} (h : ordersB F n = true) (hi : i < n) : 0 ≤ F i 2 ∧ F i 2 ≤ 100 := by
  have := (ordersB_true h).1 i hi
  simp only [orderB, Bool.and_eq_true] at this
  exact inB_true.1 this.1.2
theorem seqG_in {F : Nat → Nat → Int} {n : Nat} {t k : Int} {j : Nat} (hj : j < (seqL F t k n).length) : 0 ≤ seqG F n t k j ∧ seqG F n t k j < n :=
  sortF_mem (K := effK F) (p := fun x => 0 ≤ x ∧ x < (n : Int)) (m := (seqL F t k n).length) (fun i hi => seqL_mem F t k n _ (by
    rw [List.getD_eq_getElem?_getD, List.getElem?_eq_getElem hi]; exact List.getElem_mem _)) _ (Nat.le_refl _) j hj
theorem leftS_bd {F : Nat → Nat → Int} {n : Nat} {t k a : Int} (h : ordersB F n = true) (a0 : 0 ≤ a) : ∀ j, j ≤ (seqL F t k n).length → 0 ≤ leftS F (seqG F n t k) a j ∧ leftS F (seqG F n t k) a j ≤ a
  | 0, _ => ⟨a0, Int.le_refl _⟩
  | j + 1, hj => by
    obtain ⟨h0, h1⟩ := leftS_bd (t := t) (k := k) h a0 j (by omega)
    obtain ⟨g0, g1⟩ := seqG_in (F := F) (t := t) (k := k) (n := n) (j := j) (by omega)
    obtain ⟨p0, p1⟩ := order_pct h (show (seqG F n t k j).toNat < n by omega)
    have a : 0 ≤ leftS F (seqG F n t k) a j * F (seqG F n t k j).toNat 2 := Int.mul_nonneg h0 p0
    have c := Int.mul_le_mul_of_nonneg_left p1 h0
    simp only [leftS]
    omega
def splitB (F : Nat → Nat → Int) (n : Nat) (a : Int) : Bool := ordersB F n && inB a 0 1000000000
def splitN (F : Nat → Nat → Int) (n : Nat) (a : Int) : Nat := if splitB F n a = true then n else 0
theorem splitN_le (F : Nat → Nat → Int) (n : Nat) (a : Int) : splitN F n a ≤ n := by
  unfold splitN
  split <;> omega
def splitR (F : Nat → Nat → Int) (n : Nat) (a t k : Int) : Int := if splitB F n a = true then leftS F (seqG F n t k) a (seqL F t k n).length else a
def splitP (F : Nat → Nat → Int) (n : Nat) (a t k : Int) : Nat → Int := partS F (seqG F n t k) a (seqL F t k n).length
/-- A number and a row of numbers come back. -/
def SplitQ (n : Nat) (r : Int) (G : Nat → Int) (w : World) (e : Ending) (w' : World) : Prop :=
  ∃ v, e = .returned (.tuple #[.int .i64 r, v]) ∧ w'.ownsRow w.heap.size 3 1 v n (ints G n) ∧ Below w.heap.size w w'
theorem own_made (w : World) (base : Nat) (e : TypeId) (n : Nat) (hb : base ≤ w.heap.size) (hn : n ≤ 1048576) : (w.alloc (.cells (madeCells #[.int .i64 0] n) e)).ownsRow base e 1 (.slice (some ⟨w.heap.size, 0, none⟩) n n) n (ints (fun _ => 0) n) := by
  have := World.ownsRow_lit w (base := base) (size := 1) (madeCells #[.int .i64 0] n) n (e := e) hb (by unfold maxLen; omega) (by rw [size_madeCells]; omega)
  rw [toList_madeCells_one] at this
  have e2 : ints (fun _ => 0) n = List.replicate n (Value.int .i64 0) := by
    apply List.ext_getElem?
    intro i
    by_cases hi : i < n
    · rw [ints_get _ hi]; simp [hi]
    · rw [List.getElem?_eq_none (by simp [ints_length]; omega), List.getElem?_eq_none (by simp; omega)]
  rw [e2]
  exact this
theorem row_set {w : World} {A : Option Addr} {n : Nat} {G : Nat → Int} (h : Row w .i64 A n G) {g : Nat} (ha : 0 < n → Away A g) (i : Nat) (u : Value) : Row (w.setCell ⟨g, i, none⟩ u) .i64 A n G :=
  h.away (grown_set (grown_refl w (some g)) i u) ha
set_option maxHeartbeats 4000000 in
theorem split_any (A : Option Addr) (n cap : Nat) (F : Nat → Nat → Int) (a t k : Int) (w : World) (hn : n ≤ 1048576) (hr : Recs w 3 A n F) :
    Calls Try.prog 25 #[.slice A n cap, .int .i64 a, .int .i64 t, .int .i64 k] w (SplitQ (splitN F n a) (splitR F n a t k) (splitP F n a t k) w) := by
  have hmk := run_make_row' (P := Try.prog) 29 3 (.int .i64 0) 8 Try.underlying29 int_inf rfl .i64 .i64 n (by omega) (by omega)
  have HR := Lib.hid hr
  clear hr
  rcases Bool.eq_false_or_eq_true (ordersB F n) with s1 | s1
  · rcases Bool.eq_false_or_eq_true (inB a 0 1000000000) with s2 | s2
    · have HN := Lib.hid (show splitN F n a = n by simp [splitN, splitB, s1, s2])
      have HT := Lib.hid (show splitR F n a t k = leftS F (seqG F n t k) a (seqL F t k n).length by simp [splitR, splitB, s1, s2])
      have HQ := Lib.hid (show seqN F n t k = (seqL F t k n).length by simp [seqN, s1])
      have HL := Lib.hid (fun j => leftS_bd (t := t) (k := k) s1 (inB_true.1 s2).1 j)
      have HG := Lib.hid (fun j => seqG_in (F := F) (n := n) (t := t) (k := k) (j := j))
      have HP := Lib.hid (fun i => order_pct (i := i) s1)
      obtain ⟨a0, a1⟩ := inB_true.1 s2
      have hlen := Nat.le_trans (seqL_le F t k n) hn
      rw [HN.out, HT.out, show splitP F n a t k = partS F (seqG F n t k) a (seqL F t k n).length from rfl]
      clear HN HT
      go_enter Try.func25, Try.ntmps25
      go_wp2_with (first | (go_at_call 14; (with_reducible refine (ordersOk_any A n cap F _ hn HR.out).mono ?_); rintro e w1 ⟨rfl, hb1⟩; obtain ⟨hc1, hf1⟩ := bcell hb1; (try simp only [World.size_drew] at hc1 hf1); have hz1 := hb1.size; (try simp at hz1); (try have q1_0 : w.heap.size < w1.heap.size := by omega); (try have q1_1 : w.heap.size + 1 < w1.heap.size := by omega); (try have q1_2 : w.heap.size + 2 < w1.heap.size := by omega); (try have q1_3 : w.heap.size + 3 < w1.heap.size := by omega); (try have q1_4 : w.heap.size + 4 < w1.heap.size := by omega); (try have q1_0_0 : w0.heap.size < w1.heap.size := by omega); (try have q1_0_1 : w0.heap.size + 1 < w1.heap.size := by omega); (try have q1_2_0 : w2.heap.size < w1.heap.size := by omega); (try have q1_2_1 : w2.heap.size + 1 < w1.heap.size := by omega); (try have q1_3_0 : w3.heap.size < w1.heap.size := by omega); (try have q1_3_1 : w3.heap.size + 1 < w1.heap.size := by omega); (try have q1_4_0 : w4.heap.size < w1.heap.size := by omega); (try have q1_4_1 : w4.heap.size + 1 < w1.heap.size := by omega); (try have q1_5_0 : w5.heap.size < w1.heap.size := by omega); (try have q1_5_1 : w5.heap.size + 1 < w1.heap.size := by omega); (try have q1_6_0 : w6.heap.size < w1.heap.size := by omega); (try have q1_6_1 : w6.heap.size + 1 < w1.heap.size := by omega); (try have u1_b : b < w1.heap.size := by omega); (try have u1_q : q < w1.heap.size := by omega); (try have u1_g : g < w1.heap.size := by omega); (try have u1_g1 : g1 < w1.heap.size := by omega); (try have u1_g2 : g2 < w1.heap.size := by omega); (try have u1_g3 : g3 < w1.heap.size := by omega); (try have u1_g4 : g4 < w1.heap.size := by omega); (try have u1_g5 : g5 < w1.heap.size := by omega)) | (go_at_call 37; (with_reducible refine (within_any a 0 1000000000 _).mono ?_); rintro e w' ⟨rfl, rfl⟩))
      have z1 := hb1.size
      have O1 := Lib.hid (own_made w1 w.heap.size 3 n z1 hn)
      have B1 := Lib.hid (hb1.alloc z1 (.cells (madeCells #[.int .i64 0] n) 3))
      clear s1 hc1 hf1 hb1 hmk
      with_reducible refine (seq_any A n cap F t k _ hn (HR.out.kept B1.out)).mono ?_
      rintro e w2 ⟨v, rfl, o2, hb2⟩
      rw [HQ.out] at o2
      obtain ⟨A2, c2, rfl, _, r2, hat⟩ := own_row o2
      have B2 := Lib.hid (B1.out.trans (hb2.mono (by simp; omega)))
      have O2 := Lib.hid (own_below O1.out hb2)
      have R2 := Lib.hid r2
      have HA := Lib.hid (fun (h : 0 < (seqL F t k n).length) b off (e : A2 = some ⟨b, off, none⟩) => (by
        obtain ⟨g, e1, h1, _⟩ := hat h
        rw [e1] at e
        cases e
        simp at h1
        omega : b ≠ w1.heap.size))
      have z2 : w1.heap.size < w2.heap.size := by have := hb2.size; simp at this; omega
      generalize hgg : w1.heap.size = g at *
      generalize seqG F n t k = G at *
      generalize (seqL F t k n).length = s at *
      clear hb2 o2 r2 hat O1 B1
      go_wp2_with fail
      go_loopw [1, 30] (fun x i wr => ∃ j : Nat, j ≤ s ∧ i = .int .i64 j ∧ x = .int .i64 (leftS F G a j) ∧ wr.ownsRow w.heap.size 3 1 (.slice (some ⟨g, 0, none⟩) n n) n (ints (partS F G a j) n) ∧ Below w.heap.size w wr ∧ Row wr .i64 A2 s G) (fun _ i _ => s - (intOf i).toNat)
      case atStart => exact ⟨0, Nat.zero_le _, rfl, rfl, O2.out, B2.out, R2.out⟩
      case round =>
        obtain ⟨j, hj, rfl, rfl, ho, hbw, hrw⟩ := hrel
        have HO := Lib.hid ho
        have HB := Lib.hid hbw
        have HW := Lib.hid hrw
        by_cases hlt : j < s
        · obtain ⟨g0, g1⟩ := HG.out j hlt
          obtain ⟨i, hi⟩ := Int.eq_ofNat_of_zero_le g0
          have hin : i < n := by omega
          obtain ⟨p0, p1⟩ := HP.out i hin
          obtain ⟨l0, l1⟩ := HL.out j (by omega)
          obtain ⟨m0, m1, m2, m3⟩ := split_bd l0 (by omega) p0 p1
          obtain ⟨b, off, e, hb, _, _, d2⟩ := HR.out.at3 hin
          have c2 := (hbw.cell (p := ⟨b, off + i * 3 + 2, none⟩) hb).trans d2
          obtain ⟨b', off', e', hb', ck⟩ := hrw.hid hlt
          have cg : wr.cell? ⟨b', off' + j, none⟩ = some (.int .i64 i) := by rw [← hi]; exact ck
          obtain ⟨_, _, e2, _, _, hat⟩ := own_row ho
          cases e2
          obtain ⟨_, e2, gz, gl, hcell, hfz⟩ := hat (by omega)
          cases e2
          have gi := hcell i hin
          have fi := hfz i
          have hbg : b ≠ g := by have := z1; omega
          have hji : (j : Int) < (s : Int) := by omega
          have hii : (i : Int) < (n : Int) := by omega
          have hi0 : (0 : Int) ≤ (i : Int) := by omega
          have hbg' : b' ≠ g := HA.out (by omega) b' off' e'
          have HS := Lib.hid (row_set hrw HA.out i (.int .i64 (leftS F G a j * F i 2 / 100)))
          have HO2 := Lib.hid (own_congr (G := partS F G a (j + 1)) (own_set ho hin (leftS F G a j * F i 2 / 100)) (fun x _ => by simp only [partS, hi, Int.toNat_natCast]; split <;> simp [*]))
          have HB2 := Lib.hid (hbw.setCell (p := ⟨g, i, none⟩) gz (.int .i64 (leftS F G a j * F i 2 / 100)))
          have HV := Lib.hid (show leftS F G a (j + 1) = leftS F G a j - leftS F G a j * F i 2 / 100 by simp [leftS, hi])
          subst e
          subst e'
          clear hcell hfz hat ck d2 ho hbw hrw g0 g1 HO HB HW
          generalize leftS F G a j = x at *
          generalize F i 2 = y at *
          go_wp2
          go_roundw
          case rel => exact ⟨j + 1, by omega, by go_num, by rw [HV.out], HO2.out, HB2.out, HS.out⟩
          case measure => simp [intOf]; omega
        · obtain rfl : j = s := by omega
          go_wp2
          go_ret2
          exact ⟨_, rfl, HO.out, HB.out⟩
    · have HN := Lib.hid (show splitN F n a = 0 by simp [splitN, splitB, s2])
      have HT := Lib.hid (show splitR F n a t k = a by simp [splitR, splitB, s2])
      rw [HN.out, HT.out]
      go_enter Try.func25, Try.ntmps25
      go_wp2_with (first | (go_at_call 14; (with_reducible refine (ordersOk_any A n cap F _ hn HR.out).mono ?_); rintro e w1 ⟨rfl, hb1⟩; obtain ⟨hc1, hf1⟩ := bcell hb1; (try simp only [World.size_drew] at hc1 hf1); have hz1 := hb1.size; (try simp at hz1); (try have q1_0 : w.heap.size < w1.heap.size := by omega); (try have q1_1 : w.heap.size + 1 < w1.heap.size := by omega); (try have q1_2 : w.heap.size + 2 < w1.heap.size := by omega); (try have q1_3 : w.heap.size + 3 < w1.heap.size := by omega); (try have q1_4 : w.heap.size + 4 < w1.heap.size := by omega); (try have q1_0_0 : w0.heap.size < w1.heap.size := by omega); (try have q1_0_1 : w0.heap.size + 1 < w1.heap.size := by omega); (try have q1_2_0 : w2.heap.size < w1.heap.size := by omega); (try have q1_2_1 : w2.heap.size + 1 < w1.heap.size := by omega); (try have q1_3_0 : w3.heap.size < w1.heap.size := by omega); (try have q1_3_1 : w3.heap.size + 1 < w1.heap.size := by omega); (try have q1_4_0 : w4.heap.size < w1.heap.size := by omega); (try have q1_4_1 : w4.heap.size + 1 < w1.heap.size := by omega); (try have q1_5_0 : w5.heap.size < w1.heap.size := by omega); (try have q1_5_1 : w5.heap.size + 1 < w1.heap.size := by omega); (try have q1_6_0 : w6.heap.size < w1.heap.size := by omega); (try have q1_6_1 : w6.heap.size + 1 < w1.heap.size := by omega); (try have u1_b : b < w1.heap.size := by omega); (try have u1_q : q < w1.heap.size := by omega); (try have u1_g : g < w1.heap.size := by omega); (try have u1_g1 : g1 < w1.heap.size := by omega); (try have u1_g2 : g2 < w1.heap.size := by omega); (try have u1_g3 : g3 < w1.heap.size := by omega); (try have u1_g4 : g4 < w1.heap.size := by omega); (try have u1_g5 : g5 < w1.heap.size := by omega)) | (go_at_call 37; (with_reducible refine (within_any a 0 1000000000 _).mono ?_); rintro e w' ⟨rfl, rfl⟩))
      go_ret2
      exact ⟨_, rfl, World.ownsRow_nil _ _ _ _, hb1⟩
  · have HN := Lib.hid (show splitN F n a = 0 by simp [splitN, splitB, s1])
    have HT := Lib.hid (show splitR F n a t k = a by simp [splitR, splitB, s1])
    rw [HN.out, HT.out]
    go_enter Try.func25, Try.ntmps25
    go_wp2_with (first | (go_at_call 14; (with_reducible refine (ordersOk_any A n cap F _ hn HR.out).mono ?_); rintro e w1 ⟨rfl, hb1⟩; obtain ⟨hc1, hf1⟩ := bcell hb1; (try simp only [World.size_drew] at hc1 hf1); have hz1 := hb1.size; (try simp at hz1); (try have q1_0 : w.heap.size < w1.heap.size := by omega); (try have q1_1 : w.heap.size + 1 < w1.heap.size := by omega); (try have q1_2 : w.heap.size + 2 < w1.heap.size := by omega); (try have q1_3 : w.heap.size + 3 < w1.heap.size := by omega); (try have q1_4 : w.heap.size + 4 < w1.heap.size := by omega); (try have q1_0_0 : w0.heap.size < w1.heap.size := by omega); (try have q1_0_1 : w0.heap.size + 1 < w1.heap.size := by omega); (try have q1_2_0 : w2.heap.size < w1.heap.size := by omega); (try have q1_2_1 : w2.heap.size + 1 < w1.heap.size := by omega); (try have q1_3_0 : w3.heap.size < w1.heap.size := by omega); (try have q1_3_1 : w3.heap.size + 1 < w1.heap.size := by omega); (try have q1_4_0 : w4.heap.size < w1.heap.size := by omega); (try have q1_4_1 : w4.heap.size + 1 < w1.heap.size := by omega); (try have q1_5_0 : w5.heap.size < w1.heap.size := by omega); (try have q1_5_1 : w5.heap.size + 1 < w1.heap.size := by omega); (try have q1_6_0 : w6.heap.size < w1.heap.size := by omega); (try have q1_6_1 : w6.heap.size + 1 < w1.heap.size := by omega); (try have u1_b : b < w1.heap.size := by omega); (try have u1_q : q < w1.heap.size := by omega); (try have u1_g : g < w1.heap.size := by omega); (try have u1_g1 : g1 < w1.heap.size := by omega); (try have u1_g2 : g2 < w1.heap.size := by omega); (try have u1_g3 : g3 < w1.heap.size := by omega); (try have u1_g4 : g4 < w1.heap.size := by omega); (try have u1_g5 : g5 < w1.heap.size := by omega)) | (go_at_call 37; (with_reducible refine (within_any a 0 1000000000 _).mono ?_); rintro e w' ⟨rfl, rfl⟩))
    go_ret2
    exact ⟨_, rfl, World.ownsRow_nil _ _ _ _, hb1⟩
end Go.Proofs.Ytebgkmmmjmipnaa
