/- Contracts of the laws' helpers over rules and books: size, copy, compare. -/
import Derived.Test.YtgfcmeiffhffaaaBook
import Derived.Test.YtgfcmeiffhffaaaRecNode
import Derived.Deep.RegionHeld3
namespace Go.Proofs.Ytgfcmeiffhffaaa
open Go.RowKit

theorem infRule : (Try.prog.info? 119).map (fun i => (i.zero, i.size, i.bytes)) = some (some (.agg #[.int .i64 0, .int .i64 0, .int .i64 0, .int .i64 0, .int .i64 0, .int .i64 0, .slice none 0 0]), 7, 72) := by kernel_rfl
theorem recV_at7 {w : World} {A : Option Addr} {n : Nat} {V : Nat → Nat → Value} (h : RecV w 7 A n V) {i : Nat} (hi : i < n) : ∃ b off, A = some ⟨b, off, none⟩ ∧ b < w.heap.size ∧ w.cell? ⟨b, off + i * 7, none⟩ = some (V i 0) ∧ w.cell? ⟨b, off + i * 7 + 1, none⟩ = some (V i 1) ∧ w.cell? ⟨b, off + i * 7 + 2, none⟩ = some (V i 2) ∧ w.cell? ⟨b, off + i * 7 + 3, none⟩ = some (V i 3) ∧ w.cell? ⟨b, off + i * 7 + 4, none⟩ = some (V i 4) ∧ w.cell? ⟨b, off + i * 7 + 5, none⟩ = some (V i 5) ∧ w.cell? ⟨b, off + i * 7 + 6, none⟩ = some (V i 6) := by
  rcases h with h | ⟨b, off, e, hb, hc⟩
  · omega
  · exact ⟨b, off, e, hb, hc i hi 0 (by omega), hc i hi 1 (by omega), hc i hi 2 (by omega), hc i hi 3 (by omega), hc i hi 4 (by omega), hc i hi 5 (by omega), hc i hi 6 (by omega)⟩
theorem sumI_nat {f : Nat → Nat} : ∀ {k n : Nat}, k ≤ n → 0 ≤ sumI (fun i => (f i : Int)) k ∧ sumI (fun i => (f i : Int)) k ≤ sumI (fun i => (f i : Int)) n
  | k, 0, h => by obtain rfl : k = 0 := by omega
                  simp [sumI]
  | k, n + 1, h => by
    rcases Nat.lt_or_ge k (n + 1) with h1 | h1
    · have := sumI_nat (f := f) (show k ≤ n by omega)
      simp only [sumI]
      omega
    · obtain rfl : k = n + 1 := by omega
      have := (sumI_nat (f := f) (show n ≤ n by omega)).1
      simp only [sumI]
      omega
theorem szRule_any (r0 r1 r2 r3 r4 r5 : Int) (NA : Option Addr) (k c : Nat) (left : Int) (w : World) (hk : k ≤ 9223372036854775807) (l0 : 0 ≤ left) (l1 : left ≤ 1048576) : Calls Try.prog 97 #[.agg #[.int .i64 r0, .int .i64 r1, .int .i64 r2, .int .i64 r3, .int .i64 r4, .int .i64 r5, .slice NA k c], .int .i64 left] w fun e w' => e = .returned (.int .i64 (if left < k then -1 else left - k)) ∧ Below w.heap.size w w' := by
  have HN := Lib.hid (fun w => szNodeS_any NA k c left w hk l0 l1)
  by_cases h : left < k
  · rw [if_pos h] at HN ⊢
    go_enter Try.func97, Try.ntmps97
    go_wp2_with (go_at_call 124; (with_reducible refine (HN.out _).mono ?_); rintro e w' ⟨rfl, rfl⟩)
    go_ret
    exact ⟨rfl, by (repeat (first | with_reducible exact Below.refl _ _ | with_reducible refine Below.drew ?_ | (with_reducible refine Below.alloc ?_ ?hsz _; case hsz => ((try simp) <;> (try omega))) | (with_reducible refine Below.setCell ?_ ?hsz _; case hsz => ((try simp) <;> (try omega))) | (with_reducible refine below_step (by with_reducible assumption) ?hsz ?_; case hsz => ((try simp) <;> (try omega)))))⟩
  · rw [if_neg h] at HN ⊢
    go_enter Try.func97, Try.ntmps97
    go_wp2_with (go_at_call 124; (with_reducible refine (HN.out _).mono ?_); rintro e w' ⟨rfl, rfl⟩)
    go_ret
    exact ⟨rfl, by (repeat (first | with_reducible exact Below.refl _ _ | with_reducible refine Below.drew ?_ | (with_reducible refine Below.alloc ?_ ?hsz _; case hsz => ((try simp) <;> (try omega))) | (with_reducible refine Below.setCell ?_ ?hsz _; case hsz => ((try simp) <;> (try omega))) | (with_reducible refine below_step (by with_reducible assumption) ?hsz ?_; case hsz => ((try simp) <;> (try omega)))))⟩
/-- What is left behind t of them; -1 where they are too many. -/
def szI (left t : Int) : Int := if left < t then -1 else left - t
/-- How many rules and nodes there are. -/
def rulesI (Nn : Nat → Nat) (n : Nat) : Int := n + sumI (fun i => (Nn i : Int)) n
set_option maxHeartbeats 2000000 in
theorem szRuleS_any (A : Option Addr) (n cap : Nat) (R : Nat → Nat → Int) (NA : Nat → Option Addr) (Nn Nc : Nat → Nat) (left : Int) (w : World) (hn : n ≤ 9223372036854775807) (hN : ∀ i, i < n → Nn i ≤ 9223372036854775807) (l0 : 0 ≤ left) (l1 : left ≤ 1048576) (hr : RecV w 7 A n (ruleV R NA Nn Nc)) :
    Calls Try.prog 64 #[.slice A n cap, .int .i64 left] w fun e w' => e = .returned (.int .i64 (szI left (rulesI Nn n))) ∧ Below w.heap.size w w' := by
  have HR := Lib.hid hr
  have HNn := Lib.hid hN
  have hs := (sumI_nat (f := Nn) (Nat.le_refl n)).1
  clear hr hN
  by_cases h0 : left < n
  · have HE := Lib.hid (show (szI left (rulesI Nn n)) = -1 by unfold szI; rw [if_pos (by unfold rulesI; omega)])
    rw [HE.out]
    clear hs
    go_enter Try.func64, Try.ntmps64
    go_wp2
    go_ret
    exact ⟨rfl, Below.refl _ _⟩
  · clear hs
    go_enter Try.func64, Try.ntmps64
    go_wp2_with fail
    go_loopw [1, 5] (fun x i wr => ∃ m : Nat, m ≤ n ∧ i = .int .i64 m ∧ x = .int .i64 (left - n - sumI (fun i => (Nn i : Int)) m) ∧ 0 ≤ left - n - sumI (fun i => (Nn i : Int)) m ∧ Below w.heap.size w wr) (fun _ i _ => n - (intOf i).toNat)
    case atStart => exact ⟨0, Nat.zero_le _, rfl, by simp [sumI], by simp only [sumI]; omega, Below.refl _ _⟩
    case round =>
      obtain ⟨m, hm, rfl, rfl, hs0, hbw⟩ := hrel
      have hs1 := (sumI_nat (f := Nn) hm).1
      by_cases hlt : m < n
      · obtain ⟨b, off, rfl, hb, c0, c1, c2, c3, c4, c5, c6⟩ := recV_at7 HR.out hlt
        have d0 : wr.cell? ⟨b, off + m * 7, none⟩ = some (.int .i64 (R m 0)) := (hbw.cell (p := ⟨b, off + m * 7, none⟩) hb).trans c0
        have d1 : wr.cell? ⟨b, off + m * 7 + 1, none⟩ = some (.int .i64 (R m 1)) := (hbw.cell (p := ⟨b, off + m * 7 + 1, none⟩) hb).trans c1
        have d2 : wr.cell? ⟨b, off + m * 7 + 2, none⟩ = some (.int .i64 (R m 2)) := (hbw.cell (p := ⟨b, off + m * 7 + 2, none⟩) hb).trans c2
        have d3 : wr.cell? ⟨b, off + m * 7 + 3, none⟩ = some (.int .i64 (R m 3)) := (hbw.cell (p := ⟨b, off + m * 7 + 3, none⟩) hb).trans c3
        have d4 : wr.cell? ⟨b, off + m * 7 + 4, none⟩ = some (.int .i64 (R m 4)) := (hbw.cell (p := ⟨b, off + m * 7 + 4, none⟩) hb).trans c4
        have d5 : wr.cell? ⟨b, off + m * 7 + 5, none⟩ = some (.int .i64 (R m 5)) := (hbw.cell (p := ⟨b, off + m * 7 + 5, none⟩) hb).trans c5
        have d6 : wr.cell? ⟨b, off + m * 7 + 6, none⟩ = some (.slice (NA m) (Nn m) (Nc m)) := (hbw.cell (p := ⟨b, off + m * 7 + 6, none⟩) hb).trans c6
        have hk := HNn.out m hlt
        have HS := Lib.hid (sumI_nat (f := Nn) (show m + 1 ≤ n by omega)).2
        have HV := Lib.hid (show sumI (fun i => (Nn i : Int)) (m + 1) = sumI (fun i => (Nn i : Int)) m + Nn m from rfl)
        have hmi : (m : Int) < (n : Int) := by omega
        have hm0 : (0 : Int) ≤ (m : Int) := by omega
        have HB := Lib.hid hbw
        have zb := hbw.size
        clear c0 c1 c2 c3 c4 c5 c6 hb hbw
        generalize hu : left - n - sumI (fun i => (Nn i : Int)) m = u at *
        have HZ := Lib.hid (fun w => szRule_any (R m 0) (R m 1) (R m 2) (R m 3) (R m 4) (R m 5) (NA m) (Nn m) (Nc m) u w hk hs0 (by omega))
        by_cases hk2 : u < Nn m
        · rw [if_pos hk2] at HZ
          have HE := Lib.hid (show (szI left (rulesI Nn n)) = -1 by
            unfold szI; rw [if_pos (by have := HS.out; rw [HV.out] at this; unfold rulesI; omega)])
          clear hk
          go_wp2_with (go_at_call 97; (with_reducible refine (HZ.out _).mono ?_); rintro e w1 ⟨rfl, hb1⟩; obtain ⟨hc1, hf1⟩ := bcell hb1; (try simp only [World.size_drew] at hc1 hf1); have hz1 := hb1.size; (try simp at hz1); (try have q1_0 : w.heap.size < w1.heap.size := by omega); (try have q1_1 : w.heap.size + 1 < w1.heap.size := by omega); (try have q1_2 : w.heap.size + 2 < w1.heap.size := by omega); (try have q1_3 : w.heap.size + 3 < w1.heap.size := by omega); (try have q1_4 : w.heap.size + 4 < w1.heap.size := by omega); (try have q1_0_0 : w0.heap.size < w1.heap.size := by omega); (try have q1_0_1 : w0.heap.size + 1 < w1.heap.size := by omega); (try have q1_2_0 : w2.heap.size < w1.heap.size := by omega); (try have q1_2_1 : w2.heap.size + 1 < w1.heap.size := by omega); (try have q1_3_0 : w3.heap.size < w1.heap.size := by omega); (try have q1_3_1 : w3.heap.size + 1 < w1.heap.size := by omega); (try have q1_4_0 : w4.heap.size < w1.heap.size := by omega); (try have q1_4_1 : w4.heap.size + 1 < w1.heap.size := by omega); (try have q1_5_0 : w5.heap.size < w1.heap.size := by omega); (try have q1_5_1 : w5.heap.size + 1 < w1.heap.size := by omega); (try have q1_6_0 : w6.heap.size < w1.heap.size := by omega); (try have q1_6_1 : w6.heap.size + 1 < w1.heap.size := by omega); (try have u1_b : b < w1.heap.size := by omega); (try have u1_q : q < w1.heap.size := by omega); (try have u1_g : g < w1.heap.size := by omega); (try have u1_g1 : g1 < w1.heap.size := by omega); (try have u1_g2 : g2 < w1.heap.size := by omega); (try have u1_g3 : g3 < w1.heap.size := by omega); (try have u1_g4 : g4 < w1.heap.size := by omega); (try have u1_g5 : g5 < w1.heap.size := by omega))
          go_ret
          exact ⟨ret_int HE.out.symm, by have hbw := HB.out; (repeat (first | with_reducible exact Below.refl _ _ | with_reducible refine Below.drew ?_ | (with_reducible refine Below.alloc ?_ ?hsz _; case hsz => ((try simp) <;> (try omega))) | (with_reducible refine Below.setCell ?_ ?hsz _; case hsz => ((try simp) <;> (try omega))) | (with_reducible refine below_step (by with_reducible assumption) ?hsz ?_; case hsz => ((try simp) <;> (try omega)))))⟩
        · rw [if_neg hk2] at HZ
          clear hk
          go_wp2_with (go_at_call 97; (with_reducible refine (HZ.out _).mono ?_); rintro e w1 ⟨rfl, hb1⟩; obtain ⟨hc1, hf1⟩ := bcell hb1; (try simp only [World.size_drew] at hc1 hf1); have hz1 := hb1.size; (try simp at hz1); (try have q1_0 : w.heap.size < w1.heap.size := by omega); (try have q1_1 : w.heap.size + 1 < w1.heap.size := by omega); (try have q1_2 : w.heap.size + 2 < w1.heap.size := by omega); (try have q1_3 : w.heap.size + 3 < w1.heap.size := by omega); (try have q1_4 : w.heap.size + 4 < w1.heap.size := by omega); (try have q1_0_0 : w0.heap.size < w1.heap.size := by omega); (try have q1_0_1 : w0.heap.size + 1 < w1.heap.size := by omega); (try have q1_2_0 : w2.heap.size < w1.heap.size := by omega); (try have q1_2_1 : w2.heap.size + 1 < w1.heap.size := by omega); (try have q1_3_0 : w3.heap.size < w1.heap.size := by omega); (try have q1_3_1 : w3.heap.size + 1 < w1.heap.size := by omega); (try have q1_4_0 : w4.heap.size < w1.heap.size := by omega); (try have q1_4_1 : w4.heap.size + 1 < w1.heap.size := by omega); (try have q1_5_0 : w5.heap.size < w1.heap.size := by omega); (try have q1_5_1 : w5.heap.size + 1 < w1.heap.size := by omega); (try have q1_6_0 : w6.heap.size < w1.heap.size := by omega); (try have q1_6_1 : w6.heap.size + 1 < w1.heap.size := by omega); (try have u1_b : b < w1.heap.size := by omega); (try have u1_q : q < w1.heap.size := by omega); (try have u1_g : g < w1.heap.size := by omega); (try have u1_g1 : g1 < w1.heap.size := by omega); (try have u1_g2 : g2 < w1.heap.size := by omega); (try have u1_g3 : g3 < w1.heap.size := by omega); (try have u1_g4 : g4 < w1.heap.size := by omega); (try have u1_g5 : g5 < w1.heap.size := by omega))
          go_roundw
          case rel => exact ⟨m + 1, by omega, by go_num, by rw [HV.out]; congr 1; omega, by rw [HV.out]; omega, by have hbw := HB.out; (repeat (first | with_reducible exact Below.refl _ _ | with_reducible refine Below.drew ?_ | (with_reducible refine Below.alloc ?_ ?hsz _; case hsz => ((try simp) <;> (try omega))) | (with_reducible refine Below.setCell ?_ ?hsz _; case hsz => ((try simp) <;> (try omega))) | (with_reducible refine below_step (by with_reducible assumption) ?hsz ?_; case hsz => ((try simp) <;> (try omega)))))⟩
          case measure => simp [intOf]; omega
      · obtain rfl : n = m := by omega
        have HE := Lib.hid (show (szI left (rulesI Nn n)) = left - n - sumI (fun i => (Nn i : Int)) n by
          unfold szI; rw [if_neg (by unfold rulesI; omega)]; unfold rulesI; omega)
        go_wp2
        go_ret
        exact ⟨ret_int HE.out.symm, hbw⟩
/-- A copy of a rule comes back, its nodes in a new row. -/
def RuleQ (r0 r1 r2 r3 r4 r5 : Int) (k : Nat) (F : Nat → Nat → Int) (w : World) (e : Ending) (w' : World) : Prop :=
  ∃ NA c, e = .returned (.agg #[.int .i64 r0, .int .i64 r1, .int .i64 r2, .int .i64 r3, .int .i64 r4, .int .i64 r5, .slice NA k c]) ∧ Recs w' 6 NA k F ∧ (∀ b off, NA = some ⟨b, off, none⟩ → w.heap.size ≤ b) ∧ Below w.heap.size w w'
theorem own_addr_lo {w : World} {base : Nat} {e : TypeId} {k : Nat} {A : Option Addr} {n c : Nat} {xs : List Value} (h : w.ownsRow base e k (.slice A n c) n xs) : ∀ b off, A = some ⟨b, off, none⟩ → base ≤ b := fun b off e => by
  subst e
  rcases h.2 with ⟨h1, _⟩ | ⟨g, cap, cur, hv, hg, _⟩
  · cases h1
  · cases hv; exact hg
set_option maxHeartbeats 4000000 in
theorem toRule_any (r0 r1 r2 r3 r4 r5 : Int) (NA : Option Addr) (k c : Nat) (F : Nat → Nat → Int) (w : World) (hk : k ≤ 1048576) (hr : Recs w 6 NA k F) : Calls Try.prog 100 #[.agg #[.int .i64 r0, .int .i64 r1, .int .i64 r2, .int .i64 r3, .int .i64 r4, .int .i64 r5, .slice NA k c]] w (RuleQ r0 r1 r2 r3 r4 r5 k F w) := by
  have HR := Lib.hid hr
  clear hr
  go_enter Try.func100, Try.ntmps100
  go_wp2_with fail
  with_reducible refine (toNodeS_any NA k c F _ hk ?_).mono ?_
  · exact ((HR.out.alloc _).alloc _).alloc _
  rintro e w1 ⟨v, rfl, o1, hb1⟩
  obtain ⟨A1, c1, rfl, _, _⟩ := own_recs o1
  have x3 : Box w1 (w.heap.size + 1 + 1) 119 #[.int .i64 r0, .int .i64 r1, .int .i64 r2, .int .i64 r3, .int .i64 r4, .int .i64 r5, .slice none 0 0] := by (repeat (first | with_reducible assumption | with_reducible exact Box.made _ _ _ | (with_reducible refine Box.made_at ?hg; case hg => (simp; done)) | with_reducible refine Box.drew ?_ | with_reducible refine Box.alloc ?_ _ | (with_reducible refine Box.put2 (a := .int .i64 0) (b := .int .i64 0) ?_ _ _) | (with_reducible refine Box.far ?_ ?hg _; case hg => ((try simp) <;> (try omega))) | with_reducible refine Box.kept ?_ (by with_reducible assumption)))
  have x2 : Box w1 (w.heap.size + 1) 119 #[.int .i64 0, .int .i64 0, .int .i64 0, .int .i64 0, .int .i64 0, .int .i64 0, .slice none 0 0] := by (repeat (first | with_reducible assumption | with_reducible exact Box.made _ _ _ | (with_reducible refine Box.made_at ?hg; case hg => (simp; done)) | with_reducible refine Box.drew ?_ | with_reducible refine Box.alloc ?_ _ | (with_reducible refine Box.put2 (a := .int .i64 0) (b := .int .i64 0) ?_ _ _) | (with_reducible refine Box.far ?_ ?hg _; case hg => ((try simp) <;> (try omega))) | with_reducible refine Box.kept ?_ (by with_reducible assumption)))
  have B1 : Below w.heap.size w w1 := by (repeat (first | with_reducible exact Below.refl _ _ | with_reducible refine Below.drew ?_ | (with_reducible refine Below.alloc ?_ ?hsz _; case hsz => ((try simp) <;> (try omega))) | (with_reducible refine Below.setCell ?_ ?hsz _; case hsz => ((try simp) <;> (try omega))) | (with_reducible refine below_step (by with_reducible assumption) ?hsz ?_; case hsz => ((try simp) <;> (try omega)))))
  have hz1 := hb1.size
  simp only [World.size_alloc] at hz1 o1
  have O1 := Lib.hid o1
  have HLO := Lib.hid (own_addr_lo o1)
  clear hb1 o1
  have p0 := x3.cell 0
  have q0 := x2.cell 0
  have e0 := x3.frozen 0
  have f0 := x2.frozen 0
  have p1 := x3.cell 1
  have q1 := x2.cell 1
  have e1 := x3.frozen 1
  have f1 := x2.frozen 1
  have p2 := x3.cell 2
  have q2 := x2.cell 2
  have e2 := x3.frozen 2
  have f2 := x2.frozen 2
  have p3 := x3.cell 3
  have q3 := x2.cell 3
  have e3 := x3.frozen 3
  have f3 := x2.frozen 3
  have p4 := x3.cell 4
  have q4 := x2.cell 4
  have e4 := x3.frozen 4
  have f4 := x2.frozen 4
  have p5 := x3.cell 5
  have q5 := x2.cell 5
  have e5 := x3.frozen 5
  have f5 := x2.frozen 5
  have p6 := x3.cell 6
  have q6 := x2.cell 6
  have e6 := x3.frozen 6
  have f6 := x2.frozen 6
  clear x2 x3
  go_wp2
  refine bodyPost_ret (v := .agg #[.int .i64 r0, .int .i64 r1, .int .i64 r2, .int .i64 r3, .int .i64 r4, .int .i64 r5, .slice A1 k c1]) (by simp [results, Try.results100, go_sem, *]) rfl ⟨A1, c1, rfl, ?_, ?_, by (repeat (first | with_reducible exact Below.refl _ _ | with_reducible refine Below.drew ?_ | (with_reducible refine Below.alloc ?_ ?hsz _; case hsz => ((try simp) <;> (try omega))) | (with_reducible refine Below.setCell ?_ ?hsz _; case hsz => ((try simp) <;> (try omega))) | (with_reducible refine below_step (by with_reducible assumption) ?hsz ?_; case hsz => ((try simp) <;> (try omega)))))⟩
  · refine own_rec (base := w.heap.size + 1 + 1 + 1) (e := 175) (c := c1) ?_
    repeat (first | (with_reducible refine ownsRow_setCell_below ?_ (by simp) _) | exact O1.out)
  · exact fun b off e => by have := HLO.out b off e; omega
/-- A copy of a row of rules comes back. -/
def RulesQ (n : Nat) (R : Nat → Nat → Int) (Nn : Nat → Nat) (NF : Nat → Nat → Nat → Int) (w : World) (e : Ending) (w' : World) : Prop :=
  ∃ (A : Option Addr) (c : Nat) (NA : Nat → Option Addr) (Nc : Nat → Nat), e = .returned (.slice A n c) ∧ n ≤ c ∧ Rules w' A n R NA Nn Nc NF ∧ (∀ b off, A = some ⟨b, off, none⟩ → w.heap.size ≤ b) ∧ (∀ i, i < n → ∀ b off, NA i = some ⟨b, off, none⟩ → w.heap.size ≤ b) ∧ Below w.heap.size w w'
theorem recs_far {w : World} {k : Nat} {A : Option Addr} {n g : Nat} {F : Nat → Nat → Int} (h : Recs w k A n F) (ha : ∀ b off, A = some ⟨b, off, none⟩ → g < b) (i : Nat) (u : Value) : Recs (w.setCell ⟨g, i, none⟩ u) k A n F :=
  h.moved (grown_set (grown_refl w (some g)) i u) (fun b off e => by have := ha b off e; simp; omega)
set_option maxHeartbeats 4000000 in
theorem put_recV7 {cs : Array Value} {n m : Nat} {V : Nat → Nat → Value} (hs : cs.size = n * 7) (hm : m < n) (hF : ∀ i, i < m → ∀ j, j < 7 → cs[i * 7 + j]? = some (V i j)) :
    ∀ i, i < m + 1 → ∀ j, j < 7 → (((((((cs.setIfInBounds (m * 7) (V m 0)).setIfInBounds (m * 7 + 1) (V m 1)).setIfInBounds (m * 7 + 2) (V m 2)).setIfInBounds (m * 7 + 3) (V m 3)).setIfInBounds (m * 7 + 4) (V m 4)).setIfInBounds (m * 7 + 5) (V m 5)).setIfInBounds (m * 7 + 6) (V m 6))[i * 7 + j]? = some (V i j) := by
  intro i hi j hj
  rcases Nat.lt_or_ge i m with h | h
  · rw [Array.getElem?_setIfInBounds_ne (by omega), Array.getElem?_setIfInBounds_ne (by omega), Array.getElem?_setIfInBounds_ne (by omega), Array.getElem?_setIfInBounds_ne (by omega), Array.getElem?_setIfInBounds_ne (by omega), Array.getElem?_setIfInBounds_ne (by omega), Array.getElem?_setIfInBounds_ne (by omega)]
    exact hF i h j hj
  · obtain rfl : i = m := by omega
    have hj' : j = 0 ∨ j = 1 ∨ j = 2 ∨ j = 3 ∨ j = 4 ∨ j = 5 ∨ j = 6 := by omega
    rcases hj' with rfl | rfl | rfl | rfl | rfl | rfl | rfl
    all_goals
      simp only [Array.getElem?_setIfInBounds, Array.size_setIfInBounds, hs]
      repeat' split
      all_goals first | rfl | omega | exact absurd trivial (by assumption)
set_option maxRecDepth 100000 in
set_option maxHeartbeats 8000000 in
theorem toRuleS_any (A : Option Addr) (n cap : Nat) (R : Nat → Nat → Int) (NA : Nat → Option Addr) (Nn Nc : Nat → Nat) (NF : Nat → Nat → Nat → Int) (w : World) (hn : n ≤ 1048576) (hr : Rules w A n R NA Nn Nc NF) : Calls Try.prog 70 #[.slice A n cap] w (RulesQ n R Nn NF w) := by
  have hmk := run_make_recs (P := Try.prog) 48 119 (.agg #[.int .i64 0, .int .i64 0, .int .i64 0, .int .i64 0, .int .i64 0, .int .i64 0, .slice none 0 0]) 72 7 Try.underlying48 infRule .i64 .i64 n (by omega) (by omega)
  have HR := Lib.hid hr
  clear hr
  go_enter Try.func70, Try.ntmps70
  go_wp2_with fail
  clear hmk
  go_loopw [4] (fun i wr => ∃ (m : Nat) (cs : Array Value) (NB : Nat → Option Addr) (Nd : Nat → Nat), m ≤ n ∧ i = .int .i64 m ∧ Below w.heap.size w wr ∧ Box wr w.heap.size 119 cs ∧ cs.size = n * 7 ∧ Hid (∀ i, i < m → ∀ j, j < 7 → cs[i * 7 + j]? = some (ruleV R NB Nn Nd i j)) ∧ Hid (∀ i, i < m → Recs wr 6 (NB i) (Nn i) (NF i) ∧ ∀ b off, NB i = some ⟨b, off, none⟩ → w.heap.size < b)) (fun i _ => n - (intOf i).toNat)
  case atStart => exact ⟨0, _, fun _ => none, fun _ => 0, Nat.zero_le _, rfl, (Below.refl _ _).alloc (Nat.le_refl _) _, Box.made _ _ _, size_madeCells _ _, fun i hi => by omega, fun i hi => by omega⟩
  case round =>
    obtain ⟨m, cs, NB, Nd, hm, rfl, hbw, y1, hcs, hF, hN⟩ := hrel
    by_cases hlt : m < n
    · obtain ⟨b, off, rfl, hb, c0, c1, c2, c3, c4, c5, c6⟩ := HR.out.at7 hlt
      have d0 := (hbw.cell (p := ⟨b, off + m * 7, none⟩) hb).trans c0
      have d1 := (hbw.cell (p := ⟨b, off + m * 7 + 1, none⟩) hb).trans c1
      have d2 := (hbw.cell (p := ⟨b, off + m * 7 + 2, none⟩) hb).trans c2
      have d3 := (hbw.cell (p := ⟨b, off + m * 7 + 3, none⟩) hb).trans c3
      have d4 := (hbw.cell (p := ⟨b, off + m * 7 + 4, none⟩) hb).trans c4
      have d5 := (hbw.cell (p := ⟨b, off + m * 7 + 5, none⟩) hb).trans c5
      have d6 := (hbw.cell (p := ⟨b, off + m * 7 + 6, none⟩) hb).trans c6
      have hmi : (m : Int) < (n : Int) := by omega
      have hm0 : (0 : Int) ≤ (m : Int) := by omega
      have HY := Lib.hid y1
      have HS := Lib.hid hcs
      have HB := Lib.hid hb
      have HW := Lib.hid hbw
      have HNm := Lib.hid ((HR.out.nodes m hlt).kept hbw)
      have ls := y1.lt
      clear c0 c1 c2 c3 c4 c5 c6 hcs hb y1 hbw
      go_wp2_with fail
      with_reducible refine (toRule_any (R m 0) (R m 1) (R m 2) (R m 3) (R m 4) (R m 5) (NA m) (Nn m) (Nc m) (NF m) _ (HR.out.small m hlt) HNm.out).mono ?_
      rintro e w1 ⟨A1, c1, rfl, rn, hlo, hb1⟩
      have y1 := HY.out.kept hb1
      have hbw1 := HW.out.trans (hb1.mono HW.out.size)
      have hcs := HS.out
      have HRN := Lib.hid rn
      have HLO := Lib.hid hlo
      have HN1 := Lib.hid (fun i (hi : i < m) => (hN.out i hi).1.kept hb1)
      obtain ⟨old0, hold0⟩ : ∃ old, w1.cell? ⟨w.heap.size, m * 7, none⟩ = some old := ⟨cs[m * 7]'(by omega), by rw [y1.cell]; rw [Array.getElem?_eq_getElem]⟩
      have hfz0 := y1.frozen (m * 7)
      obtain ⟨old1, hold1⟩ : ∃ old, w1.cell? ⟨w.heap.size, m * 7 + 1, none⟩ = some old := ⟨cs[m * 7 + 1]'(by omega), by rw [y1.cell]; rw [Array.getElem?_eq_getElem]⟩
      have hfz1 := y1.frozen (m * 7 + 1)
      obtain ⟨old2, hold2⟩ : ∃ old, w1.cell? ⟨w.heap.size, m * 7 + 2, none⟩ = some old := ⟨cs[m * 7 + 2]'(by omega), by rw [y1.cell]; rw [Array.getElem?_eq_getElem]⟩
      have hfz2 := y1.frozen (m * 7 + 2)
      obtain ⟨old3, hold3⟩ : ∃ old, w1.cell? ⟨w.heap.size, m * 7 + 3, none⟩ = some old := ⟨cs[m * 7 + 3]'(by omega), by rw [y1.cell]; rw [Array.getElem?_eq_getElem]⟩
      have hfz3 := y1.frozen (m * 7 + 3)
      obtain ⟨old4, hold4⟩ : ∃ old, w1.cell? ⟨w.heap.size, m * 7 + 4, none⟩ = some old := ⟨cs[m * 7 + 4]'(by omega), by rw [y1.cell]; rw [Array.getElem?_eq_getElem]⟩
      have hfz4 := y1.frozen (m * 7 + 4)
      obtain ⟨old5, hold5⟩ : ∃ old, w1.cell? ⟨w.heap.size, m * 7 + 5, none⟩ = some old := ⟨cs[m * 7 + 5]'(by omega), by rw [y1.cell]; rw [Array.getElem?_eq_getElem]⟩
      have hfz5 := y1.frozen (m * 7 + 5)
      obtain ⟨old6, hold6⟩ : ∃ old, w1.cell? ⟨w.heap.size, m * 7 + 6, none⟩ = some old := ⟨cs[m * 7 + 6]'(by omega), by rw [y1.cell]; rw [Array.getElem?_eq_getElem]⟩
      have hfz6 := y1.frozen (m * 7 + 6)
      have HY1 := Lib.hid y1
      have HBW := Lib.hid hbw1
      clear hb1 hcs HY y1 hbw1 HW rn hlo HNm d0 d1 d2 d3 d4 d5 d6
      go_wp2
      go_roundw
      case rel =>
        refine ⟨m + 1, (((((((cs.setIfInBounds (m * 7) (.int .i64 (R m 0))).setIfInBounds (m * 7 + 1) (.int .i64 (R m 1))).setIfInBounds (m * 7 + 2) (.int .i64 (R m 2))).setIfInBounds (m * 7 + 3) (.int .i64 (R m 3))).setIfInBounds (m * 7 + 4) (.int .i64 (R m 4))).setIfInBounds (m * 7 + 5) (.int .i64 (R m 5))).setIfInBounds (m * 7 + 6) (.slice A1 (Nn m) c1)), fun i => if i = m then A1 else NB i, fun i => if i = m then c1 else Nd i, by omega, by go_num, (((((((HBW.out).setCell (Nat.le_refl _) _).setCell (Nat.le_refl _) _).setCell (Nat.le_refl _) _).setCell (Nat.le_refl _) _).setCell (Nat.le_refl _) _).setCell (Nat.le_refl _) _).setCell (Nat.le_refl _) _, (((((((HY1.out).put (m * 7) _).put (m * 7 + 1) _).put (m * 7 + 2) _).put (m * 7 + 3) _).put (m * 7 + 4) _).put (m * 7 + 5) _).put (m * 7 + 6) _, by simp [HS.out], ?_, ?_⟩
        · have e : ∀ i j, i < m → ruleV R (fun i => if i = m then A1 else NB i) Nn (fun i => if i = m then c1 else Nd i) i j = ruleV R NB Nn Nd i j := fun i j hi => by
            have h1 : ¬ i = m := by omega
            match j with
            | 0 => rfl
            | 1 => rfl
            | 2 => rfl
            | 3 => rfl
            | 4 => rfl
            | 5 => rfl
            | j + 6 => simp only [ruleV, if_neg h1]
          have h2 := put_recV7 (V := ruleV R (fun i => if i = m then A1 else NB i) Nn (fun i => if i = m then c1 else Nd i)) HS.out hlt (fun i hi j hj => by rw [e i j hi]; exact hF.out i hi j hj)
          have h3 : ruleV R (fun i => if i = m then A1 else NB i) Nn (fun i => if i = m then c1 else Nd i) m 6 = .slice A1 (Nn m) c1 := by simp only [ruleV, if_true]
          rw [h3] at h2
          exact h2
        · intro i hi
          by_cases h1 : i = m
          · subst h1
            refine ⟨?_, fun b off e => ?_⟩
            · simp only [if_true]
              have HLO2 := fun b off e => Nat.lt_of_lt_of_le ls (HLO.out b off e)
              exact recs_far (recs_far (recs_far (recs_far (recs_far (recs_far (recs_far HRN.out HLO2 _ _) HLO2 _ _) HLO2 _ _) HLO2 _ _) HLO2 _ _) HLO2 _ _) HLO2 _ _
            · simp only [if_true] at e
              exact Nat.lt_of_lt_of_le ls (HLO.out b off e)
          · have h2 := hN.out i (by omega)
            simp only [if_neg h1]
            exact ⟨recs_far (recs_far (recs_far (recs_far (recs_far (recs_far (recs_far (HN1.out i (by omega)) h2.2 _ _) h2.2 _ _) h2.2 _ _) h2.2 _ _) h2.2 _ _) h2.2 _ _) h2.2 _ _, h2.2⟩
      case measure => simp [intOf]; omega
    · obtain rfl : n = m := by omega
      have HS := Lib.hid hcs
      clear hcs
      go_wp2
      go_ret
      exact ⟨_, n, NB, Nd, rfl, Nat.le_refl _, ⟨own_recv (own_of_boxV (base := w.heap.size) (by omega) (Nat.le_refl _) y1 HS.out (by unfold maxLen; omega) (fun i hi j hj => hF.out i hi j hj)), fun i hi => (hN.out i hi).1, HR.out.small⟩, fun b off e => by cases e; exact Nat.le_refl _, fun i hi b off e => Nat.le_of_lt ((hN.out i hi).2 b off e), hbw⟩
set_option maxHeartbeats 2000000 in
theorem eqRule_same (r0 r1 r2 r3 r4 r5 : Int) (NA NB : Option Addr) (k c d : Nat) (F : Nat → Nat → Int) (w : World) (hk : k ≤ 1048576) (hr : Recs w 6 NA k F) (hs : Recs w 6 NB k F) : Calls Try.prog 104 #[.agg #[.int .i64 r0, .int .i64 r1, .int .i64 r2, .int .i64 r3, .int .i64 r4, .int .i64 r5, .slice NA k c], .agg #[.int .i64 r0, .int .i64 r1, .int .i64 r2, .int .i64 r3, .int .i64 r4, .int .i64 r5, .slice NB k d]] w fun e w' => e = .returned (.bool true) ∧ Below w.heap.size w w' := by
  have HR := Lib.hid ((hr.alloc (.cells #[.int .i64 r0, .int .i64 r1, .int .i64 r2, .int .i64 r3, .int .i64 r4, .int .i64 r5, .slice NA k c] 119)).alloc (.cells #[.int .i64 r0, .int .i64 r1, .int .i64 r2, .int .i64 r3, .int .i64 r4, .int .i64 r5, .slice NB k d] 119))
  have HS := Lib.hid ((hs.alloc (.cells #[.int .i64 r0, .int .i64 r1, .int .i64 r2, .int .i64 r3, .int .i64 r4, .int .i64 r5, .slice NA k c] 119)).alloc (.cells #[.int .i64 r0, .int .i64 r1, .int .i64 r2, .int .i64 r3, .int .i64 r4, .int .i64 r5, .slice NB k d] 119))
  clear hr hs
  go_enter Try.func104, Try.ntmps104
  go_wp2_with (go_at_call 128; (with_reducible refine (eqNodeS_same NA NB k c d F F _ hk HR.out HS.out (fun _ _ _ _ => rfl)).mono ?_); rintro e w1 ⟨rfl, hb1⟩; obtain ⟨hc1, hf1⟩ := bcell hb1; (try simp only [World.size_drew] at hc1 hf1); have hz1 := hb1.size; (try simp at hz1); (try have q1_0 : w.heap.size < w1.heap.size := by omega); (try have q1_1 : w.heap.size + 1 < w1.heap.size := by omega); (try have q1_2 : w.heap.size + 2 < w1.heap.size := by omega); (try have q1_3 : w.heap.size + 3 < w1.heap.size := by omega); (try have q1_4 : w.heap.size + 4 < w1.heap.size := by omega); (try have q1_0_0 : w0.heap.size < w1.heap.size := by omega); (try have q1_0_1 : w0.heap.size + 1 < w1.heap.size := by omega); (try have q1_2_0 : w2.heap.size < w1.heap.size := by omega); (try have q1_2_1 : w2.heap.size + 1 < w1.heap.size := by omega); (try have q1_3_0 : w3.heap.size < w1.heap.size := by omega); (try have q1_3_1 : w3.heap.size + 1 < w1.heap.size := by omega); (try have q1_4_0 : w4.heap.size < w1.heap.size := by omega); (try have q1_4_1 : w4.heap.size + 1 < w1.heap.size := by omega); (try have q1_5_0 : w5.heap.size < w1.heap.size := by omega); (try have q1_5_1 : w5.heap.size + 1 < w1.heap.size := by omega); (try have q1_6_0 : w6.heap.size < w1.heap.size := by omega); (try have q1_6_1 : w6.heap.size + 1 < w1.heap.size := by omega); (try have u1_b : b < w1.heap.size := by omega); (try have u1_q : q < w1.heap.size := by omega); (try have u1_g : g < w1.heap.size := by omega); (try have u1_g1 : g1 < w1.heap.size := by omega); (try have u1_g2 : g2 < w1.heap.size := by omega); (try have u1_g3 : g3 < w1.heap.size := by omega); (try have u1_g4 : g4 < w1.heap.size := by omega); (try have u1_g5 : g5 < w1.heap.size := by omega))
  go_ret
  exact ⟨rfl, by (repeat (first | with_reducible exact Below.refl _ _ | with_reducible refine Below.drew ?_ | (with_reducible refine Below.alloc ?_ ?hsz _; case hsz => ((try simp) <;> (try omega))) | (with_reducible refine Below.setCell ?_ ?hsz _; case hsz => ((try simp) <;> (try omega))) | (with_reducible refine below_step (by with_reducible assumption) ?hsz ?_; case hsz => ((try simp) <;> (try omega)))))⟩
set_option maxRecDepth 100000 in
set_option maxHeartbeats 8000000 in
theorem eqRuleS_same (A B : Option Addr) (n c1 c2 : Nat) (R : Nat → Nat → Int) (NA NB : Nat → Option Addr) (Nn Nc Nd : Nat → Nat) (NF : Nat → Nat → Nat → Int) (w : World) (hn : n ≤ 1048576) (hr : Rules w A n R NA Nn Nc NF) (hs : Rules w B n R NB Nn Nd NF) :
    Calls Try.prog 75 #[.slice A n c1, .slice B n c2] w fun e w' => e = .returned (.bool true) ∧ Below w.heap.size w w' := by
  have HR := Lib.hid hr
  have HS := Lib.hid hs
  clear hr hs
  go_enter Try.func75, Try.ntmps75
  go_wp2_with fail
  go_loopw [5] (fun i wr => ∃ m : Nat, m ≤ n ∧ i = .int .i64 m ∧ Below w.heap.size w wr) (fun i _ => n - (intOf i).toNat)
  case atStart => exact ⟨0, Nat.zero_le _, rfl, Below.refl _ _⟩
  case round =>
    obtain ⟨m, hm, rfl, hbw⟩ := hrel
    by_cases hlt : m < n
    · obtain ⟨b1, off1, rfl, hb1, c0, c1, c2, c3, c4, c5, c6⟩ := HR.out.at7 hlt
      obtain ⟨b2, off2, rfl, hb2, e0, e1, e2, e3, e4, e5, e6⟩ := HS.out.at7 hlt
      have d0 := (hbw.cell (p := ⟨b1, off1 + m * 7, none⟩) hb1).trans c0
      have f0 := (hbw.cell (p := ⟨b2, off2 + m * 7, none⟩) hb2).trans e0
      have d1 := (hbw.cell (p := ⟨b1, off1 + m * 7 + 1, none⟩) hb1).trans c1
      have f1 := (hbw.cell (p := ⟨b2, off2 + m * 7 + 1, none⟩) hb2).trans e1
      have d2 := (hbw.cell (p := ⟨b1, off1 + m * 7 + 2, none⟩) hb1).trans c2
      have f2 := (hbw.cell (p := ⟨b2, off2 + m * 7 + 2, none⟩) hb2).trans e2
      have d3 := (hbw.cell (p := ⟨b1, off1 + m * 7 + 3, none⟩) hb1).trans c3
      have f3 := (hbw.cell (p := ⟨b2, off2 + m * 7 + 3, none⟩) hb2).trans e3
      have d4 := (hbw.cell (p := ⟨b1, off1 + m * 7 + 4, none⟩) hb1).trans c4
      have f4 := (hbw.cell (p := ⟨b2, off2 + m * 7 + 4, none⟩) hb2).trans e4
      have d5 := (hbw.cell (p := ⟨b1, off1 + m * 7 + 5, none⟩) hb1).trans c5
      have f5 := (hbw.cell (p := ⟨b2, off2 + m * 7 + 5, none⟩) hb2).trans e5
      have d6 := (hbw.cell (p := ⟨b1, off1 + m * 7 + 6, none⟩) hb1).trans c6
      have f6 := (hbw.cell (p := ⟨b2, off2 + m * 7 + 6, none⟩) hb2).trans e6
      have hmi : (m : Int) < (n : Int) := by omega
      have hm0 : (0 : Int) ≤ (m : Int) := by omega
      have z1 : b1 < wr.heap.size := Nat.lt_of_lt_of_le hb1 hbw.size
      have z2 : b2 < wr.heap.size := Nat.lt_of_lt_of_le hb2 hbw.size
      have zs := hbw.size
      have NR := Lib.hid ((HR.out.nodes m hlt).kept hbw)
      have NS := Lib.hid ((HS.out.nodes m hlt).kept hbw)
      have HK := Lib.hid (HR.out.small m hlt)
      clear hb1 hb2 c0 c1 c2 c3 c4 c5 c6 e0 e1 e2 e3 e4 e5 e6
      go_wp2_with fail
      go_region_held3 (fun w' => w'.cell? ⟨b1, off1 + m * 7, none⟩ = some (.int .i64 (R m 0)) ∧ w'.cell? ⟨b1, off1 + m * 7 + 1, none⟩ = some (.int .i64 (R m 1)) ∧ w'.cell? ⟨b1, off1 + m * 7 + 2, none⟩ = some (.int .i64 (R m 2)) ∧ w'.cell? ⟨b1, off1 + m * 7 + 3, none⟩ = some (.int .i64 (R m 3)) ∧ w'.cell? ⟨b1, off1 + m * 7 + 4, none⟩ = some (.int .i64 (R m 4)) ∧ w'.cell? ⟨b1, off1 + m * 7 + 5, none⟩ = some (.int .i64 (R m 5)) ∧ w'.cell? ⟨b1, off1 + m * 7 + 6, none⟩ = some (.slice (NA m) (Nn m) (Nc m)) ∧ w'.cell? ⟨b2, off2 + m * 7, none⟩ = some (.int .i64 (R m 0)) ∧ w'.cell? ⟨b2, off2 + m * 7 + 1, none⟩ = some (.int .i64 (R m 1)) ∧ w'.cell? ⟨b2, off2 + m * 7 + 2, none⟩ = some (.int .i64 (R m 2)) ∧ w'.cell? ⟨b2, off2 + m * 7 + 3, none⟩ = some (.int .i64 (R m 3)) ∧ w'.cell? ⟨b2, off2 + m * 7 + 4, none⟩ = some (.int .i64 (R m 4)) ∧ w'.cell? ⟨b2, off2 + m * 7 + 5, none⟩ = some (.int .i64 (R m 5)) ∧ w'.cell? ⟨b2, off2 + m * 7 + 6, none⟩ = some (.slice (NB m) (Nn m) (Nd m))) (simp [go_sem, *])
        (first | (go_at_call 104; (with_reducible refine (eqRule_same (R m 0) (R m 1) (R m 2) (R m 3) (R m 4) (R m 5) (NA m) (NB m) (Nn m) (Nc m) (Nd m) (NF m) _ HK.out NR.out.drew NS.out.drew).mono ?_); rintro e w1 ⟨rfl, hb3⟩; obtain ⟨hc3, hf3⟩ := bcell hb3; (try simp only [World.size_drew] at hc3 hf3)))
      have hbw1 := (hbw.drew).trans (hb3.mono zs)
      clear hc3 hf3 hb3 hbw d0 d1 d2 d3 d4 d5 d6 f0 f1 f2 f3 f4 f5 f6
      go_wp2_with fail
      go_roundw
      case rel => exact ⟨m + 1, by omega, by go_num, hbw1⟩
      case measure => simp [intOf]; omega
    · obtain rfl : n = m := by omega
      go_wp2
      go_ret
      exact ⟨rfl, hbw⟩
end Go.Proofs.Ytgfcmeiffhffaaa
