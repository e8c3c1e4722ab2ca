/- Contracts of the laws' helpers over books, stores, series and cases: size, copy, compare. -/
import Derived.Test.YtgfcmeiffhffaaaCaseOk
import Derived.Test.YtgfcmeiffhffaaaRecRule
import Derived.Test.YtgfcmeiffhffaaaRecFact
import Derived.Test.YtgfcmeiffhffaaaRecPoint
import Derived.Deep.RegionHeld3
namespace Go.Proofs.Ytgfcmeiffhffaaa
open Go.RowKit

theorem recV_far {w : World} {k : Nat} {A : Option Addr} {n g : Nat} {V : Nat → Nat → Value} (h : RecV w k A n V) (ha : ∀ b off, A = some ⟨b, off, none⟩ → g < b) (i : Nat) (u : Value) : RecV (w.setCell ⟨g, i, none⟩ u) k A n V :=
  h.moved (grown_set (grown_refl w (some g)) i u) (fun b off e => by have := ha b off e; simp; omega)
theorem rules_far {w : World} {A : Option Addr} {n g : Nat} {R : Nat → Nat → Int} {NA : Nat → Option Addr} {Nn Nc : Nat → Nat} {NF : Nat → Nat → Nat → Int} (h : Rules w A n R NA Nn Nc NF) (ha : ∀ b off, A = some ⟨b, off, none⟩ → g < b) (hn : ∀ i, i < n → ∀ b off, NA i = some ⟨b, off, none⟩ → g < b) (i : Nat) (u : Value) : Rules (w.setCell ⟨g, i, none⟩ u) A n R NA Nn Nc NF :=
  ⟨recV_far h.row ha i u, fun j hj => recs_far (h.nodes j hj) (hn j hj) i u, h.small⟩
/-- A book comes back, its rules in new rows. -/
def BookQ (n : Nat) (R : Nat → Nat → Int) (Nn : Nat → Nat) (NF : Nat → Nat → Nat → Int) (w : World) (e : Ending) (w' : World) : Prop :=
  ∃ (A : Option Addr) (c : Nat) (NA : Nat → Option Addr) (Nc : Nat → Nat), e = .returned (.agg #[.slice A n c]) ∧ n ≤ c ∧ Rules w' A n R NA Nn Nc NF ∧ (∀ b off, A = some ⟨b, off, none⟩ → w.heap.size ≤ b) ∧ (∀ i, i < n → ∀ b off, NA i = some ⟨b, off, none⟩ → w.heap.size ≤ b) ∧ Below w.heap.size w w'
/-- A struct of one row of records comes back, the row a new one. -/
def OneQ (k n : Nat) (F : Nat → Nat → Int) (w : World) (e : Ending) (w' : World) : Prop :=
  ∃ (A : Option Addr) (c : Nat), e = .returned (.agg #[.slice A n c]) ∧ Recs w' k A n F ∧ (∀ b off, A = some ⟨b, off, none⟩ → w.heap.size ≤ b) ∧ Below w.heap.size w w'

set_option maxHeartbeats 2000000 in
theorem toBook_any (A : Option Addr) (n cap : Nat) (R : Nat → Nat → Int) (NA : Nat → Option Addr) (Nn Nc : Nat → Nat) (NF : Nat → Nat → Nat → Int) (w : World) (hn : n ≤ 1048576) (hr : Rules w A n R NA Nn Nc NF) : Calls Try.prog 39 #[.agg #[.slice A n cap]] w (BookQ n R Nn NF w) := by
  have HR := Lib.hid hr
  clear hr
  go_enter Try.func39, Try.ntmps39
  go_wp2_with fail
  with_reducible refine (toRuleS_any A n cap R NA Nn Nc NF _ hn ?_).mono ?_
  · exact ((HR.out.alloc _).alloc _).alloc _
  rintro e w1 ⟨A1, c1, NB, Nd, rfl, hcap, r1, ha, hb, hb1⟩
  have x3 : Box w1 (w.heap.size + 1 + 1) 50 #[.slice none 0 0] := by (repeat (first | with_reducible assumption | with_reducible exact Box.made _ _ _ | (with_reducible refine Box.made_at ?hg; case hg => (simp; done)) | with_reducible refine Box.drew ?_ | with_reducible refine Box.alloc ?_ _ | (with_reducible refine Box.put2 (a := .int .i64 0) (b := .int .i64 0) ?_ _ _) | (with_reducible refine Box.far ?_ ?hg _; case hg => ((try simp) <;> (try omega))) | with_reducible refine Box.kept ?_ (by with_reducible assumption)))
  have x2 : Box w1 (w.heap.size + 1) 50 #[.slice none 0 0] := by (repeat (first | with_reducible assumption | with_reducible exact Box.made _ _ _ | (with_reducible refine Box.made_at ?hg; case hg => (simp; done)) | with_reducible refine Box.drew ?_ | with_reducible refine Box.alloc ?_ _ | (with_reducible refine Box.put2 (a := .int .i64 0) (b := .int .i64 0) ?_ _ _) | (with_reducible refine Box.far ?_ ?hg _; case hg => ((try simp) <;> (try omega))) | with_reducible refine Box.kept ?_ (by with_reducible assumption)))
  have B1 : Below w.heap.size w w1 := by (repeat (first | with_reducible exact Below.refl _ _ | with_reducible refine Below.drew ?_ | (with_reducible refine Below.alloc ?_ ?hsz _; case hsz => ((try simp) <;> (try omega))) | (with_reducible refine Below.setCell ?_ ?hsz _; case hsz => ((try simp) <;> (try omega))) | (with_reducible refine below_step (by with_reducible assumption) ?hsz ?_; case hsz => ((try simp) <;> (try omega)))))
  have hz1 := hb1.size
  simp only [World.size_alloc] at hz1 ha hb
  have R1 := Lib.hid r1
  have HA := Lib.hid ha
  have HB := Lib.hid hb
  clear hb1 r1 ha hb
  have p0 := x3.cell 0
  have q0 := x2.cell 0
  have e0 := x3.frozen 0
  have f0 := x2.frozen 0
  clear x2 x3
  go_wp2
  refine bodyPost_ret (v := .agg #[.slice A1 n c1]) (by simp [results, Try.results39, go_sem, *]) rfl ⟨A1, c1, NB, Nd, rfl, hcap, ?_, fun b off e => by have := HA.out b off e; omega, fun i hi b off e => by have := HB.out i hi b off e; omega, by (repeat (first | with_reducible exact Below.refl _ _ | with_reducible refine Below.drew ?_ | (with_reducible refine Below.alloc ?_ ?hsz _; case hsz => ((try simp) <;> (try omega))) | (with_reducible refine Below.setCell ?_ ?hsz _; case hsz => ((try simp) <;> (try omega))) | (with_reducible refine below_step (by with_reducible assumption) ?hsz ?_; case hsz => ((try simp) <;> (try omega)))))⟩
  exact rules_far (rules_far R1.out (fun b off e => by have := HA.out b off e; omega) (fun i hi b off e => by have := HB.out i hi b off e; omega) _ _) (fun b off e => by have := HA.out b off e; omega) (fun i hi b off e => by have := HB.out i hi b off e; omega) _ _
theorem szBook_any (A : Option Addr) (n cap : Nat) (R : Nat → Nat → Int) (NA : Nat → Option Addr) (Nn Nc : Nat → Nat) (left : Int) (w : World) (hn : n ≤ 9223372036854775807) (hN : ∀ i, i < n → Nn i ≤ 9223372036854775807) (hr : RecV w 7 A n (ruleV R NA Nn Nc)) (l0 : 0 ≤ left) (l1 : left ≤ 1048576) : Calls Try.prog 33 #[.agg #[.slice A n cap], .int .i64 left] w fun e w' => e = .returned (.int .i64 (szI left (rulesI Nn n))) ∧ Below w.heap.size w w' := by
  have HZ := Lib.hid (szRuleS_any A n cap R NA Nn Nc left _ hn hN l0 l1 (hr.alloc (.cells #[.slice A n cap] 37)))
  clear hr hN
  by_cases h : left < (rulesI Nn n)
  · have HV := Lib.hid (show szI left (rulesI Nn n) = -1 by unfold szI; rw [if_pos h])
    rw [HV.out] at HZ
    rw [HV.out]
    go_enter Try.func33, Try.ntmps33
    go_wp2_with (go_at_call 64; (with_reducible refine (HZ.out).mono ?_); rintro e w1 ⟨rfl, hb1⟩; obtain ⟨hc1, hf1⟩ := bcell hb1; (try simp only [World.size_drew] at hc1 hf1); have hz1 := hb1.size; (try simp at hz1); (try have q1_0 : w.heap.size < w1.heap.size := by omega); (try have q1_1 : w.heap.size + 1 < w1.heap.size := by omega); (try have q1_2 : w.heap.size + 2 < w1.heap.size := by omega); (try have q1_3 : w.heap.size + 3 < w1.heap.size := by omega); (try have q1_4 : w.heap.size + 4 < w1.heap.size := by omega); (try have q1_0_0 : w0.heap.size < w1.heap.size := by omega); (try have q1_0_1 : w0.heap.size + 1 < w1.heap.size := by omega); (try have q1_2_0 : w2.heap.size < w1.heap.size := by omega); (try have q1_2_1 : w2.heap.size + 1 < w1.heap.size := by omega); (try have q1_3_0 : w3.heap.size < w1.heap.size := by omega); (try have q1_3_1 : w3.heap.size + 1 < w1.heap.size := by omega); (try have q1_4_0 : w4.heap.size < w1.heap.size := by omega); (try have q1_4_1 : w4.heap.size + 1 < w1.heap.size := by omega); (try have q1_5_0 : w5.heap.size < w1.heap.size := by omega); (try have q1_5_1 : w5.heap.size + 1 < w1.heap.size := by omega); (try have q1_6_0 : w6.heap.size < w1.heap.size := by omega); (try have q1_6_1 : w6.heap.size + 1 < w1.heap.size := by omega); (try have u1_b : b < w1.heap.size := by omega); (try have u1_q : q < w1.heap.size := by omega); (try have u1_g : g < w1.heap.size := by omega); (try have u1_g1 : g1 < w1.heap.size := by omega); (try have u1_g2 : g2 < w1.heap.size := by omega); (try have u1_g3 : g3 < w1.heap.size := by omega); (try have u1_g4 : g4 < w1.heap.size := by omega); (try have u1_g5 : g5 < w1.heap.size := by omega))
    go_ret
    exact ⟨rfl, by (repeat (first | with_reducible exact Below.refl _ _ | with_reducible refine Below.drew ?_ | (with_reducible refine Below.alloc ?_ ?hsz _; case hsz => ((try simp) <;> (try omega))) | (with_reducible refine Below.setCell ?_ ?hsz _; case hsz => ((try simp) <;> (try omega))) | (with_reducible refine below_step (by with_reducible assumption) ?hsz ?_; case hsz => ((try simp) <;> (try omega)))))⟩
  · have HV := Lib.hid (show szI left (rulesI Nn n) = left - (rulesI Nn n) by unfold szI; rw [if_neg h])
    rw [HV.out] at HZ
    rw [HV.out]
    have hx : ¬ left - (rulesI Nn n) < 0 := by omega
    go_enter Try.func33, Try.ntmps33
    go_wp2_with (go_at_call 64; (with_reducible refine (HZ.out).mono ?_); rintro e w1 ⟨rfl, hb1⟩; obtain ⟨hc1, hf1⟩ := bcell hb1; (try simp only [World.size_drew] at hc1 hf1); have hz1 := hb1.size; (try simp at hz1); (try have q1_0 : w.heap.size < w1.heap.size := by omega); (try have q1_1 : w.heap.size + 1 < w1.heap.size := by omega); (try have q1_2 : w.heap.size + 2 < w1.heap.size := by omega); (try have q1_3 : w.heap.size + 3 < w1.heap.size := by omega); (try have q1_4 : w.heap.size + 4 < w1.heap.size := by omega); (try have q1_0_0 : w0.heap.size < w1.heap.size := by omega); (try have q1_0_1 : w0.heap.size + 1 < w1.heap.size := by omega); (try have q1_2_0 : w2.heap.size < w1.heap.size := by omega); (try have q1_2_1 : w2.heap.size + 1 < w1.heap.size := by omega); (try have q1_3_0 : w3.heap.size < w1.heap.size := by omega); (try have q1_3_1 : w3.heap.size + 1 < w1.heap.size := by omega); (try have q1_4_0 : w4.heap.size < w1.heap.size := by omega); (try have q1_4_1 : w4.heap.size + 1 < w1.heap.size := by omega); (try have q1_5_0 : w5.heap.size < w1.heap.size := by omega); (try have q1_5_1 : w5.heap.size + 1 < w1.heap.size := by omega); (try have q1_6_0 : w6.heap.size < w1.heap.size := by omega); (try have q1_6_1 : w6.heap.size + 1 < w1.heap.size := by omega); (try have u1_b : b < w1.heap.size := by omega); (try have u1_q : q < w1.heap.size := by omega); (try have u1_g : g < w1.heap.size := by omega); (try have u1_g1 : g1 < w1.heap.size := by omega); (try have u1_g2 : g2 < w1.heap.size := by omega); (try have u1_g3 : g3 < w1.heap.size := by omega); (try have u1_g4 : g4 < w1.heap.size := by omega); (try have u1_g5 : g5 < w1.heap.size := by omega))
    go_ret
    exact ⟨rfl, by (repeat (first | with_reducible exact Below.refl _ _ | with_reducible refine Below.drew ?_ | (with_reducible refine Below.alloc ?_ ?hsz _; case hsz => ((try simp) <;> (try omega))) | (with_reducible refine Below.setCell ?_ ?hsz _; case hsz => ((try simp) <;> (try omega))) | (with_reducible refine below_step (by with_reducible assumption) ?hsz ?_; case hsz => ((try simp) <;> (try omega)))))⟩
theorem eqBook_same (A B : Option Addr) (n c1 c2 : Nat) (R : Nat → Nat → Int) (NA NB : Nat → Option Addr) (Nn Nc Nd : Nat → Nat) (NF : Nat → Nat → Nat → Int) (w : World) (hn : n ≤ 1048576) (hr : Rules w A n R NA Nn Nc NF) (hs : Rules w B n R NB Nn Nd NF) :
    Calls Try.prog 45 #[.agg #[.slice A n c1], .agg #[.slice B n c2]] w fun e w' => e = .returned (.bool true) ∧ Below w.heap.size w w' := by
  have HR := Lib.hid ((hr.alloc (.cells #[.slice A n c1] 50)).alloc (.cells #[.slice B n c2] 50))
  have HS := Lib.hid ((hs.alloc (.cells #[.slice A n c1] 50)).alloc (.cells #[.slice B n c2] 50))
  clear hr hs
  go_enter Try.func45, Try.ntmps45
  go_wp2_with (go_at_call 75; (with_reducible refine (eqRuleS_same A B n c1 c2 R NA NB Nn Nc Nd NF _ hn HR.out HS.out).mono ?_); rintro e w1 ⟨rfl, hb1⟩; obtain ⟨hc1, hf1⟩ := bcell hb1; (try simp only [World.size_drew] at hc1 hf1); have hz1 := hb1.size; (try simp at hz1); (try have q1_0 : w.heap.size < w1.heap.size := by omega); (try have q1_1 : w.heap.size + 1 < w1.heap.size := by omega); (try have q1_2 : w.heap.size + 2 < w1.heap.size := by omega); (try have q1_3 : w.heap.size + 3 < w1.heap.size := by omega); (try have q1_4 : w.heap.size + 4 < w1.heap.size := by omega); (try have q1_0_0 : w0.heap.size < w1.heap.size := by omega); (try have q1_0_1 : w0.heap.size + 1 < w1.heap.size := by omega); (try have q1_2_0 : w2.heap.size < w1.heap.size := by omega); (try have q1_2_1 : w2.heap.size + 1 < w1.heap.size := by omega); (try have q1_3_0 : w3.heap.size < w1.heap.size := by omega); (try have q1_3_1 : w3.heap.size + 1 < w1.heap.size := by omega); (try have q1_4_0 : w4.heap.size < w1.heap.size := by omega); (try have q1_4_1 : w4.heap.size + 1 < w1.heap.size := by omega); (try have q1_5_0 : w5.heap.size < w1.heap.size := by omega); (try have q1_5_1 : w5.heap.size + 1 < w1.heap.size := by omega); (try have q1_6_0 : w6.heap.size < w1.heap.size := by omega); (try have q1_6_1 : w6.heap.size + 1 < w1.heap.size := by omega); (try have u1_b : b < w1.heap.size := by omega); (try have u1_q : q < w1.heap.size := by omega); (try have u1_g : g < w1.heap.size := by omega); (try have u1_g1 : g1 < w1.heap.size := by omega); (try have u1_g2 : g2 < w1.heap.size := by omega); (try have u1_g3 : g3 < w1.heap.size := by omega); (try have u1_g4 : g4 < w1.heap.size := by omega); (try have u1_g5 : g5 < w1.heap.size := by omega))
  go_ret
  exact ⟨rfl, by (repeat (first | with_reducible exact Below.refl _ _ | with_reducible refine Below.drew ?_ | (with_reducible refine Below.alloc ?_ ?hsz _; case hsz => ((try simp) <;> (try omega))) | (with_reducible refine Below.setCell ?_ ?hsz _; case hsz => ((try simp) <;> (try omega))) | (with_reducible refine below_step (by with_reducible assumption) ?hsz ?_; case hsz => ((try simp) <;> (try omega)))))⟩
set_option maxHeartbeats 2000000 in
theorem toStore_any (A : Option Addr) (n cap : Nat) (F : Nat → Nat → Int) (w : World) (hn : n ≤ 1048576) (hr : Recs w 5 A n F) : Calls Try.prog 40 #[.agg #[.slice A n cap]] w (OneQ 5 n F w) := by
  have HR := Lib.hid hr
  clear hr
  go_enter Try.func40, Try.ntmps40
  go_wp2_with fail
  with_reducible refine (toFactS_any A n cap F _ hn ?_).mono ?_
  · exact ((HR.out.alloc _).alloc _).alloc _
  rintro e w1 ⟨v, rfl, o1, hb1⟩
  obtain ⟨A1, c1, rfl, _, r1⟩ := own_recs o1
  have ha := own_addr_low o1
  clear o1
  have x3 : Box w1 (w.heap.size + 1 + 1) 53 #[.slice none 0 0] := by (repeat (first | with_reducible assumption | with_reducible exact Box.made _ _ _ | (with_reducible refine Box.made_at ?hg; case hg => (simp; done)) | with_reducible refine Box.drew ?_ | with_reducible refine Box.alloc ?_ _ | (with_reducible refine Box.put2 (a := .int .i64 0) (b := .int .i64 0) ?_ _ _) | (with_reducible refine Box.far ?_ ?hg _; case hg => ((try simp) <;> (try omega))) | with_reducible refine Box.kept ?_ (by with_reducible assumption)))
  have x2 : Box w1 (w.heap.size + 1) 53 #[.slice none 0 0] := by (repeat (first | with_reducible assumption | with_reducible exact Box.made _ _ _ | (with_reducible refine Box.made_at ?hg; case hg => (simp; done)) | with_reducible refine Box.drew ?_ | with_reducible refine Box.alloc ?_ _ | (with_reducible refine Box.put2 (a := .int .i64 0) (b := .int .i64 0) ?_ _ _) | (with_reducible refine Box.far ?_ ?hg _; case hg => ((try simp) <;> (try omega))) | with_reducible refine Box.kept ?_ (by with_reducible assumption)))
  have B1 : Below w.heap.size w w1 := by (repeat (first | with_reducible exact Below.refl _ _ | with_reducible refine Below.drew ?_ | (with_reducible refine Below.alloc ?_ ?hsz _; case hsz => ((try simp) <;> (try omega))) | (with_reducible refine Below.setCell ?_ ?hsz _; case hsz => ((try simp) <;> (try omega))) | (with_reducible refine below_step (by with_reducible assumption) ?hsz ?_; case hsz => ((try simp) <;> (try omega)))))
  have hz1 := hb1.size
  simp only [World.size_alloc] at hz1 ha
  have R1 := Lib.hid r1
  have HA := Lib.hid ha
  clear hb1 r1 ha
  have p0 := x3.cell 0
  have q0 := x2.cell 0
  have e0 := x3.frozen 0
  have f0 := x2.frozen 0
  clear x2 x3
  go_wp2
  refine bodyPost_ret (v := .agg #[.slice A1 n c1]) (by simp [results, Try.results40, go_sem, *]) rfl ⟨A1, c1, rfl, ?_, fun b off e => by have := HA.out b off e; omega, by (repeat (first | with_reducible exact Below.refl _ _ | with_reducible refine Below.drew ?_ | (with_reducible refine Below.alloc ?_ ?hsz _; case hsz => ((try simp) <;> (try omega))) | (with_reducible refine Below.setCell ?_ ?hsz _; case hsz => ((try simp) <;> (try omega))) | (with_reducible refine below_step (by with_reducible assumption) ?hsz ?_; case hsz => ((try simp) <;> (try omega)))))⟩
  exact recs_far (recs_far R1.out (fun b off e => by have := HA.out b off e; omega) _ _) (fun b off e => by have := HA.out b off e; omega) _ _
theorem szStore_any (A : Option Addr) (n cap : Nat) (left : Int) (w : World) (hn : n ≤ 9223372036854775807) (l0 : 0 ≤ left) (l1 : left ≤ 1048576) : Calls Try.prog 34 #[.agg #[.slice A n cap], .int .i64 left] w fun e w' => e = .returned (.int .i64 (szI left n)) ∧ Below w.heap.size w w' := by
  have HZ := Lib.hid (fun w => by have := szFactS_any A n cap left w hn l0 l1; exact (by unfold szI; exact this : Calls Try.prog 65 #[.slice A n cap, .int .i64 left] w fun e w' => e = .returned (.int .i64 (szI left n)) ∧ w = w'))
  by_cases h : left < n
  · have HV := Lib.hid (show szI left n = -1 by unfold szI; rw [if_pos h])
    rw [HV.out] at HZ
    rw [HV.out]
    go_enter Try.func34, Try.ntmps34
    go_wp2_with (go_at_call 65; (with_reducible refine (HZ.out _).mono ?_); rintro e w' ⟨rfl, rfl⟩)
    go_ret
    exact ⟨rfl, by (repeat (first | with_reducible exact Below.refl _ _ | with_reducible refine Below.drew ?_ | (with_reducible refine Below.alloc ?_ ?hsz _; case hsz => ((try simp) <;> (try omega))) | (with_reducible refine Below.setCell ?_ ?hsz _; case hsz => ((try simp) <;> (try omega))) | (with_reducible refine below_step (by with_reducible assumption) ?hsz ?_; case hsz => ((try simp) <;> (try omega)))))⟩
  · have HV := Lib.hid (show szI left n = left - n by unfold szI; rw [if_neg h])
    rw [HV.out] at HZ
    rw [HV.out]
    have hx : ¬ left - n < 0 := by omega
    go_enter Try.func34, Try.ntmps34
    go_wp2_with (go_at_call 65; (with_reducible refine (HZ.out _).mono ?_); rintro e w' ⟨rfl, rfl⟩)
    go_ret
    exact ⟨rfl, by (repeat (first | with_reducible exact Below.refl _ _ | with_reducible refine Below.drew ?_ | (with_reducible refine Below.alloc ?_ ?hsz _; case hsz => ((try simp) <;> (try omega))) | (with_reducible refine Below.setCell ?_ ?hsz _; case hsz => ((try simp) <;> (try omega))) | (with_reducible refine below_step (by with_reducible assumption) ?hsz ?_; case hsz => ((try simp) <;> (try omega)))))⟩
theorem eqStore_same (A B : Option Addr) (n c1 c2 : Nat) (F : Nat → Nat → Int) (w : World) (hn : n ≤ 1048576) (hr : Recs w 5 A n F) (hs : Recs w 5 B n F) :
    Calls Try.prog 46 #[.agg #[.slice A n c1], .agg #[.slice B n c2]] w fun e w' => e = .returned (.bool true) ∧ Below w.heap.size w w' := by
  have HR := Lib.hid ((hr.alloc (.cells #[.slice A n c1] 53)).alloc (.cells #[.slice B n c2] 53))
  have HS := Lib.hid ((hs.alloc (.cells #[.slice A n c1] 53)).alloc (.cells #[.slice B n c2] 53))
  clear hr hs
  go_enter Try.func46, Try.ntmps46
  go_wp2_with (go_at_call 76; (with_reducible refine (eqFactS_same A B n c1 c2 F F _ hn HR.out HS.out (fun _ _ _ _ => rfl)).mono ?_); rintro e w1 ⟨rfl, hb1⟩; obtain ⟨hc1, hf1⟩ := bcell hb1; (try simp only [World.size_drew] at hc1 hf1); have hz1 := hb1.size; (try simp at hz1); (try have q1_0 : w.heap.size < w1.heap.size := by omega); (try have q1_1 : w.heap.size + 1 < w1.heap.size := by omega); (try have q1_2 : w.heap.size + 2 < w1.heap.size := by omega); (try have q1_3 : w.heap.size + 3 < w1.heap.size := by omega); (try have q1_4 : w.heap.size + 4 < w1.heap.size := by omega); (try have q1_0_0 : w0.heap.size < w1.heap.size := by omega); (try have q1_0_1 : w0.heap.size + 1 < w1.heap.size := by omega); (try have q1_2_0 : w2.heap.size < w1.heap.size := by omega); (try have q1_2_1 : w2.heap.size + 1 < w1.heap.size := by omega); (try have q1_3_0 : w3.heap.size < w1.heap.size := by omega); (try have q1_3_1 : w3.heap.size + 1 < w1.heap.size := by omega); (try have q1_4_0 : w4.heap.size < w1.heap.size := by omega); (try have q1_4_1 : w4.heap.size + 1 < w1.heap.size := by omega); (try have q1_5_0 : w5.heap.size < w1.heap.size := by omega); (try have q1_5_1 : w5.heap.size + 1 < w1.heap.size := by omega); (try have q1_6_0 : w6.heap.size < w1.heap.size := by omega); (try have q1_6_1 : w6.heap.size + 1 < w1.heap.size := by omega); (try have u1_b : b < w1.heap.size := by omega); (try have u1_q : q < w1.heap.size := by omega); (try have u1_g : g < w1.heap.size := by omega); (try have u1_g1 : g1 < w1.heap.size := by omega); (try have u1_g2 : g2 < w1.heap.size := by omega); (try have u1_g3 : g3 < w1.heap.size := by omega); (try have u1_g4 : g4 < w1.heap.size := by omega); (try have u1_g5 : g5 < w1.heap.size := by omega))
  go_ret
  exact ⟨rfl, by (repeat (first | with_reducible exact Below.refl _ _ | with_reducible refine Below.drew ?_ | (with_reducible refine Below.alloc ?_ ?hsz _; case hsz => ((try simp) <;> (try omega))) | (with_reducible refine Below.setCell ?_ ?hsz _; case hsz => ((try simp) <;> (try omega))) | (with_reducible refine below_step (by with_reducible assumption) ?hsz ?_; case hsz => ((try simp) <;> (try omega)))))⟩
set_option maxHeartbeats 2000000 in
theorem toSeries_any (A : Option Addr) (n cap : Nat) (F : Nat → Nat → Int) (w : World) (hn : n ≤ 1048576) (hr : Recs w 3 A n F) : Calls Try.prog 41 #[.agg #[.slice A n cap]] w (OneQ 3 n F w) := by
  have HR := Lib.hid hr
  clear hr
  go_enter Try.func41, Try.ntmps41
  go_wp2_with fail
  with_reducible refine (toPointS_any A n cap F _ hn ?_).mono ?_
  · exact ((HR.out.alloc _).alloc _).alloc _
  rintro e w1 ⟨v, rfl, o1, hb1⟩
  obtain ⟨A1, c1, rfl, _, r1⟩ := own_recs o1
  have ha := own_addr_low o1
  clear o1
  have x3 : Box w1 (w.heap.size + 1 + 1) 56 #[.slice none 0 0] := by (repeat (first | with_reducible assumption | with_reducible exact Box.made _ _ _ | (with_reducible refine Box.made_at ?hg; case hg => (simp; done)) | with_reducible refine Box.drew ?_ | with_reducible refine Box.alloc ?_ _ | (with_reducible refine Box.put2 (a := .int .i64 0) (b := .int .i64 0) ?_ _ _) | (with_reducible refine Box.far ?_ ?hg _; case hg => ((try simp) <;> (try omega))) | with_reducible refine Box.kept ?_ (by with_reducible assumption)))
  have x2 : Box w1 (w.heap.size + 1) 56 #[.slice none 0 0] := by (repeat (first | with_reducible assumption | with_reducible exact Box.made _ _ _ | (with_reducible refine Box.made_at ?hg; case hg => (simp; done)) | with_reducible refine Box.drew ?_ | with_reducible refine Box.alloc ?_ _ | (with_reducible refine Box.put2 (a := .int .i64 0) (b := .int .i64 0) ?_ _ _) | (with_reducible refine Box.far ?_ ?hg _; case hg => ((try simp) <;> (try omega))) | with_reducible refine Box.kept ?_ (by with_reducible assumption)))
  have B1 : Below w.heap.size w w1 := by (repeat (first | with_reducible exact Below.refl _ _ | with_reducible refine Below.drew ?_ | (with_reducible refine Below.alloc ?_ ?hsz _; case hsz => ((try simp) <;> (try omega))) | (with_reducible refine Below.setCell ?_ ?hsz _; case hsz => ((try simp) <;> (try omega))) | (with_reducible refine below_step (by with_reducible assumption) ?hsz ?_; case hsz => ((try simp) <;> (try omega)))))
  have hz1 := hb1.size
  simp only [World.size_alloc] at hz1 ha
  have R1 := Lib.hid r1
  have HA := Lib.hid ha
  clear hb1 r1 ha
  have p0 := x3.cell 0
  have q0 := x2.cell 0
  have e0 := x3.frozen 0
  have f0 := x2.frozen 0
  clear x2 x3
  go_wp2
  refine bodyPost_ret (v := .agg #[.slice A1 n c1]) (by simp [results, Try.results41, go_sem, *]) rfl ⟨A1, c1, rfl, ?_, fun b off e => by have := HA.out b off e; omega, by (repeat (first | with_reducible exact Below.refl _ _ | with_reducible refine Below.drew ?_ | (with_reducible refine Below.alloc ?_ ?hsz _; case hsz => ((try simp) <;> (try omega))) | (with_reducible refine Below.setCell ?_ ?hsz _; case hsz => ((try simp) <;> (try omega))) | (with_reducible refine below_step (by with_reducible assumption) ?hsz ?_; case hsz => ((try simp) <;> (try omega)))))⟩
  exact recs_far (recs_far R1.out (fun b off e => by have := HA.out b off e; omega) _ _) (fun b off e => by have := HA.out b off e; omega) _ _
theorem szSeries_any (A : Option Addr) (n cap : Nat) (left : Int) (w : World) (hn : n ≤ 9223372036854775807) (l0 : 0 ≤ left) (l1 : left ≤ 1048576) : Calls Try.prog 35 #[.agg #[.slice A n cap], .int .i64 left] w fun e w' => e = .returned (.int .i64 (szI left n)) ∧ Below w.heap.size w w' := by
  have HZ := Lib.hid (fun w => by have := szPointS_any A n cap left w hn l0 l1; exact (by unfold szI; exact this : Calls Try.prog 66 #[.slice A n cap, .int .i64 left] w fun e w' => e = .returned (.int .i64 (szI left n)) ∧ w = w'))
  by_cases h : left < n
  · have HV := Lib.hid (show szI left n = -1 by unfold szI; rw [if_pos h])
    rw [HV.out] at HZ
    rw [HV.out]
    go_enter Try.func35, Try.ntmps35
    go_wp2_with (go_at_call 66; (with_reducible refine (HZ.out _).mono ?_); rintro e w' ⟨rfl, rfl⟩)
    go_ret
    exact ⟨rfl, by (repeat (first | with_reducible exact Below.refl _ _ | with_reducible refine Below.drew ?_ | (with_reducible refine Below.alloc ?_ ?hsz _; case hsz => ((try simp) <;> (try omega))) | (with_reducible refine Below.setCell ?_ ?hsz _; case hsz => ((try simp) <;> (try omega))) | (with_reducible refine below_step (by with_reducible assumption) ?hsz ?_; case hsz => ((try simp) <;> (try omega)))))⟩
  · have HV := Lib.hid (show szI left n = left - n by unfold szI; rw [if_neg h])
    rw [HV.out] at HZ
    rw [HV.out]
    have hx : ¬ left - n < 0 := by omega
    go_enter Try.func35, Try.ntmps35
    go_wp2_with (go_at_call 66; (with_reducible refine (HZ.out _).mono ?_); rintro e w' ⟨rfl, rfl⟩)
    go_ret
    exact ⟨rfl, by (repeat (first | with_reducible exact Below.refl _ _ | with_reducible refine Below.drew ?_ | (with_reducible refine Below.alloc ?_ ?hsz _; case hsz => ((try simp) <;> (try omega))) | (with_reducible refine Below.setCell ?_ ?hsz _; case hsz => ((try simp) <;> (try omega))) | (with_reducible refine below_step (by with_reducible assumption) ?hsz ?_; case hsz => ((try simp) <;> (try omega)))))⟩
theorem eqSeries_same (A B : Option Addr) (n c1 c2 : Nat) (F : Nat → Nat → Int) (w : World) (hn : n ≤ 1048576) (hr : Recs w 3 A n F) (hs : Recs w 3 B n F) :
    Calls Try.prog 47 #[.agg #[.slice A n c1], .agg #[.slice B n c2]] w fun e w' => e = .returned (.bool true) ∧ Below w.heap.size w w' := by
  have HR := Lib.hid ((hr.alloc (.cells #[.slice A n c1] 56)).alloc (.cells #[.slice B n c2] 56))
  have HS := Lib.hid ((hs.alloc (.cells #[.slice A n c1] 56)).alloc (.cells #[.slice B n c2] 56))
  clear hr hs
  go_enter Try.func47, Try.ntmps47
  go_wp2_with (go_at_call 77; (with_reducible refine (eqPointS_same A B n c1 c2 F F _ hn HR.out HS.out (fun _ _ _ _ => rfl)).mono ?_); rintro e w1 ⟨rfl, hb1⟩; obtain ⟨hc1, hf1⟩ := bcell hb1; (try simp only [World.size_drew] at hc1 hf1); have hz1 := hb1.size; (try simp at hz1); (try have q1_0 : w.heap.size < w1.heap.size := by omega); (try have q1_1 : w.heap.size + 1 < w1.heap.size := by omega); (try have q1_2 : w.heap.size + 2 < w1.heap.size := by omega); (try have q1_3 : w.heap.size + 3 < w1.heap.size := by omega); (try have q1_4 : w.heap.size + 4 < w1.heap.size := by omega); (try have q1_0_0 : w0.heap.size < w1.heap.size := by omega); (try have q1_0_1 : w0.heap.size + 1 < w1.heap.size := by omega); (try have q1_2_0 : w2.heap.size < w1.heap.size := by omega); (try have q1_2_1 : w2.heap.size + 1 < w1.heap.size := by omega); (try have q1_3_0 : w3.heap.size < w1.heap.size := by omega); (try have q1_3_1 : w3.heap.size + 1 < w1.heap.size := by omega); (try have q1_4_0 : w4.heap.size < w1.heap.size := by omega); (try have q1_4_1 : w4.heap.size + 1 < w1.heap.size := by omega); (try have q1_5_0 : w5.heap.size < w1.heap.size := by omega); (try have q1_5_1 : w5.heap.size + 1 < w1.heap.size := by omega); (try have q1_6_0 : w6.heap.size < w1.heap.size := by omega); (try have q1_6_1 : w6.heap.size + 1 < w1.heap.size := by omega); (try have u1_b : b < w1.heap.size := by omega); (try have u1_q : q < w1.heap.size := by omega); (try have u1_g : g < w1.heap.size := by omega); (try have u1_g1 : g1 < w1.heap.size := by omega); (try have u1_g2 : g2 < w1.heap.size := by omega); (try have u1_g3 : g3 < w1.heap.size := by omega); (try have u1_g4 : g4 < w1.heap.size := by omega); (try have u1_g5 : g5 < w1.heap.size := by omega))
  go_ret
  exact ⟨rfl, by (repeat (first | with_reducible exact Below.refl _ _ | with_reducible refine Below.drew ?_ | (with_reducible refine Below.alloc ?_ ?hsz _; case hsz => ((try simp) <;> (try omega))) | (with_reducible refine Below.setCell ?_ ?hsz _; case hsz => ((try simp) <;> (try omega))) | (with_reducible refine below_step (by with_reducible assumption) ?hsz ?_; case hsz => ((try simp) <;> (try omega)))))⟩
theorem szI_two {left a b : Int} (b0 : 0 ≤ b) : (left < a → szI left (a + b) = -1) ∧ (¬ left < a → szI left (a + b) = szI (left - a) b) := by
  unfold szI
  constructor
  · intro h; rw [if_pos (by omega)]
  · intro h
    by_cases h2 : left - a < b
    · rw [if_pos h2, if_pos (by omega)]
    · rw [if_neg h2, if_neg (by omega)]; omega
theorem szI_low {left t : Int} : (left < t → szI left t = -1) ∧ (¬ left < t → szI left t = left - t) := by
  unfold szI
  exact ⟨fun h => by rw [if_pos h], fun h => by rw [if_neg h]⟩
theorem szMemberL_any (b j : Int) (SA : Option Addr) (sn sc : Nat) (EA : Option Addr) (en ec : Nat) (left : Int) (w : World) (hs : sn ≤ 9223372036854775807) (he : en ≤ 9223372036854775807) (l0 : 0 ≤ left) (l1 : left ≤ 1048576) :
    Calls Try.prog 6 #[.agg #[.int .i64 b, .int .i64 j, .slice SA sn sc, .slice EA en ec], .int .i64 left] w fun e w' => e = .returned (.int .i64 (szI left (sn + en))) ∧ Below w.heap.size w w' := by
  obtain ⟨t1, t2⟩ := szI_two (left := left) (a := sn) (b := en) (by omega)
  by_cases h1 : left < sn
  · have H1 := Lib.hid (fun w => by have := szSpellS_any SA sn sc left w hs l0 l1; rw [if_pos h1] at this; exact this : ∀ w, Calls Try.prog 21 #[.slice SA sn sc, .int .i64 left] w fun e w' => e = .returned (.int .i64 (-1)) ∧ w = w')
    rw [t1 h1]
    go_enter Try.func6, Try.ntmps6
    go_wp2_with (first | (go_at_call 21; (with_reducible refine (H1.out _).mono ?_); rintro e w' ⟨rfl, rfl⟩))
    go_ret
    exact ⟨rfl, by (repeat (first | with_reducible exact Below.refl _ _ | with_reducible refine Below.drew ?_ | (with_reducible refine Below.alloc ?_ ?hsz _; case hsz => ((try simp) <;> (try omega))) | (with_reducible refine Below.setCell ?_ ?hsz _; case hsz => ((try simp) <;> (try omega))) | (with_reducible refine below_step (by with_reducible assumption) ?hsz ?_; case hsz => ((try simp) <;> (try omega)))))⟩
  · have H1 := Lib.hid (fun w => by have := szSpellS_any SA sn sc left w hs l0 l1; rw [if_neg h1] at this; exact this : ∀ w, Calls Try.prog 21 #[.slice SA sn sc, .int .i64 left] w fun e w' => e = .returned (.int .i64 (left - sn)) ∧ w = w')
    rw [t2 h1]
    have hx : ¬ left - (sn : Int) < 0 := by omega
    by_cases h2 : left - sn < en
    · have H2 := Lib.hid (fun w => by have := szEventS_any EA en ec (left - sn) w he (by omega) (by omega); rw [if_pos h2] at this; exact this : ∀ w, Calls Try.prog 22 #[.slice EA en ec, .int .i64 (left - sn)] w fun e w' => e = .returned (.int .i64 (-1)) ∧ w = w')
      rw [szI_low.1 h2]
      go_enter Try.func6, Try.ntmps6
      go_wp2_with (first | (go_at_call 21; (with_reducible refine (H1.out _).mono ?_); rintro e w' ⟨rfl, rfl⟩) | (go_at_call 22; (with_reducible refine (H2.out _).mono ?_); rintro e w' ⟨rfl, rfl⟩))
      go_ret
      exact ⟨rfl, by (repeat (first | with_reducible exact Below.refl _ _ | with_reducible refine Below.drew ?_ | (with_reducible refine Below.alloc ?_ ?hsz _; case hsz => ((try simp) <;> (try omega))) | (with_reducible refine Below.setCell ?_ ?hsz _; case hsz => ((try simp) <;> (try omega))) | (with_reducible refine below_step (by with_reducible assumption) ?hsz ?_; case hsz => ((try simp) <;> (try omega)))))⟩
    · have H2 := Lib.hid (fun w => by have := szEventS_any EA en ec (left - sn) w he (by omega) (by omega); rw [if_neg h2] at this; exact this : ∀ w, Calls Try.prog 22 #[.slice EA en ec, .int .i64 (left - sn)] w fun e w' => e = .returned (.int .i64 (left - sn - en)) ∧ w = w')
      rw [szI_low.2 h2]
      have hx2 : ¬ left - (sn : Int) - (en : Int) < 0 := by omega
      go_enter Try.func6, Try.ntmps6
      go_wp2_with (first | (go_at_call 21; (with_reducible refine (H1.out _).mono ?_); rintro e w' ⟨rfl, rfl⟩) | (go_at_call 22; (with_reducible refine (H2.out _).mono ?_); rintro e w' ⟨rfl, rfl⟩))
      go_ret
      exact ⟨rfl, by (repeat (first | with_reducible exact Below.refl _ _ | with_reducible refine Below.drew ?_ | (with_reducible refine Below.alloc ?_ ?hsz _; case hsz => ((try simp) <;> (try omega))) | (with_reducible refine Below.setCell ?_ ?hsz _; case hsz => ((try simp) <;> (try omega))) | (with_reducible refine below_step (by with_reducible assumption) ?hsz ?_; case hsz => ((try simp) <;> (try omega)))))⟩
end Go.Proofs.Ytgfcmeiffhffaaa
