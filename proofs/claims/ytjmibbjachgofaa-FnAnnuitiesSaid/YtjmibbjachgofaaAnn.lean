/- Contracts of valueAfter and of the annuities of the program. -/
import Derived.Test.YtjmibbjachgofaaSurv
import Derived.Test.YtjmibbjachgofaaPlainBand
import Derived.Deep.RegionHeld3
import Derived.Deep.DeepCutAuto
import Derived.Outline
namespace Go.Proofs.Ytjmibbjachgofaa
open Go.RowKit

/-- The value of 1 for each of s survivors after y years. -/
def valL (l h s : Int) (y : Nat) : Int := bandMulL (powP l h y).1 (powP l h y).2 s s
def valH (l h s : Int) (y : Nat) : Int := bandMulH (powP l h y).1 (powP l h y).2 s s
set_option maxHeartbeats 1000000 in
theorem valueAfter_any (l h : Int) (A : Option Addr) (m c : Nat) (S : Nat → Int) (y : Nat) (w : World) (h0 : 0 ≤ l) (h1 : l ≤ h) (h2 : h ≤ 1000000000) (hy : y < m) (hy2 : y ≤ 120) (hr : Row w .i64 A m S) :
    Calls Try.prog 62 #[.agg #[.int .i64 l, .int .i64 h], .slice A m c, .int .i64 y] w fun e w' => e = .returned (.agg #[.int .i64 (valL l h (S y) y), .int .i64 (valH l h (S y) y)]) ∧ Below w.heap.size w w' := by
  have hp : powB l h y = true := by
    have a1 : bandOkB l h = true := bandOkB_true.2 ⟨h0, h1, by omega⟩
    have a2 : inB y 0 120 = true := inB_true.2 ⟨by omega, by omega⟩
    simp [powB, a1, a2, h2]
  have C1 := Lib.hid (fun w => by have := pow_any l h y w; rw [show powL l h y = (powP l h y).1 by simp [powL, hp], show powH l h y = (powP l h y).2 by simp [powH, hp], hp] at this; exact this : ∀ w, Calls Try.prog 22 #[.agg #[.int .i64 l, .int .i64 h], .int .i64 y] w fun e w' => e = .returned (.tuple #[.agg #[.int .i64 (powP l h y).1, .int .i64 (powP l h y).2], .bool true]) ∧ Below w.heap.size w w')
  obtain ⟨b, off, rfl, hb, hc⟩ := hr.at_ (by omega)
  have HB := Lib.hid hb
  have hcy := hc y hy
  have hyi : (y : Int) < (m : Int) := by omega
  have hy0 : (0 : Int) ≤ (y : Int) := by omega
  clear hr hc hp
  unfold valL valH
  go_enter Try.func62, Try.ntmps62
  go_wp2_with (first | (go_at_call 22; (with_reducible refine (C1.out _).mono ?_); rintro e w1 ⟨rfl, hb1⟩; obtain ⟨hc1, hf1⟩ := bcell hb1; (try simp only [World.size_drew] at hc1 hf1); have hz1 := hb1.size; (try simp at hz1); (try have q1_0 : w.heap.size < w1.heap.size := by omega); (try have q1_1 : w.heap.size + 1 < w1.heap.size := by omega); (try have q1_2 : w.heap.size + 2 < w1.heap.size := by omega); (try have q1_3 : w.heap.size + 3 < w1.heap.size := by omega); (try have q1_4 : w.heap.size + 4 < w1.heap.size := by omega); (try have q1_0_0 : w0.heap.size < w1.heap.size := by omega); (try have q1_0_1 : w0.heap.size + 1 < w1.heap.size := by omega); (try have q1_2_0 : w2.heap.size < w1.heap.size := by omega); (try have q1_2_1 : w2.heap.size + 1 < w1.heap.size := by omega); (try have q1_3_0 : w3.heap.size < w1.heap.size := by omega); (try have q1_3_1 : w3.heap.size + 1 < w1.heap.size := by omega); (try have q1_4_0 : w4.heap.size < w1.heap.size := by omega); (try have q1_4_1 : w4.heap.size + 1 < w1.heap.size := by omega); (try have q1_5_0 : w5.heap.size < w1.heap.size := by omega); (try have q1_5_1 : w5.heap.size + 1 < w1.heap.size := by omega); (try have q1_6_0 : w6.heap.size < w1.heap.size := by omega); (try have q1_6_1 : w6.heap.size + 1 < w1.heap.size := by omega); (try have u1_b : b < w1.heap.size := by omega); (try have u1_q : q < w1.heap.size := by omega); (try have u1_g : g < w1.heap.size := by omega); (try have u1_g1 : g1 < w1.heap.size := by omega); (try have u1_g2 : g2 < w1.heap.size := by omega); (try have u1_g3 : g3 < w1.heap.size := by omega); (try have u1_g4 : g4 < w1.heap.size := by omega); (try have u1_g5 : g5 < w1.heap.size := by omega)))
  have X2 : Box (w1.alloc (.cells #[.int .i64 (powP l h y).1, .int .i64 (powP l h y).2] 27)) (w.heap.size + 1) 27 #[.int .i64 0, .int .i64 0] := by (repeat (first | with_reducible assumption | with_reducible exact Box.made _ _ _ | (with_reducible refine Box.made_at ?hg; case hg => (simp; done)) | with_reducible refine Box.drew ?_ | with_reducible refine Box.alloc ?_ _ | (with_reducible refine Box.put2 (a := .int .i64 0) (b := .int .i64 0) ?_ _ _) | (with_reducible refine Box.far ?_ ?hg _; case hg => ((try simp) <;> (try omega))) | with_reducible refine Box.kept ?_ (by with_reducible assumption)))
  have P2 : Box (w1.alloc (.cells #[.int .i64 (powP l h y).1, .int .i64 (powP l h y).2] 27)) w1.heap.size 27 #[.int .i64 (powP l h y).1, .int .i64 (powP l h y).2] := by (repeat (first | with_reducible assumption | with_reducible exact Box.made _ _ _ | (with_reducible refine Box.made_at ?hg; case hg => (simp; done)) | with_reducible refine Box.drew ?_ | with_reducible refine Box.alloc ?_ _ | (with_reducible refine Box.put2 (a := .int .i64 0) (b := .int .i64 0) ?_ _ _) | (with_reducible refine Box.far ?_ ?hg _; case hg => ((try simp) <;> (try omega))) | with_reducible refine Box.kept ?_ (by with_reducible assumption)))
  have B1 : Below w.heap.size w w1 := by (repeat (first | with_reducible exact Below.refl _ _ | with_reducible refine Below.drew ?_ | (with_reducible refine Below.alloc ?_ ?hsz _; case hsz => ((try simp) <;> (try omega))) | (with_reducible refine Below.setCell ?_ ?hsz _; case hsz => ((try simp) <;> (try omega))) | (with_reducible refine below_step (by with_reducible assumption) ?hsz ?_; case hsz => ((try simp) <;> (try omega)))))
  have s1 := B1.size
  have B2 := B1.alloc B1.size (.cells #[.int .i64 (powP l h y).1, .int .i64 (powP l h y).2] 27)
  have hcy2 := (B2.cell (p := ⟨b, off + y, none⟩) hb).trans hcy
  clear hb1 hc1 hf1 hcy B1
  generalize w1.alloc (.cells #[.int .i64 (powP l h y).1, .int .i64 (powP l h y).2] 27) = w2 at *
  generalize w1.heap.size = g1 at *
  clear w1
  have l1 := X2.lt
  have l2 := P2.lt
  have l3 : b < w2.heap.size := by omega
  obtain ⟨p1, p2, p3, p4⟩ := P2.two
  obtain ⟨x1, x2, x3, x4⟩ := X2.two
  go_cut [9] (fun s9 wx => ∃ g : Nat, s9 = .pointer (some ⟨g, 0, none⟩) ∧ Below w.heap.size w wx ∧ w.heap.size ≤ g ∧ Box wx (w.heap.size + 1) 27 #[.int .i64 0, .int .i64 0] ∧ Box wx g 27 #[.int .i64 (bandMulL (powP l h y).1 (powP l h y).2 (S y) (S y)), .int .i64 (bandMulH (powP l h y).1 (powP l h y).2 (S y) (S y))] ∧ g ≠ w.heap.size + 1)
  case first =>
    go_region_held3 (fun w' => w'.cell? ⟨g1, 0, none⟩ = some (.int .i64 (powP l h y).1) ∧ w'.cell? ⟨g1, 1, none⟩ = some (.int .i64 (powP l h y).2) ∧ w'.cell? ⟨b, off + y, none⟩ = some (.int .i64 (S y))) (simp [go_sem, *])
      (first | (go_at_call 28; (with_reducible refine (bandMul_any (powP l h y).1 (powP l h y).2 (S y) (S y) _).mono ?_); rintro e w3 ⟨rfl, hb3⟩; obtain ⟨hc3, hf3⟩ := bcell hb3; (try simp only [World.size_drew] at hc3 hf3); have hz3 := hb3.size; (try simp at hz3); (try have q3_0 : w.heap.size < w3.heap.size := by omega); (try have q3_1 : w.heap.size + 1 < w3.heap.size := by omega); (try have q3_2 : w.heap.size + 2 < w3.heap.size := by omega); (try have q3_3 : w.heap.size + 3 < w3.heap.size := by omega); (try have q3_4 : w.heap.size + 4 < w3.heap.size := by omega); (try have q3_0_0 : w0.heap.size < w3.heap.size := by omega); (try have q3_0_1 : w0.heap.size + 1 < w3.heap.size := by omega); (try have q3_1_0 : w1.heap.size < w3.heap.size := by omega); (try have q3_1_1 : w1.heap.size + 1 < w3.heap.size := by omega); (try have q3_2_0 : w2.heap.size < w3.heap.size := by omega); (try have q3_2_1 : w2.heap.size + 1 < w3.heap.size := by omega); (try have q3_4_0 : w4.heap.size < w3.heap.size := by omega); (try have q3_4_1 : w4.heap.size + 1 < w3.heap.size := by omega); (try have q3_5_0 : w5.heap.size < w3.heap.size := by omega); (try have q3_5_1 : w5.heap.size + 1 < w3.heap.size := by omega); (try have q3_6_0 : w6.heap.size < w3.heap.size := by omega); (try have q3_6_1 : w6.heap.size + 1 < w3.heap.size := by omega); (try have u3_b : b < w3.heap.size := by omega); (try have u3_q : q < w3.heap.size := by omega); (try have u3_g : g < w3.heap.size := by omega); (try have u3_g1 : g1 < w3.heap.size := by omega); (try have u3_g2 : g2 < w3.heap.size := by omega); (try have u3_g3 : g3 < w3.heap.size := by omega); (try have u3_g4 : g4 < w3.heap.size := by omega); (try have u3_g5 : g5 < w3.heap.size := by omega)))
    all_goals (go_wp2_with fail; go_meet; refine ⟨_, rfl, ?_, ?_, ?_, ?_, ?_⟩)
    all_goals first | (with_reducible refine Below.mono ?_ (Nat.le_refl _); (repeat (first | with_reducible exact Below.refl _ _ | with_reducible refine Below.drew ?_ | (with_reducible refine Below.alloc ?_ ?hsz _; case hsz => ((try simp) <;> (try omega))) | (with_reducible refine Below.setCell ?_ ?hsz _; case hsz => ((try simp) <;> (try omega))) | (with_reducible refine below_step (by with_reducible assumption) ?hsz ?_; case hsz => ((try simp) <;> (try omega))))); done) | (with_reducible refine id (α := Box _ _ _ _) ?_; (repeat (first | with_reducible assumption | with_reducible exact Box.made _ _ _ | (with_reducible refine Box.made_at ?hg; case hg => (simp; done)) | with_reducible refine Box.drew ?_ | with_reducible refine Box.alloc ?_ _ | (with_reducible refine Box.put2 (a := .int .i64 0) (b := .int .i64 0) ?_ _ _) | (with_reducible refine Box.far ?_ ?hg _; case hg => ((try simp) <;> (try omega))) | with_reducible refine Box.kept ?_ (by with_reducible assumption))); done) | omega | (simp; done) | (simp; omega)
  case rest =>
    obtain ⟨g, rfl, hbx, hg, x5, x6, hne⟩ := hcut
    obtain ⟨y1, y2, y3, y4⟩ := x5.two
    obtain ⟨z1, z2, z3, z4⟩ := x6.two
    have lz := hbx.size
    go_wp2
    exact bodyPost_ret (v := .agg #[.int .i64 (bandMulL (powP l h y).1 (powP l h y).2 (S y) (S y)), .int .i64 (bandMulH (powP l h y).1 (powP l h y).2 (S y) (S y))]) (by simp [results, Try.results62, go_sem, *]) rfl ⟨rfl, by (repeat (first | with_reducible exact Below.refl _ _ | with_reducible refine Below.drew ?_ | (with_reducible refine Below.alloc ?_ ?hsz _; case hsz => ((try simp) <;> (try omega))) | (with_reducible refine Below.setCell ?_ ?hsz _; case hsz => ((try simp) <;> (try omega))) | (with_reducible refine below_step (by with_reducible assumption) ?hsz ?_; case hsz => ((try simp) <;> (try omega)))))⟩
end Go.Proofs.Ytjmibbjachgofaa
