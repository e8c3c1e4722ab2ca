/- Are all fractions of a row valid: ContainsFunc with the closures of EvalAll and VarsFor. -/
import Derived.Deep.RegionHeld3
import Derived.Deep.DeepCutAuto
import Derived.Test.YtgfcmeiffhffaaaJFind
import Derived.Test.YtgfcmeiffhffaaaJRecMore
import Derived.Test.YtgfcmeiffhffaaaJForm
import Derived.Test.YtgfcmeiffhffaaaJRound
namespace Go.Proofs.Ytgfcmeiffhffaaa
open Go.RowKit

/-- What a node comes to: G are the numbers known so far, V the variables. -/
def evR (k a b c p q : Int) (G V : Nat → Nat → Int) : FR :=
  if k = 1 then ⟨p, q, true⟩ else if k = 2 then ⟨V a.toNat 0, V a.toNat 1, true⟩
  else if k = 3 then addR (G a.toNat 0) (G a.toNat 1) (G b.toNat 0) (G b.toNat 1)
  else if k = 4 then subR (G a.toNat 0) (G a.toNat 1) (G b.toNat 0) (G b.toNat 1)
  else if k = 5 then mulR (G a.toNat 0) (G a.toNat 1) (G b.toNat 0) (G b.toNat 1)
  else if k = 6 then divR (G a.toNat 0) (G a.toNat 1) (G b.toNat 0) (G b.toNat 1)
  else if k = 7 then (if decide (cmpR (G a.toNat 0) (G a.toNat 1) (G b.toNat 0) (G b.toNat 1) ≤ 0) = true then ⟨G a.toNat 0, G a.toNat 1, true⟩ else ⟨G b.toNat 0, G b.toNat 1, true⟩)
  else if k = 8 then (if decide (cmpR (G a.toNat 0) (G a.toNat 1) (G b.toNat 0) (G b.toNat 1) ≤ 0) = true then ⟨G b.toNat 0, G b.toNat 1, true⟩ else ⟨G a.toNat 0, G a.toNat 1, true⟩)
  else if decide (0 < G a.toNat 0) = true then ⟨G b.toNat 0, G b.toNat 1, true⟩ else ⟨G c.toNat 0, G c.toNat 1, true⟩
theorem Box.six {w : World} {g : Nat} {t : TypeId} {a b c d e f : Value} (x : Box w g t #[a, b, c, d, e, f]) : w.cell? ⟨g, 0, none⟩ = some a ∧ w.cell? ⟨g, 1, none⟩ = some b ∧ w.cell? ⟨g, 2, none⟩ = some c ∧ w.cell? ⟨g, 3, none⟩ = some d ∧ w.cell? ⟨g, 4, none⟩ = some e ∧ w.cell? ⟨g, 5, none⟩ = some f :=
  ⟨x.cell 0, x.cell 1, x.cell 2, x.cell 3, x.cell 4, x.cell 5⟩
theorem node_refs {k a b c p q t : Int} (h : nodeB k a b c p q t = true) (k1 : ¬ k = 1) : (k = 2 ∧ 0 ≤ a ∧ a ≤ 7) ∨ (3 ≤ k ∧ k ≤ 9 ∧ 0 ≤ a ∧ a ≤ t - 1 ∧ 0 ≤ b ∧ b ≤ t - 1 ∧ (k = 9 → 0 ≤ c ∧ c ≤ t - 1)) := by
  unfold nodeB at h
  rw [if_neg k1] at h
  by_cases k2 : k = 2
  · rw [if_pos k2] at h
    simp only [Bool.and_eq_true] at h
    have := inB_true.1 h.2.2.1
    exact .inl ⟨k2, this⟩
  · rw [if_neg k2] at h
    by_cases k3 : inB k 3 8 = true
    · rw [if_pos k3] at h
      simp only [Bool.and_eq_true] at h
      have q1 := inB_true.1 h.2.2.1
      have q2 := inB_true.1 h.2.2.2.1
      have q3 := inB_true.1 k3
      exact .inr ⟨by omega, by omega, by omega, by omega, by omega, by omega, by omega⟩
    · rw [if_neg k3] at h
      simp only [Bool.and_eq_true, decide_eq_true_eq] at h
      have q1 := inB_true.1 h.2.2.2.1
      have q2 := inB_true.1 h.2.2.2.2.1
      have q3 := inB_true.1 h.2.2.2.2.2
      exact .inr ⟨by omega, by omega, by omega, by omega, by omega, by omega, by omega⟩
set_option maxRecDepth 100000 in
set_option maxHeartbeats 8000000 in
theorem evalNode_any (k a b c p q : Int) (KA : Option Addr) (t kc : Nat) (G : Nat → Nat → Int) (VA : Option Addr) (vc : Nat) (V : Nat → Nat → Int) (w : World) (hk : nodeB k a b c p q t = true) (hg : Recs w 2 KA t G) (hv : Recs w 2 VA 8 V) :
    Calls Try.prog 135 #[.agg #[.int .i64 k, .int .i64 a, .int .i64 b, .int .i64 c, .int .i64 p, .int .i64 q], .slice KA t kc, .slice VA 8 vc] w (FracJ (evR k a b c p q G V) w) := by
  by_cases k1 : k = 1
  · have HE := Lib.hid (show evR k a b c p q G V = ⟨p, q, true⟩ from if_pos k1)
    subst k1
    clear hg hv hk
    go_enter Try.func135, Try.ntmps135
    go_wp2
    exact bodyPost_ret (v := .tuple #[.agg #[.int .i64 p, .int .i64 q], .bool true]) (by simp [results, Try.results135, go_sem, *]) rfl ⟨by rw [HE.out], by (repeat (first | with_reducible exact Below.refl _ _ | with_reducible refine Below.drew ?_ | (with_reducible refine Below.alloc ?_ ?hsz _; case hsz => ((try simp) <;> (try omega))) | (with_reducible refine Below.setCell ?_ ?hsz _; case hsz => ((try simp) <;> (try omega))) | (with_reducible refine below_step (by with_reducible assumption) ?hsz ?_; case hsz => ((try simp) <;> (try omega)))))⟩
  · have k1' : (k == 1) = false := by simp [k1]
    rcases node_refs hk k1 with ⟨rfl, a0, a1⟩ | ⟨k3, k9, a0, a1, b0, b1, hc9⟩
    · obtain ⟨i, rfl⟩ := Int.eq_ofNat_of_zero_le a0
      have HE := Lib.hid (show evR 2 i b c p q G V = ⟨V i 0, V i 1, true⟩ from rfl)
      obtain ⟨bv, ov, rfl, lb, v0, v1⟩ := hv.at2 (show i < 8 by omega)
      have hi8 : (i : Int) < 8 := by omega
      have hi0 : (0 : Int) ≤ (i : Int) := by omega
      clear hg hv hk
      go_enter Try.func135, Try.ntmps135
      go_wp2
      exact bodyPost_ret (v := .tuple #[.agg #[.int .i64 (V i 0), .int .i64 (V i 1)], .bool true]) (by simp [results, Try.results135, go_sem, *]) rfl ⟨by rw [HE.out], by (repeat (first | with_reducible exact Below.refl _ _ | with_reducible refine Below.drew ?_ | (with_reducible refine Below.alloc ?_ ?hsz _; case hsz => ((try simp) <;> (try omega))) | (with_reducible refine Below.setCell ?_ ?hsz _; case hsz => ((try simp) <;> (try omega))) | (with_reducible refine below_step (by with_reducible assumption) ?hsz ?_; case hsz => ((try simp) <;> (try omega)))))⟩
    · obtain ⟨i, rfl⟩ := Int.eq_ofNat_of_zero_le a0
      obtain ⟨j, rfl⟩ := Int.eq_ofNat_of_zero_le b0
      have k2' : (k == 2) = false := by simp; omega
      have HG0 := Lib.hid hg
      obtain ⟨bk, ok, rfl, lb, g0, g1⟩ := hg.at2 (show i < t by omega)
      obtain ⟨bk', ok', e, _, g2, g3⟩ := hg.at2 (show j < t by omega)
      cases e
      have hit : (i : Int) < (t : Int) := by omega
      have hi0 : (0 : Int) ≤ (i : Int) := by omega
      have hjt : (j : Int) < (t : Int) := by omega
      have hj0 : (0 : Int) ≤ (j : Int) := by omega
      have HK := Lib.hid hk
      clear hg hv hk
      go_enter Try.func135, Try.ntmps135
      go_wp2_with fail
      have x1 : Box ((w.alloc (.cells #[.int .i64 k, .int .i64 i, .int .i64 j, .int .i64 c, .int .i64 p, .int .i64 q] 175)).alloc (.cells #[.int .i64 0, .int .i64 0] 144)) w.heap.size 175 #[.int .i64 k, .int .i64 i, .int .i64 j, .int .i64 c, .int .i64 p, .int .i64 q] := by (repeat (first | with_reducible assumption | with_reducible exact Box.made _ _ _ | (with_reducible refine Box.made_at ?hg; case hg => (simp; done)) | with_reducible refine Box.drew ?_ | with_reducible refine Box.alloc ?_ _ | (with_reducible refine Box.put2 (a := .int .i64 0) (b := .int .i64 0) ?_ _ _) | (with_reducible refine Box.far ?_ ?hg _; case hg => ((try simp) <;> (try omega))) | with_reducible refine Box.kept ?_ (by with_reducible assumption)))
      have x2 : Box ((w.alloc (.cells #[.int .i64 k, .int .i64 i, .int .i64 j, .int .i64 c, .int .i64 p, .int .i64 q] 175)).alloc (.cells #[.int .i64 0, .int .i64 0] 144)) (w.heap.size + 1) 144 #[.int .i64 0, .int .i64 0] := by (repeat (first | with_reducible assumption | with_reducible exact Box.made _ _ _ | (with_reducible refine Box.made_at ?hg; case hg => (simp; done)) | with_reducible refine Box.drew ?_ | with_reducible refine Box.alloc ?_ _ | (with_reducible refine Box.put2 (a := .int .i64 0) (b := .int .i64 0) ?_ _ _) | (with_reducible refine Box.far ?_ ?hg _; case hg => ((try simp) <;> (try omega))) | with_reducible refine Box.kept ?_ (by with_reducible assumption)))
      have B1 : Below w.heap.size w ((w.alloc (.cells #[.int .i64 k, .int .i64 i, .int .i64 j, .int .i64 c, .int .i64 p, .int .i64 q] 175)).alloc (.cells #[.int .i64 0, .int .i64 0] 144)) := by (repeat (first | with_reducible exact Below.refl _ _ | with_reducible refine Below.drew ?_ | (with_reducible refine Below.alloc ?_ ?hsz _; case hsz => ((try simp) <;> (try omega))) | (with_reducible refine Below.setCell ?_ ?hsz _; case hsz => ((try simp) <;> (try omega))) | (with_reducible refine below_step (by with_reducible assumption) ?hsz ?_; case hsz => ((try simp) <;> (try omega)))))
      have hzz : ((w.alloc (.cells #[.int .i64 k, .int .i64 i, .int .i64 j, .int .i64 c, .int .i64 p, .int .i64 q] 175)).alloc (.cells #[.int .i64 0, .int .i64 0] 144)).heap.size = w.heap.size + 2 := by simp
      generalize (w.alloc (.cells #[.int .i64 k, .int .i64 i, .int .i64 j, .int .i64 c, .int .i64 p, .int .i64 q] 175)).alloc (.cells #[.int .i64 0, .int .i64 0] 144) = W at *
      have d0 := (B1.cell (p := ⟨bk, ok + i * 2, none⟩) lb).trans g0
      have d1 := (B1.cell (p := ⟨bk, ok + i * 2 + 1, none⟩) lb).trans g1
      have d2 := (B1.cell (p := ⟨bk, ok + j * 2, none⟩) lb).trans g2
      have d3 := (B1.cell (p := ⟨bk, ok + j * 2 + 1, none⟩) lb).trans g3
      obtain ⟨e0, e1, e2, e3, e4, e5⟩ := x1.six
      have lw : bk < W.heap.size := by omega
      have lx1 := x1.lt
      clear g0 g1 g2 g3
      generalize hx0 : G i 0 = x0 at *
      generalize hx1 : G i 1 = x1' at *
      generalize hy0 : G j 0 = y0 at *
      generalize hy1 : G j 1 = y1 at *
      go_cut [8, 9] (fun s8 s9 wx => ∃ g8 g9 : Nat, s8 = .pointer (some ⟨g8, 0, none⟩) ∧ s9 = .pointer (some ⟨g9, 0, none⟩) ∧ Below w.heap.size w wx ∧ Box wx w.heap.size 175 #[.int .i64 k, .int .i64 i, .int .i64 j, .int .i64 c, .int .i64 p, .int .i64 q] ∧ Box wx (w.heap.size + 1) 144 #[.int .i64 0, .int .i64 0] ∧ Box wx g8 144 #[.int .i64 x0, .int .i64 x1'] ∧ Box wx g9 144 #[.int .i64 y0, .int .i64 y1] ∧ w.heap.size + 1 < g8 ∧ w.heap.size + 1 < g9)
      case first =>
        have lw2 : bk < W.heap.size + 1 := by omega
        have hz2 : w.heap.size + 1 < W.heap.size := by omega
        clear hzz
        have lx2 : w.heap.size < W.heap.size + 1 := by omega
        go_region_held3 (fun w' => w'.cell? ⟨w.heap.size, 1, none⟩ = some (.int .i64 i) ∧ w'.cell? ⟨w.heap.size, 2, none⟩ = some (.int .i64 j) ∧ w'.cell? ⟨bk, ok + i * 2, none⟩ = some (.int .i64 x0) ∧ w'.cell? ⟨bk, ok + i * 2 + 1, none⟩ = some (.int .i64 x1') ∧ w'.cell? ⟨bk, ok + j * 2, none⟩ = some (.int .i64 y0) ∧ w'.cell? ⟨bk, ok + j * 2 + 1, none⟩ = some (.int .i64 y1)) (simp [go_sem, *]) (fail)
        all_goals (go_wp2_with fail; go_meet; refine ⟨_, _, rfl, rfl, ?_, ?_, ?_, ?_, ?_, ?_, ?_⟩)
        all_goals first | ((repeat (first | with_reducible exact Below.refl _ _ | with_reducible refine Below.drew ?_ | (with_reducible refine Below.alloc ?_ ?hsz _; case hsz => ((try simp) <;> (try omega))) | (with_reducible refine Below.setCell ?_ ?hsz _; case hsz => ((try simp) <;> (try omega))) | (with_reducible refine below_step (by with_reducible assumption) ?hsz ?_; case hsz => ((try simp) <;> (try omega))))); done) | ((repeat (first | with_reducible assumption | with_reducible exact Box.made _ _ _ | (with_reducible refine Box.made_at ?hg; case hg => (simp; done)) | with_reducible refine Box.drew ?_ | with_reducible refine Box.alloc ?_ _ | (with_reducible refine Box.put2 (a := .int .i64 0) (b := .int .i64 0) ?_ _ _) | (with_reducible refine Box.far ?_ ?hg _; case hg => ((try simp) <;> (try omega))) | with_reducible refine Box.kept ?_ (by with_reducible assumption))); done) | omega | (simp; omega) | trace_state
      case rest =>
        obtain ⟨wz, rfl⟩ : ∃ w0 : World, w0 = wc := ⟨_, rfl⟩
        obtain ⟨g8, g9, rfl, rfl, hbz, y1', y2, y8, y9, l8, l9⟩ := hcut
        have HGZ := Lib.hid (HG0.out.kept hbz)
        clear d0 d1 d2 d3 e0 e1 e2 e3 e4 e5 lw lx1 x1 x2 B1 hzz
        obtain ⟨e0, e1, e2, e3, e4, e5⟩ := y1'.six
        obtain ⟨f0, f1, f2, f3⟩ := y2.two
        obtain ⟨s0, s1, _, _⟩ := y8.two
        obtain ⟨r0, r1, _, _⟩ := y9.two
        have z1 := y1'.lt
        have z2 := y2.lt
        have z8 := y8.lt
        have z9 := y9.lt
        have n8 : g8 ≠ w.heap.size + 1 := by omega
        have n9 : g9 ≠ w.heap.size + 1 := by omega
        have HB := Lib.hid hbz
        clear y1' y2 y8 y9 l8 l9 hbz
        have HCM := Lib.hid (fracCmp_any x0 x1' y0 y1)
        by_cases k3 : k = 3
        · subst k3
          have HE := Lib.hid (show evR 3 i j c p q G V = addR x0 x1' y0 y1 by rw [← hx0, ← hx1, ← hy0, ← hy1]; rfl)
          have HOP := Lib.hid (fracAdd_any x0 x1' y0 y1)
          generalize addR x0 x1' y0 y1 = rr at *
          generalize cmpR x0 x1' y0 y1 = cv at *
          go_wp2_with (first | (go_at_call 146; (with_reducible refine (HCM.out _).mono ?_); rintro e w1 ⟨rfl, hb1⟩; obtain ⟨hc1, hf1⟩ := bcell hb1; have hz1 := hb1.size; have q81 : g8 < w1.heap.size := (by omega); have q91 : g9 < w1.heap.size := (by omega); have q11 : w.heap.size < w1.heap.size := (by omega); have q21 : w.heap.size + 1 < w1.heap.size := (by omega)) | (go_at_call 147; (with_reducible refine (HOP.out _).mono ?_); rintro e w2 ⟨rfl, hb2⟩; obtain ⟨hc2, hf2⟩ := bcell hb2; have hz2 := hb2.size; have q22 : w.heap.size + 1 < w2.heap.size := (by omega)))
          exact bodyPost_ret (v := .tuple #[.agg #[.int .i64 rr.n, .int .i64 rr.d], .bool rr.ok]) (by simp [results, Try.results135, go_sem, *]) rfl ⟨by rw [HE.out], by have hbz := HB.out; (repeat (first | with_reducible exact Below.refl _ _ | with_reducible refine Below.drew ?_ | (with_reducible refine Below.alloc ?_ ?hsz _; case hsz => ((try simp) <;> (try omega))) | (with_reducible refine Below.setCell ?_ ?hsz _; case hsz => ((try simp) <;> (try omega))) | (with_reducible refine below_step (by with_reducible assumption) ?hsz ?_; case hsz => ((try simp) <;> (try omega)))))⟩
        · have z3 : (k == 3) = false := by simp [k3]
          by_cases k4 : k = 4
          · subst k4
            have HE := Lib.hid (show evR 4 i j c p q G V = subR x0 x1' y0 y1 by rw [← hx0, ← hx1, ← hy0, ← hy1]; rfl)
            have HOP := Lib.hid (fracSub_any x0 x1' y0 y1)
            generalize subR x0 x1' y0 y1 = rr at *
            generalize cmpR x0 x1' y0 y1 = cv at *
            go_wp2_with (first | (go_at_call 146; (with_reducible refine (HCM.out _).mono ?_); rintro e w1 ⟨rfl, hb1⟩; obtain ⟨hc1, hf1⟩ := bcell hb1; have hz1 := hb1.size; have q81 : g8 < w1.heap.size := (by omega); have q91 : g9 < w1.heap.size := (by omega); have q11 : w.heap.size < w1.heap.size := (by omega); have q21 : w.heap.size + 1 < w1.heap.size := (by omega)) | (go_at_call 148; (with_reducible refine (HOP.out _).mono ?_); rintro e w2 ⟨rfl, hb2⟩; obtain ⟨hc2, hf2⟩ := bcell hb2; have hz2 := hb2.size; have q22 : w.heap.size + 1 < w2.heap.size := (by omega)))
            exact bodyPost_ret (v := .tuple #[.agg #[.int .i64 rr.n, .int .i64 rr.d], .bool rr.ok]) (by simp [results, Try.results135, go_sem, *]) rfl ⟨by rw [HE.out], by have hbz := HB.out; (repeat (first | with_reducible exact Below.refl _ _ | with_reducible refine Below.drew ?_ | (with_reducible refine Below.alloc ?_ ?hsz _; case hsz => ((try simp) <;> (try omega))) | (with_reducible refine Below.setCell ?_ ?hsz _; case hsz => ((try simp) <;> (try omega))) | (with_reducible refine below_step (by with_reducible assumption) ?hsz ?_; case hsz => ((try simp) <;> (try omega)))))⟩
          · have z4 : (k == 4) = false := by simp [k4]
            by_cases k5 : k = 5
            · subst k5
              have HE := Lib.hid (show evR 5 i j c p q G V = mulR x0 x1' y0 y1 by rw [← hx0, ← hx1, ← hy0, ← hy1]; rfl)
              have HOP := Lib.hid (fracMul_any x0 x1' y0 y1)
              generalize mulR x0 x1' y0 y1 = rr at *
              generalize cmpR x0 x1' y0 y1 = cv at *
              go_wp2_with (first | (go_at_call 146; (with_reducible refine (HCM.out _).mono ?_); rintro e w1 ⟨rfl, hb1⟩; obtain ⟨hc1, hf1⟩ := bcell hb1; have hz1 := hb1.size; have q81 : g8 < w1.heap.size := (by omega); have q91 : g9 < w1.heap.size := (by omega); have q11 : w.heap.size < w1.heap.size := (by omega); have q21 : w.heap.size + 1 < w1.heap.size := (by omega)) | (go_at_call 149; (with_reducible refine (HOP.out _).mono ?_); rintro e w2 ⟨rfl, hb2⟩; obtain ⟨hc2, hf2⟩ := bcell hb2; have hz2 := hb2.size; have q22 : w.heap.size + 1 < w2.heap.size := (by omega)))
              exact bodyPost_ret (v := .tuple #[.agg #[.int .i64 rr.n, .int .i64 rr.d], .bool rr.ok]) (by simp [results, Try.results135, go_sem, *]) rfl ⟨by rw [HE.out], by have hbz := HB.out; (repeat (first | with_reducible exact Below.refl _ _ | with_reducible refine Below.drew ?_ | (with_reducible refine Below.alloc ?_ ?hsz _; case hsz => ((try simp) <;> (try omega))) | (with_reducible refine Below.setCell ?_ ?hsz _; case hsz => ((try simp) <;> (try omega))) | (with_reducible refine below_step (by with_reducible assumption) ?hsz ?_; case hsz => ((try simp) <;> (try omega)))))⟩
            · have z5 : (k == 5) = false := by simp [k5]
              by_cases k6 : k = 6
              · subst k6
                have HE := Lib.hid (show evR 6 i j c p q G V = divR x0 x1' y0 y1 by rw [← hx0, ← hx1, ← hy0, ← hy1]; rfl)
                have HOP := Lib.hid (fracDiv_any x0 x1' y0 y1)
                generalize divR x0 x1' y0 y1 = rr at *
                generalize cmpR x0 x1' y0 y1 = cv at *
                go_wp2_with (first | (go_at_call 146; (with_reducible refine (HCM.out _).mono ?_); rintro e w1 ⟨rfl, hb1⟩; obtain ⟨hc1, hf1⟩ := bcell hb1; have hz1 := hb1.size; have q81 : g8 < w1.heap.size := (by omega); have q91 : g9 < w1.heap.size := (by omega); have q11 : w.heap.size < w1.heap.size := (by omega); have q21 : w.heap.size + 1 < w1.heap.size := (by omega)) | (go_at_call 150; (with_reducible refine (HOP.out _).mono ?_); rintro e w2 ⟨rfl, hb2⟩; obtain ⟨hc2, hf2⟩ := bcell hb2; have hz2 := hb2.size; have q22 : w.heap.size + 1 < w2.heap.size := (by omega)))
                exact bodyPost_ret (v := .tuple #[.agg #[.int .i64 rr.n, .int .i64 rr.d], .bool rr.ok]) (by simp [results, Try.results135, go_sem, *]) rfl ⟨by rw [HE.out], by have hbz := HB.out; (repeat (first | with_reducible exact Below.refl _ _ | with_reducible refine Below.drew ?_ | (with_reducible refine Below.alloc ?_ ?hsz _; case hsz => ((try simp) <;> (try omega))) | (with_reducible refine Below.setCell ?_ ?hsz _; case hsz => ((try simp) <;> (try omega))) | (with_reducible refine below_step (by with_reducible assumption) ?hsz ?_; case hsz => ((try simp) <;> (try omega)))))⟩
              · have z6 : (k == 6) = false := by simp [k6]
                by_cases k7 : k = 7
                · subst k7
                  rcases Bool.eq_false_or_eq_true (decide (cmpR x0 x1' y0 y1 ≤ 0)) with cc | cc
                  · have HE := Lib.hid (show evR 7 i j c p q G V = ⟨x0, x1', true⟩ by
                      have h2 := cc
                      rw [← hx0, ← hx1, ← hy0, ← hy1] at h2
                      exact (show evR 7 i j c p q G V = ⟨G i 0, G i 1, true⟩ from if_pos h2).trans (by rw [hx0, hx1]))
                    generalize cmpR x0 x1' y0 y1 = cv at *
                    go_wp2_with (first | (go_at_call 146; (with_reducible refine (HCM.out _).mono ?_); rintro e w1 ⟨rfl, hb1⟩; obtain ⟨hc1, hf1⟩ := bcell hb1; have hz1 := hb1.size; have q81 : g8 < w1.heap.size := (by omega); have q91 : g9 < w1.heap.size := (by omega); have q11 : w.heap.size < w1.heap.size := (by omega); have q21 : w.heap.size + 1 < w1.heap.size := (by omega)))
                    exact bodyPost_ret (v := .tuple #[.agg #[.int .i64 x0, .int .i64 x1'], .bool true]) (by simp [results, Try.results135, go_sem, *]) rfl ⟨by rw [HE.out], by have hbz := HB.out; (repeat (first | with_reducible exact Below.refl _ _ | with_reducible refine Below.drew ?_ | (with_reducible refine Below.alloc ?_ ?hsz _; case hsz => ((try simp) <;> (try omega))) | (with_reducible refine Below.setCell ?_ ?hsz _; case hsz => ((try simp) <;> (try omega))) | (with_reducible refine below_step (by with_reducible assumption) ?hsz ?_; case hsz => ((try simp) <;> (try omega)))))⟩
                  · have HE := Lib.hid (show evR 7 i j c p q G V = ⟨y0, y1, true⟩ by
                      have h2 := cc
                      rw [← hx0, ← hx1, ← hy0, ← hy1] at h2
                      exact (show evR 7 i j c p q G V = ⟨G j 0, G j 1, true⟩ from if_neg (c := decide (cmpR (G i 0) (G i 1) (G j 0) (G j 1) ≤ 0) = true) (by rw [h2]; decide)).trans (by rw [hy0, hy1]))
                    generalize cmpR x0 x1' y0 y1 = cv at *
                    go_wp2_with (first | (go_at_call 146; (with_reducible refine (HCM.out _).mono ?_); rintro e w1 ⟨rfl, hb1⟩; obtain ⟨hc1, hf1⟩ := bcell hb1; have hz1 := hb1.size; have q81 : g8 < w1.heap.size := (by omega); have q91 : g9 < w1.heap.size := (by omega); have q11 : w.heap.size < w1.heap.size := (by omega); have q21 : w.heap.size + 1 < w1.heap.size := (by omega)))
                    exact bodyPost_ret (v := .tuple #[.agg #[.int .i64 y0, .int .i64 y1], .bool true]) (by simp [results, Try.results135, go_sem, *]) rfl ⟨by rw [HE.out], by have hbz := HB.out; (repeat (first | with_reducible exact Below.refl _ _ | with_reducible refine Below.drew ?_ | (with_reducible refine Below.alloc ?_ ?hsz _; case hsz => ((try simp) <;> (try omega))) | (with_reducible refine Below.setCell ?_ ?hsz _; case hsz => ((try simp) <;> (try omega))) | (with_reducible refine below_step (by with_reducible assumption) ?hsz ?_; case hsz => ((try simp) <;> (try omega)))))⟩
                · have z7 : (k == 7) = false := by simp [k7]
                  by_cases k8 : k = 8
                  · subst k8
                    rcases Bool.eq_false_or_eq_true (decide (cmpR x0 x1' y0 y1 ≤ 0)) with cc | cc
                    · have HE := Lib.hid (show evR 8 i j c p q G V = ⟨y0, y1, true⟩ by
                        have h2 := cc
                        rw [← hx0, ← hx1, ← hy0, ← hy1] at h2
                        exact (show evR 8 i j c p q G V = ⟨G j 0, G j 1, true⟩ from if_pos h2).trans (by rw [hy0, hy1]))
                      generalize cmpR x0 x1' y0 y1 = cv at *
                      go_wp2_with (first | (go_at_call 146; (with_reducible refine (HCM.out _).mono ?_); rintro e w1 ⟨rfl, hb1⟩; obtain ⟨hc1, hf1⟩ := bcell hb1; have hz1 := hb1.size; have q81 : g8 < w1.heap.size := (by omega); have q91 : g9 < w1.heap.size := (by omega); have q11 : w.heap.size < w1.heap.size := (by omega); have q21 : w.heap.size + 1 < w1.heap.size := (by omega)))
                      exact bodyPost_ret (v := .tuple #[.agg #[.int .i64 y0, .int .i64 y1], .bool true]) (by simp [results, Try.results135, go_sem, *]) rfl ⟨by rw [HE.out], by have hbz := HB.out; (repeat (first | with_reducible exact Below.refl _ _ | with_reducible refine Below.drew ?_ | (with_reducible refine Below.alloc ?_ ?hsz _; case hsz => ((try simp) <;> (try omega))) | (with_reducible refine Below.setCell ?_ ?hsz _; case hsz => ((try simp) <;> (try omega))) | (with_reducible refine below_step (by with_reducible assumption) ?hsz ?_; case hsz => ((try simp) <;> (try omega)))))⟩
                    · have HE := Lib.hid (show evR 8 i j c p q G V = ⟨x0, x1', true⟩ by
                        have h2 := cc
                        rw [← hx0, ← hx1, ← hy0, ← hy1] at h2
                        exact (show evR 8 i j c p q G V = ⟨G i 0, G i 1, true⟩ from if_neg (c := decide (cmpR (G i 0) (G i 1) (G j 0) (G j 1) ≤ 0) = true) (by rw [h2]; decide)).trans (by rw [hx0, hx1]))
                      generalize cmpR x0 x1' y0 y1 = cv at *
                      go_wp2_with (first | (go_at_call 146; (with_reducible refine (HCM.out _).mono ?_); rintro e w1 ⟨rfl, hb1⟩; obtain ⟨hc1, hf1⟩ := bcell hb1; have hz1 := hb1.size; have q81 : g8 < w1.heap.size := (by omega); have q91 : g9 < w1.heap.size := (by omega); have q11 : w.heap.size < w1.heap.size := (by omega); have q21 : w.heap.size + 1 < w1.heap.size := (by omega)))
                      exact bodyPost_ret (v := .tuple #[.agg #[.int .i64 x0, .int .i64 x1'], .bool true]) (by simp [results, Try.results135, go_sem, *]) rfl ⟨by rw [HE.out], by have hbz := HB.out; (repeat (first | with_reducible exact Below.refl _ _ | with_reducible refine Below.drew ?_ | (with_reducible refine Below.alloc ?_ ?hsz _; case hsz => ((try simp) <;> (try omega))) | (with_reducible refine Below.setCell ?_ ?hsz _; case hsz => ((try simp) <;> (try omega))) | (with_reducible refine below_step (by with_reducible assumption) ?hsz ?_; case hsz => ((try simp) <;> (try omega)))))⟩
                  · have z8 : (k == 8) = false := by simp [k8]
                    obtain rfl : k = 9 := by omega
                    obtain ⟨c0, c1⟩ := hc9 rfl
                    rcases Bool.eq_false_or_eq_true (decide (0 < x0)) with cc | cc
                    · have HE := Lib.hid (show evR 9 i j c p q G V = ⟨y0, y1, true⟩ by
                        rw [← hx0] at cc
                        rw [← hy0, ← hy1]
                        exact if_pos cc)
                      generalize cmpR x0 x1' y0 y1 = cv at *
                      go_wp2_with (first | (go_at_call 146; (with_reducible refine (HCM.out _).mono ?_); rintro e w1 ⟨rfl, hb1⟩; obtain ⟨hc1, hf1⟩ := bcell hb1; have hz1 := hb1.size; have q81 : g8 < w1.heap.size := (by omega); have q91 : g9 < w1.heap.size := (by omega); have q11 : w.heap.size < w1.heap.size := (by omega); have q21 : w.heap.size + 1 < w1.heap.size := (by omega)))
                      exact bodyPost_ret (v := .tuple #[.agg #[.int .i64 y0, .int .i64 y1], .bool true]) (by simp [results, Try.results135, go_sem, *]) rfl ⟨by rw [HE.out], by have hbz := HB.out; (repeat (first | with_reducible exact Below.refl _ _ | with_reducible refine Below.drew ?_ | (with_reducible refine Below.alloc ?_ ?hsz _; case hsz => ((try simp) <;> (try omega))) | (with_reducible refine Below.setCell ?_ ?hsz _; case hsz => ((try simp) <;> (try omega))) | (with_reducible refine below_step (by with_reducible assumption) ?hsz ?_; case hsz => ((try simp) <;> (try omega)))))⟩
                    · obtain ⟨l, rfl⟩ := Int.eq_ofNat_of_zero_le c0
                      have HE := Lib.hid (show evR 9 i j l p q G V = ⟨G l 0, G l 1, true⟩ by
                        rw [← hx0] at cc
                        exact if_neg (c := decide (0 < G i 0) = true) (by rw [cc]; decide))
                      obtain ⟨bk2, ok2, e', lb2, u0, u1⟩ := HGZ.out.at2 (show l < t by omega)
                      cases e'
                      have hlt : (l : Int) < (t : Int) := by omega
                      have hl0 : (0 : Int) ≤ (l : Int) := by omega
                      generalize cmpR x0 x1' y0 y1 = cv at *
                      go_wp2_with (first | (go_at_call 146; (with_reducible refine (HCM.out _).mono ?_); rintro e w1 ⟨rfl, hb1⟩; obtain ⟨hc1, hf1⟩ := bcell hb1; have hz1 := hb1.size; have q81 : g8 < w1.heap.size := (by omega); have q91 : g9 < w1.heap.size := (by omega); have q11 : w.heap.size < w1.heap.size := (by omega); have q21 : w.heap.size + 1 < w1.heap.size := (by omega)))
                      exact bodyPost_ret (v := .tuple #[.agg #[.int .i64 (G l 0), .int .i64 (G l 1)], .bool true]) (by simp [results, Try.results135, go_sem, *]) rfl ⟨by rw [HE.out], by have hbz := HB.out; (repeat (first | with_reducible exact Below.refl _ _ | with_reducible refine Below.drew ?_ | (with_reducible refine Below.alloc ?_ ?hsz _; case hsz => ((try simp) <;> (try omega))) | (with_reducible refine Below.setCell ?_ ?hsz _; case hsz => ((try simp) <;> (try omega))) | (with_reducible refine below_step (by with_reducible assumption) ?hsz ?_; case hsz => ((try simp) <;> (try omega)))))⟩
end Go.Proofs.Ytgfcmeiffhffaaa
namespace Go.Proofs.Ytgfcmeiffhffaaa
open Go.RowKit

def fracsB (V : Nat → Nat → Int) (n : Nat) : Bool := allB (fun i => fracI (V i 0) (V i 1)) n
theorem badE_any (p q : Int) (w : World) : Calls Try.prog 134 #[.agg #[.int .i64 p, .int .i64 q]] w fun e w' => e = .returned (.bool (!fracI p q)) ∧ Below w.heap.size w w' := by
  go_enter Try.func134, Try.ntmps134
  go_wp2_with (go_at_call 93; (with_reducible refine (fracOkI_any p q _).mono ?_); rintro e w1 ⟨rfl, hb1⟩; obtain ⟨hc1, hf1⟩ := bcell hb1; (try simp only [World.size_drew] at hc1 hf1); have hz1 := hb1.size; (try simp at hz1); (try have q1_0 : w.heap.size < w1.heap.size := by omega); (try have q1_1 : w.heap.size + 1 < w1.heap.size := by omega); (try have q1_2 : w.heap.size + 2 < w1.heap.size := by omega); (try have q1_3 : w.heap.size + 3 < w1.heap.size := by omega); (try have q1_4 : w.heap.size + 4 < w1.heap.size := by omega); (try have q1_0_0 : w0.heap.size < w1.heap.size := by omega); (try have q1_0_1 : w0.heap.size + 1 < w1.heap.size := by omega); (try have q1_2_0 : w2.heap.size < w1.heap.size := by omega); (try have q1_2_1 : w2.heap.size + 1 < w1.heap.size := by omega); (try have q1_3_0 : w3.heap.size < w1.heap.size := by omega); (try have q1_3_1 : w3.heap.size + 1 < w1.heap.size := by omega); (try have q1_4_0 : w4.heap.size < w1.heap.size := by omega); (try have q1_4_1 : w4.heap.size + 1 < w1.heap.size := by omega); (try have q1_5_0 : w5.heap.size < w1.heap.size := by omega); (try have q1_5_1 : w5.heap.size + 1 < w1.heap.size := by omega); (try have q1_6_0 : w6.heap.size < w1.heap.size := by omega); (try have q1_6_1 : w6.heap.size + 1 < w1.heap.size := by omega); (try have u1_b : b < w1.heap.size := by omega); (try have u1_q : q < w1.heap.size := by omega); (try have u1_g : g < w1.heap.size := by omega); (try have u1_g1 : g1 < w1.heap.size := by omega); (try have u1_g2 : g2 < w1.heap.size := by omega); (try have u1_g3 : g3 < w1.heap.size := by omega); (try have u1_g4 : g4 < w1.heap.size := by omega); (try have u1_g5 : g5 < w1.heap.size := by omega))
  go_ret
  exact ⟨rfl, by (repeat (first | with_reducible exact Below.refl _ _ | with_reducible refine Below.drew ?_ | (with_reducible refine Below.alloc ?_ ?hsz _; case hsz => ((try simp) <;> (try omega))) | (with_reducible refine Below.setCell ?_ ?hsz _; case hsz => ((try simp) <;> (try omega))) | (with_reducible refine below_step (by with_reducible assumption) ?hsz ?_; case hsz => ((try simp) <;> (try omega)))))⟩
theorem indexFrE_any (A : Option Addr) (n cap : Nat) (F : Nat → Nat → Int) (w : World) (hn : n ≤ 1048576) (hr : Recs w 2 A n F) :
    Calls Try.prog 121 #[.slice A n cap, .func (.func 134) #[] #[]] w fun e w' => e = .returned (.int .i64 (findI (fun i => !fracI (F i 0) (F i 1)) n)) ∧ Below w.heap.size w w' := by
  have HR := Lib.hid hr
  clear hr
  go_enter Try.func121, Try.ntmps121
  go_wp2_with fail
  go_loopw [8] (fun i wr => ∃ k : Nat, k ≤ n ∧ i = .int .i64 k ∧ Below w.heap.size w wr ∧ Hid (∀ j, j < k → (!fracI (F j 0) (F j 1)) = false)) (fun i _ => n - (intOf i).toNat)
  case atStart => exact ⟨0, Nat.zero_le _, rfl, Below.refl _ _, fun j hj => by omega⟩
  case round =>
    obtain ⟨m, hm, rfl, hbw, hF⟩ := hrel
    by_cases hlt : m < n
    · obtain ⟨b, off, rfl, hb, c0, c1⟩ := HR.out.at2 hlt
      have d0 := (hbw.cell (p := ⟨b, off + m * 2, none⟩) hb).trans c0
      have d1 := (hbw.cell (p := ⟨b, off + m * 2 + 1, none⟩) hb).trans c1
      have hmi : (m : Int) < (n : Int) := by omega
      have hm0 : (0 : Int) ≤ (m : Int) := by omega
      have hbs := hbw.size
      clear c0 c1 hb
      have HB := Lib.hid hbw
      clear hbw
      go_wp2_with fail
      with_reducible refine (badE_any (F m 0) (F m 1) _).mono ?_
      rintro e w1 ⟨rfl, hb1⟩
      have hbw := HB.out.trans (hb1.mono hbs)
      clear hb1 HB d0 d1
      rcases Bool.eq_false_or_eq_true (!fracI (F m 0) (F m 1)) with hp | hp
      · rw [hp]
        go_wp2
        go_ret
        exact ⟨ret_int (findI_hit hF.out hlt hp).symm, hbw⟩
      · rw [hp]
        go_wp2
        go_roundw
        case rel => exact ⟨m + 1, by omega, by go_num, hbw, fun j hj => by
          rcases Nat.lt_or_ge j m with h | h
          · exact hF.out j h
          · obtain rfl : j = m := by omega
            exact hp⟩
        case measure => simp [intOf]; omega
    · obtain rfl : m = n := by omega
      go_wp2
      go_ret
      exact ⟨ret_int (findI_none hF.out).symm, hbw⟩
theorem containsFrE_any (A : Option Addr) (n cap : Nat) (F : Nat → Nat → Int) (w : World) (hn : n ≤ 1048576) (hr : Recs w 2 A n F) :
    Calls Try.prog 91 #[.slice A n cap, .func (.func 134) #[] #[]] w fun e w' => e = .returned (.bool (!fracsB F n)) ∧ Below w.heap.size w w' := by
  have hb : (decide (0 ≤ findI (fun i => !fracI (F i 0) (F i 1)) n)) = !fracsB F n := by
    rcases findI_cases (fun i => !fracI (F i 0) (F i 1)) n with ⟨e, h⟩ | ⟨k, e, hk, hp, _⟩
    · have : fracsB F n = true := allB_iff.2 fun i hi => by simpa using h i hi
      rw [e, this]; rfl
    · have : fracsB F n = false := allB_false hk (by simpa using hp)
      rw [e, this]; simp
  have HB := Lib.hid hb
  clear hb
  have hr' := Lib.hid hr
  clear hr
  go_enter Try.func91, Try.ntmps91
  go_wp2_with (first | (go_at_call 121; (with_reducible refine (indexFrE_any A n cap F _ hn hr'.out).mono ?_); rintro e w1 ⟨rfl, hb1⟩))
  go_ret
  exact ⟨ret_bool HB.out, hb1⟩
theorem badV_any (p q : Int) (w : World) : Calls Try.prog 92 #[.agg #[.int .i64 p, .int .i64 q]] w fun e w' => e = .returned (.bool (!fracI p q)) ∧ Below w.heap.size w w' := by
  go_enter Try.func92, Try.ntmps92
  go_wp2_with (go_at_call 93; (with_reducible refine (fracOkI_any p q _).mono ?_); rintro e w1 ⟨rfl, hb1⟩; obtain ⟨hc1, hf1⟩ := bcell hb1; (try simp only [World.size_drew] at hc1 hf1); have hz1 := hb1.size; (try simp at hz1); (try have q1_0 : w.heap.size < w1.heap.size := by omega); (try have q1_1 : w.heap.size + 1 < w1.heap.size := by omega); (try have q1_2 : w.heap.size + 2 < w1.heap.size := by omega); (try have q1_3 : w.heap.size + 3 < w1.heap.size := by omega); (try have q1_4 : w.heap.size + 4 < w1.heap.size := by omega); (try have q1_0_0 : w0.heap.size < w1.heap.size := by omega); (try have q1_0_1 : w0.heap.size + 1 < w1.heap.size := by omega); (try have q1_2_0 : w2.heap.size < w1.heap.size := by omega); (try have q1_2_1 : w2.heap.size + 1 < w1.heap.size := by omega); (try have q1_3_0 : w3.heap.size < w1.heap.size := by omega); (try have q1_3_1 : w3.heap.size + 1 < w1.heap.size := by omega); (try have q1_4_0 : w4.heap.size < w1.heap.size := by omega); (try have q1_4_1 : w4.heap.size + 1 < w1.heap.size := by omega); (try have q1_5_0 : w5.heap.size < w1.heap.size := by omega); (try have q1_5_1 : w5.heap.size + 1 < w1.heap.size := by omega); (try have q1_6_0 : w6.heap.size < w1.heap.size := by omega); (try have q1_6_1 : w6.heap.size + 1 < w1.heap.size := by omega); (try have u1_b : b < w1.heap.size := by omega); (try have u1_q : q < w1.heap.size := by omega); (try have u1_g : g < w1.heap.size := by omega); (try have u1_g1 : g1 < w1.heap.size := by omega); (try have u1_g2 : g2 < w1.heap.size := by omega); (try have u1_g3 : g3 < w1.heap.size := by omega); (try have u1_g4 : g4 < w1.heap.size := by omega); (try have u1_g5 : g5 < w1.heap.size := by omega))
  go_ret
  exact ⟨rfl, by (repeat (first | with_reducible exact Below.refl _ _ | with_reducible refine Below.drew ?_ | (with_reducible refine Below.alloc ?_ ?hsz _; case hsz => ((try simp) <;> (try omega))) | (with_reducible refine Below.setCell ?_ ?hsz _; case hsz => ((try simp) <;> (try omega))) | (with_reducible refine below_step (by with_reducible assumption) ?hsz ?_; case hsz => ((try simp) <;> (try omega)))))⟩
theorem indexFrV_any (A : Option Addr) (n cap : Nat) (F : Nat → Nat → Int) (w : World) (hn : n ≤ 1048576) (hr : Recs w 2 A n F) :
    Calls Try.prog 121 #[.slice A n cap, .func (.func 92) #[] #[]] w fun e w' => e = .returned (.int .i64 (findI (fun i => !fracI (F i 0) (F i 1)) n)) ∧ Below w.heap.size w w' := by
  have HR := Lib.hid hr
  clear hr
  go_enter Try.func121, Try.ntmps121
  go_wp2_with fail
  go_loopw [8] (fun i wr => ∃ k : Nat, k ≤ n ∧ i = .int .i64 k ∧ Below w.heap.size w wr ∧ Hid (∀ j, j < k → (!fracI (F j 0) (F j 1)) = false)) (fun i _ => n - (intOf i).toNat)
  case atStart => exact ⟨0, Nat.zero_le _, rfl, Below.refl _ _, fun j hj => by omega⟩
  case round =>
    obtain ⟨m, hm, rfl, hbw, hF⟩ := hrel
    by_cases hlt : m < n
    · obtain ⟨b, off, rfl, hb, c0, c1⟩ := HR.out.at2 hlt
      have d0 := (hbw.cell (p := ⟨b, off + m * 2, none⟩) hb).trans c0
      have d1 := (hbw.cell (p := ⟨b, off + m * 2 + 1, none⟩) hb).trans c1
      have hmi : (m : Int) < (n : Int) := by omega
      have hm0 : (0 : Int) ≤ (m : Int) := by omega
      have hbs := hbw.size
      clear c0 c1 hb
      have HB := Lib.hid hbw
      clear hbw
      go_wp2_with fail
      with_reducible refine (badV_any (F m 0) (F m 1) _).mono ?_
      rintro e w1 ⟨rfl, hb1⟩
      have hbw := HB.out.trans (hb1.mono hbs)
      clear hb1 HB d0 d1
      rcases Bool.eq_false_or_eq_true (!fracI (F m 0) (F m 1)) with hp | hp
      · rw [hp]
        go_wp2
        go_ret
        exact ⟨ret_int (findI_hit hF.out hlt hp).symm, hbw⟩
      · rw [hp]
        go_wp2
        go_roundw
        case rel => exact ⟨m + 1, by omega, by go_num, hbw, fun j hj => by
          rcases Nat.lt_or_ge j m with h | h
          · exact hF.out j h
          · obtain rfl : j = m := by omega
            exact hp⟩
        case measure => simp [intOf]; omega
    · obtain rfl : m = n := by omega
      go_wp2
      go_ret
      exact ⟨ret_int (findI_none hF.out).symm, hbw⟩
theorem containsFrV_any (A : Option Addr) (n cap : Nat) (F : Nat → Nat → Int) (w : World) (hn : n ≤ 1048576) (hr : Recs w 2 A n F) :
    Calls Try.prog 91 #[.slice A n cap, .func (.func 92) #[] #[]] w fun e w' => e = .returned (.bool (!fracsB F n)) ∧ Below w.heap.size w w' := by
  have hb : (decide (0 ≤ findI (fun i => !fracI (F i 0) (F i 1)) n)) = !fracsB F n := by
    rcases findI_cases (fun i => !fracI (F i 0) (F i 1)) n with ⟨e, h⟩ | ⟨k, e, hk, hp, _⟩
    · have : fracsB F n = true := allB_iff.2 fun i hi => by simpa using h i hi
      rw [e, this]; rfl
    · have : fracsB F n = false := allB_false hk (by simpa using hp)
      rw [e, this]; simp
  have HB := Lib.hid hb
  clear hb
  have hr' := Lib.hid hr
  clear hr
  go_enter Try.func91, Try.ntmps91
  go_wp2_with (first | (go_at_call 121; (with_reducible refine (indexFrV_any A n cap F _ hn hr'.out).mono ?_); rintro e w1 ⟨rfl, hb1⟩))
  go_ret
  exact ⟨ret_bool HB.out, hb1⟩
end Go.Proofs.Ytgfcmeiffhffaaa
