/- Cases that came in, opened to rows of records. -/
import Derived.Test.YtgfcmeiffhffaaaOpenM
import Derived.Test.YtgfcmeiffhffaaaCaseH
namespace Go.Proofs.Ytgfcmeiffhffaaa
open Go.ChangeShapes Go.WideShapes Go.ChangeAt Go.RowKit Go.Deep

/-- The numbers that lie in memory from A on, k a record. -/
def readF (w : World) (A : Option Addr) (k i j : Nat) : Int := match A with
  | some a => match w.cell? ⟨a.block, a.off + i * k + j, none⟩ with
    | some (.int _ x) => x
    | _ => 0
  | none => 0
theorem recs_read {w : World} {k : Nat} {A : Option Addr} {n : Nat} {F : Nat → Nat → Int} (h : Recs w k A n F) : Recs w k A n (readF w A k) := by
  rcases h with h | ⟨b, off, rfl, hb, hc⟩
  · exact .inl h
  · refine .inr ⟨b, off, rfl, hb, fun i hi j hj => ?_⟩
    have := hc i hi j hj
    simp only [readF, this]
section
variable {H : Type} {enc : TypeId × Value → H} {P : Program} {w : World} {base : Nat} {spare : Nat → Bool} {held : Bool}
theorem open_six {e : TypeId} {f0 f1 f2 f3 f4 g0 g1 : Field} {ti : TypeId} {fuel : Nat} {cs : List Value} {y : DataW H × List MemPlace} (he : P.underlying e = some (.struct #[f0, f1, f2, f3, f4])) (hf : P.underlying f4.type = some (.struct #[g0, g1]))
    (hi : P.underlying ti = some (.int .i64)) (hl : cs.length = 6) (c1 : P.cellsOf ti = 1) (c2 : P.cellsOf f4.type = 2) (h : DataW.trod enc P w base spare held fuel e cs = some y)
    (k0 : f0.type = ti) (k1 : f1.type = ti) (k2 : f2.type = ti) (k3 : f3.type = ti) (k5 : g0.type = ti) (k6 : g1.type = ti)
    (o0 : f0.offset = 0) (o1 : f1.offset = 1) (o2 : f2.offset = 2) (o3 : f3.offset = 3) (o4 : f4.offset = 4) (o5 : g0.offset = 0) (o6 : g1.offset = 1) :
    ∃ x0 x1 x2 x3 x4 x5, cs = [.int .i64 x0, .int .i64 x1, .int .i64 x2, .int .i64 x3, .int .i64 x4, .int .i64 x5] := by
  match cs, hl with
  | [v0, v1, v2, v3, v4, v5], _ =>
    obtain ⟨ys, n, _, _, _, hyl, hfd⟩ := DataW.trod_struct he h
    have h0 := hfd 0 f0 rfl
    have h1 := hfd 1 f1 rfl
    have h2 := hfd 2 f2 rfl
    have h3 := hfd 3 f3 rfl
    have h4 := hfd 4 f4 rfl
    rw [k0, o0, c1] at h0
    rw [k1, o1, c1] at h1
    rw [k2, o2, c1] at h2
    rw [k3, o3, c1] at h3
    rw [o4, c2] at h4
    have hyz : ys.length = 5 := by simpa using hyl
    rw [List.getElem?_eq_getElem (by omega)] at h0 h1 h2 h3 h4
    obtain ⟨zs, n2, _, _, _, hzl, hgd⟩ := DataW.trod_struct hf h4
    have h5 := hgd 0 g0 rfl
    have h6 := hgd 1 g1 rfl
    rw [k5, o5, c1] at h5
    rw [k6, o6, c1] at h6
    have hzz : zs.length = 2 := by simpa using hzl
    rw [List.getElem?_eq_getElem (by omega)] at h5 h6
    obtain ⟨x0, e0, _, _⟩ := DataW.trod_int hi h0
    obtain ⟨x1, e1, _, _⟩ := DataW.trod_int hi h1
    obtain ⟨x2, e2, _, _⟩ := DataW.trod_int hi h2
    obtain ⟨x3, e3, _, _⟩ := DataW.trod_int hi h3
    obtain ⟨x4, e4, _, _⟩ := DataW.trod_int hi h5
    obtain ⟨x5, e5, _, _⟩ := DataW.trod_int hi h6
    simp at e0 e1 e2 e3 e4 e5
    subst e0 e1 e2 e3 e4 e5
    exact ⟨x0, x1, x2, x3, x4, x5, rfl⟩
end
section
variable {H : Type} {enc : TypeId × Value → H} {w : World} {base : Nat} {spare : Nat → Bool} {held : Bool}
theorem node_cells : Try.prog.cellsOf 202 = 6 := by kernel_rfl
theorem frac_cells : Try.prog.cellsOf 200 = 2 := by kernel_rfl
theorem int_cells : Try.prog.cellsOf 3 = 1 := by kernel_rfl
theorem open_nodes {v : Value} {y : DataW H × List MemPlace} {fuel : Nat} (hf : DataW.trod enc Try.prog w base spare held fuel 157 [v] = some y) :
    ∃ (A : Option Addr) (n cap : Nat), v = .slice A n cap ∧ n ≤ cap ∧ cap ≤ maxLen ∧ Recs w 6 A n (readF w A 6) := by
  rcases open_slice Try.underlying157 hf with hcs | ⟨a, len, cap, m, n, D, Pl, hcs, hb, hl, hm, hmm, hx, hi⟩
  · have := hcs.1
    simp at this
    subst this
    exact ⟨_, _, _, rfl, Nat.le_refl _, by simp [maxLen], .inl rfl⟩
  · simp at hcs
    subst hcs
    have hlm : len ≤ m := by rw [hmm]; split <;> omega
    have key : ∀ i, i < len → ∀ j, j < 6 → ∃ x, w.cell? (a.add (i * 6 + j)) = some (.int .i64 x) := by
      intro i hil j hj
      obtain ⟨cs', hc, ht'⟩ := hi i (by omega)
      rw [node_cells] at hc
      obtain ⟨_, hcl, hat⟩ := World.cells?_some hc
      obtain ⟨x0, x1, x2, x3, x4, x5, e⟩ := open_six Try.underlying202 Try.underlying200 Try.underlying3 hcl int_cells frac_cells ht' rfl rfl rfl rfl rfl rfl rfl rfl rfl rfl rfl rfl rfl
      have h1 := hat j hj
      rw [Go.Deep.add_add, e] at h1
      have hj' : j = 0 ∨ j = 1 ∨ j = 2 ∨ j = 3 ∨ j = 4 ∨ j = 5 := by omega
      rcases hj' with rfl | rfl | rfl | rfl | rfl | rfl
      · exact ⟨x0, h1⟩
      · exact ⟨x1, h1⟩
      · exact ⟨x2, h1⟩
      · exact ⟨x3, h1⟩
      · exact ⟨x4, h1⟩
      · exact ⟨x5, h1⟩
    rcases Nat.eq_zero_or_pos len with h0 | h0
    · exact ⟨_, _, _, rfl, hl, hm, .inl h0⟩
    · obtain ⟨x0, hc0⟩ := key 0 h0 0 (by omega)
      obtain ⟨b, off, spot⟩ := a
      have hspot : spot = none := by simpa [Addr.add] using World.cell?_spot hc0
      subst hspot
      rw [add_none] at hc0
      refine ⟨_, _, _, rfl, hl, hm, .inr ⟨b, off, rfl, cell_lt hc0, fun i hil j hj => ?_⟩⟩
      obtain ⟨x, hc⟩ := key i hil j hj
      rw [add_none, ← Nat.add_assoc] at hc
      simp only [readF, hc]
/-- What a rule's last cell says of its nodes. -/
def nodeA (v : Option Value) : Option Addr := match v with
  | some (.slice a _ _) => a
  | _ => none
def nodeN (v : Option Value) : Nat := match v with
  | some (.slice _ n _) => n
  | _ => 0
def nodeC (v : Option Value) : Nat := match v with
  | some (.slice _ _ c) => c
  | _ => 0
theorem open_rules {v : Value} {y : DataW H × List MemPlace} {fuel : Nat} (hf : DataW.trod enc Try.prog w base spare held fuel 35 [v] = some y) :
    ∃ (A : Option Addr) (n cap : Nat) (R : Nat → Nat → Int) (NA : Nat → Option Addr) (Nn Nc : Nat → Nat), v = .slice A n cap ∧ n ≤ cap ∧ cap ≤ maxLen ∧ RecV w 7 A n (ruleV R NA Nn Nc) ∧ (∀ i, i < n → Recs w 6 (NA i) (Nn i) (readF w (NA i) 6)) ∧ ∀ i, i < n → Nn i ≤ maxLen := by
  rcases open_fields Try.underlying35 Try.underlying159 (by kernel_rfl) (by kernel_rfl) hf with hcs | ⟨a, len, cap, m, hcs, hl, hm, hmm, hi⟩
  · simp at hcs
    subst hcs
    exact ⟨_, _, _, fun _ _ => 0, fun _ => none, fun _ => 0, fun _ => 0, rfl, Nat.le_refl _, by simp [maxLen], .inl rfl, fun i hi => by omega, fun i hi => by omega⟩
  · simp at hcs
    subst hcs
    have hlm : len ≤ m := by rw [hmm]; split <;> omega
    have key : ∀ i, i < len → (∀ j, j < 6 → ∃ x, w.cell? (a.add (i * 7 + j)) = some (.int .i64 x)) ∧ ∃ A' n' c', w.cell? (a.add (i * 7 + 6)) = some (.slice A' n' c') ∧ n' ≤ maxLen ∧ Recs w 6 A' n' (readF w A' 6) := by
      intro i hil
      obtain ⟨_, v0, _, hc0, hy0⟩ := hi i (by omega) 0 _ rfl
      obtain ⟨_, v1, _, hc1, hy1⟩ := hi i (by omega) 1 _ rfl
      obtain ⟨_, v2, _, hc2, hy2⟩ := hi i (by omega) 2 _ rfl
      obtain ⟨_, v3, _, hc3, hy3⟩ := hi i (by omega) 3 _ rfl
      obtain ⟨_, v4, _, hc4, hy4⟩ := hi i (by omega) 4 _ rfl
      obtain ⟨_, v5, _, hc5, hy5⟩ := hi i (by omega) 5 _ rfl
      obtain ⟨_, v6, _, hc6, hy6⟩ := hi i (by omega) 6 _ rfl
      obtain ⟨x0, e0, _, _⟩ := DataW.trod_int Try.underlying3 hy0
      obtain ⟨x1, e1, _, _⟩ := DataW.trod_int Try.underlying3 hy1
      obtain ⟨x2, e2, _, _⟩ := DataW.trod_int Try.underlying3 hy2
      obtain ⟨x3, e3, _, _⟩ := DataW.trod_int Try.underlying3 hy3
      obtain ⟨x4, e4, _, _⟩ := DataW.trod_int Try.underlying3 hy4
      obtain ⟨x5, e5, _, _⟩ := DataW.trod_int Try.underlying3 hy5
      obtain ⟨A', n', c', rfl, hl', hm', hr'⟩ := open_nodes hy6
      simp at e0 e1 e2 e3 e4 e5
      subst e0 e1 e2 e3 e4 e5
      refine ⟨fun j hj => ?_, A', n', c', hc6, by omega, hr'⟩
      have hj' : j = 0 ∨ j = 1 ∨ j = 2 ∨ j = 3 ∨ j = 4 ∨ j = 5 := by omega
      rcases hj' with rfl | rfl | rfl | rfl | rfl | rfl
      · exact ⟨x0, hc0⟩
      · exact ⟨x1, hc1⟩
      · exact ⟨x2, hc2⟩
      · exact ⟨x3, hc3⟩
      · exact ⟨x4, hc4⟩
      · exact ⟨x5, hc5⟩
    rcases Nat.eq_zero_or_pos len with h0 | h0
    · exact ⟨_, _, _, fun _ _ => 0, fun _ => none, fun _ => 0, fun _ => 0, rfl, hl, hm, .inl h0, fun i hi => by omega, fun i hi => by omega⟩
    · obtain ⟨x0, hc0⟩ := (key 0 h0).1 0 (by omega)
      obtain ⟨b, off, spot⟩ := a
      have hspot : spot = none := by simpa [Addr.add] using World.cell?_spot hc0
      subst hspot
      rw [add_none] at hc0
      refine ⟨_, _, _, readF w (some ⟨b, off, none⟩) 7, fun i => nodeA (w.cell? ⟨b, off + i * 7 + 6, none⟩), fun i => nodeN (w.cell? ⟨b, off + i * 7 + 6, none⟩), fun i => nodeC (w.cell? ⟨b, off + i * 7 + 6, none⟩), rfl, hl, hm, .inr ⟨b, off, rfl, cell_lt hc0, fun i hil j hj => ?_⟩, fun i hil => ?_, fun i hil => ?_⟩
      · obtain ⟨hk, A', n', c', h6, _, _⟩ := key i hil
        by_cases hj6 : j < 6
        · obtain ⟨x, hc⟩ := hk j hj6
          rw [add_none, ← Nat.add_assoc] at hc
          have hj' : j = 0 ∨ j = 1 ∨ j = 2 ∨ j = 3 ∨ j = 4 ∨ j = 5 := by omega
          rcases hj' with rfl | rfl | rfl | rfl | rfl | rfl <;> simp only [ruleV, readF, hc]
        · obtain rfl : j = 6 := by omega
          rw [add_none, ← Nat.add_assoc] at h6
          simp only [ruleV, h6, nodeA, nodeN, nodeC]
      · obtain ⟨_, A', n', c', h6, _, hr'⟩ := key i hil
        rw [add_none, ← Nat.add_assoc] at h6
        simp only [h6, nodeA, nodeN]
        exact hr'
      · obtain ⟨_, A', n', c', h6, hm', _⟩ := key i hil
        rw [add_none, ← Nat.add_assoc] at h6
        simp only [h6, nodeN]
        exact hm'
theorem case_cells : Try.prog.cellsOf 45 = 7 := by kernel_rfl
theorem book_cells : Try.prog.cellsOf 37 = 1 := by kernel_rfl
theorem store_cells : Try.prog.cellsOf 40 = 1 := by kernel_rfl
theorem series_cells : Try.prog.cellsOf 43 = 1 := by kernel_rfl
theorem member_cells : Try.prog.cellsOf 25 = 4 := by kernel_rfl
theorem open_one {T S : TypeId} {f : Field} {v : Value} {y : DataW H × List MemPlace} {fuel : Nat} (hT : Try.prog.underlying T = some (.struct #[f])) (hS : f.type = S) (ho : f.offset = 0) (hc : Try.prog.cellsOf S = 1) (hf : DataW.trod enc Try.prog w base spare held fuel T [v] = some y) :
    ∃ n y', DataW.trod enc Try.prog w base spare held n S [v] = some y' := by
  obtain ⟨ys, n, _, _, _, hyl, hfd⟩ := DataW.trod_struct hT hf
  have h0 := hfd 0 f rfl
  rw [hS, ho, hc] at h0
  have hyz : ys.length = 1 := by simpa using hyl
  rw [List.getElem?_eq_getElem (by omega)] at h0
  exact ⟨n, _, h0⟩
theorem open_parts4 {P : Program} {T S0 S1 S2 S3 : TypeId} {f0 f1 f2 f3 : Field} {c0 c1 c2 c3 o0 o1 o2 o3 : Nat} {cs : List Value} {y : DataW H × List MemPlace} {fuel : Nat} (hT : P.underlying T = some (.struct #[f0, f1, f2, f3]))
    (s0 : f0.type = S0) (s1 : f1.type = S1) (s2 : f2.type = S2) (s3 : f3.type = S3) (q0 : f0.offset = o0) (q1 : f1.offset = o1) (q2 : f2.offset = o2) (q3 : f3.offset = o3) (z0 : P.cellsOf S0 = c0) (z1 : P.cellsOf S1 = c1) (z2 : P.cellsOf S2 = c2) (z3 : P.cellsOf S3 = c3)
    (h : DataW.trod enc P w base spare held fuel T cs = some y) : ∃ n y0 y1 y2 y3, DataW.trod enc P w base spare held n S0 ((cs.drop o0).take c0) = some y0 ∧ DataW.trod enc P w base spare held n S1 ((cs.drop o1).take c1) = some y1 ∧ DataW.trod enc P w base spare held n S2 ((cs.drop o2).take c2) = some y2 ∧ DataW.trod enc P w base spare held n S3 ((cs.drop o3).take c3) = some y3 := by
  obtain ⟨ys, n, _, _, _, hyl, hfd⟩ := DataW.trod_struct hT h
  have hyz : ys.length = 4 := by simpa using hyl
  have h0 := hfd 0 f0 rfl
  have h1 := hfd 1 f1 rfl
  have h2 := hfd 2 f2 rfl
  have h3 := hfd 3 f3 rfl
  rw [List.getElem?_eq_getElem (by omega), s0, q0, z0] at h0
  rw [List.getElem?_eq_getElem (by omega), s1, q1, z1] at h1
  rw [List.getElem?_eq_getElem (by omega), s2, q2, z2] at h2
  rw [List.getElem?_eq_getElem (by omega), s3, q3, z3] at h3
  exact ⟨n, _, _, _, _, h0, h1, h2, h3⟩
set_option maxRecDepth 100000 in
theorem open_case {v : Value} {d : DataW H} {p : List MemPlace} {r : Reach} {b0 : Nat} (hv : Value.okWide Try.prog w r b0 45 v) (h : DataW.Trod enc Try.prog w base spare held 45 v d p) :
    ∃ (RA : Option Addr) (rn rc : Nat) (R : Nat → Nat → Int) (NA : Nat → Option Addr) (Nn Nc : Nat → Nat) (FA : Option Addr) (fn fc : Nat) (F : Nat → Nat → Int) (PA : Option Addr) (pn pc : Nat) (P : Nat → Nat → Int) (b j : Int) (SA : Option Addr) (sn sc : Nat) (S : Nat → Nat → Int) (L : Nat → Bool) (EA : Option Addr) (en ec : Nat) (E : Nat → Nat → Int),
      v = .agg #[.slice RA rn rc, .slice FA fn fc, .slice PA pn pc, .int .i64 b, .int .i64 j, .slice SA sn sc, .slice EA en ec] ∧ (rn ≤ rc ∧ rc ≤ maxLen ∧ fn ≤ maxLen ∧ pn ≤ maxLen ∧ sn ≤ maxLen ∧ en ≤ maxLen) ∧ RecV w 7 RA rn (ruleV R NA Nn Nc) ∧ (∀ i, i < rn → Recs w 6 (NA i) (Nn i) (readF w (NA i) 6)) ∧ (∀ i, i < rn → Nn i ≤ maxLen) ∧
      Recs w 5 FA fn F ∧ Recs w 3 PA pn P ∧ RecV w 4 SA sn (spellV S L) ∧ Recs w 2 EA en E := by
  obtain ⟨cs, rfl, hsz⟩ := okWide_struct Try.underlying45 hv
  rw [case_cells] at hsz
  obtain ⟨l, rfl⟩ : ∃ l, cs = List.toArray l := ⟨cs.toList, by simp⟩
  have hl : l.length = 7 := by simpa using hsz
  match l, hl with
  | [v0, v1, v2, v3, v4, v5, v6], _ =>
    obtain ⟨fuel, hf⟩ := h
    have hf' : DataW.trod enc Try.prog w base spare held fuel 45 [v0, v1, v2, v3, v4, v5, v6] = some (d, p) := by simpa [Value.cells] using hf
    obtain ⟨n, y0, y1, y2, y3, h0, h1, h2, h3⟩ := open_parts4 Try.underlying45 rfl rfl rfl rfl rfl rfl rfl rfl book_cells store_cells series_cells member_cells hf'
    change DataW.trod enc Try.prog w base spare held n 37 [v0] = some y0 at h0
    change DataW.trod enc Try.prog w base spare held n 40 [v1] = some y1 at h1
    change DataW.trod enc Try.prog w base spare held n 43 [v2] = some y2 at h2
    change DataW.trod enc Try.prog w base spare held n 25 [v3, v4, v5, v6] = some y3 at h3
    obtain ⟨n0, z0, g0⟩ := open_one Try.underlying37 rfl rfl (by kernel_rfl) h0
    obtain ⟨n1, z1, g1⟩ := open_one Try.underlying40 rfl rfl (by kernel_rfl) h1
    obtain ⟨n2, z2, g2⟩ := open_one Try.underlying43 rfl rfl (by kernel_rfl) h2
    obtain ⟨n3, u0, u1, u2, u3, q0, q1, q2, q3⟩ := open_parts4 Try.underlying25 rfl rfl rfl rfl rfl rfl rfl rfl int_cells int_cells (show Try.prog.cellsOf 22 = 1 by kernel_rfl) (show Try.prog.cellsOf 23 = 1 by kernel_rfl) h3
    change DataW.trod enc Try.prog w base spare held n3 3 [v3] = some u0 at q0
    change DataW.trod enc Try.prog w base spare held n3 3 [v4] = some u1 at q1
    change DataW.trod enc Try.prog w base spare held n3 22 [v5] = some u2 at q2
    change DataW.trod enc Try.prog w base spare held n3 23 [v6] = some u3 at q3
    obtain ⟨b, e0, _, _⟩ := DataW.trod_int Try.underlying3 q0
    obtain ⟨j, e1, _, _⟩ := DataW.trod_int Try.underlying3 q1
    simp at e0 e1
    subst e0 e1
    obtain ⟨RA, rn, rc, R, NA, Nn, Nc, rfl, hr1, hr2, hr, hnn, hns⟩ := open_rules g0
    obtain ⟨FA, fn, fc, F, rfl, hf1, hf2, hfr, _⟩ := open_recs_cells 5 (by decide) Try.underlying38 Try.underlying163 (by kernel_rfl) (by kernel_rfl) rfl (by kernel_rfl) g1
    obtain ⟨PA, pn, pc, P, rfl, hp1, hp2, hpr, _⟩ := open_recs_cells 3 (by decide) Try.underlying41 Try.underlying165 (by kernel_rfl) (by kernel_rfl) rfl (by kernel_rfl) g2
    obtain ⟨SA, sn, sc, S, L, rfl, hs1, hs2, hsr⟩ := open_spells Try.underlying22 Try.underlying108 (by kernel_rfl) (by kernel_rfl) Try.underlying3 Try.underlying4 q2
    obtain ⟨EA, en, ec, E, rfl, he1, he2, her, _⟩ := open_recs_cells 2 (by decide) Try.underlying23 Try.underlying110 (by kernel_rfl) (by kernel_rfl) rfl (by kernel_rfl) q3
    exact ⟨RA, rn, rc, R, NA, Nn, Nc, FA, fn, fc, F, PA, pn, pc, P, b, j, SA, sn, sc, S, L, EA, en, ec, E, rfl, ⟨hr1, hr2, by omega, by omega, by omega, by omega⟩, hr, hnn, hns, hfr, hpr, hsr, her⟩
end
end Go.Proofs.Ytgfcmeiffhffaaa
