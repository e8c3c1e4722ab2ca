/- Contract of the program's Eval, at valid formulas. -/
import Derived.Test.YtgfcmeiffhffaaaJForm
import Derived.Test.YtgfcmeiffhffaaaJRecApp
import Derived.Test.YtgfcmeiffhffaaaJFracs
namespace Go.Proofs.Ytgfcmeiffhffaaa
open Go.RowKit

def stepR (F V G : Nat → Nat → Int) (m : Nat) : FR := evR (F m 0) (F m 1) (F m 2) (F m 3) (F m 4) (F m 5) G V
/-- The numbers of the first m nodes. -/
def valF (F V : Nat → Nat → Int) : Nat → Nat → Nat → Int
  | 0 => fun _ _ => 0
  | m + 1 => catF (valF F V m) m (fun _ => pair (stepR F V (valF F V m) m).n (stepR F V (valF F V m) m).d)
def valOk (F V : Nat → Nat → Int) (m : Nat) : Bool := (stepR F V (valF F V m) m).ok
def allEv (F V : Nat → Nat → Int) (n nv : Nat) : Bool := decide (nv = 8) && (fracsB V nv && allB (valOk F V) n)
/-- A row of numbers and whether there is one. -/
def AllQ (F V : Nat → Nat → Int) (n nv : Nat) (w : World) (e : Ending) (w' : World) : Prop :=
  (allEv F V n nv = true ∧ ∃ v, e = .returned (.tuple #[v, .bool true]) ∧ w'.ownsRow w.heap.size 144 2 v n (recs (valF F V n) 2 n) ∧ Below w.heap.size w w') ∨
  (allEv F V n nv = false ∧ e = .returned (.tuple #[.slice none 0 0, .bool false]) ∧ Below w.heap.size w w')
theorem infFrac : (Try.prog.info? 144).map (fun i => (i.zero, i.size, i.bytes)) = some (some (.agg #[.int .i64 0, .int .i64 0]), 2, 16) := by kernel_rfl
theorem form_node {F : Nat → Nat → Int} {n m : Nat} (h : formB F n = true) (hm : m < n) : nodeB (F m 0) (F m 1) (F m 2) (F m 3) (F m 4) (F m 5) m = true := by
  simp only [formB, Bool.and_eq_true] at h
  exact allB_iff.1 h.1 m hm
theorem form_len {F : Nat → Nat → Int} {n : Nat} (h : formB F n = true) : 1 ≤ n ∧ n ≤ 30 := by
  simp only [formB, Bool.and_eq_true] at h
  have := inB_true.1 h.2
  omega
theorem allEv_stop {F V : Nat → Nat → Int} {n m : Nat} (hm : m < n) (h : valOk F V m = false) (nv : Nat) : allEv F V n nv = false := by
  simp [allEv, allB_false hm h]
set_option maxRecDepth 100000 in
set_option maxHeartbeats 8000000 in
theorem evalAll_any (A : Option Addr) (n cap : Nat) (F : Nat → Nat → Int) (VA : Option Addr) (nv vc : Nat) (V : Nat → Nat → Int) (w : World) (hf : formB F n = true) (hv8 : nv ≤ 8) (hr : Recs w 6 A n F) (hv : Recs w 2 VA nv V) :
    Calls Try.prog 122 #[.slice A n cap, .slice VA nv vc] w (AllQ F V n nv w) := by
  have HR := Lib.hid hr
  have HV := Lib.hid hv
  have HFm := Lib.hid hf
  obtain ⟨n1, n30⟩ := form_len hf
  clear hr hv
  by_cases e8 : nv = 8
  · subst e8
    rcases Bool.eq_false_or_eq_true (fracsB V 8) with s3 | s3
    · have HE := Lib.hid (show allEv F V n 8 = allB (valOk F V) n by simp [allEv, s3])
      go_enter Try.func122, Try.ntmps122
      go_wp2_with (first | (go_at_call 103; (with_reducible refine (formOk_any A n cap F _ (by omega) HR.out).mono ?_); rintro e w1 ⟨rfl, hb1⟩; obtain ⟨hc1, hf1⟩ := bcell hb1; (try simp only [World.size_drew] at hc1 hf1); have hz1 := hb1.size; (try simp at hz1); (try have q1_0 : w.heap.size < w1.heap.size := by omega); (try have q1_1 : w.heap.size + 1 < w1.heap.size := by omega); (try have q1_2 : w.heap.size + 2 < w1.heap.size := by omega); (try have q1_3 : w.heap.size + 3 < w1.heap.size := by omega); (try have q1_4 : w.heap.size + 4 < w1.heap.size := by omega); (try have q1_0_0 : w0.heap.size < w1.heap.size := by omega); (try have q1_0_1 : w0.heap.size + 1 < w1.heap.size := by omega); (try have q1_2_0 : w2.heap.size < w1.heap.size := by omega); (try have q1_2_1 : w2.heap.size + 1 < w1.heap.size := by omega); (try have q1_3_0 : w3.heap.size < w1.heap.size := by omega); (try have q1_3_1 : w3.heap.size + 1 < w1.heap.size := by omega); (try have q1_4_0 : w4.heap.size < w1.heap.size := by omega); (try have q1_4_1 : w4.heap.size + 1 < w1.heap.size := by omega); (try have q1_5_0 : w5.heap.size < w1.heap.size := by omega); (try have q1_5_1 : w5.heap.size + 1 < w1.heap.size := by omega); (try have q1_6_0 : w6.heap.size < w1.heap.size := by omega); (try have q1_6_1 : w6.heap.size + 1 < w1.heap.size := by omega); (try have u1_b : b < w1.heap.size := by omega); (try have u1_q : q < w1.heap.size := by omega); (try have u1_g : g < w1.heap.size := by omega); (try have u1_g1 : g1 < w1.heap.size := by omega); (try have u1_g2 : g2 < w1.heap.size := by omega); (try have u1_g3 : g3 < w1.heap.size := by omega); (try have u1_g4 : g4 < w1.heap.size := by omega); (try have u1_g5 : g5 < w1.heap.size := by omega)) | (go_at_call 91; (with_reducible refine (containsFrE_any VA 8 vc V _ (by omega) (HV.out.kept hb1)).mono ?_); rintro e w2 ⟨rfl, hb2⟩; have hb2 := hb1.trans (hb2.mono hb1.size); obtain ⟨hc2, hf2⟩ := bcell hb2))
      have z2 := hb2.size
      have O2 := Lib.hid (own_rec_empty w2 w.heap.size 144 2 (valF F V 0) z2)
      have B2 := Lib.hid (hb2.alloc z2 (.cells #[] 144))
      clear hb1 hb2 hc1 hf1 hc2 hf2 s3 hf
      go_loopw [6, 26] (fun x i wr => ∃ m : Nat, m ≤ n ∧ i = .int .i64 m ∧ wr.ownsRow w.heap.size 144 2 x m (recs (valF F V m) 2 m) ∧ Below w.heap.size w wr ∧ Hid (∀ i, i < m → valOk F V i = true)) (fun _ i _ => n - (intOf i).toNat)
      case atStart => exact ⟨0, Nat.zero_le _, rfl, O2.out, B2.out, fun i hi => by omega⟩
      case round =>
        obtain ⟨m, hm, rfl, ho, hbw, hF⟩ := hrel
        obtain ⟨KA, kc, rfl, _, hk⟩ := own_recs ho
        have HO := Lib.hid ho
        have HB := Lib.hid hbw
        have HK := Lib.hid hk
        have zb := hbw.size
        by_cases hlt : m < n
        · obtain ⟨b, off, rfl, hb, c0, c1, c2, c3, c4, c5⟩ := HR.out.at6 hlt
          have d0 := (hbw.cell (p := ⟨b, off + m * 6, none⟩) hb).trans c0
          have d1 := (hbw.cell (p := ⟨b, off + m * 6 + 1, none⟩) hb).trans c1
          have d2 := (hbw.cell (p := ⟨b, off + m * 6 + 2, none⟩) hb).trans c2
          have d3 := (hbw.cell (p := ⟨b, off + m * 6 + 3, none⟩) hb).trans c3
          have d4 := (hbw.cell (p := ⟨b, off + m * 6 + 4, none⟩) hb).trans c4
          have d5 := (hbw.cell (p := ⟨b, off + m * 6 + 5, none⟩) hb).trans c5
          have hmi : (m : Int) < (n : Int) := by omega
          have hm0 : (0 : Int) ≤ (m : Int) := by omega
          clear c0 c1 c2 c3 c4 c5 hb hbw ho hk
          go_wp2_with fail
          have BX := Lib.hid (HB.out.alloc zb (.cells #[.int .i64 (F m 0), .int .i64 (F m 1), .int .i64 (F m 2), .int .i64 (F m 3), .int .i64 (F m 4), .int .i64 (F m 5)] 175))
          have OX := Lib.hid (HO.out.alloc (.cells #[.int .i64 (F m 0), .int .i64 (F m 1), .int .i64 (F m 2), .int .i64 (F m 3), .int .i64 (F m 4), .int .i64 (F m 5)] 175))
          with_reducible refine (evalNode_any (F m 0) (F m 1) (F m 2) (F m 3) (F m 4) (F m 5) KA m kc (valF F V m) VA vc V _ (form_node HFm.out hlt) (HK.out.alloc _) (HV.out.kept BX.out)).mono ?_
          rintro e w3 ⟨rfl, hb3⟩
          have HS := Lib.hid (show stepR F V (valF F V m) m = evR (F m 0) (F m 1) (F m 2) (F m 3) (F m 4) (F m 5) (valF F V m) V from rfl)
          have B3 := Lib.hid (BX.out.trans (hb3.mono (by simp; omega)))
          have O3 := Lib.hid (own_below OX.out hb3)
          have z3 := B3.out.size
          clear hb3 BX OX HB HO HK d0 d1 d2 d3 d4 d5
          rw [← HS.out]
          rcases Bool.eq_false_or_eq_true (valOk F V m) with k1 | k1
          · have k2 : (stepR F V (valF F V m) m).ok = true := k1
            generalize hG : valF F V m = G at *
            generalize hp : (stepR F V G m).n = p at *
            generalize hq : (stepR F V G m).d = q at *
            have K := Lib.hid k1
            clear k1
            go_wp2_with (at_builtin; refine wpList_app_recs rfl (.tmp 39) (.tmp 41) 95 (by rfl) w.heap.size 144 (.agg #[.int .i64 0, .int .i64 0]) 2 16 Try.underlying95 infFrac rfl (by decide) (by decide) _ m G ((O3.out.alloc _).alloc _) (some ⟨w3.heap.size + 1, 0, none⟩) 1 1 (fun _ => pair p q) (.inr ⟨_, _, rfl⟩) (recs_pair (Box.made_at (by simp))) (by omega) (by simp; omega) rfl rfl ?_)
            intro v7 w7 o7 hg7
            have O7 := Lib.hid (show w7.ownsRow w.heap.size 144 2 v7 (m + 1) (recs (valF F V (m + 1)) 2 (m + 1)) from by rw [show valF F V (m + 1) = catF G m (fun _ => pair p q) by simp only [valF, hG, hp, hq]]; exact o7)
            have l3 := own_lo O3.out
            have B7 := Lib.hid (below_grown ((B3.out.alloc z3 (.cells #[.int .i64 p, .int .i64 q] 144)).alloc (by simp; omega) (.cells #[.int .i64 p, .int .i64 q] 144)) hg7 (by simp; omega) (fun k e => by have := l3 k e; omega))
            clear o7 hg7 l3 O3 B3
            go_wp2
            go_roundw
            case rel => exact ⟨m + 1, by omega, by go_num, O7.out, B7.out, allT_snoc hF.out K.out⟩
            case measure => simp [intOf]; omega
          · have k2 : (stepR F V (valF F V m) m).ok = false := k1
            go_wp2
            go_ret2
            exact .inr ⟨allEv_stop hlt k1 8, rfl, by have hbw := B3.out; (repeat (first | with_reducible exact Below.refl _ _ | with_reducible refine Below.drew ?_ | (with_reducible refine Below.alloc ?_ ?hsz _; case hsz => ((try simp) <;> (try omega))) | (with_reducible refine Below.setCell ?_ ?hsz _; case hsz => ((try simp) <;> (try omega))) | (with_reducible refine below_step (by with_reducible assumption) ?hsz ?_; case hsz => ((try simp) <;> (try omega)))))⟩
        · obtain rfl : m = n := by omega
          go_wp2
          go_ret2
          exact .inl ⟨by rw [HE.out]; exact allB_iff.2 hF.out, _, rfl, HO.out, HB.out⟩
    · have HE := Lib.hid (show allEv F V n 8 = false by simp [allEv, s3])
      go_enter Try.func122, Try.ntmps122
      go_wp2_with (first | (go_at_call 103; (with_reducible refine (formOk_any A n cap F _ (by omega) HR.out).mono ?_); rintro e w1 ⟨rfl, hb1⟩; obtain ⟨hc1, hf1⟩ := bcell hb1; (try simp only [World.size_drew] at hc1 hf1); have hz1 := hb1.size; (try simp at hz1); (try have q1_0 : w.heap.size < w1.heap.size := by omega); (try have q1_1 : w.heap.size + 1 < w1.heap.size := by omega); (try have q1_2 : w.heap.size + 2 < w1.heap.size := by omega); (try have q1_3 : w.heap.size + 3 < w1.heap.size := by omega); (try have q1_4 : w.heap.size + 4 < w1.heap.size := by omega); (try have q1_0_0 : w0.heap.size < w1.heap.size := by omega); (try have q1_0_1 : w0.heap.size + 1 < w1.heap.size := by omega); (try have q1_2_0 : w2.heap.size < w1.heap.size := by omega); (try have q1_2_1 : w2.heap.size + 1 < w1.heap.size := by omega); (try have q1_3_0 : w3.heap.size < w1.heap.size := by omega); (try have q1_3_1 : w3.heap.size + 1 < w1.heap.size := by omega); (try have q1_4_0 : w4.heap.size < w1.heap.size := by omega); (try have q1_4_1 : w4.heap.size + 1 < w1.heap.size := by omega); (try have q1_5_0 : w5.heap.size < w1.heap.size := by omega); (try have q1_5_1 : w5.heap.size + 1 < w1.heap.size := by omega); (try have q1_6_0 : w6.heap.size < w1.heap.size := by omega); (try have q1_6_1 : w6.heap.size + 1 < w1.heap.size := by omega); (try have u1_b : b < w1.heap.size := by omega); (try have u1_q : q < w1.heap.size := by omega); (try have u1_g : g < w1.heap.size := by omega); (try have u1_g1 : g1 < w1.heap.size := by omega); (try have u1_g2 : g2 < w1.heap.size := by omega); (try have u1_g3 : g3 < w1.heap.size := by omega); (try have u1_g4 : g4 < w1.heap.size := by omega); (try have u1_g5 : g5 < w1.heap.size := by omega)) | (go_at_call 91; (with_reducible refine (containsFrE_any VA 8 vc V _ (by omega) (HV.out.kept hb1)).mono ?_); rintro e w2 ⟨rfl, hb2⟩; have hb2 := hb1.trans (hb2.mono hb1.size); obtain ⟨hc2, hf2⟩ := bcell hb2))
      go_ret2
      exact .inr ⟨HE.out, rfl, hb2⟩
  · have HE := Lib.hid (show allEv F V n nv = false by simp [allEv, e8])
    have e9 : ((nv : Int) != 8) = true := by simp; omega
    go_enter Try.func122, Try.ntmps122
    go_wp2_with (first | (go_at_call 103; (with_reducible refine (formOk_any A n cap F _ (by omega) HR.out).mono ?_); rintro e w1 ⟨rfl, hb1⟩; obtain ⟨hc1, hf1⟩ := bcell hb1; (try simp only [World.size_drew] at hc1 hf1); have hz1 := hb1.size; (try simp at hz1); (try have q1_0 : w.heap.size < w1.heap.size := by omega); (try have q1_1 : w.heap.size + 1 < w1.heap.size := by omega); (try have q1_2 : w.heap.size + 2 < w1.heap.size := by omega); (try have q1_3 : w.heap.size + 3 < w1.heap.size := by omega); (try have q1_4 : w.heap.size + 4 < w1.heap.size := by omega); (try have q1_0_0 : w0.heap.size < w1.heap.size := by omega); (try have q1_0_1 : w0.heap.size + 1 < w1.heap.size := by omega); (try have q1_2_0 : w2.heap.size < w1.heap.size := by omega); (try have q1_2_1 : w2.heap.size + 1 < w1.heap.size := by omega); (try have q1_3_0 : w3.heap.size < w1.heap.size := by omega); (try have q1_3_1 : w3.heap.size + 1 < w1.heap.size := by omega); (try have q1_4_0 : w4.heap.size < w1.heap.size := by omega); (try have q1_4_1 : w4.heap.size + 1 < w1.heap.size := by omega); (try have q1_5_0 : w5.heap.size < w1.heap.size := by omega); (try have q1_5_1 : w5.heap.size + 1 < w1.heap.size := by omega); (try have q1_6_0 : w6.heap.size < w1.heap.size := by omega); (try have q1_6_1 : w6.heap.size + 1 < w1.heap.size := by omega); (try have u1_b : b < w1.heap.size := by omega); (try have u1_q : q < w1.heap.size := by omega); (try have u1_g : g < w1.heap.size := by omega); (try have u1_g1 : g1 < w1.heap.size := by omega); (try have u1_g2 : g2 < w1.heap.size := by omega); (try have u1_g3 : g3 < w1.heap.size := by omega); (try have u1_g4 : g4 < w1.heap.size := by omega); (try have u1_g5 : g5 < w1.heap.size := by omega)))
    go_ret2
    exact .inr ⟨HE.out, rfl, hb1⟩
end Go.Proofs.Ytgfcmeiffhffaaa
namespace Go.Proofs.Ytgfcmeiffhffaaa
open Go.RowKit

def evlR (F V : Nat → Nat → Int) (n nv : Nat) : FR := if allEv F V n nv = true then ⟨valF F V n (n - 1) 0, valF F V n (n - 1) 1, true⟩ else frNone
set_option maxRecDepth 100000 in
set_option maxHeartbeats 8000000 in
theorem eval_any (A : Option Addr) (n cap : Nat) (F : Nat → Nat → Int) (VA : Option Addr) (nv vc : Nat) (V : Nat → Nat → Int) (w : World) (hf : formB F n = true) (hv8 : nv ≤ 8) (hr : Recs w 6 A n F) (hv : Recs w 2 VA nv V) :
    Calls Try.prog 95 #[.slice A n cap, .slice VA nv vc] w (FracJ (evlR F V n nv) w) := by
  have HR := Lib.hid hr
  have HV := Lib.hid hv
  obtain ⟨n1, n30⟩ := form_len hf
  obtain ⟨m, rfl⟩ : ∃ m, n = m + 1 := ⟨n - 1, by omega⟩
  clear hr hv
  have B0 := Lib.hid ((Below.refl w.heap.size w).alloc (Nat.le_refl _) (.cells #[.int .i64 0, .int .i64 0] 144))
  go_enter Try.func95, Try.ntmps95
  go_wp2_with fail
  with_reducible refine (evalAll_any A (m + 1) cap F VA nv vc V _ hf hv8 (HR.out.kept B0.out) (HV.out.kept B0.out)).mono ?_
  rintro e w1 (⟨s, v, rfl, ho, hb1⟩ | ⟨s, rfl, hb1⟩)
  · have HE := Lib.hid (show evlR F V (m + 1) nv = ⟨valF F V (m + 1) m 0, valF F V (m + 1) m 1, true⟩ by simp [evlR, s])
    obtain ⟨KA, kc, rfl, _, hk⟩ := own_recs ho
    obtain ⟨b, off, rfl, lb, c0, c1⟩ := hk.at2 (show m < m + 1 by omega)
    have b1 := B0.out.trans (hb1.mono (by simp))
    have hx := (Box.made w 144 #[.int .i64 0, .int .i64 0]).kept hb1
    have q0 := hx.two.1
    have q1 := hx.two.2.1
    have f0 := hx.two.2.2.1
    have f1 := hx.two.2.2.2
    have z1 : w.heap.size < w1.heap.size := by have := hb1.size; simp at this; omega
    have HB := Lib.hid b1
    clear hb1 b1 ho hk hf B0 s hx
    generalize valF F V (m + 1) m 0 = x at *
    generalize valF F V (m + 1) m 1 = y at *
    go_wp2
    exact bodyPost_ret (v := .tuple #[.agg #[.int .i64 x, .int .i64 y], .bool true]) (by simp [results, Try.results95, go_sem, *]) rfl ⟨by rw [HE.out], by have hbw := HB.out; (repeat (first | with_reducible exact Below.refl _ _ | with_reducible refine Below.drew ?_ | (with_reducible refine Below.alloc ?_ ?hsz _; case hsz => ((try simp) <;> (try omega))) | (with_reducible refine Below.setCell ?_ ?hsz _; case hsz => ((try simp) <;> (try omega))) | (with_reducible refine below_step (by with_reducible assumption) ?hsz ?_; case hsz => ((try simp) <;> (try omega)))))⟩
  · have HE := Lib.hid (show evlR F V (m + 1) nv = frNone by simp [evlR, s])
    have b1 := B0.out.trans (hb1.mono (by simp))
    have hx := (Box.made w 144 #[.int .i64 0, .int .i64 0]).kept hb1
    have q0 := hx.two.1
    have q1 := hx.two.2.1
    have f0 := hx.two.2.2.1
    have f1 := hx.two.2.2.2
    have z1 : w.heap.size < w1.heap.size := by have := hb1.size; simp at this; omega
    have HB := Lib.hid b1
    clear hb1 b1 hf B0 s hx
    go_wp2
    exact bodyPost_ret (v := .tuple #[.agg #[.int .i64 0, .int .i64 0], .bool false]) (by simp [results, Try.results95, go_sem, *]) rfl ⟨by rw [HE.out]; rfl, by have hbw := HB.out; (repeat (first | with_reducible exact Below.refl _ _ | with_reducible refine Below.drew ?_ | (with_reducible refine Below.alloc ?_ ?hsz _; case hsz => ((try simp) <;> (try omega))) | (with_reducible refine Below.setCell ?_ ?hsz _; case hsz => ((try simp) <;> (try omega))) | (with_reducible refine below_step (by with_reducible assumption) ?hsz ?_; case hsz => ((try simp) <;> (try omega)))))⟩
end Go.Proofs.Ytgfcmeiffhffaaa
