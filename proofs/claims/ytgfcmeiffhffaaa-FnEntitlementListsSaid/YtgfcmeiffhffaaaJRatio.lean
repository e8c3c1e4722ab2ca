/- Contract of the program's IndexRatio. -/
import Derived.Test.YtgfcmeiffhffaaaJSeries
import Derived.Test.YtgfcmeiffhffaaaJRound
namespace Go.Proofs.Ytgfcmeiffhffaaa
open Go.RowKit

theorem Box.put3 {w : World} {g : Nat} {t : TypeId} {a b c : Value} (h : Box w g t #[a, b, c]) (d e f : Value) : Box (((w.setCell ⟨g, 0, none⟩ d).setCell ⟨g, 1, none⟩ e).setCell ⟨g, 2, none⟩ f) g t #[d, e, f] := by
  have := ((h.put 0 d).put 1 e).put 2 f
  simpa using this
theorem Box.thr {w : World} {g : Nat} {t : TypeId} {a b c : Value} (h : Box w g t #[a, b, c]) : w.cell? ⟨g, 0, none⟩ = some a ∧ w.cell? ⟨g, 1, none⟩ = some b ∧ w.cell? ⟨g, 2, none⟩ = some c ∧ w.frozen? ⟨g, 0, none⟩ = false ∧ w.frozen? ⟨g, 1, none⟩ = false ∧ w.frozen? ⟨g, 2, none⟩ = false :=
  ⟨h.cell 0, h.cell 1, h.cell 2, h.frozen 0, h.frozen 1, h.frozen 2⟩
/-- Is point i taken, where o is the best so far? -/
def ixTake (F : Nat → Nat → Int) (m kn : Int) (o : Option Nat) (i : Nat) : Bool := decide (F i 0 ≤ m) && (decide (F i 1 ≤ kn) && (match o with | none => true | some k => decide (F k 0 ≤ F i 0)))
def ixK (F : Nat → Nat → Int) (m kn : Int) : Nat → Option Nat
  | 0 => none
  | i + 1 => if ixTake F m kn (ixK F m kn i) i = true then some i else ixK F m kn i
def ixV (F : Nat → Nat → Int) (o : Option Nat) (j : Nat) : Int := match o with | none => 0 | some k => F k j
theorem ix_take {F : Nat → Nat → Int} {m kn : Int} {o : Option Nat} {i : Nat} (ho : ixK F m kn i = o) (h : ixTake F m kn o i = true) : ixK F m kn (i + 1) = some i := by simp only [ixK, ho, if_pos h]
theorem ix_leave {F : Nat → Nat → Int} {m kn : Int} {o : Option Nat} {i : Nat} (ho : ixK F m kn i = o) (h : ixTake F m kn o i = false) : ixK F m kn (i + 1) = o := by
  simp only [ixK, ho]
  rw [if_neg (by rw [h]; decide)]
theorem ixK_lt (F : Nat → Nat → Int) (m kn : Int) : ∀ i k, ixK F m kn i = some k → k < i
  | 0, _, h => by cases h
  | i + 1, k, h => by
    simp only [ixK] at h
    split at h
    · cases h; omega
    · have := ixK_lt F m kn i k h; omega
set_option maxRecDepth 100000 in
set_option maxHeartbeats 16000000 in
theorem indexAt_any (A : Option Addr) (n cap : Nat) (F : Nat → Nat → Int) (t kn : Int) (w : World) (hn : n ≤ 1048576) (hr : Recs w 3 A n F) :
    Calls Try.prog 116 #[.agg #[.slice A n cap], .int .i64 t, .int .i64 kn] w fun e w' => e = .returned (.tuple #[.int .i64 (ixV F (ixK F t kn n) 2), .bool (ixK F t kn n).isSome]) ∧ Below w.heap.size w w' := by
  have HR := Lib.hid hr
  clear hr
  go_enter Try.func116, Try.ntmps116
  go_wp2_with fail
  go_loopw [9, 16] (fun x i wr => ∃ m : Nat, m ≤ n ∧ i = .int .i64 m ∧ x = .bool (ixK F t kn m).isSome ∧ Below w.heap.size w wr ∧ Box wr w.heap.size 56 #[.slice A n cap] ∧ Box wr (w.heap.size + 1) 126 #[.int .i64 (ixV F (ixK F t kn m) 0), .int .i64 (ixV F (ixK F t kn m) 1), .int .i64 (ixV F (ixK F t kn m) 2)]) (fun _ i _ => n - (intOf i).toNat)
  case atStart =>
    exact ⟨0, Nat.zero_le _, rfl, rfl, by (repeat (first | with_reducible exact Below.refl _ _ | with_reducible refine Below.drew ?_ | (with_reducible refine Below.alloc ?_ ?hsz _; case hsz => ((try simp) <;> (try omega))) | (with_reducible refine Below.setCell ?_ ?hsz _; case hsz => ((try simp) <;> (try omega))) | (with_reducible refine below_step (by with_reducible assumption) ?hsz ?_; case hsz => ((try simp) <;> (try omega))))), by (repeat (first | with_reducible assumption | with_reducible exact Box.made _ _ _ | (with_reducible refine Box.made_at ?hg; case hg => (simp; done)) | with_reducible refine Box.drew ?_ | with_reducible refine Box.alloc ?_ _ | (with_reducible refine Box.put2 (a := .int .i64 0) (b := .int .i64 0) ?_ _ _) | (with_reducible refine Box.far ?_ ?hg _; case hg => ((try simp) <;> (try omega))) | with_reducible refine Box.kept ?_ (by with_reducible assumption))), Box.made_at (by simp)⟩
  case round =>
    obtain ⟨m, hm, rfl, rfl, hbw, x1, x2⟩ := hrel
    have l1 := x1.lt
    have l2 := x2.lt
    have HB := Lib.hid hbw
    have X1 := Lib.hid x1
    have X2 := Lib.hid x2
    have zb := hbw.size
    by_cases hlt : m < n
    · obtain ⟨b, off, e, hb, c0, c1, c2⟩ := HR.out.at3 hlt
      have d0 := (hbw.cell (p := ⟨b, off + m * 3, none⟩) hb).trans c0
      have d1 := (hbw.cell (p := ⟨b, off + m * 3 + 1, none⟩) hb).trans c1
      have d2 := (hbw.cell (p := ⟨b, off + m * 3 + 2, none⟩) hb).trans c2
      have hmi : (m : Int) < (n : Int) := by omega
      have hm0 : (0 : Int) ≤ (m : Int) := by omega
      subst e
      obtain ⟨t0, t1, t2, f0, f1, f2⟩ := x2.thr
      clear c0 c1 c2 hb hbw x1 x2
      generalize ho : ixK F t kn m = o at *
      have HO := Lib.hid ho
      clear ho
      have HA := Lib.hid (HB.out.alloc zb (.cells #[.int .i64 (F m 0), .int .i64 (F m 1), .int .i64 (F m 2)] 126))
      have XA := Lib.hid (X1.out.alloc (.cells #[.int .i64 (F m 0), .int .i64 (F m 1), .int .i64 (F m 2)] 126))
      have YA := Lib.hid (X2.out.alloc (.cells #[.int .i64 (F m 0), .int .i64 (F m 1), .int .i64 (F m 2)] 126))
      have HS := Lib.hid ((((HB.out.setCell (p := ⟨w.heap.size + 1, 0, none⟩) (by simp) (.int .i64 (F m 0))).setCell (p := ⟨w.heap.size + 1, 1, none⟩) (by simp) (.int .i64 (F m 1))).setCell (p := ⟨w.heap.size + 1, 2, none⟩) (by simp) (.int .i64 (F m 2))).alloc (by simp [World.setCell]; omega) (.cells #[.int .i64 (F m 0), .int .i64 (F m 1), .int .i64 (F m 2)] 126))
      have XS := Lib.hid ((((X1.out.far (p := ⟨w.heap.size + 1, 0, none⟩) (by simp) (.int .i64 (F m 0))).far (p := ⟨w.heap.size + 1, 1, none⟩) (by simp) (.int .i64 (F m 1))).far (p := ⟨w.heap.size + 1, 2, none⟩) (by simp) (.int .i64 (F m 2))).alloc (.cells #[.int .i64 (F m 0), .int .i64 (F m 1), .int .i64 (F m 2)] 126))
      rcases Bool.eq_false_or_eq_true (decide (F m 0 ≤ t)) with a1 | a1
      · rcases Bool.eq_false_or_eq_true (decide (F m 1 ≤ kn)) with a2 | a2
        · cases o with
          | none =>
            have K := Lib.hid (show ixTake F t kn none m = true by simp only [ixTake, a1, a2, Bool.true_and])
            go_wp2_with fail; go_roundw; (case rel => exact ⟨m + 1, by omega, by go_num, by rw [ix_take HO.out K.out]; rfl, HS.out, XS.out, by rw [ix_take HO.out K.out]; exact (X2.out.put3 _ _ _).alloc _⟩); (case measure => simp [intOf]; omega)
          | some k =>
            rcases Bool.eq_false_or_eq_true (decide (F k 0 ≤ F m 0)) with a3 | a3
            · have K := Lib.hid (show ixTake F t kn (some k) m = true by simp only [ixTake, a1, a2, a3, Bool.true_and])
              change _ = some (Value.int .i64 (F k 0)) at t0
              go_wp2_with fail; go_roundw; (case rel => exact ⟨m + 1, by omega, by go_num, by rw [ix_take HO.out K.out]; rfl, HS.out, XS.out, by rw [ix_take HO.out K.out]; exact (X2.out.put3 _ _ _).alloc _⟩); (case measure => simp [intOf]; omega)
            · have K := Lib.hid (show ixTake F t kn (some k) m = false by simp only [ixTake, a3, Bool.and_false])
              change _ = some (Value.int .i64 (F k 0)) at t0
              go_wp2_with fail; go_roundw; (case rel => exact ⟨m + 1, by omega, by go_num, by rw [ix_leave HO.out K.out], HA.out, XA.out, by rw [ix_leave HO.out K.out]; exact YA.out⟩); (case measure => simp [intOf]; omega)
        · have K := Lib.hid (show ixTake F t kn o m = false by simp only [ixTake, a2, Bool.false_and, Bool.and_false])
          go_wp2_with fail; go_roundw; (case rel => exact ⟨m + 1, by omega, by go_num, by rw [ix_leave HO.out K.out], HA.out, XA.out, by rw [ix_leave HO.out K.out]; exact YA.out⟩); (case measure => simp [intOf]; omega)
      · have K := Lib.hid (show ixTake F t kn o m = false by simp only [ixTake, a1, Bool.false_and])
        go_wp2_with fail; go_roundw; (case rel => exact ⟨m + 1, by omega, by go_num, by rw [ix_leave HO.out K.out], HA.out, XA.out, by rw [ix_leave HO.out K.out]; exact YA.out⟩); (case measure => simp [intOf]; omega)
    · obtain rfl : m = n := by omega
      obtain ⟨t0, t1, t2, f0, f1, f2⟩ := x2.thr
      clear x1 x2 X1 X2 hbw
      go_wp2
      go_ret2
      exact ⟨rfl, HB.out⟩
end Go.Proofs.Ytgfcmeiffhffaaa
namespace Go.Proofs.Ytgfcmeiffhffaaa
open Go.RowKit

def ratioR (F : Nat → Nat → Int) (n : Nat) (x y kn : Int) : FR := if ((ixK F x kn n).isSome && (ixK F y kn n).isSome) = true then newR (ixV F (ixK F y kn n) 2) (ixV F (ixK F x kn n) 2) else frNone
set_option maxRecDepth 100000 in
set_option maxHeartbeats 16000000 in
theorem ratio_any (A : Option Addr) (n cap : Nat) (F : Nat → Nat → Int) (x y kn : Int) (w : World) (hn : n ≤ 1048576) (hr : Recs w 3 A n F) :
    Calls Try.prog 85 #[.agg #[.slice A n cap], .int .i64 x, .int .i64 y, .int .i64 kn] w (FracJ (ratioR F n x y kn) w) := by
  have HR := Lib.hid hr
  clear hr
  have HI := Lib.hid (fun t w hr => indexAt_any A n cap F t kn w hn hr)
  have HQ := Lib.hid (show ratioR F n x y kn = if ((ixK F x kn n).isSome && (ixK F y kn n).isSome) = true then newR (ixV F (ixK F y kn n) 2) (ixV F (ixK F x kn n) 2) else frNone from rfl)
  generalize ratioR F n x y kn = r at *
  have HX := Lib.hid (HI.out x)
  have HY := Lib.hid (HI.out y)
  clear HI
  generalize (ixK F x kn n).isSome = b1 at *
  generalize (ixK F y kn n).isSome = b2 at *
  generalize ixV F (ixK F x kn n) 2 = v1 at *
  generalize ixV F (ixK F y kn n) 2 = v2 at *
  have HN := Lib.hid (fracNew_any v2 v1)
  have x1 := (Box.made w 56 #[.slice A n cap]).alloc (.cells #[.int .i64 0, .int .i64 0] 144)
  have x2 := Box.made (w.alloc (.cells #[.slice A n cap] 56)) 144 #[.int .i64 0, .int .i64 0]
  have B0 := Lib.hid (((Below.refl w.heap.size w).alloc (Nat.le_refl _) (.cells #[.slice A n cap] 56)).alloc (by simp) (.cells #[.int .i64 0, .int .i64 0] 144))
  simp only [World.size_alloc] at x2
  have RR := Lib.hid (HR.out.kept B0.out)
  go_enter Try.func85, Try.ntmps85
  go_wp2_with fail
  with_reducible refine (HX.out _ RR.out).mono ?_
  rintro e w1 ⟨rfl, hb1⟩
  have y1 := x1.kept hb1
  have y2 := x2.kept hb1
  have q1 := B0.out.trans (hb1.mono (by simp; omega))
  have R1 := Lib.hid (HR.out.kept q1)
  have t1 := y1.cell 0
  have l1 := y1.lt
  have HB := Lib.hid q1
  clear x1 x2 RR B0 hb1 q1 HX
  go_wp2_with fail
  with_reducible refine (HY.out _ R1.out).mono ?_
  rintro e w2 ⟨rfl, hb2⟩
  have u1 := y2.kept hb2
  have q2 := HB.out.trans (hb2.mono (by omega))
  obtain ⟨c0, c1, f0, f1⟩ := u1.two
  have l2 := u1.lt
  have U1 := Lib.hid u1
  have HB2 := Lib.hid q2
  clear y1 y2 t1 hb2 q2 HY R1 HB u1
  cases b1
  · go_wp2; exact bodyPost_ret (v := .tuple #[.agg #[.int .i64 0, .int .i64 0], .bool false]) (by simp [results, Try.results85, go_sem, *]) rfl ⟨by rw [HQ.out]; rfl, by have hbw := HB2.out; (repeat (first | with_reducible exact Below.refl _ _ | with_reducible refine Below.drew ?_ | (with_reducible refine Below.alloc ?_ ?hsz _; case hsz => ((try simp) <;> (try omega))) | (with_reducible refine Below.setCell ?_ ?hsz _; case hsz => ((try simp) <;> (try omega))) | (with_reducible refine below_step (by with_reducible assumption) ?hsz ?_; case hsz => ((try simp) <;> (try omega)))))⟩
  · cases b2
    · go_wp2; exact bodyPost_ret (v := .tuple #[.agg #[.int .i64 0, .int .i64 0], .bool false]) (by simp [results, Try.results85, go_sem, *]) rfl ⟨by rw [HQ.out]; rfl, by have hbw := HB2.out; (repeat (first | with_reducible exact Below.refl _ _ | with_reducible refine Below.drew ?_ | (with_reducible refine Below.alloc ?_ ?hsz _; case hsz => ((try simp) <;> (try omega))) | (with_reducible refine Below.setCell ?_ ?hsz _; case hsz => ((try simp) <;> (try omega))) | (with_reducible refine below_step (by with_reducible assumption) ?hsz ?_; case hsz => ((try simp) <;> (try omega)))))⟩
    · have HQ2 := Lib.hid (show r = newR v2 v1 from HQ.out)
      clear HQ
      generalize newR v2 v1 = rr at *
      obtain ⟨p, q, ok⟩ := rr
      go_wp2_with fail
      with_reducible refine (HN.out _).mono ?_
      rintro e w3 ⟨rfl, hb3⟩
      obtain ⟨c0, c1, f0, f1⟩ := (U1.out.kept hb3).two
      have q3 := HB2.out.trans (hb3.mono (by omega))
      have HB3 := Lib.hid q3
      have z3 := hb3.size
      have l3 : w.heap.size + 1 < w3.heap.size := by omega
      clear hb3 q3 HN HB2 U1
      go_wp2
      exact bodyPost_ret (v := .tuple #[.agg #[.int .i64 p, .int .i64 q], .bool ok]) (by simp [results, Try.results85, go_sem, *]) rfl ⟨by rw [HQ2.out], by have hbw := HB3.out; (repeat (first | with_reducible exact Below.refl _ _ | with_reducible refine Below.drew ?_ | (with_reducible refine Below.alloc ?_ ?hsz _; case hsz => ((try simp) <;> (try omega))) | (with_reducible refine Below.setCell ?_ ?hsz _; case hsz => ((try simp) <;> (try omega))) | (with_reducible refine below_step (by with_reducible assumption) ?hsz ?_; case hsz => ((try simp) <;> (try omega)))))⟩
end Go.Proofs.Ytgfcmeiffhffaaa
