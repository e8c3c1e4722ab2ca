/- Contract of the program's Figure, at valid books. -/
import Derived.Deep.RegionHeld3
import Derived.Deep.DeepCutAuto
import Derived.Test.YtgfcmeiffhffaaaJRuleFor
import Derived.Test.YtgfcmeiffhffaaaJEvl
namespace Go.Proofs.Ytgfcmeiffhffaaa
open Go.RowKit

/-- What rule k comes to at the variables V. -/
def figR (Nn : Nat → Nat) (NF : Nat → Nat → Nat → Int) (V : Nat → Nat → Int) (nv k : Nat) : FR := evlR (NF k) V (Nn k) nv
def figOk (R : Nat → Nat → Int) (Nn : Nat → Nat) (NF : Nat → Nat → Nat → Int) (V : Nat → Nat → Int) (nv k : Nat) : Bool := (figR Nn NF V nv k).ok && rndB (figR Nn NF V nv k).n (figR Nn NF V nv k).d (R k 5)
def figB (R : Nat → Nat → Int) (Nn : Nat → Nat) (NF : Nat → Nat → Nat → Int) (V : Nat → Nat → Int) (nv : Nat) (at_ : Int) : Bool := !decide (at_ < 0) && figOk R Nn NF V nv at_.toNat
def figN (R : Nat → Nat → Int) (Nn : Nat → Nat) (NF : Nat → Nat → Nat → Int) (V : Nat → Nat → Int) (nv : Nat) (at_ : Int) : Int := if figB R Nn NF V nv at_ = true then rndI (figR Nn NF V nv at_.toNat).n (figR Nn NF V nv at_.toNat).d (R at_.toNat 5) else 0
def figA (R : Nat → Nat → Int) (Nn : Nat → Nat) (NF : Nat → Nat → Nat → Int) (V : Nat → Nat → Int) (nv : Nat) (at_ : Int) : Int := if figB R Nn NF V nv at_ = true then at_ else 0
theorem book_form {R : Nat → Nat → Int} {Nn : Nat → Nat} {NF : Nat → Nat → Nat → Int} {n k : Nat} (h : bookB R Nn NF n = true) (hk : k < n) : formB (NF k) (Nn k) = true := by
  simp only [bookB, Bool.and_eq_true] at h
  have h1 := allB_iff.1 h.1 k hk
  simp only [bookAt, Bool.and_eq_true] at h1
  have h2 := h1.1
  simp only [ruleAt, ruleB, Bool.and_eq_true] at h2
  exact h2.2.2.2.2.2
theorem book_len {R : Nat → Nat → Int} {Nn : Nat → Nat} {NF : Nat → Nat → Nat → Int} {n : Nat} (h : bookB R Nn NF n = true) : n ≤ 20 := by
  simp only [bookB, Bool.and_eq_true, decide_eq_true_eq] at h
  exact h.2
set_option maxRecDepth 100000 in
set_option maxHeartbeats 16000000 in
theorem figure_any (A : Option Addr) (n cap : Nat) (R : Nat → Nat → Int) (NA : Nat → Option Addr) (Nn Nc : Nat → Nat) (NF : Nat → Nat → Nat → Int) (nm t j : Int) (VA : Option Addr) (nv vc : Nat) (V : Nat → Nat → Int) (w : World) (hcap : n ≤ cap) (hr : Rules w A n R NA Nn Nc NF) (hok : bookB R Nn NF n = true) (hv8 : nv ≤ 8) (hv : Recs w 2 VA nv V) :
    Calls Try.prog 54 #[.agg #[.slice A n cap], .int .i64 nm, .int .i64 t, .int .i64 j, .slice VA nv vc] w fun e w' => e = .returned (.tuple #[.int .i64 (figN R Nn NF V nv (bestI R nm t j n)), .int .i64 (figA R Nn NF V nv (bestI R nm t j n)), .bool (figB R Nn NF V nv (bestI R nm t j n))]) ∧ Below w.heap.size w w' := by
  have hn := book_len hok
  have HR := Lib.hid hr
  have HV := Lib.hid hv
  have HK := Lib.hid hok
  have HC := Lib.hid (bestI_cases R nm t j n)
  have B0 := Lib.hid ((Below.refl w.heap.size w).alloc (Nat.le_refl _) (.cells #[.slice A n cap] 50))
  have HF := Lib.hid (ruleFor_any A n cap R NA Nn Nc NF nm t j (w.alloc (.cells #[.slice A n cap] 50)) hn hcap (hr.kept B0.out) hok)
  clear hr hv hok
  generalize bestI R nm t j n = at_ at *
  rcases HC.out with rfl | ⟨k, hk, rfl⟩
  · go_enter Try.func54, Try.ntmps54
    go_wp2_with fail
    with_reducible refine HF.out.mono ?_
    rintro e w1 ⟨rfl, hb1⟩
    have b1 := B0.out.trans (hb1.mono (by simp))
    go_wp2
    exact bodyPost_ret (v := .tuple #[.int .i64 0, .int .i64 0, .bool false]) (by simp [results, Try.results54, go_sem, *]) rfl ⟨rfl, b1⟩
  · have a5 : decide ((k : Int) < 0) = false := by simp
    have hk0 : (0 : Int) ≤ (k : Int) := by omega
    have hkn : (k : Int) < (n : Int) := by omega
    have HQ1 := Lib.hid (show evlR (NF k) V (Nn k) nv = figR Nn NF V nv k from rfl)
    rw [show figB R Nn NF V nv k = figOk R Nn NF V nv k by simp [figB], show figN R Nn NF V nv k = if figOk R Nn NF V nv k = true then rndI (figR Nn NF V nv k).n (figR Nn NF V nv k).d (R k 5) else 0 by simp [figN, figB], show figA R Nn NF V nv k = if figOk R Nn NF V nv k = true then (k : Int) else 0 by simp [figA, figB], show figOk R Nn NF V nv k = ((figR Nn NF V nv k).ok && rndB (figR Nn NF V nv k).n (figR Nn NF V nv k).d (R k 5)) from rfl]
    have HE0 := Lib.hid (fun w hr hv => eval_any (NA k) (Nn k) (Nc k) (NF k) VA nv vc V w (book_form HK.out hk) hv8 hr hv)
    rw [HQ1.out] at HE0
    generalize figR Nn NF V nv k = r at *
    obtain ⟨p, q, ok⟩ := r
    have R5 := Lib.hid (roundFrac_any p q (R k 5))
    obtain ⟨b, off, e, hb, _, _, _, _, _, c5, c6⟩ := HR.out.at7 hk
    subst e
    go_enter Try.func54, Try.ntmps54
    go_wp2_with fail
    with_reducible refine HF.out.mono ?_
    rintro e w1 ⟨rfl, hb1⟩
    have b1 := B0.out.trans (hb1.mono (by simp))
    have x1 := (Box.made w 50 #[.slice (some ⟨b, off, none⟩) n cap]).kept hb1
    have z1 : w.heap.size < w1.heap.size := by have := hb1.size; simp at this; omega
    clear hb1 HF
    have d5 := (b1.cell (p := ⟨b, off + k * 7 + 5, none⟩) hb).trans c5
    have d6 := (b1.cell (p := ⟨b, off + k * 7 + 6, none⟩) hb).trans c6
    have t1 := x1.cell 0
    have lb : b < w1.heap.size := by omega
    have HB := Lib.hid b1
    have X1 := Lib.hid x1
    have HE := Lib.hid (HE0.out w1 ((HR.out.nodes k hk).kept b1) (HV.out.kept b1))
    clear b1 x1 c5 c6
    go_wp2_with fail
    with_reducible refine HE.out.mono ?_
    rintro e w2 ⟨rfl, hb2⟩
    have X2 := (X1.out.kept hb2)
    have e5 := (hb2.cell (p := ⟨b, off + k * 7 + 5, none⟩) lb).trans d5
    have B2 := Lib.hid (HB.out.trans (hb2.mono (by omega)))
    have z2 : w1.heap.size ≤ w2.heap.size := hb2.size
    clear hb2 HE d5 d6 t1 X1 HB
    go_wp2_with fail
    have W1 : Box (w2.alloc (.cells #[.int .i64 p, .int .i64 q] 144)) w.heap.size 50 #[.slice (some ⟨b, off, none⟩) n cap] := X2.alloc _
    have W2 : Box (w2.alloc (.cells #[.int .i64 p, .int .i64 q] 144)) w2.heap.size 144 #[.int .i64 p, .int .i64 q] := Box.made _ _ _
    have W5 := (Below.refl w2.heap.size w2).alloc (Nat.le_refl _) (.cells #[.int .i64 p, .int .i64 q] 144)
    have l5 : b < w2.heap.size := by omega
    have g5 := (W5.cell (p := ⟨b, off + k * 7 + 5, none⟩) l5).trans e5
    have B3 := Lib.hid (B2.out.trans (W5.mono (by omega)))
    have zz : w2.heap.size < (w2.alloc (.cells #[.int .i64 p, .int .i64 q] 144)).heap.size := by simp
    clear W5 e5 B2
    generalize w2.alloc (.cells #[.int .i64 p, .int .i64 q] 144) = W at *
    have t1 := W1.cell 0
    obtain ⟨t2, t3, _, _⟩ := W2.two
    have q1 : w.heap.size < W.heap.size := by omega
    have q2 : b < W.heap.size := by omega
    go_cut [16, 17] (fun s16 s17 wx => s16 = .int .i64 (rndI p q (R k 5)) ∧ s17 = .bool (rndB p q (R k 5)) ∧ Below w.heap.size w wx)
    case first =>
      go_region_held3 (fun w' => w'.cell? ⟨w.heap.size, 0, none⟩ = some (.slice (some ⟨b, off, none⟩) n cap) ∧ w'.cell? ⟨w2.heap.size, 0, none⟩ = some (.int .i64 p) ∧ w'.cell? ⟨w2.heap.size, 1, none⟩ = some (.int .i64 q) ∧ w'.cell? ⟨b, off + k * 7 + 5, none⟩ = some (.int .i64 (R k 5))) (simp [go_sem, *])
        (first | (go_at_call 96; (with_reducible refine (R5.out _).mono ?_); rintro e w4 ⟨rfl, hb4⟩; obtain ⟨hc4, hf4⟩ := bcell hb4; (try simp only [World.size_drew] at hc4 hf4)))
      all_goals (go_wp2_with fail; go_meet; refine ⟨rfl, rfl, ?_⟩; have hbw := B3.out; have zw : w.heap.size ≤ W.heap.size := Nat.le_of_lt q1; (repeat (first | with_reducible exact Below.refl _ _ | with_reducible refine Below.drew ?_ | (with_reducible refine Below.alloc ?_ ?hsz _; case hsz => ((try simp) <;> (try omega))) | (with_reducible refine Below.setCell ?_ ?hsz _; case hsz => ((try simp) <;> (try omega))) | (with_reducible refine below_step (by with_reducible assumption) ?hsz ?_; case hsz => ((try simp) <;> (try omega))))))
    case rest =>
      obtain ⟨wz, rfl⟩ : ∃ w0 : World, w0 = wc := ⟨_, rfl⟩
      obtain ⟨rfl, rfl, hbz⟩ := hcut
      rcases Bool.eq_false_or_eq_true (rndB p q (R k 5)) with h | h
      · have K := Lib.hid h
        cases ok
        · go_wp2; all_goals exact bodyPost_ret (v := .tuple #[.int .i64 0, .int .i64 0, .bool false]) (by simp [results, Try.results54, go_sem, *]) rfl ⟨by first | rfl | (rw [K.out]; rfl), hbz⟩
        · go_wp2
          exact bodyPost_ret (v := .tuple #[.int .i64 (rndI p q (R k 5)), .int .i64 k, .bool true]) (by simp [results, Try.results54, go_sem, *]) rfl ⟨by first | rfl | (rw [K.out]; rfl), hbz⟩
      · have K := Lib.hid h
        cases ok
        · go_wp2; all_goals exact bodyPost_ret (v := .tuple #[.int .i64 0, .int .i64 0, .bool false]) (by simp [results, Try.results54, go_sem, *]) rfl ⟨by first | rfl | (rw [K.out]; rfl), hbz⟩
        · go_wp2; all_goals exact bodyPost_ret (v := .tuple #[.int .i64 0, .int .i64 0, .bool false]) (by simp [results, Try.results54, go_sem, *]) rfl ⟨by first | rfl | (rw [K.out]; rfl), hbz⟩
end Go.Proofs.Ytgfcmeiffhffaaa
