/- Contract of the reference's drawn stays. -/
import Derived.Test.YtogoddbkamgndaaCur
import Derived.Test.YtogoddbkamgndaaStay
import Derived.Test.YtogoddbkamgndaaRecApp
import Derived.Test.YtogoddbkamgndaaRecStay
namespace Go.Proofs.Ytogoddbkamgndaa
open Go.RowKit

theorem grown_more {w a b : World} {row row2 : Option Nat} (h : w.grownBy a row) (k : a.grownBy b row2) (hk : ∀ i, row2 = some i → w.heap.size ≤ i) : w.grownBy b row :=
  ⟨k.os.trans h.os, k.tape.trans h.tape, k.output.trans h.output, Nat.le_trans h.size k.size, fun i hi hne => (k.block i (Nat.lt_of_lt_of_le hi h.size) (fun e => by have := hk i e.symm; omega)).trans (h.block i hi hne)⟩
/-- Drawn stays come back: right ones, in a row of their own; all end before month 200. -/
def DrawSQ (g : Nat) (w : World) (e : Ending) (w' : World) : Prop :=
  ∃ (n : Nat) (F : Nat → Nat → Int) (A : Option Addr) (c : Nat), e = .returned (.slice A n c) ∧ w'.ownsRow w.heap.size 65 3 (.slice A n c) n (recs F 3 n) ∧ staysB F n = true ∧ n ≤ 5 ∧ (∀ i, i < n → F i 2 ≤ 200) ∧ w.grownBy w' (some g)
set_option maxHeartbeats 4000000 in
theorem stays_draw (B g : Nat) (w : World) (hc : CurOk B w g) : Calls Try.prog 62 #[.pointer (some ⟨g, 0, none⟩)] w (DrawSQ g w) := by
  have gl := hc.lt
  have HC := Lib.hid (hc.alloc (.cells #[] 65))
  have O0 := Lib.hid (own_rec_empty w w.heap.size 65 3 (fun _ _ => 0) (Nat.le_refl _))
  clear hc
  go_enter Try.func62, Try.ntmps62
  go_wp2_with fail
  with_reducible refine (below_draw B g 10 _ (by omega) (by omega) HC.out).mono ?_
  rintro e w1 ⟨x, x0, x1, rfl, hg1, hc1⟩
  have O1 := Lib.hid (O0.out.kept hg1 (.inr (HC.out.own_ne O0.out (by decide))))
  have G1 := Lib.hid (show w.grownBy w1 (some g) from grown_trans (grown_of_below ((Below.refl _ _).alloc (Nat.le_refl _) _) _) hg1)
  have C1 := Lib.hid hc1
  clear hg1 hc1 HC O0
  go_wp2_with fail
  go_loopw [3, 4, 5, 6] (fun out at' f i wr => ∃ (k n : Nat) (F : Nat → Nat → Int) (A : Option Addr) (c : Nat) (a x : Int), k ≤ 5 ∧ i = .int .i64 k ∧ at' = .int .i64 a ∧ 0 ≤ a ∧ a ≤ 9 + 32 * k ∧ f = .int .i64 x ∧ 0 ≤ x ∧ x ≤ 5 ∧ out = .slice A n c ∧ wr.ownsRow w.heap.size 65 3 (.slice A n c) n (recs F 3 n) ∧ n ≤ k ∧ Hid (staysB F n = true) ∧ Hid (∀ i, i < n → F i 2 ≤ 200) ∧ CurOk B wr g ∧ w.grownBy wr (some g)) (fun _ _ _ i _ => 5 - (intOf i).toNat)
  case atStart => exact ⟨0, 0, fun _ _ => 0, _, _, x, 0, by omega, rfl, rfl, x0, by omega, rfl, by omega, by omega, rfl, O1.out, by omega, rfl, fun i hi => by omega, C1.out, G1.out⟩
  case round =>
    clear O1 G1 C1
    obtain ⟨k, n, F, A, c, a, x, hk, rfl, rfl, a0, a1, rfl, x0, x1, rfl, ho, hn, hS, hT, hc, hg⟩ := hrel
    have HC := Lib.hid hc
    have HO := Lib.hid ho
    have HG := Lib.hid hg
    clear hc ho hg
    go_wp2_with fail
    with_reducible refine (below_draw B g 6 _ (by omega) (by omega) HC.out).mono ?_
    rintro e w1 ⟨y, y0, y1, rfl, hg1, hc1⟩
    have O1 := Lib.hid (HO.out.kept hg1 (.inr (HC.out.own_ne HO.out (by decide))))
    have G1 := Lib.hid (grown_trans HG.out hg1)
    have C1 := Lib.hid hc1
    clear hg1 hc1 HC HO HG
    by_cases hlt : (k : Int) < y
    · go_wp2_with fail
      with_reducible refine (below_draw B g 3 _ (by omega) (by omega) C1.out).mono ?_
      rintro e w2 ⟨u, u0, u1, rfl, hg2, hc2⟩
      have O2 := Lib.hid (O1.out.kept hg2 (.inr (C1.out.own_ne O1.out (by decide))))
      have G2 := Lib.hid (grown_trans G1.out hg2)
      have C2 := Lib.hid hc2
      clear hg2 hc2 O1 G1 C1
      go_wp2_with fail
      with_reducible refine (below_draw B g 30 _ (by omega) (by omega) C2.out).mono ?_
      rintro e w5 ⟨v, v0, v1, rfl, hg5, hc5⟩
      have O5 := Lib.hid (O2.out.kept hg5 (.inr (C2.out.own_ne O2.out (by decide))))
      have G5 := Lib.hid (grown_trans G2.out hg5)
      have C5 := Lib.hid hc5
      have E5 := Lib.hid (own_rec_empty w5 w5.heap.size 65 3 (fun _ _ => 0) (Nat.le_refl _))
      have R5 := Lib.hid ((own_rec O5.out).alloc (.cells #[] 65))
      clear hg5 hc5 O2 G2 C2
      go_wp2_with (at_builtin; refine wpList_app_recs rfl (.tmp 29) (.tmp 30) 25 (by rfl) w5.heap.size 65 (.agg #[.int .i64 0, .int .i64 0, .int .i64 0]) 3 24 Try.underlying25 infStay rfl (by decide) (by decide) _ 0 (fun _ _ => 0) E5.out A n c F (own_anyA O5.out) R5.out (by omega) (by simp) rfl rfl ?_)
      intro v6 w6 o6 hg6
      rw [catF_zero] at o6
      have gl5 := C5.out.lt
      obtain ⟨A6, c6, rfl, _, _⟩ := own_recs o6
      have O6 := Lib.hid o6
      have O5' := Lib.hid ((O5.out.alloc (.cells #[] 65)).kept hg6 (.inr (fun e => Nat.lt_irrefl _ (own_hi O5.out _ e))))
      have C6 := Lib.hid ((C5.out.alloc (.cells #[] 65)).grown hg6 (fun k e => by have e' : w5.heap.size = k := Option.some.inj e; have h2 := C5.out.low; exact ⟨by omega, by omega⟩))
      have G6 := Lib.hid (grown_more (grown_more G5.out (grown_of_below ((Below.refl _ _).alloc (Nat.le_refl _) (.cells #[] 65)) none) (fun i e => by cases e)) hg6 (fun i e => by cases e; exact G5.out.size))
      have z5 := G5.out.size
      have z6 := hg6.size
      simp only [World.size_alloc] at z6
      have H5 := Lib.hid (own_hi O5.out)
      clear o6 hg6 O5 C5 G5 E5 R5
      go_wp2_with (at_builtin; refine wpList_app_recs rfl (.tmp 31) (.tmp 36) 25 (by rfl) w5.heap.size 65 (.agg #[.int .i64 0, .int .i64 0, .int .i64 0]) 3 24 Try.underlying25 infStay rfl (by decide) (by decide) _ n F (O6.out.alloc _) (some ⟨w6.heap.size, 0, none⟩) 1 1 (fun _ => trip (1 + (x + u) % 5) a (a + 1 + v)) (.inr ⟨_, _, rfl⟩) (recs_trip (Box.made w6 _ _)) (by omega) (by simp; omega) rfl rfl ?_)
      intro v7 w7 o7 hg7
      obtain ⟨A7, c7, rfl, _, _⟩ := own_recs o7
      have O7 := Lib.hid o7
      have l6 := own_lo O6.out
      have O8 := Lib.hid ((O5'.out.alloc (.cells #[.int .i64 (1 + (x + u) % 5), .int .i64 a, .int .i64 (a + 1 + v)] 65)).kept hg7 (apart_lt H5.out l6))
      have C7 := Lib.hid ((C6.out.alloc (.cells #[.int .i64 (1 + (x + u) % 5), .int .i64 a, .int .i64 (a + 1 + v)] 65)).grown hg7 (fun k e => ⟨by have h2 := C6.out.low; have := l6 k e; have := C6.out.lt; omega, by have := l6 k e; omega⟩))
      have G7 := Lib.hid (grown_more (grown_more G6.out (grown_of_below ((Below.refl _ _).alloc (Nat.le_refl _) (.cells #[.int .i64 (1 + (x + u) % 5), .int .i64 a, .int .i64 (a + 1 + v)] 65)) none) (fun i e => by cases e)) hg7 (fun i e => by have := l6 i e; omega))
      have z7 := hg7.size
      simp only [World.size_alloc] at z7
      obtain ⟨X, hX⟩ : ∃ X, X = catF F n (fun _ => trip (1 + (x + u) % 5) a (a + 1 + v)) := ⟨_, rfl⟩
      have HT := Lib.hid (show ∀ i, i < n + 1 → X i 2 ≤ 200 from fun i hi => by
        rw [hX]
        simp only [catF]
        split
        · exact hT.out i (by assumption)
        · show a + 1 + v ≤ 200
          omega)
      rw [← hX] at O7
      clear hX o7 hg7 O6 O5' C6 G6 l6 H5
      go_wp2_with fail
      with_reducible refine (sstaysOk_any A7 (n + 1) c7 X _ (by omega) (own_rec O7.out)).mono ?_
      rintro e w8 ⟨rfl, hb8⟩
      have C8 := Lib.hid (C7.out.kept hb8)
      have G8 := Lib.hid (grown_more G7.out (grown_of_below hb8 none) (fun i e => by cases e))
      have P8 := Lib.hid (own_below O8.out hb8)
      have Q8 := Lib.hid (own_below O7.out hb8)
      have z8 := hb8.size
      clear hb8 C7 G7 O8 O7
      rcases Bool.eq_false_or_eq_true (staysB X (n + 1)) with s1 | s1
      · have HS := Lib.hid s1
        rw [s1]
        clear s1
        go_wp2_with fail
        with_reducible refine (below_draw B g 3 _ (by omega) (by omega) C8.out).mono ?_
        rintro e w9 ⟨z, z0, z1, rfl, hg9, hc9⟩
        have O9 := Lib.hid (own_mono (B' := w.heap.size) (Q8.out.kept hg9 (.inr (C8.out.own_ne Q8.out (by decide)))) z5)
        have G9 := Lib.hid (grown_trans G8.out hg9)
        have C9 := Lib.hid hc9
        clear hg9 hc9 P8 Q8 G8 C8
        go_wp2
        go_roundw
        case rel => exact ⟨k + 1, n + 1, X, A7, c7, a + 1 + v + z, _, by omega, by go_num, rfl, by omega, by omega, rfl, by omega, by omega, rfl, O9.out, by omega, HS, HT, C9.out, G9.out⟩
        case measure => simp [intOf]; omega
      · rw [s1]
        clear s1
        go_wp2_with fail
        with_reducible refine (below_draw B g 3 _ (by omega) (by omega) C8.out).mono ?_
        rintro e w9 ⟨z, z0, z1, rfl, hg9, hc9⟩
        have O9 := Lib.hid (P8.out.kept hg9 (.inr (C8.out.own_ne P8.out (by decide))))
        have G9 := Lib.hid (grown_trans G8.out hg9)
        have C9 := Lib.hid hc9
        clear hg9 hc9 P8 Q8 G8 C8
        go_wp2
        go_roundw
        case rel => exact ⟨k + 1, n, F, A, c, a + 1 + v + z, _, by omega, by go_num, rfl, by omega, by omega, rfl, by omega, by omega, rfl, O9.out, by omega, hS, hT, C9.out, G9.out⟩
        case measure => simp [intOf]; omega
    · go_wp2
      go_ret
      exact ⟨n, F, A, c, rfl, O1.out, hS.out, by omega, hT.out, G1.out⟩
/-- Drawn stays come back from bytes. -/
def DrawnSQ (w : World) (e : Ending) (w' : World) : Prop :=
  ∃ (n : Nat) (F : Nat → Nat → Int) (A : Option Addr) (c : Nat), e = .returned (.slice A n c) ∧ w'.ownsRow w.heap.size 65 3 (.slice A n c) n (recs F 3 n) ∧ staysB F n = true ∧ n ≤ 5 ∧ (∀ i, i < n → F i 2 ≤ 200) ∧ Below w.heap.size w w'
theorem drawStays_any (A : Option Addr) (n cap : Nat) (F : Nat → Int) (w : World) (hn : n ≤ 1048576) (hr : Row w .u8 A n F) : Calls Try.prog 26 #[.slice A n cap] w (DrawnSQ w) := by
  have HR := Lib.hid hr
  clear hr
  go_enter Try.func26, Try.ntmps26
  go_wp2_with fail
  with_reducible refine (new_any A n cap F _ hn HR.out).mono ?_
  rintro e w1 ⟨g, rfl, hg, hb1, hc1⟩
  have z1 := hb1.size
  go_wp2_with fail
  with_reducible refine (stays_draw _ g w1 hc1).mono ?_
  rintro e w2 ⟨m, G, A1, c1, rfl, ho, hv, hm, hT, hgw⟩
  have HO := Lib.hid (own_mono (B' := w.heap.size) ho z1)
  have HB := Lib.hid (hb1.trans (grown_below hgw hg z1))
  have HV := Lib.hid hv
  have HT := Lib.hid hT
  clear hc1 hgw ho hv hT
  go_wp2
  go_ret
  exact ⟨m, G, A1, c1, rfl, HO.out, HV.out, hm, HT.out, HB.out⟩
end Go.Proofs.Ytogoddbkamgndaa
