/- Contract of the program's FinalPay, at valid stores. -/
import Derived.Test.YtgfcmeiffhffaaaJAge
import Derived.Test.YtgfcmeiffhffaaaJValueAt
namespace Go.Proofs.Ytgfcmeiffhffaaa
open Go.RowKit

/-- The last pay ahead of month m, and whether there is one. -/
def payI (F : Nat → Nat → Int) (n : Nat) (kn : Int) : Nat → Int
  | 0 => 0
  | m + 1 => if (hitO F 1 m kn n).isSome = true then facV F (hitO F 1 m kn n) else payI F n kn m
def payB (F : Nat → Nat → Int) (n : Nat) (kn : Int) : Nat → Bool
  | 0 => false
  | m + 1 => (hitO F 1 m kn n).isSome || payB F n kn m
theorem pay_no {F : Nat → Nat → Int} {n m : Nat} {kn : Int} (h : (hitO F 1 m kn n).isSome = false) : payI F n kn (m + 1) = payI F n kn m ∧ payB F n kn (m + 1) = payB F n kn m := by
  simp [payI, payB, h]
theorem pay_yes {F : Nat → Nat → Int} {n m : Nat} {kn : Int} (h : (hitO F 1 m kn n).isSome = true) : payI F n kn (m + 1) = facV F (hitO F 1 m kn n) ∧ payB F n kn (m + 1) = true := by
  simp [payI, payB, h]
theorem store_len {F : Nat → Nat → Int} {n : Nat} (h : storeB F n = true) : n ≤ 200 := by
  simp only [storeB, Bool.and_eq_true, decide_eq_true_eq] at h
  exact h.2
set_option maxRecDepth 100000 in
set_option maxHeartbeats 16000000 in
theorem finalPay_any (A : Option Addr) (n cap : Nat) (F : Nat → Nat → Int) (m : Nat) (kn : Int) (w : World) (hs : storeB F n = true) (hm : m ≤ 3600) (hA : HdA A n cap) (hr : Recs w 5 A n F) :
    Calls Try.prog 84 #[.agg #[.slice A n cap], .int .i64 m, .int .i64 kn] w fun e w' => e = .returned (.tuple #[.int .i64 (payI F n kn m), .bool (payB F n kn m)]) ∧ Below w.heap.size w w' := by
  have hn := store_len hs
  have HR := Lib.hid hr
  have B0 := Lib.hid ((Below.refl w.heap.size w).alloc (Nat.le_refl _) (.cells #[.slice A n cap] 53))
  have HO := Lib.hid (storeOk_any A n cap F (w.alloc (.cells #[.slice A n cap] 53)) (by omega) (hr.kept B0.out))
  have HV := Lib.hid (fun t w hr => valueAt_any A n cap F 1 t kn w (by omega) hA hr)
  have X0 := Lib.hid (Box.made w 53 #[.slice A n cap])
  have e2 : inB (m : Int) 0 3600 = true := inB_true.2 ⟨by omega, by omega⟩
  rw [hs] at HO
  clear hr hs
  go_enter Try.func84, Try.ntmps84
  go_wp2_with (first | (go_at_call 43; (with_reducible refine HO.out.mono ?_); rintro e w1 ⟨rfl, hb1⟩) | (go_at_call 51; (with_reducible refine (isEnd_any m _).mono ?_); rintro e w' ⟨rfl, rfl⟩))
  have B1 := Lib.hid (B0.out.trans (hb1.mono (by simp)))
  have X1 := Lib.hid (X0.out.kept hb1)
  clear hb1 HO
  go_loopw [8] (fun i wr => ∃ p : Nat, p ≤ m ∧ i = .int .i64 ((p : Int) - 1) ∧ Below w.heap.size w wr ∧ Box wr w.heap.size 53 #[.slice A n cap] ∧ Hid (payI F n kn m = payI F n kn p ∧ payB F n kn m = payB F n kn p)) (fun i _ => (intOf i + 1).toNat)
  case atStart => exact ⟨m, Nat.le_refl _, by go_num, B1.out, X1.out, ⟨rfl, rfl⟩⟩
  case round =>
    obtain ⟨p, hp, rfl, hbw, x1, hE⟩ := hrel
    have t1 := x1.cell 0
    have l1 := x1.lt
    have HB := Lib.hid hbw
    have X2 := Lib.hid x1
    have zb := hbw.size
    rcases Nat.eq_zero_or_pos p with h | h
    · subst h
      clear hbw x1
      go_wp2
      go_ret2
      exact ⟨by rw [hE.out.1, hE.out.2]; rfl, HB.out⟩
    · obtain ⟨q, rfl⟩ : ∃ q, p = q + 1 := ⟨p - 1, by omega⟩
      have hq : ((q + 1 : Nat) : Int) - 1 = (q : Int) := by omega
      rw [hq]
      have HQ := Lib.hid (HV.out q wr (HR.out.kept hbw))
      have HN := Lib.hid (fun h => pay_no (F := F) (n := n) (m := q) (kn := kn) h)
      have HY := Lib.hid (fun h => pay_yes (F := F) (n := n) (m := q) (kn := kn) h)
      have hq0 : (0 : Int) ≤ (q : Int) := by omega
      clear hbw x1
      generalize (hitO F 1 q kn n).isSome = ok at *
      generalize facV F (hitO F 1 q kn n) = v at *
      go_wp2_with fail
      with_reducible refine HQ.out.mono ?_
      rintro e w2 ⟨rfl, hb2⟩
      have b2 := HB.out.trans (hb2.mono zb)
      have X3 := Lib.hid (X2.out.kept hb2)
      have B2 := Lib.hid b2
      clear hb2 b2 HQ t1
      cases ok
      · obtain ⟨e1, e2⟩ := HN.out rfl
        have HE := Lib.hid (show payI F n kn m = payI F n kn q ∧ payB F n kn m = payB F n kn q from ⟨hE.out.1.trans e1, hE.out.2.trans e2⟩)
        clear e1 e2
        go_wp2
        go_roundw
        case rel => exact ⟨q, by omega, by go_num, B2.out, X3.out, HE.out⟩
        case measure => simp [intOf]
      · obtain ⟨e1, e2⟩ := HY.out rfl
        have HE := Lib.hid (show payI F n kn m = v ∧ payB F n kn m = true from ⟨hE.out.1.trans e1, hE.out.2.trans e2⟩)
        clear e1 e2
        go_wp2
        go_ret2
        exact ⟨by rw [HE.out.1, HE.out.2]; rfl, B2.out⟩
end Go.Proofs.Ytgfcmeiffhffaaa
