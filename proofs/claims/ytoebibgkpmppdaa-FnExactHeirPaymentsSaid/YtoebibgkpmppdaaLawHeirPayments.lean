/- Proved: for every list of heirs, all amounts and all months, the program's HeirPayments answers what the reference's HeirPayments answers, in memory of its own, and leaves its argument as it was. No condition. -/
import Derived.Test.YtoebibgkpmppdaaHeirPayS
import Derived.Test.YtoebibgkpmppdaaMarkI
import Derived.Test.YtoebibgkpmppdaaOpenR
import Derived.Test.YtoebibgkpmppdaaRecHeir
import Derived.Outline
namespace Go.Proofs.Ytoebibgkpmppdaa
open Go.ChangeShapes Go.WideShapes Go.ChangeAt Go.RowKit

set_option maxHeartbeats 4000000 in
theorem lawHeirPayments (A : Option Addr) (n cap : Nat) (F : Nat → Nat → Int) (total m : Int) (w : World) (hlc : n ≤ cap) (hm : cap ≤ maxLen) (hr : Recs w 4 A n F) :
    Calls Try.prog 7 #[.slice A n cap, .int .i64 total, .int .i64 m] w fun e w' => e = .returned (.bool true) ∧ Below w.heap.size w w' := by
  have hn60 : n ≤ 9223372036854775807 := by unfold maxLen at hm; omega
  by_cases hn : n ≤ 1048576
  · have hsz := Lib.hid (fun w => by have := szHeirS_any A n cap 1048576 w (by omega) (by omega) (by omega); rw [if_neg (by omega)] at this; exact this : ∀ w, Calls Try.prog 11 #[.slice A n cap, .int .i64 1048576] w fun e w' => e = .returned (.int .i64 (1048576 - n)) ∧ w = w')
    have hN : payN F n total ≤ 1048576 := Nat.le_trans (payN_le F n total) hn
    have HR := Lib.hid hr
    have HN := Lib.hid hN
    have B := Below.refl w.heap.size w
    clear hr hm hlc hn60 hN
    go_enter Try.func7, Try.ntmps7
    go_wp2_with (go_at_call 11; (with_reducible refine (hsz.out _).mono ?_); rintro e w' ⟨rfl, rfl⟩)
    with_reducible refine (toHeirS_any A n cap F _ hn (HR.out.kept B)).mono ?_
    rintro e w1 ⟨v, rfl, o, hb⟩
    obtain ⟨AP, cP, rfl, _⟩ := own_recs o
    have s1 := hb.size
    replace B := B.trans (hb.mono (by omega))
    have P := Lib.hid o
    have loP := Lib.hid (own_lo o)
    have hiP := Lib.hid (own_hi o)
    clear o
    clear hb
    go_wp2_with fail
    with_reducible refine (sheirPay_any AP n cP F total m _ hn (own_rec P.out)).mono ?_
    rintro e w2 ⟨v, rfl, o, hb⟩
    obtain ⟨AS, cS, rfl, _⟩ := own_row o
    have s2 := hb.size
    replace P := Lib.hid (own_below P.out hb)
    replace B := B.trans (hb.mono (by omega))
    have S := Lib.hid o
    have loS := Lib.hid (own_lo o)
    have hiS := Lib.hid (own_hi o)
    clear o
    clear hb
    clear P loP hiP
    go_wp2_with fail
    with_reducible refine (toHeirS_any A n cap F _ hn (HR.out.kept B)).mono ?_
    rintro e w3 ⟨v, rfl, o, hb⟩
    obtain ⟨AX, cX, rfl, _⟩ := own_recs o
    have s3 := hb.size
    replace S := Lib.hid (own_below S.out hb)
    replace B := B.trans (hb.mono (by omega))
    have X := Lib.hid o
    have loX := Lib.hid (own_lo o)
    have hiX := Lib.hid (own_hi o)
    clear o
    clear hb
    go_wp2_with fail
    with_reducible refine (heirPay_any AX n cX F total m _ hn (own_rec X.out)).mono ?_
    rintro e w4 ⟨v, rfl, o, hb⟩
    obtain ⟨AG, cG, rfl, _⟩ := own_row o
    have s4 := hb.size
    replace S := Lib.hid (own_below S.out hb)
    replace X := Lib.hid (own_below X.out hb)
    replace B := B.trans (hb.mono (by omega))
    have G := Lib.hid o
    have loG := Lib.hid (own_lo o)
    have hiG := Lib.hid (own_hi o)
    clear o
    clear hb
    go_wp2_with fail
    with_reducible refine (eqIntS_same AG AS (payN F n total) cG cS (payG F n total m) (payG F n total m) _ (Nat.le_trans HN.out (by decide)) (own_rows G.out) (own_rows S.out) (fun _ _ => rfl)).mono ?_
    rintro e w5 ⟨rfl, hb⟩
    have s5 := hb.size
    replace S := Lib.hid (own_below S.out hb)
    replace X := Lib.hid (own_below X.out hb)
    replace G := Lib.hid (own_below G.out hb)
    replace B := B.trans (hb.mono (by omega))
    clear hb
    go_wp2_with fail
    with_reducible refine (toHeirS_any A n cap F _ hn (HR.out.kept B)).mono ?_
    rintro e w6 ⟨v, rfl, o, hb⟩
    obtain ⟨AY, cY, rfl, _⟩ := own_recs o
    have s6 := hb.size
    replace S := Lib.hid (own_below S.out hb)
    replace X := Lib.hid (own_below X.out hb)
    replace G := Lib.hid (own_below G.out hb)
    replace B := B.trans (hb.mono (by omega))
    have Y := Lib.hid o
    have loY := Lib.hid (own_lo o)
    have hiY := Lib.hid (own_hi o)
    clear o
    clear hb
    go_wp2_with fail
    with_reducible refine (eqHeirS_same AX AY (n) cX cY (F) (F) _ hn (own_rec X.out) (own_rec Y.out) (fun _ _ _ _ => rfl)).mono ?_
    rintro e w7 ⟨rfl, hb⟩
    have s7 := hb.size
    replace S := Lib.hid (own_below S.out hb)
    replace X := Lib.hid (own_below X.out hb)
    replace G := Lib.hid (own_below G.out hb)
    replace Y := Lib.hid (own_below Y.out hb)
    replace B := B.trans (hb.mono (by omega))
    clear hb
    clear Y loY hiY
    go_wp2_with fail
    with_reducible refine (markHeirS_any w2.heap.size _ (n) _ 1 _ hn (by omega) (by omega) X.out).mono ?_
    rintro e w8 ⟨rfl, m, hg⟩
    have s8 := hg.size
    replace S := Lib.hid (S.out.kept hg (apart_lt (B := w2.heap.size) (fun b h => Nat.lt_of_lt_of_le (hiS.out b h) (by omega)) loX.out))
    replace G := Lib.hid (G.out.kept hg (apart_gt (B := w3.heap.size) loG.out (fun b h => Nat.lt_of_lt_of_le (hiX.out b h) (by omega))))
    replace B := below_grown B hg (by omega) (fun b h => Nat.le_trans (by omega) (loX.out b h))
    replace X := Lib.hid m
    clear m hg
    go_wp2_with fail
    with_reducible refine (eqIntS_same AG AS (payN F n total) cG cS (payG F n total m) (payG F n total m) _ (Nat.le_trans HN.out (by decide)) (own_rows G.out) (own_rows S.out) (fun _ _ => rfl)).mono ?_
    rintro e w9 ⟨rfl, hb⟩
    have s9 := hb.size
    replace S := Lib.hid (own_below S.out hb)
    replace X := Lib.hid (own_below X.out hb)
    replace G := Lib.hid (own_below G.out hb)
    replace B := B.trans (hb.mono (by omega))
    clear hb
    clear X loX hiX
    go_wp2_with fail
    with_reducible refine (markIntS_any w3.heap.size _ (payN F n total) _ 1 _ HN.out (by omega) (by omega) G.out).mono ?_
    rintro e w10 ⟨rfl, m, hg⟩
    have s10 := hg.size
    replace S := Lib.hid (S.out.kept hg (apart_lt (B := w3.heap.size) (fun b h => Nat.lt_of_lt_of_le (hiS.out b h) (by omega)) loG.out))
    replace B := below_grown B hg (by omega) (fun b h => Nat.le_trans (by omega) (loG.out b h))
    replace G := Lib.hid m
    clear m hg
    go_wp2_with fail
    with_reducible refine (heldIntS_any AG (payN F n total) cG 1 _ HN.out (by omega) (by omega) (own_rows G.out)).mono ?_
    rintro e w11 ⟨rfl, hb⟩
    have s11 := hb.size
    replace S := Lib.hid (own_below S.out hb)
    replace G := Lib.hid (own_below G.out hb)
    replace B := B.trans (hb.mono (by omega))
    clear hb
    go_wp2_with fail
    with_reducible refine (toHeirS_any A n cap F _ hn (HR.out.kept B)).mono ?_
    rintro e w12 ⟨v, rfl, o, hb⟩
    obtain ⟨AZ, cZ, rfl, _⟩ := own_recs o
    have s12 := hb.size
    replace S := Lib.hid (own_below S.out hb)
    replace G := Lib.hid (own_below G.out hb)
    replace B := B.trans (hb.mono (by omega))
    have Z := Lib.hid o
    have loZ := Lib.hid (own_lo o)
    have hiZ := Lib.hid (own_hi o)
    clear o
    clear hb
    go_wp2_with fail
    with_reducible refine (heirPay_any AZ n cZ F total m _ hn (own_rec Z.out)).mono ?_
    rintro e w13 ⟨v, rfl, o, hb⟩
    obtain ⟨AH, cH, rfl, _⟩ := own_row o
    have s13 := hb.size
    replace S := Lib.hid (own_below S.out hb)
    replace G := Lib.hid (own_below G.out hb)
    replace Z := Lib.hid (own_below Z.out hb)
    replace B := B.trans (hb.mono (by omega))
    have H := Lib.hid o
    have loH := Lib.hid (own_lo o)
    have hiH := Lib.hid (own_hi o)
    clear o
    clear hb
    clear Z loZ hiZ
    go_wp2_with fail
    with_reducible refine (eqIntS_same AH AS (payN F n total) cH cS (payG F n total m) (payG F n total m) _ (Nat.le_trans HN.out (by decide)) (own_rows H.out) (own_rows S.out) (fun _ _ => rfl)).mono ?_
    rintro e w14 ⟨rfl, hb⟩
    have s14 := hb.size
    replace S := Lib.hid (own_below S.out hb)
    replace G := Lib.hid (own_below G.out hb)
    replace H := Lib.hid (own_below H.out hb)
    replace B := B.trans (hb.mono (by omega))
    clear hb
    clear H loH hiH
    clear S loS hiS
    go_wp2_with fail
    with_reducible refine (heldIntS_any AG (payN F n total) cG 1 _ HN.out (by omega) (by omega) (own_rows G.out)).mono ?_
    rintro e w15 ⟨rfl, hb⟩
    have s15 := hb.size
    replace G := Lib.hid (own_below G.out hb)
    replace B := B.trans (hb.mono (by omega))
    clear hb
    go_wp2_with fail
    go_ret
    exact ⟨rfl, B⟩
  · have hsz := Lib.hid (fun w => by have := szHeirS_any A n cap 1048576 w (by omega) (by omega) (by omega); rw [if_pos (by omega)] at this; exact this : ∀ w, Calls Try.prog 11 #[.slice A n cap, .int .i64 1048576] w fun e w' => e = .returned (.int .i64 (-1)) ∧ w = w')
    clear hr hm hlc
    go_enter Try.func7, Try.ntmps7
    go_wp2_with (go_at_call 11; (with_reducible refine (hsz.out _).mono ?_); rintro e w' ⟨rfl, rfl⟩)
    go_ret
    exact ⟨rfl, Below.refl _ _⟩
set_option maxRecDepth 100000 in
theorem fnExactHeirPayments_open {H : Type} {enc : TypeId × Value → H} (W : World) (base : Nat) (args : Array Value) (ds : List (DataW H)) (p : List MemPlace)
    (hval : ∀ (j : Nat) t v, Try.f7.params[j]? = some t → args[j]? = some v → Value.okWide Try.prog W .any base t v)
    (hA : DataW.TrodAll enc Try.prog W 0 (fun _ => true) true Try.f7.params.toList args.toList ds p) :
    Calls Try.prog 7 args W fun e W' => e = .returned (.bool true) ∧ Below W.heap.size W W' := by
  rw [Try.params7] at hA hval
  obtain ⟨v0, vs0, d0, ds0, p0, q0, hargs, rfl, rfl, h0, r0⟩ := trodAll_cons hA
  obtain ⟨v1, vs1, d1, ds1, p1, q1, rfl, rfl, rfl, h1, r1⟩ := trodAll_cons r0
  obtain ⟨v2, vs2, d2, ds2, p2, q2, rfl, rfl, rfl, h2, r2⟩ := trodAll_cons r1
  obtain ⟨rfl, rfl, rfl⟩ := trodAll_nil r2
  obtain rfl : args = #[v0, v1, v2] := by cases args; simp_all
  obtain ⟨A, An, Acap, AF, rfl, hl0, hm0, hr0, hw0⟩ := open_recs 4 (by decide) Try.underlying22 Try.underlying47 (by kernel_rfl) (by kernel_rfl) rfl (by kernel_rfl) (hval 0 22 v0 rfl rfl) h0
  obtain ⟨total, rfl, rfl, rfl, wf1⟩ := open_int Try.underlying3 (hval 1 3 v1 rfl rfl) h1
  obtain ⟨m, rfl, rfl, rfl, wf2⟩ := open_int Try.underlying3 (hval 2 3 v2 rfl rfl) h2
  exact lawHeirPayments A An Acap AF total m W hl0 hm0 hr0
theorem fnExactHeirPayments_lifted (os : Os) (started : os.Started) (H : Type) (enc : TypeId × Value → H) :
    ReturnsInHanded {} Try.checked os 7 .any (Rows.fnExactHeirPaymentsSpec.pre6 enc Try.prog Try.f7 Rows.fnExactHeirPaymentsRow.domain false) (Rows.fnExactHeirPaymentsSpec.post enc Try.prog Try.f7 false true false false) :=
  law_lifted (C := Try.checked) (s := Rows.fnExactHeirPaymentsSpec) (tb := 4) Tryown TrylaidOut (by kernel_rfl) Try.func7 rfl Try.underlying4 (by kernel_rfl) rfl (fun H ds h => match ds, h with | [d0, d1, d2], _ => rfl) os started H enc
    (ChangeSpec.witness6 (enc := enc) (C := Try.checked) false ⟨#[], #[.slice none 0 0, .int .i64 0, .int .i64 0], []⟩ 8 (by kernel_rfl) (by kernel_rfl) (by kernel_rfl) (by kernel_rfl))
    (fun W base args ds p hval hA _ _ => fnExactHeirPayments_open W base args ds p hval hA)
theorem fnExactHeirPayments_holds : Rows.FnExactHeirPaymentsSaid :=
  OpenClaim.holds_of_wide 7 Try.f7 rfl rfl rfl rfl rfl rfl rfl ⟨rfl, rfl, rfl, rfl, rfl⟩ rfl rfl rfl rfl rfl (by kernel_rfl) Try.func7 (by kernel_rfl)
    (of_decide_eq_true (by kernel_rfl)) (by unfold Func.isWrapper; first | (rw [if_pos (by decide +kernel)]; kernel_rfl) | (rw [if_neg (by decide +kernel)]; exact ⟨rfl, rfl⟩))
    (fun os started H enc _ => fnExactHeirPayments_lifted os started H enc)
#print axioms fnExactHeirPayments_holds
end Go.Proofs.Ytoebibgkpmppdaa
