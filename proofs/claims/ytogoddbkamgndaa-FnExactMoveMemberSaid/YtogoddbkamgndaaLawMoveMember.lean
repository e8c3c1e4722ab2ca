/- Proved: for every list of stays, all funds and all months, the program's MoveMember answers what the reference's MoveMember answers, in memory of its own, and leaves its argument as it was. No condition. -/
import Derived.Test.YtogoddbkamgndaaMoveS
import Derived.Test.YtogoddbkamgndaaOpenR
import Derived.Test.YtogoddbkamgndaaRecStay
import Derived.Outline
namespace Go.Proofs.Ytogoddbkamgndaa
open Go.ChangeShapes Go.WideShapes Go.ChangeAt Go.RowKit

set_option maxHeartbeats 4000000 in
theorem lawMoveMember (A : Option Addr) (n cap : Nat) (F : Nat → Nat → Int) (fund m : Int) (w : World) (hlc : n ≤ cap) (hm : cap ≤ maxLen) (hr : Recs w 3 A n F) :
    Calls Try.prog 8 #[.slice A n cap, .int .i64 fund, .int .i64 m] w fun e w' => e = .returned (.bool true) ∧ Below w.heap.size w w' := by
  have hn60 : n ≤ 9223372036854775807 := by unfold maxLen at hm; omega
  by_cases hn : n ≤ 1048576
  · have hsz := Lib.hid (fun w => by have := szStayS_any A n cap 1048576 w (by omega) (by omega) (by omega); rw [if_neg (by omega)] at this; exact this : ∀ w, Calls Try.prog 16 #[.slice A n cap, .int .i64 1048576] w fun e w' => e = .returned (.int .i64 (1048576 - n)) ∧ w = w')
    have hN : moveN F n fund m ≤ 1048576 := moveN_small hn
    have HR := Lib.hid hr
    have HN := Lib.hid hN
    have B := Below.refl w.heap.size w
    clear hr hm hlc hn60 hN
    go_enter Try.func8, Try.ntmps8
    go_wp2_with (go_at_call 16; (with_reducible refine (hsz.out _).mono ?_); rintro e w' ⟨rfl, rfl⟩)
    with_reducible refine (toStayS_any A n cap F _ hn (HR.out.kept B)).mono ?_
    rintro e w1 ⟨v, rfl, o, hb⟩
    obtain ⟨AP, cP, rfl, _⟩ := own_recs o
    have s1 := hb.size
    replace B := B.trans (hb.mono (by omega))
    have P := Lib.hid o
    have loP := Lib.hid (own_lo o)
    have hiP := Lib.hid (own_hi o)
    clear o
    clear hb
    go_wp2_with fail
    with_reducible refine (smove_any AP n cP F fund m _ hn (own_anyC P.out) (own_rec P.out)).mono ?_
    rintro e w2 ⟨v, rfl, o, hb⟩
    obtain ⟨AS, cS, rfl, _⟩ := own_recs o
    have s2 := hb.size
    replace P := Lib.hid (own_below P.out hb)
    replace B := B.trans (hb.mono (by omega))
    have S := Lib.hid o
    have loS := Lib.hid (own_lo o)
    have hiS := Lib.hid (own_hi o)
    clear o
    clear hb
    clear P loP hiP
    go_wp2_with fail
    with_reducible refine (toStayS_any A n cap F _ hn (HR.out.kept B)).mono ?_
    rintro e w3 ⟨v, rfl, o, hb⟩
    obtain ⟨AX, cX, rfl, _⟩ := own_recs o
    have s3 := hb.size
    replace S := Lib.hid (own_below S.out hb)
    replace B := B.trans (hb.mono (by omega))
    have X := Lib.hid o
    have loX := Lib.hid (own_lo o)
    have hiX := Lib.hid (own_hi o)
    clear o
    clear hb
    go_wp2_with fail
    with_reducible refine (moveC_any AX n cX F fund m _ hn (own_anyC X.out) (own_rec X.out)).mono ?_
    rintro e w4 ⟨v, rfl, o, hb⟩
    obtain ⟨AG, cG, rfl, _⟩ := own_recs o
    have s4 := hb.size
    replace S := Lib.hid (own_below S.out hb)
    replace X := Lib.hid (own_below X.out hb)
    replace B := B.trans (hb.mono (by omega))
    have G := Lib.hid o
    have loG := Lib.hid (own_lo o)
    have hiG := Lib.hid (own_hi o)
    clear o
    clear hb
    go_wp2_with fail
    with_reducible refine (eqStayS_same AG AS (moveN F n fund m) cG cS (moveG F n fund m) (moveG F n fund m) _ HN.out (own_rec G.out) (own_rec S.out) (fun _ _ _ _ => rfl)).mono ?_
    rintro e w5 ⟨rfl, hb⟩
    have s5 := hb.size
    replace S := Lib.hid (own_below S.out hb)
    replace X := Lib.hid (own_below X.out hb)
    replace G := Lib.hid (own_below G.out hb)
    replace B := B.trans (hb.mono (by omega))
    clear hb
    go_wp2_with fail
    with_reducible refine (toStayS_any A n cap F _ hn (HR.out.kept B)).mono ?_
    rintro e w6 ⟨v, rfl, o, hb⟩
    obtain ⟨AY, cY, rfl, _⟩ := own_recs o
    have s6 := hb.size
    replace S := Lib.hid (own_below S.out hb)
    replace X := Lib.hid (own_below X.out hb)
    replace G := Lib.hid (own_below G.out hb)
    replace B := B.trans (hb.mono (by omega))
    have Y := Lib.hid o
    have loY := Lib.hid (own_lo o)
    have hiY := Lib.hid (own_hi o)
    clear o
    clear hb
    go_wp2_with fail
    with_reducible refine (eqStayS_same AX AY (n) cX cY (F) (F) _ hn (own_rec X.out) (own_rec Y.out) (fun _ _ _ _ => rfl)).mono ?_
    rintro e w7 ⟨rfl, hb⟩
    have s7 := hb.size
    replace S := Lib.hid (own_below S.out hb)
    replace X := Lib.hid (own_below X.out hb)
    replace G := Lib.hid (own_below G.out hb)
    replace Y := Lib.hid (own_below Y.out hb)
    replace B := B.trans (hb.mono (by omega))
    clear hb
    clear Y loY hiY
    go_wp2_with fail
    with_reducible refine (markStayS_any w2.heap.size _ (n) _ 1 _ hn (by omega) (by omega) X.out).mono ?_
    rintro e w8 ⟨rfl, m, hg⟩
    have s8 := hg.size
    replace S := Lib.hid (S.out.kept hg (apart_lt (B := w2.heap.size) (fun b h => Nat.lt_of_lt_of_le (hiS.out b h) (by omega)) loX.out))
    replace G := Lib.hid (G.out.kept hg (apart_gt (B := w3.heap.size) loG.out (fun b h => Nat.lt_of_lt_of_le (hiX.out b h) (by omega))))
    replace B := below_grown B hg (by omega) (fun b h => Nat.le_trans (by omega) (loX.out b h))
    replace X := Lib.hid m
    clear m hg
    go_wp2_with fail
    with_reducible refine (eqStayS_same AG AS (moveN F n fund m) cG cS (moveG F n fund m) (moveG F n fund m) _ HN.out (own_rec G.out) (own_rec S.out) (fun _ _ _ _ => rfl)).mono ?_
    rintro e w9 ⟨rfl, hb⟩
    have s9 := hb.size
    replace S := Lib.hid (own_below S.out hb)
    replace X := Lib.hid (own_below X.out hb)
    replace G := Lib.hid (own_below G.out hb)
    replace B := B.trans (hb.mono (by omega))
    clear hb
    clear X loX hiX
    go_wp2_with fail
    with_reducible refine (markStayS_any w3.heap.size _ (moveN F n fund m) _ 1 _ HN.out (by omega) (by omega) G.out).mono ?_
    rintro e w10 ⟨rfl, m, hg⟩
    have s10 := hg.size
    replace S := Lib.hid (S.out.kept hg (apart_lt (B := w3.heap.size) (fun b h => Nat.lt_of_lt_of_le (hiS.out b h) (by omega)) loG.out))
    replace B := below_grown B hg (by omega) (fun b h => Nat.le_trans (by omega) (loG.out b h))
    replace G := Lib.hid m
    clear m hg
    go_wp2_with fail
    with_reducible refine (heldStayS_any AG (moveN F n fund m) cG 1 _ HN.out (by omega) (by omega) (own_rec G.out)).mono ?_
    rintro e w11 ⟨rfl, hb⟩
    have s11 := hb.size
    replace S := Lib.hid (own_below S.out hb)
    replace G := Lib.hid (own_below G.out hb)
    replace B := B.trans (hb.mono (by omega))
    clear hb
    go_wp2_with fail
    with_reducible refine (toStayS_any A n cap F _ hn (HR.out.kept B)).mono ?_
    rintro e w12 ⟨v, rfl, o, hb⟩
    obtain ⟨AZ, cZ, rfl, _⟩ := own_recs o
    have s12 := hb.size
    replace S := Lib.hid (own_below S.out hb)
    replace G := Lib.hid (own_below G.out hb)
    replace B := B.trans (hb.mono (by omega))
    have Z := Lib.hid o
    have loZ := Lib.hid (own_lo o)
    have hiZ := Lib.hid (own_hi o)
    clear o
    clear hb
    go_wp2_with fail
    with_reducible refine (moveC_any AZ n cZ F fund m _ hn (own_anyC Z.out) (own_rec Z.out)).mono ?_
    rintro e w13 ⟨v, rfl, o, hb⟩
    obtain ⟨AH, cH, rfl, _⟩ := own_recs o
    have s13 := hb.size
    replace S := Lib.hid (own_below S.out hb)
    replace G := Lib.hid (own_below G.out hb)
    replace Z := Lib.hid (own_below Z.out hb)
    replace B := B.trans (hb.mono (by omega))
    have H := Lib.hid o
    have loH := Lib.hid (own_lo o)
    have hiH := Lib.hid (own_hi o)
    clear o
    clear hb
    clear Z loZ hiZ
    go_wp2_with fail
    with_reducible refine (eqStayS_same AH AS (moveN F n fund m) cH cS (moveG F n fund m) (moveG F n fund m) _ HN.out (own_rec H.out) (own_rec S.out) (fun _ _ _ _ => rfl)).mono ?_
    rintro e w14 ⟨rfl, hb⟩
    have s14 := hb.size
    replace S := Lib.hid (own_below S.out hb)
    replace G := Lib.hid (own_below G.out hb)
    replace H := Lib.hid (own_below H.out hb)
    replace B := B.trans (hb.mono (by omega))
    clear hb
    clear H loH hiH
    clear S loS hiS
    go_wp2_with fail
    with_reducible refine (heldStayS_any AG (moveN F n fund m) cG 1 _ HN.out (by omega) (by omega) (own_rec G.out)).mono ?_
    rintro e w15 ⟨rfl, hb⟩
    have s15 := hb.size
    replace G := Lib.hid (own_below G.out hb)
    replace B := B.trans (hb.mono (by omega))
    clear hb
    go_wp2_with fail
    go_ret
    exact ⟨rfl, B⟩
  · have hsz := Lib.hid (fun w => by have := szStayS_any A n cap 1048576 w (by omega) (by omega) (by omega); rw [if_pos (by omega)] at this; exact this : ∀ w, Calls Try.prog 16 #[.slice A n cap, .int .i64 1048576] w fun e w' => e = .returned (.int .i64 (-1)) ∧ w = w')
    clear hr hm hlc
    go_enter Try.func8, Try.ntmps8
    go_wp2_with (go_at_call 16; (with_reducible refine (hsz.out _).mono ?_); rintro e w' ⟨rfl, rfl⟩)
    go_ret
    exact ⟨rfl, Below.refl _ _⟩
set_option maxRecDepth 100000 in
theorem fnExactMoveMember_open {H : Type} {enc : TypeId × Value → H} (W : World) (base : Nat) (args : Array Value) (ds : List (DataW H)) (p : List MemPlace)
    (hval : ∀ (j : Nat) t v, Try.f8.params[j]? = some t → args[j]? = some v → Value.okWide Try.prog W .any base t v)
    (hA : DataW.TrodAll enc Try.prog W 0 (fun _ => true) true Try.f8.params.toList args.toList ds p) :
    Calls Try.prog 8 args W fun e W' => e = .returned (.bool true) ∧ Below W.heap.size W W' := by
  rw [Try.params8] at hA hval
  obtain ⟨v0, vs0, d0, ds0, p0, q0, hargs, rfl, rfl, h0, r0⟩ := trodAll_cons hA
  obtain ⟨v1, vs1, d1, ds1, p1, q1, rfl, rfl, rfl, h1, r1⟩ := trodAll_cons r0
  obtain ⟨v2, vs2, d2, ds2, p2, q2, rfl, rfl, rfl, h2, r2⟩ := trodAll_cons r1
  obtain ⟨rfl, rfl, rfl⟩ := trodAll_nil r2
  obtain rfl : args = #[v0, v1, v2] := by cases args; simp_all
  obtain ⟨A, An, Acap, AF, rfl, hl0, hm0, hr0, hw0⟩ := open_recs 3 (by decide) Try.underlying22 Try.underlying68 (by kernel_rfl) (by kernel_rfl) rfl (by kernel_rfl) (hval 0 22 v0 rfl rfl) h0
  obtain ⟨fund, rfl, rfl, rfl, wf1⟩ := open_int Try.underlying3 (hval 1 3 v1 rfl rfl) h1
  obtain ⟨m, rfl, rfl, rfl, wf2⟩ := open_int Try.underlying3 (hval 2 3 v2 rfl rfl) h2
  exact lawMoveMember A An Acap AF fund m W hl0 hm0 hr0
theorem fnExactMoveMember_lifted (os : Os) (started : os.Started) (H : Type) (enc : TypeId × Value → H) :
    ReturnsInHanded {} Try.checked os 8 .any (Rows.fnExactMoveMemberSpec.pre6 enc Try.prog Try.f8 Rows.fnExactMoveMemberRow.domain false) (Rows.fnExactMoveMemberSpec.post enc Try.prog Try.f8 false true false false) :=
  law_lifted (C := Try.checked) (s := Rows.fnExactMoveMemberSpec) (tb := 4) Tryown TrylaidOut (by kernel_rfl) Try.func8 rfl Try.underlying4 (by kernel_rfl) rfl (fun H ds h => match ds, h with | [d0, d1, d2], _ => rfl) os started H enc
    (ChangeSpec.witness6 (enc := enc) (C := Try.checked) false ⟨#[], #[.slice none 0 0, .int .i64 0, .int .i64 0], []⟩ 8 (by kernel_rfl) (by kernel_rfl) (by kernel_rfl) (by kernel_rfl))
    (fun W base args ds p hval hA _ _ => fnExactMoveMember_open W base args ds p hval hA)
theorem fnExactMoveMember_holds : Rows.FnExactMoveMemberSaid :=
  OpenClaim.holds_of_wide 8 Try.f8 rfl rfl rfl rfl rfl rfl rfl ⟨rfl, rfl, rfl, rfl, rfl⟩ rfl rfl rfl rfl rfl (by kernel_rfl) Try.func8 (by kernel_rfl)
    (of_decide_eq_true (by kernel_rfl)) (by unfold Func.isWrapper; first | (rw [if_pos (by decide +kernel)]; kernel_rfl) | (rw [if_neg (by decide +kernel)]; exact ⟨rfl, rfl⟩))
    (fun os started H enc _ => fnExactMoveMember_lifted os started H enc)
#print axioms fnExactMoveMember_holds
end Go.Proofs.Ytogoddbkamgndaa
