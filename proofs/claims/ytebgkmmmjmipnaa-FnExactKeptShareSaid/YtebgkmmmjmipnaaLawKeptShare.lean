/- Proved: for every list of orders and all months, the program's KeptShare answers what the reference's answers, and leaves its argument as it was. No condition. -/
import Derived.Test.YtebgkmmmjmipnaaKeptS
import Derived.Test.YtebgkmmmjmipnaaOpenR
import Derived.Test.YtebgkmmmjmipnaaRecOrder
import Derived.Outline
namespace Go.Proofs.Ytebgkmmmjmipnaa
open Go.ChangeShapes Go.WideShapes Go.ChangeAt Go.RowKit

theorem eqFrac_same (x y : Int) (w : World) : Calls Try.prog 28 #[.agg #[.int .i64 x, .int .i64 y], .agg #[.int .i64 x, .int .i64 y]] w fun e w' => e = .returned (.bool true) ∧ Below w.heap.size w w' := by
  go_enter Try.func28, Try.ntmps28
  go_wp2
  go_ret
  exact ⟨rfl, by (repeat (first | with_reducible exact Below.refl _ _ | with_reducible refine Below.drew ?_ | (with_reducible refine Below.alloc ?_ ?hsz _; case hsz => ((try simp) <;> (try omega))) | (with_reducible refine Below.setCell ?_ ?hsz _; case hsz => ((try simp) <;> (try omega))) | (with_reducible refine below_step (by with_reducible assumption) ?hsz ?_; case hsz => ((try simp) <;> (try omega)))))⟩
set_option maxHeartbeats 4000000 in
theorem lawKeptShare (A : Option Addr) (n cap : Nat) (F : Nat → Nat → Int) (m known : Int) (w : World) (hlc : n ≤ cap) (hm : cap ≤ maxLen) (hr : Recs w 3 A n F) :
    Calls Try.prog 7 #[.slice A n cap, .int .i64 m, .int .i64 known] w fun e w' => e = .returned (.bool true) ∧ Below w.heap.size w w' := by
  have hn60 : n ≤ 9223372036854775807 := by unfold maxLen at hm; omega
  by_cases hn : n ≤ 1048576
  · have hsz := Lib.hid (fun w => by have := szOrderS_any A n cap 1048576 w (by omega) (by omega) (by omega); rw [if_neg (by omega)] at this; exact this : ∀ w, Calls Try.prog 11 #[.slice A n cap, .int .i64 1048576] w fun e w' => e = .returned (.int .i64 (1048576 - n)) ∧ w = w')
    have HR := Lib.hid hr
    have B := Below.refl w.heap.size w
    clear hr hm hlc hn60
    go_enter Try.func7, Try.ntmps7
    go_wp2_with (go_at_call 11; (with_reducible refine (hsz.out _).mono ?_); rintro e w' ⟨rfl, rfl⟩)
    with_reducible refine (toOrderS_any A n cap F _ hn (HR.out.kept B)).mono ?_
    rintro e w1 ⟨v, rfl, o, hb⟩
    obtain ⟨AP, cP, rfl, _⟩ := own_recs o
    have s1 := hb.size
    replace B := B.trans (hb.mono (by omega))
    have P := Lib.hid o
    have loP := Lib.hid (own_lo o)
    have hiP := Lib.hid (own_hi o)
    clear o
    clear hb
    go_wp2_with fail
    with_reducible refine (skept_any AP n cP F m known _ hn (own_rec P.out)).mono ?_
    rintro e w2 ⟨rfl, hb⟩
    have s2 := hb.size
    replace P := Lib.hid (own_below P.out hb)
    replace B := B.trans (hb.mono (by omega))
    clear hb
    clear P loP hiP
    go_wp2_with fail
    obtain ⟨w3, hw⟩ : ∃ w', w' = w2.alloc (.cells #[.int .i64 (keptX F n m known), .int .i64 (keptY F n m known)] 40) := ⟨_, rfl⟩
    rw [← hw]
    have s3 : w3.heap.size = w2.heap.size + 1 := by rw [hw]; simp
    have hb : Below w2.heap.size w2 w3 := by rw [hw]; exact (Below.refl _ _).alloc (Nat.le_refl _) _
    replace B := B.trans (hb.mono (by omega))
    have XS : Box w3 w2.heap.size 40 #[.int .i64 (keptX F n m known), .int .i64 (keptY F n m known)] := by rw [hw]; exact Box.made _ _ _
    clear hw hb
    with_reducible refine (toOrderS_any A n cap F _ hn (HR.out.kept B)).mono ?_
    rintro e w4 ⟨v, rfl, o, hb⟩
    obtain ⟨AX, cX, rfl, _⟩ := own_recs o
    have s4 := hb.size
    replace XS := XS.kept hb
    replace B := B.trans (hb.mono (by omega))
    have X := Lib.hid o
    have loX := Lib.hid (own_lo o)
    have hiX := Lib.hid (own_hi o)
    clear o
    clear hb
    go_wp2_with fail
    with_reducible refine (kept_any AX n cX F m known _ hn (own_rec X.out)).mono ?_
    rintro e w5 ⟨rfl, hb⟩
    have s5 := hb.size
    replace X := Lib.hid (own_below X.out hb)
    replace XS := XS.kept hb
    replace B := B.trans (hb.mono (by omega))
    clear hb
    obtain ⟨t01, t02, t03, t04⟩ := XS.two
    have tl0 := XS.lt
    go_wp2_with fail
    obtain ⟨w6, hw⟩ : ∃ w', w' = w5.alloc (.cells #[.int .i64 (keptX F n m known), .int .i64 (keptY F n m known)] 40) := ⟨_, rfl⟩
    rw [← hw]
    clear t01 t02 t03 t04 tl0
    have s6 : w6.heap.size = w5.heap.size + 1 := by rw [hw]; simp
    have hb : Below w5.heap.size w5 w6 := by rw [hw]; exact (Below.refl _ _).alloc (Nat.le_refl _) _
    replace X := Lib.hid (own_below X.out hb)
    replace XS := XS.kept hb
    replace B := B.trans (hb.mono (by omega))
    have XG : Box w6 w5.heap.size 40 #[.int .i64 (keptX F n m known), .int .i64 (keptY F n m known)] := by rw [hw]; exact Box.made _ _ _
    clear hw hb
    with_reducible refine (eqFrac_same (keptX F n m known) (keptY F n m known) _).mono ?_
    rintro e w7 ⟨rfl, hb⟩
    have s7 := hb.size
    replace X := Lib.hid (own_below X.out hb)
    replace XS := XS.kept hb
    replace XG := XG.kept hb
    replace B := B.trans (hb.mono (by omega))
    clear hb
    clear XS
    clear XG
    go_wp2_with fail
    with_reducible refine (toOrderS_any A n cap F _ hn (HR.out.kept B)).mono ?_
    rintro e w8 ⟨v, rfl, o, hb⟩
    obtain ⟨AY, cY, rfl, _⟩ := own_recs o
    have s8 := hb.size
    replace X := Lib.hid (own_below X.out hb)
    replace B := B.trans (hb.mono (by omega))
    have Y := Lib.hid o
    have loY := Lib.hid (own_lo o)
    have hiY := Lib.hid (own_hi o)
    clear o
    clear hb
    go_wp2_with fail
    with_reducible refine (eqOrderS_same AX AY (n) cX cY (F) (F) _ hn (own_rec X.out) (own_rec Y.out) (fun _ _ _ _ => rfl)).mono ?_
    rintro e w9 ⟨rfl, hb⟩
    have s9 := hb.size
    replace X := Lib.hid (own_below X.out hb)
    replace Y := Lib.hid (own_below Y.out hb)
    replace B := B.trans (hb.mono (by omega))
    clear hb
    go_wp2_with fail
    go_ret
    exact ⟨rfl, B⟩
  · have hsz := Lib.hid (fun w => by have := szOrderS_any A n cap 1048576 w (by omega) (by omega) (by omega); rw [if_pos (by omega)] at this; exact this : ∀ w, Calls Try.prog 11 #[.slice A n cap, .int .i64 1048576] w fun e w' => e = .returned (.int .i64 (-1)) ∧ w = w')
    clear hr hm hlc
    go_enter Try.func7, Try.ntmps7
    go_wp2_with (go_at_call 11; (with_reducible refine (hsz.out _).mono ?_); rintro e w' ⟨rfl, rfl⟩)
    go_ret
    exact ⟨rfl, Below.refl _ _⟩
set_option maxRecDepth 100000 in
theorem fnExactKeptShare_open {H : Type} {enc : TypeId × Value → H} (W : World) (base : Nat) (args : Array Value) (ds : List (DataW H)) (p : List MemPlace)
    (hval : ∀ (j : Nat) t v, Try.f7.params[j]? = some t → args[j]? = some v → Value.okWide Try.prog W .any base t v)
    (hA : DataW.TrodAll enc Try.prog W 0 (fun _ => true) true Try.f7.params.toList args.toList ds p) :
    Calls Try.prog 7 args W fun e W' => e = .returned (.bool true) ∧ Below W.heap.size W W' := by
  rw [Try.params7] at hA hval
  obtain ⟨v0, vs0, d0, ds0, p0, q0, hargs, rfl, rfl, h0, r0⟩ := trodAll_cons hA
  obtain ⟨v1, vs1, d1, ds1, p1, q1, rfl, rfl, rfl, h1, r1⟩ := trodAll_cons r0
  obtain ⟨v2, vs2, d2, ds2, p2, q2, rfl, rfl, rfl, h2, r2⟩ := trodAll_cons r1
  obtain ⟨rfl, rfl, rfl⟩ := trodAll_nil r2
  obtain rfl : args = #[v0, v1, v2] := by cases args; simp_all
  obtain ⟨A, An, Acap, AF, rfl, hl0, hm0, hr0, hw0⟩ := open_recs 3 (by decide) Try.underlying22 Try.underlying53 (by kernel_rfl) (by kernel_rfl) rfl (by kernel_rfl) (hval 0 22 v0 rfl rfl) h0
  obtain ⟨m, rfl, rfl, rfl, wf1⟩ := open_int Try.underlying3 (hval 1 3 v1 rfl rfl) h1
  obtain ⟨known, rfl, rfl, rfl, wf2⟩ := open_int Try.underlying3 (hval 2 3 v2 rfl rfl) h2
  exact lawKeptShare A An Acap AF m known W hl0 hm0 hr0
theorem fnExactKeptShare_lifted (os : Os) (started : os.Started) (H : Type) (enc : TypeId × Value → H) :
    ReturnsInHanded {} Try.checked os 7 .any (Rows.fnExactKeptShareSpec.pre6 enc Try.prog Try.f7 Rows.fnExactKeptShareRow.domain false) (Rows.fnExactKeptShareSpec.post enc Try.prog Try.f7 false true false false) :=
  law_lifted (C := Try.checked) (s := Rows.fnExactKeptShareSpec) (tb := 4) Tryown TrylaidOut (by kernel_rfl) Try.func7 rfl Try.underlying4 (by kernel_rfl) rfl (fun H ds h => match ds, h with | [d0, d1, d2], _ => rfl) os started H enc
    (ChangeSpec.witness6 (enc := enc) (C := Try.checked) false ⟨#[], #[.slice none 0 0, .int .i64 0, .int .i64 0], []⟩ 8 (by kernel_rfl) (by kernel_rfl) (by kernel_rfl) (by kernel_rfl))
    (fun W base args ds p hval hA _ _ => fnExactKeptShare_open W base args ds p hval hA)
theorem fnExactKeptShare_holds : Rows.FnExactKeptShareSaid :=
  OpenClaim.holds_of_wide 7 Try.f7 rfl rfl rfl rfl rfl rfl rfl ⟨rfl, rfl, rfl, rfl, rfl⟩ rfl rfl rfl rfl rfl (by kernel_rfl) Try.func7 (by kernel_rfl)
    (of_decide_eq_true (by kernel_rfl)) (by unfold Func.isWrapper; first | (rw [if_pos (by decide +kernel)]; kernel_rfl) | (rw [if_neg (by decide +kernel)]; exact ⟨rfl, rfl⟩))
    (fun os started H enc _ => fnExactKeptShare_lifted os started H enc)
#print axioms fnExactKeptShare_holds
end Go.Proofs.Ytebgkmmmjmipnaa
