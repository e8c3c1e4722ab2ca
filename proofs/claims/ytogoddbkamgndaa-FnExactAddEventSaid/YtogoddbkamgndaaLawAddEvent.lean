/- Proved: for every list of events and every event, the program's AddEvent answers what the reference's answers, in memory of its own, and leaves its argument as it was. No condition. -/
import Derived.Test.YtogoddbkamgndaaAddI
import Derived.Test.YtogoddbkamgndaaOpenR
import Derived.Deep.RegionHeld3
import Derived.Deep.DeepCutAuto
import Derived.Outline
namespace Go.Proofs.Ytogoddbkamgndaa
open Go.ChangeShapes Go.WideShapes Go.ChangeAt Go.RowKit

theorem addN_le (F : Nat → Nat → Int) (n : Nat) (k t : Int) : addN F n k t ≤ n + 1 := by
  unfold addN
  split <;> omega
theorem addN_small {F : Nat → Nat → Int} {n : Nat} {k t : Int} (hn : n ≤ 1048576) : addN F n k t ≤ 1048576 := by
  unfold addN
  split
  · rename_i h
    simp only [addB, Bool.and_eq_true] at h
    have := (eventsB_true h.1).2
    omega
  · exact hn
set_option maxRecDepth 100000 in
set_option maxHeartbeats 16000000 in
theorem lawAddEvent (A : Option Addr) (n cap : Nat) (F : Nat → Nat → Int) (k t : Int) (w : World) (hlc : n ≤ cap) (hm : cap ≤ maxLen) (hr : Recs w 2 A n F) :
    Calls Try.prog 14 #[.slice A n cap, .agg #[.int .i64 k, .int .i64 t]] w fun e w' => e = .returned (.bool true) ∧ Below w.heap.size w w' := by
  have hn60 : n ≤ 9223372036854775807 := by unfold maxLen at hm; omega
  by_cases hn : n ≤ 1048576
  · have hsz := Lib.hid (fun w => by have := szEventS_any A n cap 1048576 w (by omega) (by omega) (by omega); rw [if_neg (by omega)] at this; exact this : ∀ w, Calls Try.prog 38 #[.slice A n cap, .int .i64 1048576] w fun e w' => e = .returned (.int .i64 (1048576 - n)) ∧ w = w')
    have hN : addN F n k t ≤ 1048576 := addN_small hn
    have HR := Lib.hid hr
    have HN := Lib.hid hN
    have B := Below.refl w.heap.size w
    clear hr hm hlc hn60 hN
    go_enter Try.func14, Try.ntmps14
    go_wp2_with (go_at_call 38; (with_reducible refine (hsz.out _).mono ?_); rintro e w' ⟨rfl, rfl⟩)
    obtain ⟨w1, hw⟩ : ∃ w', w' = w.alloc (.cells #[.int .i64 k, .int .i64 t] 59) := ⟨_, rfl⟩
    rw [← hw]
    have s1 : w1.heap.size = w.heap.size + 1 := by rw [hw]; simp
    have hb : Below w.heap.size w w1 := by rw [hw]; exact (Below.refl _ _).alloc (Nat.le_refl _) _
    replace B := B.trans (hb.mono (by omega))
    have XE : Box w1 w.heap.size 59 #[.int .i64 k, .int .i64 t] := by rw [hw]; exact Box.made _ _ _
    clear hw hb
    obtain ⟨t01, t02, t03, t04⟩ := XE.two
    have tl0 := XE.lt
    have RR := Lib.hid (HR.out.kept B)
    have gz : w.heap.size < w1.heap.size := tl0
    go_cut [6, 7] (fun x y wx => ∃ (AS : Option Addr) (cS : Nat), x = .slice AS (addN F n k t) cS ∧ y = .bool (addB F n k t) ∧ Below w1.heap.size w1 wx ∧ wx.ownsRow w1.heap.size 58 2 (.slice AS (addN F n k t) cS) (addN F n k t) (recs (addG F n k t) 2 (addN F n k t)))
    case first =>
      go_region_held3 (fun w' => w'.cell? ⟨w.heap.size, 0, none⟩ = some (.int .i64 k) ∧ w'.cell? ⟨w.heap.size, 1, none⟩ = some (.int .i64 t)) (simp [go_sem, *])
        (first | (go_at_call 40; (with_reducible refine (toEventS_any A n cap F _ hn (by repeat (first | exact RR.out | with_reducible refine Recs.drew ?_ | with_reducible refine Recs.kept ?_ (by with_reducible assumption)))).mono ?_); rintro e wa ⟨vp, rfl, op, hba⟩; obtain ⟨AP, cP, rfl, _⟩ := own_recs op; have RP := Lib.hid (own_rec op); have aP := Lib.hid (own_anyA op); clear op; obtain ⟨hca, hfa⟩ := bcell hba; (try simp only [World.size_drew] at hca hfa); have sa := hba.size; (try simp only [World.size_drew] at sa); have la : w.heap.size < wa.heap.size := (by omega)) | (go_at_call 50; (with_reducible refine (toEvent_any k t _).mono ?_); rintro e wb ⟨rfl, hbb⟩; obtain ⟨hcb, hfb⟩ := bcell hbb; (try simp only [World.size_drew] at hcb hfb); have sb := hbb.size; (try simp only [World.size_drew] at sb); have lb : w.heap.size < wb.heap.size := (by omega)) | (go_at_call 49; (with_reducible refine (sadd_any AP n cP F k t _ hn aP.out (by repeat (first | exact RP.out | with_reducible refine Recs.drew ?_ | with_reducible refine Recs.kept ?_ (by with_reducible assumption)))).mono ?_); rintro e wc ⟨vs, rfl, os, hbc⟩; obtain ⟨AS, cS, rfl, _⟩ := own_recs os; obtain ⟨hcc, hfc⟩ := bcell hbc; (try simp only [World.size_drew] at hcc hfc); have sc := hbc.size; (try simp only [World.size_drew] at sc)))
      all_goals (go_wp2_with fail; go_meet; refine ⟨AS, cS, rfl, rfl, ?_, ?_⟩)
      all_goals first | (with_reducible refine Below.mono ?_ (Nat.le_refl _); (repeat (first | with_reducible exact Below.refl _ _ | with_reducible refine Below.drew ?_ | (with_reducible refine Below.alloc ?_ ?hsz _; case hsz => ((try simp) <;> (try omega))) | (with_reducible refine Below.setCell ?_ ?hsz _; case hsz => ((try simp) <;> (try omega))) | (with_reducible refine below_step (by with_reducible assumption) ?hsz ?_; case hsz => ((try simp) <;> (try omega))))); done) | (first | exact own_mono os (by (try simp only [World.size_drew]); omega) | exact (own_mono os (by (try simp only [World.size_drew]); omega)).drew)
    case rest =>
      obtain ⟨w2, rfl⟩ : ∃ w0 : World, w0 = wc := ⟨_, rfl⟩
      obtain ⟨AS, cS, rfl, rfl, hb, o⟩ := hcut
      clear t01 t02 t03 t04 tl0 RR gz
      have s2 := hb.size
      replace XE := XE.kept hb
      replace B := B.trans (hb.mono (by omega))
      have S := Lib.hid o
      have loS := Lib.hid (own_lo o)
      have hiS := Lib.hid (own_hi o)
      clear o
      clear hb
      go_wp2_with fail
      with_reducible refine (toEventS_any A n cap F _ hn (HR.out.kept B)).mono ?_
      rintro e w3 ⟨v, rfl, o, hb⟩
      obtain ⟨AX, cX, rfl, _⟩ := own_recs o
      have s3 := hb.size
      replace S := Lib.hid (own_below S.out hb)
      replace XE := XE.kept hb
      replace B := B.trans (hb.mono (by omega))
      have X := Lib.hid o
      have loX := Lib.hid (own_lo o)
      have hiX := Lib.hid (own_hi o)
      clear o
      clear hb
      obtain ⟨t01, t02, t03, t04⟩ := XE.two
      have tl0 := XE.lt
      go_wp2_with fail
      with_reducible refine (toEvent_any k t _).mono ?_
      rintro e w4 ⟨rfl, hb⟩
      clear t01 t02 t03 t04 tl0
      have s4 := hb.size
      replace S := Lib.hid (own_below S.out hb)
      replace X := Lib.hid (own_below X.out hb)
      replace XE := XE.kept hb
      replace B := B.trans (hb.mono (by omega))
      clear hb
      go_wp2_with fail
      with_reducible refine (add_any AX n cX F k t _ hn (own_anyA X.out) (own_rec X.out)).mono ?_
      rintro e w5 ⟨v, rfl, o, hb⟩
      obtain ⟨AG, cG, rfl, _⟩ := own_recs o
      have s5 := hb.size
      replace S := Lib.hid (own_below S.out hb)
      replace X := Lib.hid (own_below X.out hb)
      replace XE := XE.kept hb
      replace B := B.trans (hb.mono (by omega))
      have G := Lib.hid o
      have loG := Lib.hid (own_lo o)
      have hiG := Lib.hid (own_hi o)
      clear o
      clear hb
      go_wp2_with fail
      with_reducible refine (eqEventS_same AG AS (addN F n k t) cG cS (addG F n k t) (addG F n k t) _ HN.out (own_rec G.out) (own_rec S.out) (fun _ _ _ _ => rfl)).mono ?_
      rintro e w6 ⟨rfl, hb⟩
      have s6 := hb.size
      replace S := Lib.hid (own_below S.out hb)
      replace X := Lib.hid (own_below X.out hb)
      replace G := Lib.hid (own_below G.out hb)
      replace XE := XE.kept hb
      replace B := B.trans (hb.mono (by omega))
      clear hb
      go_wp2_with fail
      with_reducible refine (toEventS_any A n cap F _ hn (HR.out.kept B)).mono ?_
      rintro e w7 ⟨v, rfl, o, hb⟩
      obtain ⟨AY, cY, rfl, _⟩ := own_recs o
      have s7 := hb.size
      replace S := Lib.hid (own_below S.out hb)
      replace X := Lib.hid (own_below X.out hb)
      replace G := Lib.hid (own_below G.out hb)
      replace XE := XE.kept hb
      replace B := B.trans (hb.mono (by omega))
      have Y := Lib.hid o
      have loY := Lib.hid (own_lo o)
      have hiY := Lib.hid (own_hi o)
      clear o
      clear hb
      go_wp2_with fail
      with_reducible refine (eqEventS_same AX AY (n) cX cY (F) (F) _ hn (own_rec X.out) (own_rec Y.out) (fun _ _ _ _ => rfl)).mono ?_
      rintro e w8 ⟨rfl, hb⟩
      have s8 := hb.size
      replace S := Lib.hid (own_below S.out hb)
      replace X := Lib.hid (own_below X.out hb)
      replace G := Lib.hid (own_below G.out hb)
      replace Y := Lib.hid (own_below Y.out hb)
      replace XE := XE.kept hb
      replace B := B.trans (hb.mono (by omega))
      clear hb
      clear Y loY hiY
      go_wp2_with fail
      with_reducible refine (markEventS_any w2.heap.size _ (n) _ 1 _ hn (by omega) (by omega) X.out).mono ?_
      rintro e w9 ⟨rfl, m, hg⟩
      have s9 := hg.size
      replace S := Lib.hid (S.out.kept hg (apart_lt (B := w2.heap.size) (fun b h => Nat.lt_of_lt_of_le (hiS.out b h) (by omega)) loX.out))
      replace G := Lib.hid (G.out.kept hg (apart_gt (B := w4.heap.size) loG.out (fun b h => Nat.lt_of_lt_of_le (hiX.out b h) (by omega))))
      replace XE := XE.grown hg (box_apart_lt (B := w2.heap.size) (by omega) loX.out)
      replace B := below_grown B hg (by omega) (fun b h => Nat.le_trans (by omega) (loX.out b h))
      replace X := Lib.hid m
      clear m hg
      go_wp2_with fail
      with_reducible refine (eqEventS_same AG AS (addN F n k t) cG cS (addG F n k t) (addG F n k t) _ HN.out (own_rec G.out) (own_rec S.out) (fun _ _ _ _ => rfl)).mono ?_
      rintro e w10 ⟨rfl, hb⟩
      have s10 := hb.size
      replace S := Lib.hid (own_below S.out hb)
      replace X := Lib.hid (own_below X.out hb)
      replace G := Lib.hid (own_below G.out hb)
      replace XE := XE.kept hb
      replace B := B.trans (hb.mono (by omega))
      clear hb
      clear X loX hiX
      go_wp2_with fail
      with_reducible refine (markEventS_any w4.heap.size _ (addN F n k t) _ 1 _ HN.out (by omega) (by omega) G.out).mono ?_
      rintro e w11 ⟨rfl, m, hg⟩
      have s11 := hg.size
      replace S := Lib.hid (S.out.kept hg (apart_lt (B := w4.heap.size) (fun b h => Nat.lt_of_lt_of_le (hiS.out b h) (by omega)) loG.out))
      replace XE := XE.grown hg (box_apart_lt (B := w4.heap.size) (by omega) loG.out)
      replace B := below_grown B hg (by omega) (fun b h => Nat.le_trans (by omega) (loG.out b h))
      replace G := Lib.hid m
      clear m hg
      go_wp2_with fail
      with_reducible refine (heldEventS_any AG (addN F n k t) cG 1 _ HN.out (by omega) (by omega) (own_rec G.out)).mono ?_
      rintro e w12 ⟨rfl, hb⟩
      have s12 := hb.size
      replace S := Lib.hid (own_below S.out hb)
      replace G := Lib.hid (own_below G.out hb)
      replace XE := XE.kept hb
      replace B := B.trans (hb.mono (by omega))
      clear hb
      go_wp2_with fail
      obtain ⟨t01, t02, t03, t04⟩ := XE.two
      have tl0 := XE.lt
      have RR := Lib.hid (HR.out.kept B)
      have gz : w.heap.size < w12.heap.size := tl0
      go_cut [14, 15] (fun x y wx => ∃ (AS : Option Addr) (cS : Nat), x = .slice AS (addN F n k t) cS ∧ y = .bool (addB F n k t) ∧ Below w12.heap.size w12 wx ∧ wx.ownsRow w12.heap.size 58 2 (.slice AS (addN F n k t) cS) (addN F n k t) (recs (addG F n k t) 2 (addN F n k t)))
      case first =>
        go_region_held3 (fun w' => w'.cell? ⟨w.heap.size, 0, none⟩ = some (.int .i64 k) ∧ w'.cell? ⟨w.heap.size, 1, none⟩ = some (.int .i64 t)) (simp [go_sem, *])
          (first | (go_at_call 40; (with_reducible refine (toEventS_any A n cap F _ hn (by repeat (first | exact RR.out | with_reducible refine Recs.drew ?_ | with_reducible refine Recs.kept ?_ (by with_reducible assumption)))).mono ?_); rintro e wa ⟨vp, rfl, op, hba⟩; obtain ⟨AP, cP, rfl, _⟩ := own_recs op; have RP := Lib.hid (own_rec op); have aP := Lib.hid (own_anyA op); clear op; obtain ⟨hca, hfa⟩ := bcell hba; (try simp only [World.size_drew] at hca hfa); have sa := hba.size; (try simp only [World.size_drew] at sa); have la : w.heap.size < wa.heap.size := (by omega)) | (go_at_call 50; (with_reducible refine (toEvent_any k t _).mono ?_); rintro e wb ⟨rfl, hbb⟩; obtain ⟨hcb, hfb⟩ := bcell hbb; (try simp only [World.size_drew] at hcb hfb); have sb := hbb.size; (try simp only [World.size_drew] at sb); have lb : w.heap.size < wb.heap.size := (by omega)) | (go_at_call 51; (with_reducible refine (add_any AP n cP F k t _ hn aP.out (by repeat (first | exact RP.out | with_reducible refine Recs.drew ?_ | with_reducible refine Recs.kept ?_ (by with_reducible assumption)))).mono ?_); rintro e wc ⟨vs, rfl, os, hbc⟩; obtain ⟨AS, cS, rfl, _⟩ := own_recs os; obtain ⟨hcc, hfc⟩ := bcell hbc; (try simp only [World.size_drew] at hcc hfc); have sc := hbc.size; (try simp only [World.size_drew] at sc)))
        all_goals (go_wp2_with fail; go_meet; refine ⟨AS, cS, rfl, rfl, ?_, ?_⟩)
        all_goals first | (with_reducible refine Below.mono ?_ (Nat.le_refl _); (repeat (first | with_reducible exact Below.refl _ _ | with_reducible refine Below.drew ?_ | (with_reducible refine Below.alloc ?_ ?hsz _; case hsz => ((try simp) <;> (try omega))) | (with_reducible refine Below.setCell ?_ ?hsz _; case hsz => ((try simp) <;> (try omega))) | (with_reducible refine below_step (by with_reducible assumption) ?hsz ?_; case hsz => ((try simp) <;> (try omega))))); done) | (first | exact own_mono os (by (try simp only [World.size_drew]); omega) | exact (own_mono os (by (try simp only [World.size_drew]); omega)).drew)
      case rest =>
        obtain ⟨w13, rfl⟩ : ∃ w0 : World, w0 = wc := ⟨_, rfl⟩
        obtain ⟨AH, cH, rfl, rfl, hb, o⟩ := hcut
        clear t01 t02 t03 t04 tl0 RR gz
        have s13 := hb.size
        replace S := Lib.hid (own_below S.out hb)
        replace G := Lib.hid (own_below G.out hb)
        replace XE := XE.kept hb
        replace B := B.trans (hb.mono (by omega))
        have H := Lib.hid o
        have loH := Lib.hid (own_lo o)
        have hiH := Lib.hid (own_hi o)
        clear o
        clear hb
        go_wp2_with fail
        with_reducible refine (eqEventS_same AH AS (addN F n k t) cH cS (addG F n k t) (addG F n k t) _ HN.out (own_rec H.out) (own_rec S.out) (fun _ _ _ _ => rfl)).mono ?_
        rintro e w14 ⟨rfl, hb⟩
        have s14 := hb.size
        replace S := Lib.hid (own_below S.out hb)
        replace G := Lib.hid (own_below G.out hb)
        replace H := Lib.hid (own_below H.out hb)
        replace XE := XE.kept hb
        replace B := B.trans (hb.mono (by omega))
        clear hb
        clear H loH hiH
        clear S loS hiS
        go_wp2_with fail
        with_reducible refine (heldEventS_any AG (addN F n k t) cG 1 _ HN.out (by omega) (by omega) (own_rec G.out)).mono ?_
        rintro e w15 ⟨rfl, hb⟩
        have s15 := hb.size
        replace G := Lib.hid (own_below G.out hb)
        replace XE := XE.kept hb
        replace B := B.trans (hb.mono (by omega))
        clear hb
        go_wp2_with fail
        go_ret
        exact ⟨rfl, B⟩
  · have hsz := Lib.hid (fun w => by have := szEventS_any A n cap 1048576 w (by omega) (by omega) (by omega); rw [if_pos (by omega)] at this; exact this : ∀ w, Calls Try.prog 38 #[.slice A n cap, .int .i64 1048576] w fun e w' => e = .returned (.int .i64 (-1)) ∧ w = w')
    clear hr hm hlc
    go_enter Try.func14, Try.ntmps14
    go_wp2_with (go_at_call 38; (with_reducible refine (hsz.out _).mono ?_); rintro e w' ⟨rfl, rfl⟩)
    go_ret
    exact ⟨rfl, (Below.refl _ _).alloc (Nat.le_refl _) _⟩
theorem fnExactAddEvent_cells1 : Try.prog.cellsOf 59 = 2 := by kernel_rfl
set_option maxRecDepth 100000 in
theorem fnExactAddEvent_open {H : Type} {enc : TypeId × Value → H} (W : World) (base : Nat) (args : Array Value) (ds : List (DataW H)) (p : List MemPlace)
    (hval : ∀ (j : Nat) t v, Try.f14.params[j]? = some t → args[j]? = some v → Value.okWide Try.prog W .any base t v)
    (hA : DataW.TrodAll enc Try.prog W 0 (fun _ => true) true Try.f14.params.toList args.toList ds p) :
    Calls Try.prog 14 args W fun e W' => e = .returned (.bool true) ∧ Below W.heap.size W W' := by
  rw [Try.params14] at hA hval
  obtain ⟨v0, vs0, d0, ds0, p0, q0, hargs, rfl, rfl, h0, r0⟩ := trodAll_cons hA
  obtain ⟨v1, vs1, d1, ds1, p1, q1, rfl, rfl, rfl, h1, r1⟩ := trodAll_cons r0
  obtain ⟨rfl, rfl, rfl⟩ := trodAll_nil r1
  obtain rfl : args = #[v0, v1] := by cases args; simp_all
  obtain ⟨A, An, Acap, AF, rfl, hl0, hm0, hr0, hw0⟩ := open_recs 2 (by decide) Try.underlying45 Try.underlying59 (by kernel_rfl) (by kernel_rfl) rfl (by kernel_rfl) (hval 0 45 v0 rfl rfl) h0
  obtain ⟨c1_0, c1_1, y1_0, y1_1, m1, rfl, rfl, rfl, hy1_0, hy1_1⟩ := Go.Joins.open_agg2 Try.underlying59 (by kernel_rfl) fnExactAddEvent_cells1 (hval 1 59 v1 rfl rfl) h1
  obtain ⟨k, e1_0, rfl, wf1_0⟩ := DataW.trod_int Try.underlying3 hy1_0
  obtain ⟨t, e1_1, rfl, wf1_1⟩ := DataW.trod_int Try.underlying3 hy1_1
  simp at e1_0 e1_1
  subst e1_0 e1_1
  exact lawAddEvent A An Acap AF k t W hl0 hm0 hr0
theorem fnExactAddEvent_lifted (os : Os) (started : os.Started) (H : Type) (enc : TypeId × Value → H) :
    ReturnsInHanded {} Try.checked os 14 .any (Rows.fnExactAddEventSpec.pre6 enc Try.prog Try.f14 Rows.fnExactAddEventRow.domain false) (Rows.fnExactAddEventSpec.post enc Try.prog Try.f14 false true false false) :=
  law_lifted (C := Try.checked) (s := Rows.fnExactAddEventSpec) (tb := 4) Tryown TrylaidOut (by kernel_rfl) Try.func14 rfl Try.underlying4 (by kernel_rfl) rfl (fun H ds h => match ds, h with | [d0, d1], _ => rfl) os started H enc
    (ChangeSpec.witness6 (enc := enc) (C := Try.checked) false ⟨#[], #[.slice none 0 0, .agg #[.int .i64 0, .int .i64 0]], []⟩ 8 (by kernel_rfl) (by kernel_rfl) (by kernel_rfl) (by kernel_rfl))
    (fun W base args ds p hval hA _ _ => fnExactAddEvent_open W base args ds p hval hA)
theorem fnExactAddEvent_holds : Rows.FnExactAddEventSaid :=
  OpenClaim.holds_of_wide 14 Try.f14 rfl rfl rfl rfl rfl rfl rfl ⟨rfl, rfl, rfl, rfl, rfl⟩ rfl rfl rfl rfl rfl (by kernel_rfl) Try.func14 (by kernel_rfl)
    (of_decide_eq_true (by kernel_rfl)) (by unfold Func.isWrapper; first | (rw [if_pos (by decide +kernel)]; kernel_rfl) | (rw [if_neg (by decide +kernel)]; exact ⟨rfl, rfl⟩))
    (fun os started H enc _ => fnExactAddEvent_lifted os started H enc)
#print axioms fnExactAddEvent_holds
end Go.Proofs.Ytogoddbkamgndaa
