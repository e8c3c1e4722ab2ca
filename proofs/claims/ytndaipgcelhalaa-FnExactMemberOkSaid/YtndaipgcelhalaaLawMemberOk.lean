/- Proved: for every member, the program's MemberOk answers what the reference's MemberOk answers, and leaves its argument as it was. No condition. -/
import Derived.Test.YtndaipgcelhalaaOpenM
import Derived.Test.YtndaipgcelhalaaMember
import Derived.Deep.RegionHeld3
import Derived.Outline
namespace Go.Proofs.Ytndaipgcelhalaa
open Go.ChangeShapes Go.WideShapes Go.ChangeAt Go.RowKit

set_option maxHeartbeats 4000000 in
theorem lawMemberOk (b j : Int) (S : Option Addr) (sn sc : Nat) (F : Nat → Nat → Int) (L : Nat → Bool) (EA : Option Addr) (en ec : Nat) (E : Nat → Nat → Int) (w : World) (hl2 : sn ≤ sc) (hm2 : sc ≤ maxLen) (hr2 : RecV w 4 S sn (spellV F L)) (hl3 : en ≤ ec) (hm3 : ec ≤ maxLen) (hr3 : Recs w 2 EA en E) :
    Calls Try.prog 3 #[.agg #[.int .i64 b, .int .i64 j, .slice S sn sc, .slice EA en ec]] w fun e w' => e = .returned (.bool true) ∧ Below w.heap.size w w' := by
  have hs60 : sn ≤ 9223372036854775807 := by unfold maxLen at hm2; omega
  have he60 : en ≤ 9223372036854775807 := by unfold maxLen at hm3; omega
  by_cases hn : sn + en ≤ 1048576
  · have hsz := Lib.hid (fun w => szMember_good b j S sn sc EA en ec w hn)
    have hs : sn ≤ 1048576 := by omega
    have he : en ≤ 1048576 := by omega
    have HS := Lib.hid hr2
    have HE := Lib.hid hr3
    have TM := Lib.hid (fun w1 (h : Below w.heap.size w w1) => toMember_any b j S sn sc F L EA en ec E w1 hs he (HS.out.kept h) (HE.out.kept h))
    clear hr2 hr3 hl2 hl3 hm2 hm3 hs60 he60
    go_enter Try.func3, Try.ntmps3
    go_wp2_with (go_at_call 4; (with_reducible refine (hsz.out _).mono ?_); rintro e w1 ⟨rfl, hb1⟩; obtain ⟨hc1, hf1⟩ := bcell hb1; (try simp only [World.size_drew] at hc1 hf1); have hz1 := hb1.size; (try simp at hz1); (try have q1_0 : w.heap.size < w1.heap.size := by omega); (try have q1_1 : w.heap.size + 1 < w1.heap.size := by omega); (try have q1_2 : w.heap.size + 2 < w1.heap.size := by omega); (try have q1_3 : w.heap.size + 3 < w1.heap.size := by omega); (try have q1_4 : w.heap.size + 4 < w1.heap.size := by omega); (try have q1_0_0 : w0.heap.size < w1.heap.size := by omega); (try have q1_0_1 : w0.heap.size + 1 < w1.heap.size := by omega); (try have q1_2_0 : w2.heap.size < w1.heap.size := by omega); (try have q1_2_1 : w2.heap.size + 1 < w1.heap.size := by omega); (try have q1_3_0 : w3.heap.size < w1.heap.size := by omega); (try have q1_3_1 : w3.heap.size + 1 < w1.heap.size := by omega); (try have q1_4_0 : w4.heap.size < w1.heap.size := by omega); (try have q1_4_1 : w4.heap.size + 1 < w1.heap.size := by omega); (try have q1_5_0 : w5.heap.size < w1.heap.size := by omega); (try have q1_5_1 : w5.heap.size + 1 < w1.heap.size := by omega); (try have q1_6_0 : w6.heap.size < w1.heap.size := by omega); (try have q1_6_1 : w6.heap.size + 1 < w1.heap.size := by omega); (try have u1_b : b < w1.heap.size := by omega); (try have u1_q : q < w1.heap.size := by omega); (try have u1_g : g < w1.heap.size := by omega); (try have u1_g1 : g1 < w1.heap.size := by omega); (try have u1_g2 : g2 < w1.heap.size := by omega); (try have u1_g3 : g3 < w1.heap.size := by omega); (try have u1_g4 : g4 < w1.heap.size := by omega); (try have u1_g5 : g5 < w1.heap.size := by omega))
    have T := (Box.made w 25 #[.int .i64 b, .int .i64 j, .slice S sn sc, .slice EA en ec]).kept hb1
    have B : Below w.heap.size w w1 := by (repeat (first | with_reducible exact Below.refl _ _ | with_reducible refine Below.drew ?_ | (with_reducible refine Below.alloc ?_ ?hsz _; case hsz => ((try simp) <;> (try omega))) | (with_reducible refine Below.setCell ?_ ?hsz _; case hsz => ((try simp) <;> (try omega))) | (with_reducible refine below_step (by with_reducible assumption) ?hsz ?_; case hsz => ((try simp) <;> (try omega)))))
    clear hb1 hc1 hf1
    have s1 := B.size
    with_reducible refine (TM.out _ B).mono ?_
    rintro e w2 ⟨A1, c1, A2, c2, rfl, r1, r2, hb⟩
    replace T := T.kept hb
    replace B := B.trans (hb.mono s1)
    have R1 := Lib.hid r1
    have R2 := Lib.hid r2
    have s2 := B.size
    clear hb r1 r2
    go_wp2_with fail
    with_reducible refine (smember_any b j A1 sn c1 F L A2 en c2 E _ hs he R1.out R2.out).mono ?_
    rintro e w3 ⟨rfl, hb⟩
    replace T := T.kept hb
    replace B := B.trans (hb.mono s2)
    have s3 := B.size
    clear hb R1 R2
    obtain ⟨⟨t0, t1, t2, t3⟩, _⟩ := T.four'
    have tl := T.lt
    go_wp2_with fail
    with_reducible refine (TM.out _ B).mono ?_
    rintro e w4 ⟨A3, c3, A4, c4, rfl, r1, r2, hb⟩
    replace T := T.kept hb
    replace B := B.trans (hb.mono s3)
    have s4 := B.size
    have R1 := Lib.hid (r1.alloc (.cells #[.int .i64 b, .int .i64 j, .slice A3 sn c3, .slice A4 en c4] 31))
    have R2 := Lib.hid (r2.alloc (.cells #[.int .i64 b, .int .i64 j, .slice A3 sn c3, .slice A4 en c4] 31))
    clear hb r1 r2 t0 t1 t2 t3 tl
    go_wp2_with fail
    with_reducible refine (member_any b j A3 sn c3 F L A4 en c4 E _ hs he R1.out R2.out).mono ?_
    rintro e w6 ⟨rfl, hb⟩
    have X := (Box.made w4 31 #[.int .i64 b, .int .i64 j, .slice A3 sn c3, .slice A4 en c4]).kept hb
    replace T := (T.alloc (.cells #[.int .i64 b, .int .i64 j, .slice A3 sn c3, .slice A4 en c4] 31)).kept hb
    replace B := (B.alloc s4 (.cells #[.int .i64 b, .int .i64 j, .slice A3 sn c3, .slice A4 en c4] 31)).trans (hb.mono (by simp; omega))
    have s6 := B.size
    have Q1 := Lib.hid (R1.out.kept hb)
    have Q2 := Lib.hid (R2.out.kept hb)
    clear hb R1 R2
    obtain ⟨⟨t0, t1, t2, t3⟩, _⟩ := T.four'
    obtain ⟨⟨x0, x1, x2, x3⟩, _⟩ := X.four'
    have tl := T.lt
    have xl := X.lt
    go_wp2_with fail
    go_region_held3 (fun w' => w'.cell? ⟨w.heap.size, 0, none⟩ = some (.int .i64 b) ∧ w'.cell? ⟨w.heap.size, 1, none⟩ = some (.int .i64 j) ∧ w'.cell? ⟨w.heap.size, 2, none⟩ = some (.slice S sn sc) ∧ w'.cell? ⟨w.heap.size, 3, none⟩ = some (.slice EA en ec) ∧ w'.cell? ⟨w4.heap.size, 0, none⟩ = some (.int .i64 b) ∧ w'.cell? ⟨w4.heap.size, 1, none⟩ = some (.int .i64 j) ∧ w'.cell? ⟨w4.heap.size, 2, none⟩ = some (.slice A3 sn c3) ∧ w'.cell? ⟨w4.heap.size, 3, none⟩ = some (.slice A4 en c4)) (simp [go_sem, *])
      (first | (go_at_call 6; (with_reducible refine (TM.out _ B.drew).mono ?_); rintro e wa ⟨A5, c5, A6, c6, rfl, r5, r6, hba⟩; have Q5 := Lib.hid r5; have Q6 := Lib.hid r6; clear r5 r6; obtain ⟨hca, hfa⟩ := bcell hba; (try simp only [World.size_drew] at hca hfa); have sa := hba.size; (try simp only [World.size_drew] at sa); have la : w.heap.size < wa.heap.size := (by omega); have lb : w4.heap.size < wa.heap.size := (by omega)) | (go_at_call 8; (with_reducible refine (eqMember_same b j A3 A5 sn c3 c5 F L A4 A6 en c4 c6 E _ hs he (Q1.out.drew.kept hba) Q5.out (Q2.out.drew.kept hba) Q6.out).mono ?_); rintro e wb ⟨rfl, hbb⟩; obtain ⟨hcb, hfb⟩ := bcell hbb; (try simp only [World.size_drew] at hcb hfb)))
    have BB := Lib.hid ((B.drew.trans (hba.mono s6)).trans (hbb.mono (Nat.le_trans s6 sa)))
    clear hca hfa hcb hfb hba hbb
    go_wp2_with fail
    go_ret
    exact ⟨rfl, BB.out⟩
  · have hsz := Lib.hid (fun w => szMember_bad b j S sn sc EA en ec w hn hs60 he60)
    clear hr2 hr3 hl2 hl3 hm2 hm3
    go_enter Try.func3, Try.ntmps3
    go_wp2_with (go_at_call 4; (with_reducible refine (hsz.out _).mono ?_); rintro e w1 ⟨rfl, hb1⟩; obtain ⟨hc1, hf1⟩ := bcell hb1; (try simp only [World.size_drew] at hc1 hf1); have hz1 := hb1.size; (try simp at hz1); (try have q1_0 : w.heap.size < w1.heap.size := by omega); (try have q1_1 : w.heap.size + 1 < w1.heap.size := by omega); (try have q1_2 : w.heap.size + 2 < w1.heap.size := by omega); (try have q1_3 : w.heap.size + 3 < w1.heap.size := by omega); (try have q1_4 : w.heap.size + 4 < w1.heap.size := by omega); (try have q1_0_0 : w0.heap.size < w1.heap.size := by omega); (try have q1_0_1 : w0.heap.size + 1 < w1.heap.size := by omega); (try have q1_2_0 : w2.heap.size < w1.heap.size := by omega); (try have q1_2_1 : w2.heap.size + 1 < w1.heap.size := by omega); (try have q1_3_0 : w3.heap.size < w1.heap.size := by omega); (try have q1_3_1 : w3.heap.size + 1 < w1.heap.size := by omega); (try have q1_4_0 : w4.heap.size < w1.heap.size := by omega); (try have q1_4_1 : w4.heap.size + 1 < w1.heap.size := by omega); (try have q1_5_0 : w5.heap.size < w1.heap.size := by omega); (try have q1_5_1 : w5.heap.size + 1 < w1.heap.size := by omega); (try have q1_6_0 : w6.heap.size < w1.heap.size := by omega); (try have q1_6_1 : w6.heap.size + 1 < w1.heap.size := by omega); (try have u1_b : b < w1.heap.size := by omega); (try have u1_q : q < w1.heap.size := by omega); (try have u1_g : g < w1.heap.size := by omega); (try have u1_g1 : g1 < w1.heap.size := by omega); (try have u1_g2 : g2 < w1.heap.size := by omega); (try have u1_g3 : g3 < w1.heap.size := by omega); (try have u1_g4 : g4 < w1.heap.size := by omega); (try have u1_g5 : g5 < w1.heap.size := by omega))
    go_ret
    exact ⟨rfl, by (repeat (first | with_reducible exact Below.refl _ _ | with_reducible refine Below.drew ?_ | (with_reducible refine Below.alloc ?_ ?hsz _; case hsz => ((try simp) <;> (try omega))) | (with_reducible refine Below.setCell ?_ ?hsz _; case hsz => ((try simp) <;> (try omega))) | (with_reducible refine below_step (by with_reducible assumption) ?hsz ?_; case hsz => ((try simp) <;> (try omega)))))⟩
theorem fnExactMemberOk_cells0 : Try.prog.cellsOf 25 = 4 := by kernel_rfl
set_option maxRecDepth 100000 in
theorem fnExactMemberOk_open {H : Type} {enc : TypeId × Value → H} (W : World) (base : Nat) (args : Array Value) (ds : List (DataW H)) (p : List MemPlace)
    (hval : ∀ (j : Nat) t v, Try.f3.params[j]? = some t → args[j]? = some v → Value.okWide Try.prog W .any base t v)
    (hA : DataW.TrodAll enc Try.prog W 0 (fun _ => true) true Try.f3.params.toList args.toList ds p) :
    Calls Try.prog 3 args W fun e W' => e = .returned (.bool true) ∧ Below W.heap.size W W' := by
  rw [Try.params3] at hA hval
  obtain ⟨v0, vs0, d0, ds0, p0, q0, hargs, rfl, rfl, h0, r0⟩ := trodAll_cons hA
  obtain ⟨rfl, rfl, rfl⟩ := trodAll_nil r0
  obtain rfl : args = #[v0] := by cases args; simp_all
  obtain ⟨c0, c1, c2, c3, y0, y1, y2, y3, mm, rfl, rfl, rfl, hy0, hy1, hy2, hy3⟩ := Go.Joins.open_agg4 Try.underlying25 (by kernel_rfl) fnExactMemberOk_cells0 (hval 0 25 v0 rfl rfl) h0
  obtain ⟨b, e0, rfl, wf0⟩ := DataW.trod_int Try.underlying3 hy0
  obtain ⟨j, e1, rfl, wf1⟩ := DataW.trod_int Try.underlying3 hy1
  simp at e0 e1
  subst e0 e1
  obtain ⟨S, Sn, Scap, SF, SL, rfl, hl2, hm2, hr2⟩ := open_spells Try.underlying22 Try.underlying52 (by kernel_rfl) (by kernel_rfl) Try.underlying3 Try.underlying4 hy2
  obtain ⟨E, En, Ecap, EF, rfl, hl3, hm3, hr3, hw3⟩ := open_recs_cells 2 (by decide) Try.underlying23 Try.underlying54 (by kernel_rfl) (by kernel_rfl) rfl (by kernel_rfl) hy3
  exact lawMemberOk b j S Sn Scap SF SL E En Ecap EF W hl2 hm2 hr2 hl3 hm3 hr3
theorem fnExactMemberOk_lifted (os : Os) (started : os.Started) (H : Type) (enc : TypeId × Value → H) :
    ReturnsInHanded {} Try.checked os 3 .any (Rows.fnExactMemberOkSpec.pre6 enc Try.prog Try.f3 Rows.fnExactMemberOkRow.domain false) (Rows.fnExactMemberOkSpec.post enc Try.prog Try.f3 false true false false) :=
  law_lifted (C := Try.checked) (s := Rows.fnExactMemberOkSpec) (tb := 4) Tryown TrylaidOut (by kernel_rfl) Try.func3 rfl Try.underlying4 (by kernel_rfl) rfl (fun H ds h => match ds, h with | [d0], _ => rfl) os started H enc
    (ChangeSpec.witness6 (enc := enc) (C := Try.checked) false ⟨#[], #[.agg #[.int .i64 0, .int .i64 0, .slice none 0 0, .slice none 0 0]], []⟩ 8 (by kernel_rfl) (by kernel_rfl) (by kernel_rfl) (by kernel_rfl))
    (fun W base args ds p hval hA _ _ => fnExactMemberOk_open W base args ds p hval hA)
theorem fnExactMemberOk_holds : Rows.FnExactMemberOkSaid :=
  OpenClaim.holds_of_wide 3 Try.f3 rfl rfl rfl rfl rfl rfl rfl ⟨rfl, rfl, rfl, rfl, rfl⟩ rfl rfl rfl rfl rfl (by kernel_rfl) Try.func3 (by kernel_rfl)
    (of_decide_eq_true (by kernel_rfl)) (by unfold Func.isWrapper; first | (rw [if_pos (by decide +kernel)]; kernel_rfl) | (rw [if_neg (by decide +kernel)]; exact ⟨rfl, rfl⟩))
    (fun os started H enc _ => fnExactMemberOk_lifted os started H enc)
#print axioms fnExactMemberOk_holds
end Go.Proofs.Ytndaipgcelhalaa
