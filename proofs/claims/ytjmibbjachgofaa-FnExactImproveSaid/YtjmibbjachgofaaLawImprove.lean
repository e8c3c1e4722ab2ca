/- Proved: for every table, percentage and number of years, the program's Improve answers what the reference's answers, in memory of its own. No condition. -/
import Derived.Test.YtjmibbjachgofaaOpen
import Derived.Test.YtjmibbjachgofaaImpS
import Derived.Test.YtjmibbjachgofaaIntT
import Derived.Deep.RegionHeld3
import Derived.Outline
namespace Go.Proofs.Ytjmibbjachgofaa
open Go.ChangeShapes Go.WideShapes Go.ChangeAt Go.RowKit

set_option maxHeartbeats 8000000 in
theorem lawImprove (f : Int) (A : Option Addr) (n cap : Nat) (F : Nat → Int) (p y : Int) (w : World) (hlc : n ≤ cap) (hm : cap ≤ maxLen) (hr : Row w .i64 A n F) :
    Calls Try.prog 12 #[.agg #[.int .i64 f, .slice A n cap], .int .i64 p, .int .i64 y] w fun e w' => e = .returned (.bool true) ∧ Below w.heap.size w w' := by
  have hn60 : n ≤ 9223372036854775807 := by unfold maxLen at hm; omega
  by_cases hn : n ≤ 1048576
  · have hsz := Lib.hid (fun w => by have := szTable_any f A n cap 1048576 w (by omega) (by omega) (by omega); rw [if_neg (by omega)] at this; exact this : ∀ w, Calls Try.prog 38 #[.agg #[.int .i64 f, .slice A n cap], .int .i64 1048576] w fun e w' => e = .returned (.int .i64 (1048576 - n)) ∧ Below w.heap.size w w')
    have HR := Lib.hid hr
    clear hr hm hlc hn60
    go_enter Try.func12, Try.ntmps12
    go_wp2_with (go_at_call 38; (with_reducible refine (hsz.out _).mono ?_); rintro e w1 ⟨rfl, hb1⟩; obtain ⟨hc1, hf1⟩ := bcell hb1; (try simp only [World.size_drew] at hc1 hf1); have hz1 := hb1.size; (try simp at hz1); (try have q1_0 : w.heap.size < w1.heap.size := by omega); (try have q1_1 : w.heap.size + 1 < w1.heap.size := by omega); (try have q1_2 : w.heap.size + 2 < w1.heap.size := by omega); (try have q1_3 : w.heap.size + 3 < w1.heap.size := by omega); (try have q1_4 : w.heap.size + 4 < w1.heap.size := by omega); (try have q1_0_0 : w0.heap.size < w1.heap.size := by omega); (try have q1_0_1 : w0.heap.size + 1 < w1.heap.size := by omega); (try have q1_2_0 : w2.heap.size < w1.heap.size := by omega); (try have q1_2_1 : w2.heap.size + 1 < w1.heap.size := by omega); (try have q1_3_0 : w3.heap.size < w1.heap.size := by omega); (try have q1_3_1 : w3.heap.size + 1 < w1.heap.size := by omega); (try have q1_4_0 : w4.heap.size < w1.heap.size := by omega); (try have q1_4_1 : w4.heap.size + 1 < w1.heap.size := by omega); (try have q1_5_0 : w5.heap.size < w1.heap.size := by omega); (try have q1_5_1 : w5.heap.size + 1 < w1.heap.size := by omega); (try have q1_6_0 : w6.heap.size < w1.heap.size := by omega); (try have q1_6_1 : w6.heap.size + 1 < w1.heap.size := by omega); (try have u1_b : b < w1.heap.size := by omega); (try have u1_q : q < w1.heap.size := by omega); (try have u1_g : g < w1.heap.size := by omega); (try have u1_g1 : g1 < w1.heap.size := by omega); (try have u1_g2 : g2 < w1.heap.size := by omega); (try have u1_g3 : g3 < w1.heap.size := by omega); (try have u1_g4 : g4 < w1.heap.size := by omega); (try have u1_g5 : g5 < w1.heap.size := by omega))
    have T := (Box.made w 46 #[.int .i64 f, .slice A n cap]).kept hb1
    have B : Below w.heap.size w w1 := by (repeat (first | with_reducible exact Below.refl _ _ | with_reducible refine Below.drew ?_ | (with_reducible refine Below.alloc ?_ ?hsz _; case hsz => ((try simp) <;> (try omega))) | (with_reducible refine Below.setCell ?_ ?hsz _; case hsz => ((try simp) <;> (try omega))) | (with_reducible refine below_step (by with_reducible assumption) ?hsz ?_; case hsz => ((try simp) <;> (try omega)))))
    clear hb1 hc1 hf1
    have s1 := B.size
    have lt0 := T.lt
    with_reducible refine (toTable_any f A n cap F _ hn (HR.out.kept B)).mono ?_
    rintro e w2 ⟨AP, cP, rfl, o, hb⟩
    have s2 := hb.size
    replace T := T.kept hb
    replace B := B.trans (hb.mono (by omega))
    have P := Lib.hid o
    have loP := Lib.hid (own_lo o)
    have hiP := Lib.hid (own_hi o)
    clear o
    clear hb
    go_wp2_with fail
    with_reducible refine (simprove_any f AP n cP F p y _ hn (own_headed P.out) (own_rows P.out)).mono ?_
    rintro e w3 ⟨AS, cS, rfl, o, hb⟩
    have s3 := hb.size
    replace P := Lib.hid (own_below P.out hb)
    replace T := T.kept hb
    replace B := B.trans (hb.mono (by omega))
    have S := Lib.hid o
    have loS := Lib.hid (own_lo o)
    have hiS := Lib.hid (own_hi o)
    clear o
    clear hb
    clear P loP hiP
    obtain ⟨t01, t02, t03, t04⟩ := T.two
    have tl0 := T.lt
    go_wp2_with fail
    obtain ⟨w4, hw⟩ : ∃ w', w' = w3.alloc (.cells #[.int .i64 f, .slice AS n cS] 39) := ⟨_, rfl⟩
    rw [← hw]
    clear t01 t02 t03 t04 tl0
    have s4 : w4.heap.size = w3.heap.size + 1 := by rw [hw]; simp
    have hb : Below w3.heap.size w3 w4 := by rw [hw]; exact (Below.refl _ _).alloc (Nat.le_refl _) _
    replace S := Lib.hid (own_below S.out hb)
    replace T := T.kept hb
    replace B := B.trans (hb.mono (by omega))
    have XS : Box w4 w3.heap.size 39 #[.int .i64 f, .slice AS n cS] := by rw [hw]; exact Box.made _ _ _
    clear hw hb
    with_reducible refine (toTable_any f A n cap F _ hn (HR.out.kept B)).mono ?_
    rintro e w5 ⟨AX, cX, rfl, o, hb⟩
    have s5 := hb.size
    replace S := Lib.hid (own_below S.out hb)
    replace T := T.kept hb
    replace XS := XS.kept hb
    replace B := B.trans (hb.mono (by omega))
    have X := Lib.hid o
    have loX := Lib.hid (own_lo o)
    have hiX := Lib.hid (own_hi o)
    clear o
    clear hb
    go_wp2_with fail
    obtain ⟨w6, hw⟩ : ∃ w', w' = w5.alloc (.cells #[.int .i64 f, .slice AX n cX] 39) := ⟨_, rfl⟩
    rw [← hw]
    have s6 : w6.heap.size = w5.heap.size + 1 := by rw [hw]; simp
    have hb : Below w5.heap.size w5 w6 := by rw [hw]; exact (Below.refl _ _).alloc (Nat.le_refl _) _
    replace S := Lib.hid (own_below S.out hb)
    replace X := Lib.hid (own_below X.out hb)
    replace T := T.kept hb
    replace XS := XS.kept hb
    replace B := B.trans (hb.mono (by omega))
    have XX : Box w6 w5.heap.size 39 #[.int .i64 f, .slice AX n cX] := by rw [hw]; exact Box.made _ _ _
    clear hw hb
    with_reducible refine (improve_any f AX n cX F p y _ hn (own_headed X.out) (own_rows X.out)).mono ?_
    rintro e w7 ⟨AG, cG, rfl, o, hb⟩
    have s7 := hb.size
    replace S := Lib.hid (own_below S.out hb)
    replace X := Lib.hid (own_below X.out hb)
    replace T := T.kept hb
    replace XS := XS.kept hb
    replace XX := XX.kept hb
    replace B := B.trans (hb.mono (by omega))
    have G := Lib.hid o
    have loG := Lib.hid (own_lo o)
    have hiG := Lib.hid (own_hi o)
    clear o
    clear hb
    obtain ⟨t01, t02, t03, t04⟩ := XS.two
    have tl0 := XS.lt
    go_wp2_with fail
    obtain ⟨w8, hw⟩ : ∃ w', w' = w7.alloc (.cells #[.int .i64 f, .slice AG n cG] 39) := ⟨_, rfl⟩
    rw [← hw]
    clear t01 t02 t03 t04 tl0
    have s8 : w8.heap.size = w7.heap.size + 1 := by rw [hw]; simp
    have hb : Below w7.heap.size w7 w8 := by rw [hw]; exact (Below.refl _ _).alloc (Nat.le_refl _) _
    replace S := Lib.hid (own_below S.out hb)
    replace X := Lib.hid (own_below X.out hb)
    replace G := Lib.hid (own_below G.out hb)
    replace T := T.kept hb
    replace XS := XS.kept hb
    replace XX := XX.kept hb
    replace B := B.trans (hb.mono (by omega))
    have XG : Box w8 w7.heap.size 39 #[.int .i64 f, .slice AG n cG] := by rw [hw]; exact Box.made _ _ _
    clear hw hb
    with_reducible refine (eqTable_same f AG AS n cG cS (impR f n F p y) (impR f n F p y) _ (by omega) (own_rows G.out) (own_rows S.out) (fun _ _ => rfl)).mono ?_
    rintro e w9 ⟨rfl, hb⟩
    have s9 := hb.size
    replace S := Lib.hid (own_below S.out hb)
    replace X := Lib.hid (own_below X.out hb)
    replace G := Lib.hid (own_below G.out hb)
    replace T := T.kept hb
    replace XS := XS.kept hb
    replace XX := XX.kept hb
    replace XG := XG.kept hb
    replace B := B.trans (hb.mono (by omega))
    clear hb
    obtain ⟨t01, t02, t03, t04⟩ := T.two
    have tl0 := T.lt
    obtain ⟨t11, t12, t13, t14⟩ := XX.two
    have tl1 := XX.lt
    go_wp2_with fail
    have rr := Lib.hid (HR.out.kept B)
    have rX := Lib.hid (own_rows X.out)
    go_region_held3 (fun w' => w'.cell? ⟨w.heap.size, 0, none⟩ = some (.int .i64 f) ∧ w'.cell? ⟨w.heap.size, 1, none⟩ = some (.slice A n cap) ∧ w'.cell? ⟨w5.heap.size, 0, none⟩ = some (.int .i64 f) ∧ w'.cell? ⟨w5.heap.size, 1, none⟩ = some (.slice AX n cX)) (simp [go_sem, *])
      (first | (go_at_call 40; (with_reducible refine (toTable_any f A n cap F _ hn rr.out.drew).mono ?_); rintro e wa ⟨AY, cY, rfl, oY, hba⟩; have rY := Lib.hid (own_rows oY); clear oY; obtain ⟨hca, hfa⟩ := bcell hba; (try simp only [World.size_drew] at hca hfa); have sa := hba.size; (try simp only [World.size_drew] at sa); have la : w.heap.size < wa.heap.size := (by omega); have lb : w5.heap.size < wa.heap.size := (by omega)) | (go_at_call 42; (with_reducible refine (eqTable_same f AX AY n cX cY F F _ (by omega) (rX.out.drew.kept hba) rY.out (fun _ _ => rfl)).mono ?_); rintro e w10 ⟨rfl, hbb⟩; obtain ⟨hcb, hfb⟩ := bcell hbb; (try simp only [World.size_drew] at hcb hfb)))
    have hb : Below w9.heap.size w9 w10 := ((Below.refl w9.heap.size w9).drew.trans hba).trans (hbb.mono sa)
    have s10 := hb.size
    clear hca hfa hcb hfb hba hbb rr rX rY la lb sa
    clear t01 t02 t03 t04 tl0 t11 t12 t13 t14 tl1
    replace S := Lib.hid (own_below S.out hb)
    replace X := Lib.hid (own_below X.out hb)
    replace G := Lib.hid (own_below G.out hb)
    replace T := T.kept hb
    replace XS := XS.kept hb
    replace XX := XX.kept hb
    replace XG := XG.kept hb
    replace B := B.trans (hb.mono (by omega))
    clear hb
    obtain ⟨t01, t02, t03, t04⟩ := XX.two
    have tl0 := XX.lt
    go_wp2_with fail
    with_reducible refine (markTable_any w4.heap.size f AX n cX _ 1 _ hn (by omega) (by omega) X.out).mono ?_
    rintro e w11 ⟨rfl, m, hg⟩
    clear t01 t02 t03 t04 tl0
    have s11 := hg.size
    replace S := Lib.hid (S.out.kept hg (apart_lt (B := w4.heap.size) (fun b h => Nat.lt_of_lt_of_le (hiS.out b h) (by omega)) loX.out))
    replace G := Lib.hid (G.out.kept hg (apart_gt (B := w6.heap.size) loG.out (fun b h => Nat.lt_of_lt_of_le (hiX.out b h) (by omega))))
    replace T := T.grown hg (box_apart_lt (B := w4.heap.size) (by omega) loX.out)
    replace XS := XS.grown hg (box_apart_lt (B := w4.heap.size) (by omega) loX.out)
    replace XX := XX.grown hg (box_apart_gt (B := w5.heap.size) (by omega) (fun b h => Nat.lt_of_lt_of_le (hiX.out b h) (by omega)))
    replace XG := XG.grown hg (box_apart_gt (B := w5.heap.size) (by omega) (fun b h => Nat.lt_of_lt_of_le (hiX.out b h) (by omega)))
    replace B := below_grown B hg (by omega) (fun b h => Nat.le_trans (by omega) (loX.out b h))
    replace X := Lib.hid m
    clear m hg
    obtain ⟨t01, t02, t03, t04⟩ := XG.two
    have tl0 := XG.lt
    obtain ⟨t11, t12, t13, t14⟩ := XS.two
    have tl1 := XS.lt
    go_wp2_with fail
    with_reducible refine (eqTable_same f AG AS n cG cS (impR f n F p y) (impR f n F p y) _ (by omega) (own_rows G.out) (own_rows S.out) (fun _ _ => rfl)).mono ?_
    rintro e w12 ⟨rfl, hb⟩
    clear t01 t02 t03 t04 tl0 t11 t12 t13 t14 tl1
    have s12 := hb.size
    replace S := Lib.hid (own_below S.out hb)
    replace X := Lib.hid (own_below X.out hb)
    replace G := Lib.hid (own_below G.out hb)
    replace T := T.kept hb
    replace XS := XS.kept hb
    replace XX := XX.kept hb
    replace XG := XG.kept hb
    replace B := B.trans (hb.mono (by omega))
    clear hb
    clear X loX hiX
    clear XX
    obtain ⟨t01, t02, t03, t04⟩ := XG.two
    have tl0 := XG.lt
    go_wp2_with fail
    with_reducible refine (markTable_any w6.heap.size f AG n cG _ 1 _ hn (by omega) (by omega) G.out).mono ?_
    rintro e w13 ⟨rfl, m, hg⟩
    clear t01 t02 t03 t04 tl0
    have s13 := hg.size
    replace S := Lib.hid (S.out.kept hg (apart_lt (B := w6.heap.size) (fun b h => Nat.lt_of_lt_of_le (hiS.out b h) (by omega)) loG.out))
    replace T := T.grown hg (box_apart_lt (B := w6.heap.size) (by omega) loG.out)
    replace XS := XS.grown hg (box_apart_lt (B := w6.heap.size) (by omega) loG.out)
    replace XG := XG.grown hg (box_apart_gt (B := w7.heap.size) (by omega) (fun b h => Nat.lt_of_lt_of_le (hiG.out b h) (by omega)))
    replace B := below_grown B hg (by omega) (fun b h => Nat.le_trans (by omega) (loG.out b h))
    replace G := Lib.hid m
    clear m hg
    obtain ⟨t01, t02, t03, t04⟩ := XG.two
    have tl0 := XG.lt
    go_wp2_with fail
    with_reducible refine (heldTable_any f AG n cG 1 _ hn (by omega) (by omega) (own_rows G.out)).mono ?_
    rintro e w14 ⟨rfl, hb⟩
    clear t01 t02 t03 t04 tl0
    have s14 := hb.size
    replace S := Lib.hid (own_below S.out hb)
    replace G := Lib.hid (own_below G.out hb)
    replace T := T.kept hb
    replace XS := XS.kept hb
    replace XG := XG.kept hb
    replace B := B.trans (hb.mono (by omega))
    clear hb
    obtain ⟨t01, t02, t03, t04⟩ := T.two
    have tl0 := T.lt
    go_wp2_with fail
    with_reducible refine (toTable_any f A n cap F _ hn (HR.out.kept B)).mono ?_
    rintro e w15 ⟨AZ, cZ, rfl, o, hb⟩
    clear t01 t02 t03 t04 tl0
    have s15 := hb.size
    replace S := Lib.hid (own_below S.out hb)
    replace G := Lib.hid (own_below G.out hb)
    replace T := T.kept hb
    replace XS := XS.kept hb
    replace XG := XG.kept hb
    replace B := B.trans (hb.mono (by omega))
    have Z := Lib.hid o
    have loZ := Lib.hid (own_lo o)
    have hiZ := Lib.hid (own_hi o)
    clear o
    clear hb
    go_wp2_with fail
    with_reducible refine (improve_any f AZ n cZ F p y _ hn (own_headed Z.out) (own_rows Z.out)).mono ?_
    rintro e w16 ⟨AH, cH, rfl, o, hb⟩
    have s16 := hb.size
    replace S := Lib.hid (own_below S.out hb)
    replace G := Lib.hid (own_below G.out hb)
    replace Z := Lib.hid (own_below Z.out hb)
    replace T := T.kept hb
    replace XS := XS.kept hb
    replace XG := XG.kept hb
    replace B := B.trans (hb.mono (by omega))
    have H := Lib.hid o
    have loH := Lib.hid (own_lo o)
    have hiH := Lib.hid (own_hi o)
    clear o
    clear hb
    clear Z loZ hiZ
    obtain ⟨t01, t02, t03, t04⟩ := XS.two
    have tl0 := XS.lt
    go_wp2_with fail
    obtain ⟨w17, hw⟩ : ∃ w', w' = w16.alloc (.cells #[.int .i64 f, .slice AH n cH] 39) := ⟨_, rfl⟩
    rw [← hw]
    clear t01 t02 t03 t04 tl0
    have s17 : w17.heap.size = w16.heap.size + 1 := by rw [hw]; simp
    have hb : Below w16.heap.size w16 w17 := by rw [hw]; exact (Below.refl _ _).alloc (Nat.le_refl _) _
    replace S := Lib.hid (own_below S.out hb)
    replace G := Lib.hid (own_below G.out hb)
    replace H := Lib.hid (own_below H.out hb)
    replace T := T.kept hb
    replace XS := XS.kept hb
    replace XG := XG.kept hb
    replace B := B.trans (hb.mono (by omega))
    have XH : Box w17 w16.heap.size 39 #[.int .i64 f, .slice AH n cH] := by rw [hw]; exact Box.made _ _ _
    clear hw hb
    with_reducible refine (eqTable_same f AH AS n cH cS (impR f n F p y) (impR f n F p y) _ (by omega) (own_rows H.out) (own_rows S.out) (fun _ _ => rfl)).mono ?_
    rintro e w18 ⟨rfl, hb⟩
    have s18 := hb.size
    replace S := Lib.hid (own_below S.out hb)
    replace G := Lib.hid (own_below G.out hb)
    replace H := Lib.hid (own_below H.out hb)
    replace T := T.kept hb
    replace XS := XS.kept hb
    replace XG := XG.kept hb
    replace XH := XH.kept hb
    replace B := B.trans (hb.mono (by omega))
    clear hb
    clear H loH hiH
    clear XH
    obtain ⟨t01, t02, t03, t04⟩ := XG.two
    have tl0 := XG.lt
    go_wp2_with fail
    with_reducible refine (heldTable_any f AG n cG 1 _ hn (by omega) (by omega) (own_rows G.out)).mono ?_
    rintro e w19 ⟨rfl, hb⟩
    clear t01 t02 t03 t04 tl0
    have s19 := hb.size
    replace S := Lib.hid (own_below S.out hb)
    replace G := Lib.hid (own_below G.out hb)
    replace T := T.kept hb
    replace XS := XS.kept hb
    replace XG := XG.kept hb
    replace B := B.trans (hb.mono (by omega))
    clear hb
    go_wp2_with fail
    go_ret
    exact ⟨rfl, B⟩
  · have hsz := Lib.hid (fun w => by have := szTable_any f A n cap 1048576 w (by omega) (by omega) (by omega); rw [if_pos (by omega)] at this; exact this : ∀ w, Calls Try.prog 38 #[.agg #[.int .i64 f, .slice A n cap], .int .i64 1048576] w fun e w' => e = .returned (.int .i64 (-1)) ∧ Below w.heap.size w w')
    clear hr hm hlc
    go_enter Try.func12, Try.ntmps12
    go_wp2_with (go_at_call 38; (with_reducible refine (hsz.out _).mono ?_); rintro e w1 ⟨rfl, hb1⟩; obtain ⟨hc1, hf1⟩ := bcell hb1; (try simp only [World.size_drew] at hc1 hf1); have hz1 := hb1.size; (try simp at hz1); (try have q1_0 : w.heap.size < w1.heap.size := by omega); (try have q1_1 : w.heap.size + 1 < w1.heap.size := by omega); (try have q1_2 : w.heap.size + 2 < w1.heap.size := by omega); (try have q1_3 : w.heap.size + 3 < w1.heap.size := by omega); (try have q1_4 : w.heap.size + 4 < w1.heap.size := by omega); (try have q1_0_0 : w0.heap.size < w1.heap.size := by omega); (try have q1_0_1 : w0.heap.size + 1 < w1.heap.size := by omega); (try have q1_2_0 : w2.heap.size < w1.heap.size := by omega); (try have q1_2_1 : w2.heap.size + 1 < w1.heap.size := by omega); (try have q1_3_0 : w3.heap.size < w1.heap.size := by omega); (try have q1_3_1 : w3.heap.size + 1 < w1.heap.size := by omega); (try have q1_4_0 : w4.heap.size < w1.heap.size := by omega); (try have q1_4_1 : w4.heap.size + 1 < w1.heap.size := by omega); (try have q1_5_0 : w5.heap.size < w1.heap.size := by omega); (try have q1_5_1 : w5.heap.size + 1 < w1.heap.size := by omega); (try have q1_6_0 : w6.heap.size < w1.heap.size := by omega); (try have q1_6_1 : w6.heap.size + 1 < w1.heap.size := by omega); (try have u1_b : b < w1.heap.size := by omega); (try have u1_q : q < w1.heap.size := by omega); (try have u1_g : g < w1.heap.size := by omega); (try have u1_g1 : g1 < w1.heap.size := by omega); (try have u1_g2 : g2 < w1.heap.size := by omega); (try have u1_g3 : g3 < w1.heap.size := by omega); (try have u1_g4 : g4 < w1.heap.size := by omega); (try have u1_g5 : g5 < w1.heap.size := by omega))
    go_ret
    exact ⟨rfl, by (repeat (first | with_reducible exact Below.refl _ _ | with_reducible refine Below.drew ?_ | (with_reducible refine Below.alloc ?_ ?hsz _; case hsz => ((try simp) <;> (try omega))) | (with_reducible refine Below.setCell ?_ ?hsz _; case hsz => ((try simp) <;> (try omega))) | (with_reducible refine below_step (by with_reducible assumption) ?hsz ?_; case hsz => ((try simp) <;> (try omega)))))⟩
theorem fnExactImprove_cells0 : Try.prog.cellsOf 46 = 2 := by kernel_rfl
set_option maxRecDepth 100000 in
theorem fnExactImprove_open {H : Type} {enc : TypeId × Value → H} (W : World) (base : Nat) (args : Array Value) (ds : List (DataW H)) (p : List MemPlace)
    (hval : ∀ (j : Nat) t v, Try.f12.params[j]? = some t → args[j]? = some v → Value.okWide Try.prog W .any base t v)
    (hA : DataW.TrodAll enc Try.prog W 0 (fun _ => true) true Try.f12.params.toList args.toList ds p) :
    Calls Try.prog 12 args W fun e W' => e = .returned (.bool true) ∧ Below W.heap.size W W' := by
  rw [Try.params12] at hA hval
  obtain ⟨v0, vs0, d0, ds0, p0, q0, hargs, rfl, rfl, h0, r0⟩ := trodAll_cons hA
  obtain ⟨v1, vs1, d1, ds1, p1, q1, rfl, rfl, rfl, h1, r1⟩ := trodAll_cons r0
  obtain ⟨v2, vs2, d2, ds2, p2, q2, rfl, rfl, rfl, h2, r2⟩ := trodAll_cons r1
  obtain ⟨rfl, rfl, rfl⟩ := trodAll_nil r2
  obtain rfl : args = #[v0, v1, v2] := by cases args; simp_all
  obtain ⟨c0_0, c0_1, y0_0, y0_1, m0, rfl, rfl, rfl, hy0_0, hy0_1⟩ := Go.Joins.open_agg2 Try.underlying46 (by kernel_rfl) fnExactImprove_cells0 (hval 0 46 v0 rfl rfl) h0
  obtain ⟨f, e0_0, rfl, wf0_0⟩ := DataW.trod_int Try.underlying3 hy0_0
  simp at e0_0
  subst e0_0
  obtain ⟨A, An, Acap, AF, rfl, hl0, hm0, hr0, hw0⟩ := open_row_cells Try.underlying24 Try.underlying3 (by kernel_rfl) hy0_1
  obtain ⟨p, rfl, rfl, rfl, wf1⟩ := open_int Try.underlying3 (hval 1 3 v1 rfl rfl) h1
  obtain ⟨y, rfl, rfl, rfl, wf2⟩ := open_int Try.underlying3 (hval 2 3 v2 rfl rfl) h2
  exact lawImprove f A An Acap AF p y W hl0 hm0 hr0
theorem fnExactImprove_lifted (os : Os) (started : os.Started) (H : Type) (enc : TypeId × Value → H) :
    ReturnsInHanded {} Try.checked os 12 .any (Rows.fnExactImproveSpec.pre6 enc Try.prog Try.f12 Rows.fnExactImproveRow.domain false) (Rows.fnExactImproveSpec.post enc Try.prog Try.f12 false true false false) :=
  law_lifted (C := Try.checked) (s := Rows.fnExactImproveSpec) (tb := 4) Tryown TrylaidOut (by kernel_rfl) Try.func12 rfl Try.underlying4 (by kernel_rfl) rfl (fun H ds h => match ds, h with | [d0, d1, d2], _ => rfl) os started H enc
    (ChangeSpec.witness6 (enc := enc) (C := Try.checked) false ⟨#[], #[.agg #[.int .i64 0, .slice none 0 0], .int .i64 0, .int .i64 0], []⟩ 8 (by kernel_rfl) (by kernel_rfl) (by kernel_rfl) (by kernel_rfl))
    (fun W base args ds p hval hA _ _ => fnExactImprove_open W base args ds p hval hA)
theorem fnExactImprove_holds : Rows.FnExactImproveSaid :=
  OpenClaim.holds_of_wide 12 Try.f12 rfl rfl rfl rfl rfl rfl rfl ⟨rfl, rfl, rfl, rfl, rfl⟩ rfl rfl rfl rfl rfl (by kernel_rfl) Try.func12 (by kernel_rfl)
    (of_decide_eq_true (by kernel_rfl)) (by unfold Func.isWrapper; first | (rw [if_pos (by decide +kernel)]; kernel_rfl) | (rw [if_neg (by decide +kernel)]; exact ⟨rfl, rfl⟩))
    (fun os started H enc _ => fnExactImprove_lifted os started H enc)
#print axioms fnExactImprove_holds
end Go.Proofs.Ytjmibbjachgofaa
