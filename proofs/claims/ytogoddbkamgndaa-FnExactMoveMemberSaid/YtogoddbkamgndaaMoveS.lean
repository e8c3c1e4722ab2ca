/- Contract of the reference's MoveMember. -/
import Derived.Test.YtogoddbkamgndaaMoveI
import Derived.Deep.RegionHeldLaw
namespace Go.Proofs.Ytogoddbkamgndaa
open Go.RowKit

/-- A row that fits: its address, its length, its room. -/
def AnyC (A : Option Addr) (n c : Nat) : Prop := AnyA A c ∧ n ≤ c ∧ c ≤ 9223372036854775807
theorem own_anyC {w : World} {base : Nat} {e : TypeId} {k : Nat} {A : Option Addr} {n c : Nat} {xs : List Value} (h : w.ownsRow base e k (.slice A n c) n xs) : AnyC A n c := by
  refine ⟨own_anyA h, ?_⟩
  rcases own_cases h with ⟨e, h0⟩ | ⟨g, cap, cur, e, _, _, h1, h2, _⟩
  · cases e; exact ⟨by omega, by omega⟩
  · cases e; unfold maxLen at h2; exact ⟨h1, by omega⟩
theorem moveC_any (A : Option Addr) (n cap : Nat) (F : Nat → Nat → Int) (f t : Int) (w : World) (hn : n ≤ 1048576) (hA : AnyC A n cap) (hr : Recs w 3 A n F) :
    Calls Try.prog 34 #[.slice A n cap, .int .i64 f, .int .i64 t] w (MoveQ F n f t w) := move_any A n cap F f t w hn hA.1 hr
theorem moveN_small {F : Nat → Nat → Int} {n : Nat} {f t : Int} (hn : n ≤ 1048576) : moveN F n f t ≤ 1048576 := by
  unfold moveN
  split
  · rename_i h
    simp only [moveB, moveA, Bool.and_eq_true] at h
    have := (staysB_true h.1.1.1.1.1).2
    omega
  · exact hn
def twoF (F : Nat → Nat → Int) (p : Nat) (f t : Int) : Nat → Nat → Int := fun i => if i = 0 then trip (F p 0) (F p 1) t else trip f t (F p 2)
theorem move_cat {F : Nat → Nat → Int} {p n : Nat} {f t : Int} (hp : p < n) : ∀ i, i < n + 1 → ∀ j, j < 3 → catF (catF F p (twoF F p f t)) (p + 2) (fun i j => F (i + (p + 1)) j) i j = moveF F p f t i j := fun i _ j hj => by
  have hj' : j = 0 ∨ j = 1 ∨ j = 2 := by omega
  unfold catF moveF insF
  by_cases h1 : i < p
  · rw [if_pos (show i < p + 2 by omega), if_pos h1, if_neg (by omega), if_pos (by omega)]
  · by_cases h2 : i = p
    · subst h2
      rw [if_pos (show i < i + 2 by omega), if_neg h1, Nat.sub_self]
      rcases hj' with rfl | rfl | rfl <;> simp [twoF, trip]
    · by_cases h3 : i = p + 1
      · subst h3
        rw [if_pos (show p + 1 < p + 2 by omega), if_neg h1, if_neg (by omega), if_neg (by omega), if_pos rfl, show p + 1 - p = 1 by omega]
        simp [twoF]
      · rw [if_neg (show ¬ i < p + 2 by omega), if_neg (by omega), if_neg (by omega), if_neg h3]
        show F (i - (p + 2) + (p + 1)) j = _
        rw [show i - (p + 2) + (p + 1) = i - 1 by omega]
theorem recs_from {w : World} {b off k n p : Nat} {F : Nat → Nat → Int} (h : Recs w k (some ⟨b, off, none⟩) n F) : Recs w k (some ⟨b, off + p * k, none⟩) (n - p) (fun i j => F (i + p) j) := by
  rcases Nat.lt_or_ge p n with hp | hp
  · rcases h with h | ⟨b', off', e, hb, hc⟩
    · omega
    · cases e
      refine .inr ⟨b, off + p * k, rfl, hb, fun i hi j hj => ?_⟩
      have := hc (i + p) (by omega) j hj
      rw [Nat.add_mul] at this
      rw [← this, show off + p * k + i * k + j = off + (i * k + p * k) + j by omega]
  · exact .inl (by omega)
set_option maxRecDepth 100000 in
set_option maxHeartbeats 8000000 in
theorem smove_any (A : Option Addr) (n cap : Nat) (F : Nat → Nat → Int) (f t : Int) (w : World) (hn : n ≤ 1048576) (hA : AnyC A n cap) (hr : Recs w 3 A n F) :
    Calls Try.prog 33 #[.slice A n cap, .int .i64 f, .int .i64 t] w (MoveQ F n f t w) := by
  have HR := Lib.hid hr
  obtain ⟨hA0, hnc, hc63⟩ := hA
  have HA := Lib.hid hA0
  clear hr hA0
  have hs := sstayAt_any A n cap F t w hn HR.out
  go_enter Try.func33, Try.ntmps33
  go_wp2_with fail
  with_reducible refine hs.mono ?_
  rintro e w1 ⟨rfl, hb1⟩
  have B1 := Lib.hid hb1
  have z1 := hb1.size
  have E1 := Lib.hid (own_rec_empty w1 w.heap.size 65 3 (fun _ _ => 0) (by omega))
  have R1 := Lib.hid ((HR.out.kept hb1).alloc (.cells #[] 65))
  clear hb1 hs
  go_wp2_with (at_builtin; refine wpList_app_recs rfl (.tmp 14) (.tmp 15) 25 (by rfl) w.heap.size 65 (.agg #[.int .i64 0, .int .i64 0, .int .i64 0]) 3 24 Try.underlying25 infStay rfl (by decide) (by decide) _ 0 (fun _ _ => 0) E1.out A n cap F HA.out R1.out (by omega) (by first | omega | (simp; done) | (simp; omega)) rfl rfl ?_)
  intro v2 w2 o2 hg2
  rw [catF_zero] at o2
  try rw [Nat.zero_add] at o2
  have B2 := Lib.hid ((B1.out.alloc z1 (.cells #[] 65)).grown hg2 (by simp; omega) (fun b hb => by simp [Value.ownBlock] at hb; omega))
  have O2 := Lib.hid o2
  have z2 := B2.out.size
  clear o2 hg2 E1 R1 B1
  rcases Bool.eq_false_or_eq_true (staysB F n) with s1 | s1
  · rcases stayAt_cases F n t with s2 | ⟨p, s2, hp⟩
    · have HM := Lib.hid (show moveB F n f t = false by simp [moveB, moveA, s2])
      have hd : decide ((-1 : Int) < 0) = true := rfl
      have hq : sstayAtI F n t = -1 := by simp [sstayAtI, s1, s2]
      rw [hq]
      go_wp2_with fail
      go_ret2; exact move_no HM.out O2.out B2.out
    · have hd : decide ((p : Int) < 0) = false := by simp
      have hq : sstayAtI F n t = p := by simp [sstayAtI, s1, s2]
      rw [hq]
      have HPE := Lib.hid (show moveP F n t = p by simp [moveP, s2])
      have H12 := Lib.hid (show (staysB F n && !decide (stayAtI F n t < 0)) = true by rw [s1, s2]; simp)
      obtain ⟨b, off, e, lb, q0, q1, q2⟩ := HR.out.at3 hp
      have d0 := (B2.out.cell (p := ⟨b, off + p * 3, none⟩) lb).trans q0
      have d1 := (B2.out.cell (p := ⟨b, off + p * 3 + 1, none⟩) lb).trans q1
      have d2 := (B2.out.cell (p := ⟨b, off + p * 3 + 2, none⟩) lb).trans q2
      have Q0 := Lib.hid q0
      have Q1 := Lib.hid q1
      have Q2 := Lib.hid q2
      have hpi : (p : Int) < (n : Int) := by omega
      have hp0 : (0 : Int) ≤ (p : Int) := by omega
      have HN20 := Lib.hid (staysB_true s1).2
      subst e
      clear q0 q1 q2 s1 s2 hq
      rcases Bool.eq_false_or_eq_true (inB f 1 9) with s3 | s3
      · rcases Bool.eq_false_or_eq_true (F p 1 == t) with s4 | s4
        · have HM := Lib.hid (show moveB F n f t = false by simp [moveB, moveA, HPE.out, s4])
          go_wp2_with (go_at_call 55; (with_reducible refine (l01In_any f 1 9 _).mono ?_); rintro e w' ⟨rfl, rfl⟩)
          go_ret2; exact move_no HM.out O2.out B2.out
        · rcases Bool.eq_false_or_eq_true (F p 0 == f) with s5 | s5
          · have HM := Lib.hid (show moveB F n f t = false by simp [moveB, moveA, HPE.out, s5])
            go_wp2_with (go_at_call 55; (with_reducible refine (l01In_any f 1 9 _).mono ?_); rintro e w' ⟨rfl, rfl⟩)
            go_ret2; exact move_no HM.out O2.out B2.out
          · have HAO := Lib.hid (show moveB F n f t = staysB (moveF F p f t) (n + 1) by simp only [moveB, moveA, HPE.out, H12.out, s3, s4, s5]; rfl)
            have lb2 : b < w2.heap.size := by omega
            have E3 := Lib.hid (own_rec_empty w2 w2.heap.size 65 3 (fun _ _ => 0) (by omega))
            have R3 := Lib.hid (((HR.out.kept B2.out).less (show p ≤ n by omega)).alloc (.cells #[] 65))
            go_wp2_with (first | (go_at_call 55; (with_reducible refine (l01In_any f 1 9 _).mono ?_); rintro e w' ⟨rfl, rfl⟩) | (at_builtin; refine wpList_app_recs rfl (.tmp 43) (.tmp 46) 25 (by rfl) w2.heap.size 65 (.agg #[.int .i64 0, .int .i64 0, .int .i64 0]) 3 24 Try.underlying25 infStay rfl (by decide) (by decide) _ 0 (fun _ _ => 0) E3.out (some ⟨b, off, none⟩) p cap F (.inr ⟨_, _, rfl⟩) R3.out (by omega) (by first | omega | (simp; done) | (simp; omega)) rfl rfl ?_))
            intro v3 w3 o3 hg3
            rw [catF_zero] at o3
            try rw [Nat.zero_add] at o3
            have B3 := Lib.hid ((B2.out.alloc z2 (.cells #[] 65)).grown hg3 (by simp; omega) (fun b hb => by simp [Value.ownBlock] at hb; omega))
            have P3 := Lib.hid (own_below O2.out (below_grown ((Below.refl w2.heap.size w2).alloc (Nat.le_refl _) (.cells #[] 65)) hg3 (by simp) (fun b hb => by simp [Value.ownBlock] at hb; omega)))
            have O3 := Lib.hid o3
            have z3 := B3.out.size
            have H2 := Lib.hid (own_hi O2.out)
            have z23 : w2.heap.size ≤ w3.heap.size := by have := hg3.size; simp at this; omega
            have L3 := Lib.hid (fun b hb => (own_lo O3.out b hb : w2.heap.size ≤ b))
            clear o3 hg3 E3 R3 d0 d1 d2 O2
            have d0 := (B3.out.cell (p := ⟨b, off + p * 3, none⟩) lb).trans Q0.out
            have d1 := (B3.out.cell (p := ⟨b, off + p * 3 + 1, none⟩) lb).trans Q1.out
            have d2 := (B3.out.cell (p := ⟨b, off + p * 3 + 2, none⟩) lb).trans Q2.out
            have lb3 : b < w3.heap.size := by omega
            have R6 := Lib.hid (show Recs (w3.alloc (.cells #[.int .i64 (F p 0), .int .i64 (F p 1), .int .i64 t, .int .i64 f, .int .i64 t, .int .i64 (F p 2)] 65)) 3 (some ⟨w3.heap.size, 0, none⟩) 2 (twoF F p f t) from .inr ⟨w3.heap.size, 0, rfl, by simp, fun i hi j hj => by
              rw [(Box.made w3 65 _).cell]
              have a : i = 0 ∨ i = 1 := by omega
              have c : j = 0 ∨ j = 1 ∨ j = 2 := by omega
              rcases a with rfl | rfl <;> rcases c with rfl | rfl | rfl <;> simp [twoF, trip]⟩)
            go_wp2_with fail
            go_region_held_law (fun w' => w'.cell? ⟨b, off + p * 3, none⟩ = some (.int .i64 (F p 0)) ∧ w'.cell? ⟨b, off + p * 3 + 1, none⟩ = some (.int .i64 (F p 1)) ∧ w'.cell? ⟨b, off + p * 3 + 2, none⟩ = some (.int .i64 (F p 2))) (simp [go_sem, *])
              (first | (refine step_app_recs (w := (w3.alloc (.cells #[.int .i64 (F p 0), .int .i64 (F p 1), .int .i64 t, .int .i64 f, .int .i64 t, .int .i64 (F p 2)] 65)).drew) (by rfl) (.tmp 48) (.tmp 69) 25 (by rfl) w2.heap.size 65 (.agg #[.int .i64 0, .int .i64 0, .int .i64 0]) 3 24 Try.underlying25 infStay rfl (by decide) (by decide) v3 p F ((O3.out.alloc _).drew) (some ⟨w3.heap.size, 0, none⟩) 2 2 (twoF F p f t) (.inr ⟨_, _, rfl⟩) R6.out.drew (by omega) (by first | omega | (simp; done) | (simp; omega)) (by rfl) (by rfl) ?_; intro v4 w4 o4 hg4; have B4 := Lib.hid (below_grown ((B3.out.alloc z3 (.cells #[.int .i64 (F p 0), .int .i64 (F p 1), .int .i64 t, .int .i64 f, .int .i64 t, .int .i64 (F p 2)] 65)).drew) hg4 (by first | omega | (simp; done) | (simp; omega)) (fun b hb => Nat.le_trans z2 (L3.out b hb))); have P4 := Lib.hid (((P3.out.alloc (.cells #[.int .i64 (F p 0), .int .i64 (F p 1), .int .i64 t, .int .i64 f, .int .i64 t, .int .i64 (F p 2)] 65)).drew).kept hg4 (apart_lt H2.out L3.out)); have O4 := Lib.hid o4; have z34 := hg4.size; (try simp at z34); have L4 := Lib.hid (own_lo o4); clear o4 hg4; have y0 := (B4.out.cell (p := ⟨b, off + p * 3, none⟩) lb).trans Q0.out; have y1 := (B4.out.cell (p := ⟨b, off + p * 3 + 1, none⟩) lb).trans Q1.out; have y2 := (B4.out.cell (p := ⟨b, off + p * 3 + 2, none⟩) lb).trans Q2.out))
            all_goals (
              have RF : Recs w4 3 (some ⟨b, off + (p + 1) * 3, none⟩) (n - (p + 1)) (fun i j => F (i + (p + 1)) j) := recs_from (HR.out.kept B4.out)
              have hw1 : IntKind.i64.wrap ((p : Int) + 1) = ((p + 1 : Nat) : Int) := (by rw [IntKind.wrap_i64]; omega)
              have hle : p + 1 ≤ n := hp
              by_cases hcap : cap = p + 1
              · obtain rfl : n = p + 1 := by omega
                subst hcap
                clear RF
                have RZ := Lib.hid (show Recs w4 3 (some ⟨b, off, none⟩) 0 (fun _ _ => 0) from .inl rfl)
                go_wp2_with (at_builtin; refine wpList_app_recs rfl (.tmp 71) (.tmp 75) 25 (by rfl) w2.heap.size 65 (.agg #[.int .i64 0, .int .i64 0, .int .i64 0]) 3 24 Try.underlying25 infStay rfl (by decide) (by decide) v4 (p + 2) (catF F p (twoF F p f t)) O4.out (some ⟨b, off, none⟩) 0 0 (fun _ _ => 0) (.inr ⟨_, _, rfl⟩) RZ.out (by omega) (by omega) rfl rfl ?_)
                intro v5 w5 o5 hg5
                have B5 := Lib.hid (below_grown B4.out hg5 (by omega) (fun b hb => Nat.le_trans z2 (L4.out b hb)))
                have P5 := Lib.hid (P4.out.kept hg5 (apart_lt H2.out L4.out))
                rw [show p + 2 + 0 = (p + 1) + 1 by omega] at o5
                have O5 := Lib.hid (own_mono (B' := w.heap.size) (own_rec_congr (G := moveF F p f t) o5 (by decide) (fun i hi j hj => (by have := move_cat (F := F) (f := f) (t := t) (show p < p + 1 by omega) i hi j hj; rw [← this]; simp only [catF]; rw [if_pos (show i < p + 2 by omega), if_pos (show i < p + 2 by omega)]))) z2)
                obtain ⟨A5, c5, rfl, _, _⟩ := own_recs O5.out
                have z5 := B5.out.size
                clear o5 hg5 P4 O4 B4
                go_wp2_with fail
                with_reducible refine (sstaysOk_any A5 ((p + 1) + 1) c5 (moveF F p f t) _ (by have := HN20.out; omega) (own_rec O5.out)).mono ?_
                rintro e w6 ⟨rfl, hb6⟩
                have O6 := Lib.hid (own_below O5.out hb6)
                have P6 := Lib.hid (own_below P5.out hb6)
                have B6 := Lib.hid (B5.out.trans (hb6.mono z5))
                clear hb6 O5 P5 B5
                rcases Bool.eq_false_or_eq_true (staysB (moveF F p f t) ((p + 1) + 1)) with s6 | s6
                · have HY := Lib.hid (show moveB F (p + 1) f t = true by rw [HAO.out, s6])
                  rw [s6]
                  go_wp2_with fail
                  go_ret2
                  exact move_yes HY.out (by rw [HPE.out]; exact O6.out) B6.out
                · have HY := Lib.hid (show moveB F (p + 1) f t = false by rw [HAO.out, s6])
                  rw [s6]
                  go_wp2_with fail
                  go_ret2
                  exact move_no HY.out P6.out B6.out
              · have RFH := Lib.hid RF
                clear RF
                go_wp2_with (at_builtin; refine wpList_app_recs rfl (.tmp 71) (.tmp 75) 25 (by rfl) w2.heap.size 65 (.agg #[.int .i64 0, .int .i64 0, .int .i64 0]) 3 24 Try.underlying25 infStay rfl (by decide) (by decide) v4 (p + 2) (catF F p (twoF F p f t)) O4.out (some ⟨b, off + (p + 1) * 3, none⟩) (n - (p + 1)) (cap - (p + 1)) (fun i j => F (i + (p + 1)) j) (.inr ⟨_, _, rfl⟩) RFH.out (by omega) (by omega) rfl rfl ?_)
                intro v5 w5 o5 hg5
                have B5 := Lib.hid (below_grown B4.out hg5 (by omega) (fun b hb => Nat.le_trans z2 (L4.out b hb)))
                have P5 := Lib.hid (P4.out.kept hg5 (apart_lt H2.out L4.out))
                rw [show p + 2 + (n - (p + 1)) = n + 1 by omega] at o5
                have O5 := Lib.hid (own_mono (B' := w.heap.size) (own_rec_congr (G := moveF F p f t) o5 (by decide) (fun i hi j hj => move_cat hp i hi j hj)) z2)
                obtain ⟨A5, c5, rfl, _, _⟩ := own_recs O5.out
                have z5 := B5.out.size
                clear o5 hg5 P4 O4 B4
                go_wp2_with fail
                with_reducible refine (sstaysOk_any A5 (n + 1) c5 (moveF F p f t) _ (by have := HN20.out; omega) (own_rec O5.out)).mono ?_
                rintro e w6 ⟨rfl, hb6⟩
                have O6 := Lib.hid (own_below O5.out hb6)
                have P6 := Lib.hid (own_below P5.out hb6)
                have B6 := Lib.hid (B5.out.trans (hb6.mono z5))
                clear hb6 O5 P5 B5
                rcases Bool.eq_false_or_eq_true (staysB (moveF F p f t) (n + 1)) with s6 | s6
                · have HY := Lib.hid (show moveB F n f t = true by rw [HAO.out, s6])
                  rw [s6]
                  go_wp2_with fail
                  go_ret2
                  exact move_yes HY.out (by rw [HPE.out]; exact O6.out) B6.out
                · have HY := Lib.hid (show moveB F n f t = false by rw [HAO.out, s6])
                  rw [s6]
                  go_wp2_with fail
                  go_ret2
                  exact move_no HY.out P6.out B6.out)
      · have HM := Lib.hid (show moveB F n f t = false by simp [moveB, moveA, s3])
        go_wp2_with (go_at_call 55; (with_reducible refine (l01In_any f 1 9 _).mono ?_); rintro e w' ⟨rfl, rfl⟩)
        go_ret2; exact move_no HM.out O2.out B2.out
  · have HM := Lib.hid (show moveB F n f t = false by simp [moveB, moveA, s1])
    have hq : sstayAtI F n t = -1 := by simp [sstayAtI, s1]
    have hd : decide ((-1 : Int) < 0) = true := rfl
    rw [hq]
    go_wp2_with fail
    go_ret2; exact move_no HM.out O2.out B2.out
end Go.Proofs.Ytogoddbkamgndaa
