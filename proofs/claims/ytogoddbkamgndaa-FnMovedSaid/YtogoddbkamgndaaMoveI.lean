/- Contract of the program's MoveMember. -/
import Derived.Test.YtogoddbkamgndaaInsT
import Derived.Test.YtogoddbkamgndaaFund
import Derived.Test.YtogoddbkamgndaaFind
import Derived.Deep.RegionHeld3
import Derived.Deep.DeepCutAuto
import Derived.Lib.SliceRun
import Derived.Outline
namespace Go.Proofs.Ytogoddbkamgndaa
open Go.RowKit

set_option maxRecDepth 100000 in
theorem cloneT_any (A : Option Addr) (n c : Nat) (F : Nat → Nat → Int) (w : World) (hn : n ≤ 1048576) (hA : AnyA A c) (hr : Recs w 3 A n F) :
    Calls Try.prog 66 #[.slice A n c] w (RecsQ 65 3 n F w) := by
  have HR := Lib.hid hr
  have HA := Lib.hid hA
  have q22 : ∀ (w : World) (a : Option Addr) (n c n' c' : Nat), (binOp .eql 25 (.slice a n c) (.slice none n' c')).run Try.prog w = .ok (.bool a.isNone) w := fun w a n c n' c' => Lib.run_eql_slice_nil w _ _ a n c n' c' Try.underlying25
  clear hr
  rcases hA with ⟨rfl, rfl⟩ | ⟨b, off, rfl⟩
  · have h0 : n = 0 := by
      rcases HR.out with h | ⟨_, _, e, _⟩
      · exact h
      · cases e
    subst h0
    go_enter Try.func66, Try.ntmps66
    go_wp2
    go_ret
    exact ⟨_, rfl, World.ownsRow_nil _ _ _ _, Below.refl _ _⟩
  · go_enter Try.func66, Try.ntmps66
    go_wp2_with (at_builtin; refine wpList_app_recs rfl (.tmp 5) (.tmp 6) 25 (by rfl) w.heap.size 65 (.agg #[.int .i64 0, .int .i64 0, .int .i64 0]) 3 24 Try.underlying25 infStay rfl (by decide) (by decide) _ 0 (fun _ _ => 0) (own_rec_empty w w.heap.size _ 3 _ (Nat.le_refl _)) (some ⟨b, off, none⟩) n c F HA.out (HR.out.alloc _) (by omega) (by simp) rfl rfl ?_)
    intro v' w' o' hg'
    rw [catF_zero] at o'
    try rw [Nat.zero_add] at o'
    have HB := Lib.hid (((Below.refl w.heap.size w).alloc (Nat.le_refl _) (.cells #[] 65)).grown hg' (by simp) (fun b hb => by simp [Value.ownBlock] at hb; omega))
    have HO := Lib.hid o'
    clear o' hg'
    go_wp2
    go_ret
    exact ⟨v', rfl, HO.out, HB.out⟩
theorem insT_int (base : Nat) (A : Option Addr) (n c i : Nat) (F : Nat → Nat → Int) (vb : Nat) (x : Nat → Int) (w : World) (q : Int) (hq : q = i) (hn : n ≤ 1048576) (hi : i ≤ n) (hbase : base ≤ w.heap.size) (ho : w.ownsRow base 65 3 (.slice A n c) n (recs F 3 n)) (hx : Box w vb 65 #[.int .i64 (x 0), .int .i64 (x 1), .int .i64 (x 2)]) (hne : (Value.slice A n c).ownBlock ≠ some vb) :
    Calls Try.prog 67 #[.slice A n c, .int .i64 q, .slice (some ⟨vb, 0, none⟩) 1 1] w (InsQT base n i F x (Value.slice A n c).ownBlock w) := by
  subst hq
  exact insT_any base A n c i F vb x w hn hi hbase ho hx hne
/-- Stay p ends in month t, and another one of fund f goes on from there. -/
def moveF (F : Nat → Nat → Int) (p : Nat) (f t : Int) : Nat → Nat → Int := fun i j => if i = p ∧ j = 2 then t else insF F (p + 1) (trip f t (F p 2)) i j
def moveP (F : Nat → Nat → Int) (n : Nat) (t : Int) : Nat := (stayAtI F n t).toNat
def moveA (F : Nat → Nat → Int) (n : Nat) (f t : Int) : Bool := staysB F n && !decide (stayAtI F n t < 0) && inB f 1 9 && !(F (moveP F n t) 1 == t) && !(F (moveP F n t) 0 == f)
def moveB (F : Nat → Nat → Int) (n : Nat) (f t : Int) : Bool := moveA F n f t && staysB (moveF F (moveP F n t) f t) (n + 1)
def moveN (F : Nat → Nat → Int) (n : Nat) (f t : Int) : Nat := if moveB F n f t = true then n + 1 else n
def moveG (F : Nat → Nat → Int) (n : Nat) (f t : Int) : Nat → Nat → Int := if moveB F n f t = true then moveF F (moveP F n t) f t else F
/-- A new row of stays and a truth value come back. -/
def MoveQ (F : Nat → Nat → Int) (n : Nat) (f t : Int) (w : World) (e : Ending) (w' : World) : Prop :=
  ∃ v, e = .returned (.tuple #[v, .bool (moveB F n f t)]) ∧ w'.ownsRow w.heap.size 65 3 v (moveN F n f t) (recs (moveG F n f t) 3 (moveN F n f t)) ∧ Below w.heap.size w w'
theorem move_yes {F : Nat → Nat → Int} {n : Nat} {f t : Int} {w w' : World} {v : Value} (h : moveB F n f t = true) (ho : w'.ownsRow w.heap.size 65 3 v (n + 1) (recs (moveF F (moveP F n t) f t) 3 (n + 1))) (hb : Below w.heap.size w w') : MoveQ F n f t w (.returned (.tuple #[v, .bool true])) w' :=
  ⟨v, by rw [h], by simpa [moveN, moveG, h] using ho, hb⟩
theorem move_no {F : Nat → Nat → Int} {n : Nat} {f t : Int} {w w' : World} {v : Value} (h : moveB F n f t = false) (ho : w'.ownsRow w.heap.size 65 3 v n (recs F 3 n)) (hb : Below w.heap.size w w') : MoveQ F n f t w (.returned (.tuple #[v, .bool false])) w' :=
  ⟨v, by rw [h], by simpa [moveN, moveG, h] using ho, hb⟩
theorem own_put {w : World} {base : Nat} {e : TypeId} {k g n c : Nat} {F : Nat → Nat → Int} (h : w.ownsRow base e k (.slice (some ⟨g, 0, none⟩) n c) n (recs F k n)) {p q : Nat} (hp : p < n) (hq : q < k) (x : Int) :
    (w.setCell ⟨g, p * k + q, none⟩ (.int .i64 x)).ownsRow base e k (.slice (some ⟨g, 0, none⟩) n c) n (recs (fun i j => if i = p ∧ j = q then x else F i j) k n) := by
  rcases own_cases h with ⟨e1, _⟩ | ⟨g', cap, cur, e1, hg, hb, hnc, hcm, hcs⟩
  · cases e1
  · cases e1
    have hlt : p * k + q < cur.size := by
      have := idx_lt (k := k) hp hq
      have := Nat.mul_le_mul_right k hnc
      omega
    refine own_again hg (hb.put (p * k + q) _) hnc hcm (by simpa using hcs) (by omega) (fun i hi j hj => ?_)
    have hc := h.cells (g := g) rfl _ _ (recs_get F hi hj)
    rw [add_zero_none, hb.cell] at hc
    by_cases hij : i = p ∧ j = q
    · rw [if_pos hij, hij.1, hij.2]
      simp [hlt]
    · rw [if_neg hij, Array.getElem?_setIfInBounds_ne (fun e => hij ?_)]
      · exact hc
      · have h1 := congrArg (· / k) e
        have h2 := congrArg (· % k) e
        simp only [idx_div hj, idx_div hq, idx_mod hj, idx_mod hq] at h1 h2
        exact ⟨h1.symm, h2.symm⟩
set_option maxRecDepth 100000 in
set_option maxHeartbeats 8000000 in
theorem move_any (A : Option Addr) (n cap : Nat) (F : Nat → Nat → Int) (f t : Int) (w : World) (hn : n ≤ 1048576) (hA : AnyA A cap) (hr : Recs w 3 A n F) :
    Calls Try.prog 34 #[.slice A n cap, .int .i64 f, .int .i64 t] w (MoveQ F n f t w) := by
  have HR := Lib.hid hr
  have HA := Lib.hid hA
  clear hr hA
  have hs := stayAt_any A n cap F t w hn HR.out
  go_enter Try.func34, Try.ntmps34
  go_wp2_with fail
  with_reducible refine hs.mono ?_
  rintro e w1 ⟨rfl, hb1⟩
  have B1 := Lib.hid hb1
  have z1 := hb1.size
  clear hb1 hs
  go_wp2_with fail
  with_reducible refine (staysOk_any A n cap F _ hn (HR.out.kept B1.out)).mono ?_
  rintro e w2 ⟨rfl, hb2⟩
  have B2 := Lib.hid (B1.out.trans (hb2.mono z1))
  have z2 := B2.out.size
  clear hb2 B1
  rcases Bool.eq_false_or_eq_true (staysB F n) with s1 | s1
  · rcases stayAt_cases F n t with s2 | ⟨p, s2, hp⟩
    · have HM := Lib.hid (show moveB F n f t = false by simp [moveB, moveA, s2])
      have hd : decide ((-1 : Int) < 0) = true := rfl
      rw [s1, s2]
      go_wp2_with fail
      (with_reducible refine (cloneT_any _ n cap F _ hn HA.out (HR.out.kept B2.out)).mono ?_); (rintro e w6 ⟨v6, rfl, o6, hb6⟩); (have O6 := Lib.hid (own_mono (B' := w.heap.size) o6 z2)); (have B6 := Lib.hid (B2.out.trans (hb6.mono z2))); clear o6 hb6; go_wp2_with fail; go_ret2; exact move_no HM.out O6.out B6.out
    · have hd : decide ((p : Int) < 0) = false := by simp
      have HPE := Lib.hid (show moveP F n t = p by simp [moveP, s2])
      have H12 := Lib.hid (show (staysB F n && !decide (stayAtI F n t < 0)) = true by rw [s1, s2]; simp)
      obtain ⟨b, off, e, lb, q0, q1, q2⟩ := HR.out.at3 hp
      have d0 := (B2.out.cell (p := ⟨b, off + p * 3, none⟩) lb).trans q0
      have d1 := (B2.out.cell (p := ⟨b, off + p * 3 + 1, none⟩) lb).trans q1
      have d2 := (B2.out.cell (p := ⟨b, off + p * 3 + 2, none⟩) lb).trans q2
      have Q2 := Lib.hid q2
      have hpi : (p : Int) < (n : Int) := by omega
      have hp0 : (0 : Int) ≤ (p : Int) := by omega
      have HN20 := Lib.hid (staysB_true s1).2
      subst e
      rw [s1, s2]
      clear q0 q1 q2 s1 s2
      rcases Bool.eq_false_or_eq_true (inB f 1 9) with s3 | s3
      · rcases Bool.eq_false_or_eq_true (F p 1 == t) with s4 | s4
        · have HM := Lib.hid (show moveB F n f t = false by simp [moveB, moveA, HPE.out, s4])
          go_wp2_with (go_at_call 57; (with_reducible refine (within_any f 1 9 _).mono ?_); rintro e w' ⟨rfl, rfl⟩)
          (with_reducible refine (cloneT_any _ n cap F _ hn HA.out (HR.out.kept B2.out)).mono ?_); (rintro e w6 ⟨v6, rfl, o6, hb6⟩); (have O6 := Lib.hid (own_mono (B' := w.heap.size) o6 z2)); (have B6 := Lib.hid (B2.out.trans (hb6.mono z2))); clear o6 hb6; go_wp2_with fail; go_ret2; exact move_no HM.out O6.out B6.out
        · rcases Bool.eq_false_or_eq_true (F p 0 == f) with s5 | s5
          · have HM := Lib.hid (show moveB F n f t = false by simp [moveB, moveA, HPE.out, s5])
            go_wp2_with (go_at_call 57; (with_reducible refine (within_any f 1 9 _).mono ?_); rintro e w' ⟨rfl, rfl⟩)
            (with_reducible refine (cloneT_any _ n cap F _ hn HA.out (HR.out.kept B2.out)).mono ?_); (rintro e w6 ⟨v6, rfl, o6, hb6⟩); (have O6 := Lib.hid (own_mono (B' := w.heap.size) o6 z2)); (have B6 := Lib.hid (B2.out.trans (hb6.mono z2))); clear o6 hb6; go_wp2_with fail; go_ret2; exact move_no HM.out O6.out B6.out
          · have HAO := Lib.hid (show moveB F n f t = staysB (moveF F p f t) (n + 1) by simp only [moveB, moveA, HPE.out, H12.out, s3, s4, s5]; rfl)
            have HMF := Lib.hid (show (fun i j => if i = p ∧ j = 2 then t else insF F (p + 1) (trip f t (F p 2)) i j) = moveF F p f t from rfl)
            have PX : trip f t (F p 2) 0 = f ∧ trip f t (F p 2) 1 = t ∧ trip f t (F p 2) 2 = F p 2 := ⟨by simp [trip], by simp [trip], by simp [trip]⟩
            have hw1 : IntKind.i64.wrap ((p : Int) + 1) = ((p + 1 : Nat) : Int) := by rw [IntKind.wrap_i64]; omega
            have R1 := Lib.hid (HR.out.kept B2.out)
            have B1 := B2
            have lb2 : b < w2.heap.size := by omega
            generalize F p 2 = y2 at *
            go_wp2_with (go_at_call 57; (with_reducible refine (within_any f 1 9 _).mono ?_); rintro e w' ⟨rfl, rfl⟩)
            go_region_held3 (fun w' => w'.cell? ⟨b, off + p * 3 + 2, none⟩ = some (.int .i64 y2)) (simp [go_sem, *])
              (first | (go_at_call 66; (with_reducible refine (cloneT_any (some ⟨b, off, none⟩) n cap F _ hn HA.out (by repeat (first | exact R1.out | with_reducible refine Recs.drew ?_ | with_reducible refine Recs.alloc ?_ _))).mono ?_); rintro e w2 ⟨v2, rfl, o2, hb2⟩; obtain ⟨A2, c2, rfl, _, _⟩ := own_recs o2; have LO := Lib.hid (own_lo o2); have HI := Lib.hid (own_hi o2); have z2 := hb2.size; (try simp at z2); have zz : b < w2.heap.size := (by omega); have O2 := Lib.hid (own_mono (B' := w.heap.size) o2 (by (try simp); omega)); clear o2; obtain ⟨hc2, hf2⟩ := bcell hb2; (try simp only [World.size_drew] at hc2 hf2)) | (go_at_call 67; (with_reducible refine (insT_int w.heap.size A2 n c2 (p + 1) F _ (trip f t y2) _ ((p : Int) + 1) (by omega) hn (by omega) (by (try simp); omega) (by repeat (first | exact O2.out | with_reducible refine World.ownsRow.drew ?_ | with_reducible refine World.ownsRow.alloc ?_ _)) (by rw [PX.1, PX.2.1, PX.2.2]; (repeat (first | with_reducible assumption | with_reducible exact Box.made _ _ _ | (with_reducible refine Box.made_at ?hg; case hg => (simp; done)) | with_reducible refine Box.drew ?_ | with_reducible refine Box.alloc ?_ _ | (with_reducible refine Box.put2 (a := .int .i64 0) (b := .int .i64 0) ?_ _ _) | (with_reducible refine Box.far ?_ ?hg _; case hg => ((try simp) <;> (try omega))) | with_reducible refine Box.kept ?_ (by with_reducible assumption)))) (fun e => (by have h1 := LO.out _ e; have h2 := HI.out _ e; first | omega | (simp at h1; omega)))).mono ?_); rintro e w3 ⟨v3, rfl, o3, hg3⟩; have B3 := Lib.hid (below_grown (B := w.heap.size) (w0 := w) (by have hbw := B1.out; (repeat (first | with_reducible exact Below.refl _ _ | with_reducible refine Below.drew ?_ | (with_reducible refine Below.alloc ?_ ?hsz _; case hsz => ((try simp) <;> (try omega))) | (with_reducible refine Below.setCell ?_ ?hsz _; case hsz => ((try simp) <;> (try omega))) | (with_reducible refine below_step (by with_reducible assumption) ?hsz ?_; case hsz => ((try simp) <;> (try omega)))))) hg3 (by (try simp); omega) (own_lo O2.out)); have y1 := (B3.out.cell (p := ⟨b, off + p * 3 + 2, none⟩) lb).trans Q2.out; have O3 := Lib.hid o3; have zg := hg3.size; (try simp at zg); clear o3 hg3))
            all_goals (
              obtain ⟨A3, c3, rfl, _, _⟩ := own_recs O3.out
              obtain ⟨g3, rfl, lg3, hg3, hcell3⟩ : ∃ g3, A3 = some ⟨g3, 0, none⟩ ∧ w.heap.size ≤ g3 ∧ g3 < w3.heap.size ∧ ∀ i, w3.frozen? ⟨g3, i, none⟩ = false := (by
                rcases own_cases O3.out with ⟨e, h0⟩ | ⟨g, cap', cur, e, hgg, hbb, _⟩
                · omega
                · cases e; exact ⟨g, rfl, hgg, hbb.lt, fun i => hbb.frozen i⟩)
              have f3 := hcell3 (p * 3 + 2)
              have k3 := O3.out.cells (g := g3) rfl _ _ (recs_get (insF F (p + 1) (trip f t y2)) (k := 3) (n := n + 1) (i := p) (j := 2) (by omega) (by omega))
              rw [add_zero_none] at k3
              have O4 := Lib.hid (own_put O3.out (p := p) (q := 2) (by omega) (by omega) t)
              have B4 := Lib.hid (B3.out.setCell (p := ⟨g3, p * 3 + 2, none⟩) lg3 (.int .i64 t))
              have hp1 : (p : Int) < ((n + 1 : Nat) : Int) := by omega
              have hp1' : (p : Int) < (n : Int) + 1 := by omega
              rw [HMF.out] at O4
              clear hcell3 O3 B3
              go_wp2_with fail
              with_reducible refine (staysOk_any (some ⟨g3, 0, none⟩) (n + 1) c3 (moveF F p f t) _ (by have := HN20.out; omega) (own_rec O4.out)).mono ?_
              rintro e w5 ⟨rfl, hb5⟩
              have O5 := Lib.hid (own_below O4.out hb5)
              have z4 := B4.out.size
              have B5 := Lib.hid (B4.out.trans (hb5.mono z4))
              have z5 := B5.out.size
              clear hb5 O4 B4 f3 k3
              rcases Bool.eq_false_or_eq_true (staysB (moveF F p f t) (n + 1)) with s6 | s6
              · have HY := Lib.hid (show moveB F n f t = true by rw [HAO.out, s6])
                rw [s6]
                go_wp2_with fail
                go_ret2
                exact move_yes HY.out (by rw [HPE.out]; exact O5.out) B5.out
              · have HY := Lib.hid (show moveB F n f t = false by rw [HAO.out, s6])
                rw [s6]
                go_wp2_with fail
                (with_reducible refine (cloneT_any _ n cap F _ hn HA.out (HR.out.kept B5.out)).mono ?_)
                rintro e w6 ⟨v6, rfl, o6, hb6⟩
                have O6 := Lib.hid (own_mono (B' := w.heap.size) o6 z5)
                have B6 := Lib.hid (B5.out.trans (hb6.mono z5))
                clear o6 hb6
                go_wp2_with fail
                go_ret2
                exact move_no HY.out O6.out B6.out)
      · have HM := Lib.hid (show moveB F n f t = false by simp [moveB, moveA, s3])
        go_wp2_with (go_at_call 57; (with_reducible refine (within_any f 1 9 _).mono ?_); rintro e w' ⟨rfl, rfl⟩)
        (with_reducible refine (cloneT_any _ n cap F _ hn HA.out (HR.out.kept B2.out)).mono ?_); (rintro e w6 ⟨v6, rfl, o6, hb6⟩); (have O6 := Lib.hid (own_mono (B' := w.heap.size) o6 z2)); (have B6 := Lib.hid (B2.out.trans (hb6.mono z2))); clear o6 hb6; go_wp2_with fail; go_ret2; exact move_no HM.out O6.out B6.out
  · have HM := Lib.hid (show moveB F n f t = false by simp [moveB, moveA, s1])
    rw [s1]
    go_wp2_with fail
    (with_reducible refine (cloneT_any _ n cap F _ hn HA.out (HR.out.kept B2.out)).mono ?_); (rintro e w6 ⟨v6, rfl, o6, hb6⟩); (have O6 := Lib.hid (own_mono (B' := w.heap.size) o6 z2)); (have B6 := Lib.hid (B2.out.trans (hb6.mono z2))); clear o6 hb6; go_wp2_with fail; go_ret2; exact move_no HM.out O6.out B6.out
end Go.Proofs.Ytogoddbkamgndaa
