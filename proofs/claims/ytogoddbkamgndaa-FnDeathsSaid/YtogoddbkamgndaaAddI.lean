/- Contract of the program's AddEvent. -/
import Derived.Test.YtogoddbkamgndaaInsE
import Derived.Test.YtogoddbkamgndaaAddS
import Derived.Test.YtogoddbkamgndaaFind
import Derived.Deep.RegionHeld3
import Derived.Deep.DeepCutAuto
import Derived.Outline
import Derived.Lib.SliceRun
namespace Go.Proofs.Ytogoddbkamgndaa
open Go.RowKit

theorem posE_find (F : Nat → Nat → Int) (t : Int) (n : Nat) : findI (fun i => decide (t < F i 1)) n = if posE F t n < n then (posE F t n : Int) else -1 := by
  obtain ⟨h1, h2⟩ := posE_spec F t n
  have h3 := posE_le F t n
  rcases findI_cases (fun i => decide (t < F i 1)) n with ⟨e, h⟩ | ⟨k, e, hk, h, h'⟩
  · rw [e, if_neg (fun hp => by have := h _ hp; have := of_decide_eq_false this; have := h2 hp; omega)]
  · have h4 := of_decide_eq_true h
    have : posE F t n = k := by
      rcases Nat.lt_trichotomy (posE F t n) k with a | a | a
      · have := of_decide_eq_false (h' _ a)
        have := h2 (by omega)
        omega
      · exact a
      · have := h1 k a
        omega
    rw [e, this, if_pos hk]
theorem later1_any (a b t : Int) (b1 : Nat) (w : World) (h1 : w.cell? ⟨b1, 1, none⟩ = some (.int .i64 t)) :
    Calls Try.prog 75 #[.agg #[.int .i64 a, .int .i64 b], .pointer (some ⟨b1, 0, none⟩)] w fun e w' => e = .returned (.bool (decide (t < b))) ∧ Below w.heap.size w w' := by
  have l1 := lt_of_cell h1
  go_enter Try.func75, Try.ntmps75
  go_wp2
  go_ret
  exact ⟨rfl, by (repeat (first | with_reducible exact Below.refl _ _ | with_reducible refine Below.drew ?_ | (with_reducible refine Below.alloc ?_ ?hsz _; case hsz => ((try simp) <;> (try omega))) | (with_reducible refine Below.setCell ?_ ?hsz _; case hsz => ((try simp) <;> (try omega))) | (with_reducible refine below_step (by with_reducible assumption) ?hsz ?_; case hsz => ((try simp) <;> (try omega)))))⟩
theorem indexEv_any (A : Option Addr) (n cap : Nat) (F : Nat → Nat → Int) (t : Int) (b1 : Nat) (w : World) (hn : n ≤ 1048576) (hr : Recs w 2 A n F) (h1 : w.cell? ⟨b1, 1, none⟩ = some (.int .i64 t)) :
    Calls Try.prog 74 #[.slice A n cap, .func (.func 75) #[] #[.pointer (some ⟨b1, 0, none⟩)]] w fun e w' => e = .returned (.int .i64 (if posE F t n < n then (posE F t n : Int) else -1)) ∧ Below w.heap.size w w' := by
  have l1 := lt_of_cell h1
  have HR := Lib.hid hr
  have H1 := Lib.hid h1
  rw [← posE_find]
  clear hr h1
  go_enter Try.func74, Try.ntmps74
  go_wp2_with fail
  go_loopw [8] (fun i wr => ∃ k : Nat, k ≤ n ∧ i = .int .i64 k ∧ Below w.heap.size w wr ∧ Hid (∀ j, j < k → decide (t < F j 1) = false)) (fun i _ => n - (intOf i).toNat)
  case atStart => exact ⟨0, Nat.zero_le _, rfl, Below.refl _ _, fun j hj => by omega⟩
  case round =>
    obtain ⟨m, hm, rfl, hbw, hF⟩ := hrel
    by_cases hlt : m < n
    · obtain ⟨b, off, rfl, hb, c0, c1⟩ := HR.out.at2 hlt
      have d0 := (hbw.cell (p := ⟨b, off + m * 2, none⟩) hb).trans c0
      have d1 := (hbw.cell (p := ⟨b, off + m * 2 + 1, none⟩) hb).trans c1
      have h1 := Lib.hid ((hbw.cell (p := ⟨b1, 1, none⟩) l1).trans H1.out)
      have hmi : (m : Int) < (n : Int) := by omega
      have hm0 : (0 : Int) ≤ (m : Int) := by omega
      have hbs := hbw.size
      clear c0 c1 hb
      have HB := Lib.hid hbw
      clear hbw
      go_wp2_with fail
      with_reducible refine (later1_any (F m 0) (F m 1) t b1 _ h1.out).mono ?_
      rintro e w1 ⟨rfl, hb1⟩
      have hbw := HB.out.trans (hb1.mono hbs)
      clear hb1 h1 HB d0 d1
      rcases Bool.eq_false_or_eq_true (decide (t < F m 1)) with hp | hp
      · rw [hp]
        go_wp2
        go_ret
        exact ⟨ret_int (findI_hit hF.out hlt hp).symm, hbw⟩
      · rw [hp]
        go_wp2
        go_roundw
        case rel => exact ⟨m + 1, by omega, by go_num, hbw, fun j hj => by
          rcases Nat.lt_or_ge j m with h | h
          · exact hF.out j h
          · obtain rfl : j = m := by omega
            exact hp⟩
        case measure => simp [intOf]; omega
    · obtain rfl : m = n := by omega
      go_wp2
      go_ret
      exact ⟨ret_int (findI_none hF.out).symm, hbw⟩
set_option maxRecDepth 100000 in
theorem cloneE_any (A : Option Addr) (n c : Nat) (F : Nat → Nat → Int) (w : World) (hn : n ≤ 1048576) (hA : AnyA A c) (hr : Recs w 2 A n F) :
    Calls Try.prog 77 #[.slice A n c] w (RecsQ 58 2 n F w) := by
  have HR := Lib.hid hr
  have HA := Lib.hid hA
  have q22 : ∀ (w : World) (a : Option Addr) (n c n' c' : Nat), (binOp .eql 48 (.slice a n c) (.slice none n' c')).run Try.prog w = .ok (.bool a.isNone) w := fun w a n c n' c' => Lib.run_eql_slice_nil w _ _ a n c n' c' Try.underlying48
  clear hr
  rcases hA with ⟨rfl, rfl⟩ | ⟨b, off, rfl⟩
  · have h0 : n = 0 := by
      rcases HR.out with h | ⟨_, _, e, _⟩
      · exact h
      · cases e
    subst h0
    go_enter Try.func77, Try.ntmps77
    go_wp2
    go_ret
    exact ⟨_, rfl, World.ownsRow_nil _ _ _ _, Below.refl _ _⟩
  · go_enter Try.func77, Try.ntmps77
    go_wp2_with (at_builtin; refine wpList_app_recs rfl (.tmp 5) (.tmp 6) 48 (by rfl) w.heap.size 58 (.agg #[.int .i64 0, .int .i64 0]) 2 16 Try.underlying48 infEvent rfl (by decide) (by decide) _ 0 (fun _ _ => 0) (own_rec_empty w w.heap.size _ 2 _ (Nat.le_refl _)) (some ⟨b, off, none⟩) n c F HA.out (HR.out.alloc _) (by omega) (by simp) rfl rfl ?_)
    intro v' w' o' hg'
    rw [catF_zero] at o'
    try rw [Nat.zero_add] at o'
    have HB := Lib.hid (((Below.refl w.heap.size w).alloc (Nat.le_refl _) (.cells #[] 58)).grown hg' (by simp) (fun b hb => by simp [Value.ownBlock] at hb; omega))
    have HO := Lib.hid o'
    clear o' hg'
    go_wp2
    go_ret
    exact ⟨v', rfl, HO.out, HB.out⟩
set_option maxRecDepth 100000 in
set_option maxHeartbeats 8000000 in
theorem add_any (A : Option Addr) (n cap : Nat) (F : Nat → Nat → Int) (k t : Int) (w : World) (hn : n ≤ 1048576) (hA : AnyA A cap) (hr : Recs w 2 A n F) :
    Calls Try.prog 51 #[.slice A n cap, .agg #[.int .i64 k, .int .i64 t]] w (AddQ F n k t w) := by
  have HR := Lib.hid hr
  have HA := Lib.hid hA
  have HR0 := Lib.hid (hr.alloc (.cells #[.int .i64 k, .int .i64 t] 58))
  have hple := posE_le F t n
  clear hr hA
  go_enter Try.func51, Try.ntmps51
  go_wp2_with fail
  with_reducible refine (indexEv_any A n cap F t w.heap.size _ (by omega) HR0.out (Box.made w _ _ |>.cell 1)).mono ?_
  rintro e w1 ⟨rfl, hb1⟩
  have X1 := (Box.made w 58 #[.int .i64 k, .int .i64 t]).kept hb1
  have B1 := Lib.hid (((Below.refl w.heap.size w).alloc (Nat.le_refl _) (.cells #[.int .i64 k, .int .i64 t] 58)).trans (hb1.mono (by simp)))
  have R1 := Lib.hid (HR0.out.kept hb1)
  have z1 := X1.lt
  obtain ⟨e1, e2, e3, e4⟩ := X1.two
  clear hb1 HR0
  have PX : pair k t 0 = k ∧ pair k t 1 = t := ⟨by simp [pair], by simp [pair]⟩
  obtain ⟨p, hpe⟩ : ∃ p, posE F t n = p := ⟨_, rfl⟩
  have HPE := Lib.hid hpe
  rw [hpe] at hple ⊢
  clear hpe
  by_cases hp : p < n
  · rw [if_pos hp]
    have hd0 : decide ((p : Int) < 0) = false := by simp
    go_wp2_with fail
    go_region_held3 (fun w' => w'.cell? ⟨w.heap.size, 0, none⟩ = some (.int .i64 k) ∧ w'.cell? ⟨w.heap.size, 1, none⟩ = some (.int .i64 t)) (simp [go_sem, *])
      (first | (go_at_call 77; (with_reducible refine (cloneE_any A n cap F _ hn HA.out (by repeat (first | exact R1.out | with_reducible refine Recs.drew ?_ | with_reducible refine Recs.alloc ?_ _))).mono ?_); rintro e w2 ⟨v2, rfl, o2, hb2⟩; obtain ⟨A2, c2, rfl, _, _⟩ := own_recs o2; have LO := Lib.hid (own_lo o2); have HI := Lib.hid (own_hi o2); have z2 := hb2.size; (try simp at z2); have zz : w.heap.size < w2.heap.size := (by omega); have O2 := Lib.hid (own_mono (B' := w.heap.size) o2 (by (try simp); omega)); clear o2; obtain ⟨hc2, hf2⟩ := bcell hb2; (try simp only [World.size_drew] at hc2 hf2)) | (go_at_call 76; (with_reducible refine (insE_any w.heap.size A2 n c2 p F _ (pair k t) _ hn (by omega) (by (try simp); omega) (by repeat (first | exact O2.out | with_reducible refine World.ownsRow.drew ?_ | with_reducible refine World.ownsRow.alloc ?_ _)) (by rw [PX.1, PX.2]; (repeat (first | with_reducible assumption | with_reducible exact Box.made _ _ _ | (with_reducible refine Box.made_at ?hg; case hg => (simp; done)) | with_reducible refine Box.drew ?_ | with_reducible refine Box.alloc ?_ _ | (with_reducible refine Box.put2 (a := .int .i64 0) (b := .int .i64 0) ?_ _ _) | (with_reducible refine Box.far ?_ ?hg _; case hg => ((try simp) <;> (try omega))) | with_reducible refine Box.kept ?_ (by with_reducible assumption)))) (fun e => (by have h1 := LO.out _ e; have h2 := HI.out _ e; first | omega | (simp at h1; omega)))).mono ?_); rintro e w3 ⟨v3, rfl, o3, hg3⟩; have B3 := Lib.hid (below_grown (B := w.heap.size) (w0 := w) (by have hbw := B1.out; (repeat (first | with_reducible exact Below.refl _ _ | with_reducible refine Below.drew ?_ | (with_reducible refine Below.alloc ?_ ?hsz _; case hsz => ((try simp) <;> (try omega))) | (with_reducible refine Below.setCell ?_ ?hsz _; case hsz => ((try simp) <;> (try omega))) | (with_reducible refine below_step (by with_reducible assumption) ?hsz ?_; case hsz => ((try simp) <;> (try omega)))))) hg3 (by (try simp); omega) (own_lo O2.out)); have X3 := Box.grown (show Box _ w.heap.size 58 #[.int .i64 k, .int .i64 t] from (by (repeat (first | with_reducible assumption | with_reducible exact Box.made _ _ _ | (with_reducible refine Box.made_at ?hg; case hg => (simp; done)) | with_reducible refine Box.drew ?_ | with_reducible refine Box.alloc ?_ _ | (with_reducible refine Box.put2 (a := .int .i64 0) (b := .int .i64 0) ?_ _ _) | (with_reducible refine Box.far ?_ ?hg _; case hg => ((try simp) <;> (try omega))) | with_reducible refine Box.kept ?_ (by with_reducible assumption))))) hg3 (fun e => (by have h1 := LO.out _ e.symm; first | omega | (simp at h1; omega))); obtain ⟨y1, y2, _, _⟩ := X3.two; have O3 := Lib.hid o3; have zg := hg3.size; (try simp at zg); clear o3 hg3))
    all_goals (
      obtain ⟨A3, c3, rfl, _, _⟩ := own_recs O3.out
      go_wp2_with fail
      with_reducible refine (eventsOk_any A n cap F _ (by omega) (by repeat (first | exact (HR.out.kept B3.out) | with_reducible refine Recs.drew ?_))).mono ?_
      rintro e w4 ⟨rfl, hb4⟩
      have O4 := Lib.hid (own_below (w := w3) O3.out (by first | exact hb4 | exact (Below.refl _ _).drew.trans hb4))
      have B4 := Lib.hid (B3.out.trans ((show Below w3.heap.size w3 w4 from (by first | exact hb4 | exact (Below.refl _ _).drew.trans hb4)).mono (by omega)))
      have z4 := B4.out.size
      clear hb4 O3 B3
      rcases Bool.eq_false_or_eq_true (eventsB F n) with s1 | s1
      · rw [s1]
        go_wp2_with fail
        with_reducible refine (eventsOk_big A3 (n + 1) c3 (insF F p (pair k t)) _ (by omega) (own_rec O4.out)).mono ?_
        rintro e w5 ⟨rfl, hb5⟩
        have O5 := Lib.hid (own_below O4.out hb5)
        have B5 := Lib.hid (B4.out.trans (hb5.mono z4))
        have z5 := B5.out.size
        clear hb5 O4 B4
        rcases Bool.eq_false_or_eq_true (eventsB (insF F p (pair k t)) (n + 1)) with s2 | s2
        · have HY := Lib.hid (show addB F n k t = true by simp [addB, HPE.out, s1, s2])
          rw [s2]
          go_wp2_with fail
          go_ret2
          exact add_yes HY.out (by rw [HPE.out]; exact O5.out) B5.out
        · have HY := Lib.hid (show addB F n k t = false by simp [addB, HPE.out, s1, s2])
          rw [s2]
          go_wp2_with fail
          with_reducible refine (cloneE_any A n cap F _ hn HA.out (HR.out.kept B5.out)).mono ?_
          rintro e w6 ⟨v6, rfl, o6, hb6⟩
          have O6 := Lib.hid (own_mono (B' := w.heap.size) o6 z5)
          have B6 := Lib.hid (B5.out.trans (hb6.mono z5))
          clear o6 hb6
          go_wp2_with fail
          go_ret2
          exact add_no HY.out O6.out B6.out
      · have HY := Lib.hid (show addB F n k t = false by simp [addB, s1])
        rw [s1]
        go_wp2_with fail
        with_reducible refine (cloneE_any A n cap F _ hn HA.out (HR.out.kept B4.out)).mono ?_
        rintro e w6 ⟨v6, rfl, o6, hb6⟩
        have O6 := Lib.hid (own_mono (B' := w.heap.size) o6 z4)
        have B6 := Lib.hid (B4.out.trans (hb6.mono z4))
        clear o6 hb6
        go_wp2_with fail
        go_ret2
        exact add_no HY.out O6.out B6.out)
  · have hpn : n = p := by omega
    rw [if_neg hp]
    subst hpn
    have hd0 : decide ((-1 : Int) < 0) = true := rfl
    go_wp2_with fail
    go_region_held3 (fun w' => w'.cell? ⟨w.heap.size, 0, none⟩ = some (.int .i64 k) ∧ w'.cell? ⟨w.heap.size, 1, none⟩ = some (.int .i64 t)) (simp [go_sem, *])
      (first | (go_at_call 77; (with_reducible refine (cloneE_any A n cap F _ hn HA.out (by repeat (first | exact R1.out | with_reducible refine Recs.drew ?_ | with_reducible refine Recs.alloc ?_ _))).mono ?_); rintro e w2 ⟨v2, rfl, o2, hb2⟩; obtain ⟨A2, c2, rfl, _, _⟩ := own_recs o2; have LO := Lib.hid (own_lo o2); have HI := Lib.hid (own_hi o2); have z2 := hb2.size; (try simp at z2); have zz : w.heap.size < w2.heap.size := (by omega); have O2 := Lib.hid (own_mono (B' := w.heap.size) o2 (by (try simp); omega)); clear o2; obtain ⟨hc2, hf2⟩ := bcell hb2; (try simp only [World.size_drew] at hc2 hf2)) | (go_at_call 76; (with_reducible refine (insE_any w.heap.size A2 n c2 n F _ (pair k t) _ hn (by omega) (by (try simp); omega) (by repeat (first | exact O2.out | with_reducible refine World.ownsRow.drew ?_ | with_reducible refine World.ownsRow.alloc ?_ _)) (by rw [PX.1, PX.2]; (repeat (first | with_reducible assumption | with_reducible exact Box.made _ _ _ | (with_reducible refine Box.made_at ?hg; case hg => (simp; done)) | with_reducible refine Box.drew ?_ | with_reducible refine Box.alloc ?_ _ | (with_reducible refine Box.put2 (a := .int .i64 0) (b := .int .i64 0) ?_ _ _) | (with_reducible refine Box.far ?_ ?hg _; case hg => ((try simp) <;> (try omega))) | with_reducible refine Box.kept ?_ (by with_reducible assumption)))) (fun e => (by have h1 := LO.out _ e; have h2 := HI.out _ e; first | omega | (simp at h1; omega)))).mono ?_); rintro e w3 ⟨v3, rfl, o3, hg3⟩; have B3 := Lib.hid (below_grown (B := w.heap.size) (w0 := w) (by have hbw := B1.out; (repeat (first | with_reducible exact Below.refl _ _ | with_reducible refine Below.drew ?_ | (with_reducible refine Below.alloc ?_ ?hsz _; case hsz => ((try simp) <;> (try omega))) | (with_reducible refine Below.setCell ?_ ?hsz _; case hsz => ((try simp) <;> (try omega))) | (with_reducible refine below_step (by with_reducible assumption) ?hsz ?_; case hsz => ((try simp) <;> (try omega)))))) hg3 (by (try simp); omega) (own_lo O2.out)); have X3 := Box.grown (show Box _ w.heap.size 58 #[.int .i64 k, .int .i64 t] from (by (repeat (first | with_reducible assumption | with_reducible exact Box.made _ _ _ | (with_reducible refine Box.made_at ?hg; case hg => (simp; done)) | with_reducible refine Box.drew ?_ | with_reducible refine Box.alloc ?_ _ | (with_reducible refine Box.put2 (a := .int .i64 0) (b := .int .i64 0) ?_ _ _) | (with_reducible refine Box.far ?_ ?hg _; case hg => ((try simp) <;> (try omega))) | with_reducible refine Box.kept ?_ (by with_reducible assumption))))) hg3 (fun e => (by have h1 := LO.out _ e.symm; first | omega | (simp at h1; omega))); obtain ⟨y1, y2, _, _⟩ := X3.two; have O3 := Lib.hid o3; have zg := hg3.size; (try simp at zg); clear o3 hg3))
    all_goals (
      obtain ⟨A3, c3, rfl, _, _⟩ := own_recs O3.out
      go_wp2_with fail
      with_reducible refine (eventsOk_any A n cap F _ (by omega) (by repeat (first | exact (HR.out.kept B3.out) | with_reducible refine Recs.drew ?_))).mono ?_
      rintro e w4 ⟨rfl, hb4⟩
      have O4 := Lib.hid (own_below (w := w3) O3.out (by first | exact hb4 | exact (Below.refl _ _).drew.trans hb4))
      have B4 := Lib.hid (B3.out.trans ((show Below w3.heap.size w3 w4 from (by first | exact hb4 | exact (Below.refl _ _).drew.trans hb4)).mono (by omega)))
      have z4 := B4.out.size
      clear hb4 O3 B3
      rcases Bool.eq_false_or_eq_true (eventsB F n) with s1 | s1
      · rw [s1]
        go_wp2_with fail
        with_reducible refine (eventsOk_big A3 (n + 1) c3 (insF F n (pair k t)) _ (by omega) (own_rec O4.out)).mono ?_
        rintro e w5 ⟨rfl, hb5⟩
        have O5 := Lib.hid (own_below O4.out hb5)
        have B5 := Lib.hid (B4.out.trans (hb5.mono z4))
        have z5 := B5.out.size
        clear hb5 O4 B4
        rcases Bool.eq_false_or_eq_true (eventsB (insF F n (pair k t)) (n + 1)) with s2 | s2
        · have HY := Lib.hid (show addB F n k t = true by simp [addB, HPE.out, s1, s2])
          rw [s2]
          go_wp2_with fail
          go_ret2
          exact add_yes HY.out (by rw [HPE.out]; exact O5.out) B5.out
        · have HY := Lib.hid (show addB F n k t = false by simp [addB, HPE.out, s1, s2])
          rw [s2]
          go_wp2_with fail
          with_reducible refine (cloneE_any A n cap F _ hn HA.out (HR.out.kept B5.out)).mono ?_
          rintro e w6 ⟨v6, rfl, o6, hb6⟩
          have O6 := Lib.hid (own_mono (B' := w.heap.size) o6 z5)
          have B6 := Lib.hid (B5.out.trans (hb6.mono z5))
          clear o6 hb6
          go_wp2_with fail
          go_ret2
          exact add_no HY.out O6.out B6.out
      · have HY := Lib.hid (show addB F n k t = false by simp [addB, s1])
        rw [s1]
        go_wp2_with fail
        with_reducible refine (cloneE_any A n cap F _ hn HA.out (HR.out.kept B4.out)).mono ?_
        rintro e w6 ⟨v6, rfl, o6, hb6⟩
        have O6 := Lib.hid (own_mono (B' := w.heap.size) o6 z4)
        have B6 := Lib.hid (B4.out.trans (hb6.mono z4))
        clear o6 hb6
        go_wp2_with fail
        go_ret2
        exact add_no HY.out O6.out B6.out)
end Go.Proofs.Ytogoddbkamgndaa
