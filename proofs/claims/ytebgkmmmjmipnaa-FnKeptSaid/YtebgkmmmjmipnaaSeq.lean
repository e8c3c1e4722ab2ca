/- Contract of the program's OrderSequence. -/
import Derived.Test.YtebgkmmmjmipnaaIns
import Derived.Test.YtebgkmmmjmipnaaOrder
import Derived.Test.YtebgkmmmjmipnaaList
import Derived.Maps.AppendAt
namespace Go.Proofs.Ytebgkmmmjmipnaa
open Go.RowKit

/-- The numbers of those of the first m orders that have taken effect by month t and are known by then. -/
def seqL (F : Nat → Nat → Int) (t k : Int) : Nat → List Int
  | 0 => []
  | m + 1 => if F m 0 ≤ t ∧ F m 1 ≤ k then seqL F t k m ++ [(m : Int)] else seqL F t k m
theorem seqL_le (F : Nat → Nat → Int) (t k : Int) : ∀ n, (seqL F t k n).length ≤ n
  | 0 => Nat.le_refl _
  | n + 1 => by
    have := seqL_le F t k n
    simp only [seqL]
    split <;> simp <;> omega
theorem seqL_mem (F : Nat → Nat → Int) (t k : Int) : ∀ n, ∀ x ∈ seqL F t k n, 0 ≤ x ∧ x < n
  | 0, x, h => by simp [seqL] at h
  | n + 1, x, h => by
    simp only [seqL] at h
    split at h
    · rcases List.mem_append.1 h with h1 | h1
      · have := seqL_mem F t k n x h1; omega
      · simp only [List.mem_singleton] at h1; subst h1; omega
    · have := seqL_mem F t k n x h; omega
def seqN (F : Nat → Nat → Int) (n : Nat) (t k : Int) : Nat := if ordersB F n = true then (seqL F t k n).length else 0
def seqG (F : Nat → Nat → Int) (n : Nat) (t k : Int) : Nat → Int := sortF (effK F) (fun i => (seqL F t k n).getD i 0) (seqL F t k n).length
theorem seqN_le (F : Nat → Nat → Int) (n : Nat) (t k : Int) : seqN F n t k ≤ n := by
  unfold seqN
  split
  · exact seqL_le F t k n
  · omega
set_option maxRecDepth 100000 in
set_option maxHeartbeats 4000000 in
theorem seq_any (A : Option Addr) (n cap : Nat) (F : Nat → Nat → Int) (t k : Int) (w : World) (hn : n ≤ 1048576) (hr : Recs w 3 A n F) :
    Calls Try.prog 23 #[.slice A n cap, .int .i64 t, .int .i64 k] w (IntsQ (seqN F n t k) (seqG F n t k) w) := by
  obtain ⟨i0, hi0, iz0, iz1, iz2⟩ := info_parts int_inf
  have HR0 := Lib.hid hr
  have HR := Lib.hid (hr.alloc (.cells #[.slice A n cap] 25))
  clear hr
  rcases Bool.eq_false_or_eq_true (ordersB F n) with s1 | s1
  · have HN := Lib.hid (show seqN F n t k = (seqL F t k n).length by simp [seqN, s1])
    have h10 := (ordersB_true s1).2
    rw [HN.out]
    go_enter Try.func23, Try.ntmps23
    go_wp2_with (go_at_call 14; (with_reducible refine (ordersOk_any A n cap F _ hn HR.out).mono ?_); rintro e w1 ⟨rfl, hb1⟩; obtain ⟨hc1, hf1⟩ := bcell hb1; (try simp only [World.size_drew] at hc1 hf1); have hz1 := hb1.size; (try simp at hz1); (try have q1_0 : w.heap.size < w1.heap.size := by omega); (try have q1_1 : w.heap.size + 1 < w1.heap.size := by omega); (try have q1_2 : w.heap.size + 2 < w1.heap.size := by omega); (try have q1_3 : w.heap.size + 3 < w1.heap.size := by omega); (try have q1_4 : w.heap.size + 4 < w1.heap.size := by omega); (try have q1_0_0 : w0.heap.size < w1.heap.size := by omega); (try have q1_0_1 : w0.heap.size + 1 < w1.heap.size := by omega); (try have q1_2_0 : w2.heap.size < w1.heap.size := by omega); (try have q1_2_1 : w2.heap.size + 1 < w1.heap.size := by omega); (try have q1_3_0 : w3.heap.size < w1.heap.size := by omega); (try have q1_3_1 : w3.heap.size + 1 < w1.heap.size := by omega); (try have q1_4_0 : w4.heap.size < w1.heap.size := by omega); (try have q1_4_1 : w4.heap.size + 1 < w1.heap.size := by omega); (try have q1_5_0 : w5.heap.size < w1.heap.size := by omega); (try have q1_5_1 : w5.heap.size + 1 < w1.heap.size := by omega); (try have q1_6_0 : w6.heap.size < w1.heap.size := by omega); (try have q1_6_1 : w6.heap.size + 1 < w1.heap.size := by omega); (try have u1_b : b < w1.heap.size := by omega); (try have u1_q : q < w1.heap.size := by omega); (try have u1_g : g < w1.heap.size := by omega); (try have u1_g1 : g1 < w1.heap.size := by omega); (try have u1_g2 : g2 < w1.heap.size := by omega); (try have u1_g3 : g3 < w1.heap.size := by omega); (try have u1_g4 : g4 < w1.heap.size := by omega); (try have u1_g5 : g5 < w1.heap.size := by omega))
    have X1 := (Box.made w 25 #[.slice A n cap]).kept hb1
    have HB1 : Below w.heap.size w w1 := by (repeat (first | with_reducible exact Below.refl _ _ | with_reducible refine Below.drew ?_ | (with_reducible refine Below.alloc ?_ ?hsz _; case hsz => ((try simp) <;> (try omega))) | (with_reducible refine Below.setCell ?_ ?hsz _; case hsz => ((try simp) <;> (try omega))) | (with_reducible refine below_step (by with_reducible assumption) ?hsz ?_; case hsz => ((try simp) <;> (try omega)))))
    have z1 := HB1.size
    clear s1 hc1 hf1 hb1
    go_loopw [7, 16] (fun v i wr => ∃ m : Nat, m ≤ n ∧ i = .int .i64 m ∧ wr.ownsRow (w.heap.size + 1) 3 1 v (seqL F t k m).length ((seqL F t k m).map (Value.int .i64)) ∧ Below w.heap.size w wr ∧ Box wr w.heap.size 25 #[.slice A n cap]) (fun _ i _ => n - (intOf i).toNat)
    case atStart => exact ⟨0, Nat.zero_le _, rfl, own_empty _ _ _ X1.lt, HB1.alloc z1 _, X1.alloc _⟩
    case round =>
      clear X1 HB1 z1
      obtain ⟨m, hm, rfl, hown, hbw, X⟩ := hrel
      have zx := X.lt
      by_cases hlt : m < n
      · obtain ⟨b, off, e, hb, c0, c1, c2⟩ := HR0.out.at3 hlt
        have d0 := (hbw.cell (p := ⟨b, off + m * 3, none⟩) hb).trans c0
        have d1 := (hbw.cell (p := ⟨b, off + m * 3 + 1, none⟩) hb).trans c1
        have d2 := (hbw.cell (p := ⟨b, off + m * 3 + 2, none⟩) hb).trans c2
        subst e
        have hmi : (m : Int) < (n : Int) := by omega
        have hm0 : (0 : Int) ≤ (m : Int) := by omega
        have HB := Lib.hid hbw
        have HO := Lib.hid hown
        have HX := Lib.hid X
        have hbs := hbw.size
        have hl := seqL_le F t k m
        clear c0 c1 c2 hbw hb hown X
        rcases Bool.eq_false_or_eq_true (decide (F m 0 ≤ t)) with k1 | k1
        · rcases Bool.eq_false_or_eq_true (decide (F m 1 ≤ k)) with k2 | k2
          · have HM := Lib.hid (show seqL F t k (m + 1) = seqL F t k m ++ [(m : Int)] by simp only [seqL]; rw [if_pos ⟨of_decide_eq_true k1, of_decide_eq_true k2⟩])
            go_wp2_with (at_builtin; refine wpList_append_own _ rfl _ _ 29 rfl (w.heap.size + 1) 3 i0 (.int .i64 0) 1 8 Try.underlying29 hi0 iz0 iz1 iz2 rfl (by decide) _ _ _ rfl ((HO.out.alloc _).alloc _) ⟨wr.heap.size + 1, 0, none⟩ 1 1 [.int .i64 m] rfl rfl ?c1 ?c2 ?c3 ?c4 ?c5 ?_)
            case c1 => have := cell_one_new (wr.alloc (.cells #[.int .i64 (F m 0), .int .i64 (F m 1), .int .i64 (F m 2)] 49)) (.int .i64 m) 3; simpa using this
            case c2 => intro u hu; simp at hu; subst hu; rfl
            case c3 => unfold maxLen; omega
            case c4 => omega
            case c5 => simp; omega
            intro v' w' hown' hgr _
            have NE := own_box_ne HO.out HX.out (by decide)
            have HB' := Lib.hid (((HB.out.alloc hbs (.cells #[.int .i64 (F m 0), .int .i64 (F m 1), .int .i64 (F m 2)] 49)).alloc (by simp; omega) (.cells #[.int .i64 m] 3)).grown hgr (by simp; omega) (fun k e => by have := (HO.out.lt k e).1; omega))
            have HX' := Lib.hid (((HX.out.alloc (.cells #[.int .i64 (F m 0), .int .i64 (F m 1), .int .i64 (F m 2)] 49)).alloc (.cells #[.int .i64 m] 3)).grown hgr (fun e => NE e.symm))
            have HO' := Lib.hid (own_push hown' rfl)
            clear hown' hgr NE
            go_wp2
            go_roundw
            case rel => exact ⟨m + 1, by omega, by go_num, (by rw [HM.out]; exact HO'.out), HB'.out, HX'.out⟩
            case measure => simp [intOf]; omega
          · have HM := Lib.hid (show seqL F t k (m + 1) = seqL F t k m by simp only [seqL]; rw [if_neg (fun h => of_decide_eq_false k2 h.2)])
            go_wp2; go_roundw; (case rel => exact ⟨m + 1, by omega, by go_num, (by rw [HM.out]; exact HO.out.alloc _), (by have hbw := HB.out; (repeat (first | with_reducible exact Below.refl _ _ | with_reducible refine Below.drew ?_ | (with_reducible refine Below.alloc ?_ ?hsz _; case hsz => ((try simp) <;> (try omega))) | (with_reducible refine Below.setCell ?_ ?hsz _; case hsz => ((try simp) <;> (try omega))) | (with_reducible refine below_step (by with_reducible assumption) ?hsz ?_; case hsz => ((try simp) <;> (try omega)))))), HX.out.alloc _⟩); (case measure => simp [intOf]; omega)
        · have HM := Lib.hid (show seqL F t k (m + 1) = seqL F t k m by simp only [seqL]; rw [if_neg (fun h => of_decide_eq_false k1 h.1)])
          go_wp2; go_roundw; (case rel => exact ⟨m + 1, by omega, by go_num, (by rw [HM.out]; exact HO.out.alloc _), (by have hbw := HB.out; (repeat (first | with_reducible exact Below.refl _ _ | with_reducible refine Below.drew ?_ | (with_reducible refine Below.alloc ?_ ?hsz _; case hsz => ((try simp) <;> (try omega))) | (with_reducible refine Below.setCell ?_ ?hsz _; case hsz => ((try simp) <;> (try omega))) | (with_reducible refine below_step (by with_reducible assumption) ?hsz ?_; case hsz => ((try simp) <;> (try omega)))))), HX.out.alloc _⟩); (case measure => simp [intOf]; omega)
      · obtain rfl : m = n := by omega
        obtain ⟨A1, c1, rfl⟩ := own_slice1' hown
        have hl := seqL_le F t k m
        have HO := Lib.hid hown
        have HX := Lib.hid X
        have HB := Lib.hid hbw
        have RW := Lib.hid (HR0.out.kept hbw)
        rcases Nat.eq_zero_or_pos (seqL F t k m).length with h0 | h0
        · have hL : seqL F t k m = [] := List.eq_nil_of_length_eq_zero h0
          have HS := Lib.hid (sortStable_any w.heap.size 0 c1 A1 wr (by omega) (fun w' => wr = w') (insertion_none _ _ _))
          have HL := Lib.hid hL
          rw [hL] at HO ⊢
          simp only [List.length_nil, List.map_nil] at HO ⊢
          clear hown X hbw h0 hL
          go_wp2_with fail
          with_reducible refine (HS.out).mono ?_
          rintro e w' ⟨rfl, rfl⟩
          go_wp2
          go_ret
          exact ⟨_, rfl, (by rw [HL.out]; exact own_mono (B := w.heap.size + 1) (own_ints_nil HO.out) (Nat.le_succ _)), HB.out⟩
        · obtain ⟨D, hDe⟩ : ∃ D : Nat → Int, D = fun i => (seqL F t k m).getD i 0 := ⟨_, rfl⟩
          have hD : ∀ i, i < (seqL F t k m).length → 0 ≤ D i ∧ D i < m := fun i hi => by
            rw [hDe]
            refine seqL_mem F t k m _ ?_
            show (seqL F t k m).getD i 0 ∈ _
            rw [List.getD_eq_getElem?_getD, List.getElem?_eq_getElem hi]
            exact List.getElem_mem _
          have ho2 : wr.ownsRow (w.heap.size + 1) 3 1 (.slice A1 (seqL F t k m).length c1) (seqL F t k m).length (ints D (seqL F t k m).length) := by rw [hDe, ints_list]; exact hown
          have HG := Lib.hid (show seqG F m t k = sortF (effK F) D (seqL F t k m).length by rw [hDe]; rfl)
          generalize (seqL F t k m).length = len at *
          clear hown HO HN hDe
          obtain ⟨_, _, e, _, _, hat⟩ := own_row ho2
          cases e
          obtain ⟨g, rfl, g1, g2, _, _⟩ := hat h0
          have ins := insertion_any A m cap F w.heap.size g (w.heap.size + 1) len c1 D wr RW.out (X.cell 0) h0 (by omega) ho2 hD (by omega) (fun b off e => by
            obtain ⟨b', off', e', hlt'⟩ := HR0.out.has (show 0 < m by omega)
            rw [e'] at e
            cases e
            omega)
          have HS := Lib.hid (sortStable_any w.heap.size len c1 (some ⟨g, 0, none⟩) wr (by omega) (fun w' => w'.ownsRow (w.heap.size + 1) 3 1 (.slice (some ⟨g, 0, none⟩) len c1) len (ints (sortF (effK F) D len) len) ∧ wr.grownBy w' (some g)) ins)
          clear ho2 X hbw ins hat hD
          go_wp2_with fail
          with_reducible refine (HS.out).mono ?_
          rintro e w' ⟨rfl, ho', hg'⟩
          have HO' := Lib.hid ho'
          have HB' := Lib.hid (HB.out.grown hg' (by omega) (fun k e => by cases e; omega))
          clear ho' hg'
          go_wp2
          go_ret
          exact ⟨_, rfl, (by rw [HG.out]; exact own_mono (B := w.heap.size + 1) HO'.out (Nat.le_succ _)), HB'.out⟩
  · have HN := Lib.hid (show seqN F n t k = 0 by simp [seqN, s1])
    rw [HN.out]
    go_enter Try.func23, Try.ntmps23
    go_wp2_with (go_at_call 14; (with_reducible refine (ordersOk_any A n cap F _ hn HR.out).mono ?_); rintro e w1 ⟨rfl, hb1⟩; obtain ⟨hc1, hf1⟩ := bcell hb1; (try simp only [World.size_drew] at hc1 hf1); have hz1 := hb1.size; (try simp at hz1); (try have q1_0 : w.heap.size < w1.heap.size := by omega); (try have q1_1 : w.heap.size + 1 < w1.heap.size := by omega); (try have q1_2 : w.heap.size + 2 < w1.heap.size := by omega); (try have q1_3 : w.heap.size + 3 < w1.heap.size := by omega); (try have q1_4 : w.heap.size + 4 < w1.heap.size := by omega); (try have q1_0_0 : w0.heap.size < w1.heap.size := by omega); (try have q1_0_1 : w0.heap.size + 1 < w1.heap.size := by omega); (try have q1_2_0 : w2.heap.size < w1.heap.size := by omega); (try have q1_2_1 : w2.heap.size + 1 < w1.heap.size := by omega); (try have q1_3_0 : w3.heap.size < w1.heap.size := by omega); (try have q1_3_1 : w3.heap.size + 1 < w1.heap.size := by omega); (try have q1_4_0 : w4.heap.size < w1.heap.size := by omega); (try have q1_4_1 : w4.heap.size + 1 < w1.heap.size := by omega); (try have q1_5_0 : w5.heap.size < w1.heap.size := by omega); (try have q1_5_1 : w5.heap.size + 1 < w1.heap.size := by omega); (try have q1_6_0 : w6.heap.size < w1.heap.size := by omega); (try have q1_6_1 : w6.heap.size + 1 < w1.heap.size := by omega); (try have u1_b : b < w1.heap.size := by omega); (try have u1_q : q < w1.heap.size := by omega); (try have u1_g : g < w1.heap.size := by omega); (try have u1_g1 : g1 < w1.heap.size := by omega); (try have u1_g2 : g2 < w1.heap.size := by omega); (try have u1_g3 : g3 < w1.heap.size := by omega); (try have u1_g4 : g4 < w1.heap.size := by omega); (try have u1_g5 : g5 < w1.heap.size := by omega))
    go_ret
    exact ⟨_, rfl, World.ownsRow_nil _ _ _ _, by (repeat (first | with_reducible exact Below.refl _ _ | with_reducible refine Below.drew ?_ | (with_reducible refine Below.alloc ?_ ?hsz _; case hsz => ((try simp) <;> (try omega))) | (with_reducible refine Below.setCell ?_ ?hsz _; case hsz => ((try simp) <;> (try omega))) | (with_reducible refine below_step (by with_reducible assumption) ?hsz ?_; case hsz => ((try simp) <;> (try omega)))))⟩
end Go.Proofs.Ytebgkmmmjmipnaa
