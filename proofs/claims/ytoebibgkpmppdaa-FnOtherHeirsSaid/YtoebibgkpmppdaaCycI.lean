/- Contract of the program's FindCycle. -/
import Derived.Test.YtoebibgkpmppdaaCyc
namespace Go.Proofs.Ytoebibgkpmppdaa
open Go.RowKit

theorem dist_no {F : Nat → Nat → Int} {n m : Nat} (hm : m < n) (h : (hAt F n (F m 0) == (m : Int)) = false) : distB F n = false := by
  simp only [distB, allB_false (p := fun i => hAt F n (F i 0) == (i : Int)) hm h, Bool.false_and]
theorem cycle_no {F : Nat → Nat → Int} {n : Nat} (h : distB F n = false) : cycle F n = [] := by simp [cycle, h]
theorem Box.four {w : World} {g : Nat} {t : TypeId} {a b c d : Value} (h : Box w g t #[a, b, c, d]) : w.cell? ⟨g, 0, none⟩ = some a ∧ w.cell? ⟨g, 1, none⟩ = some b ∧ w.cell? ⟨g, 2, none⟩ = some c ∧ w.cell? ⟨g, 3, none⟩ = some d :=
  ⟨h.cell 0, h.cell 1, h.cell 2, h.cell 3⟩
theorem own_slice {w : World} {base : Nat} {e : TypeId} {k : Nat} {v : Value} {n : Nat} {xs : List Value} (h : w.ownsRow base e k v n xs) : ∃ A c, v = .slice A n c := by
  rcases own_cases h with ⟨rfl, rfl⟩ | ⟨g, cap, cur, rfl, _⟩
  · exact ⟨_, _, rfl⟩
  · exact ⟨_, _, rfl⟩
def lenOf : Value → Nat | .slice _ l _ => l | _ => 0
theorem own_drewN {w : World} {base : Nat} {e : TypeId} {k : Nat} {v : Value} {n : Nat} {xs : List Value} (h : w.ownsRow base e k v n xs) (q : Nat) : (w.drewN q).ownsRow base e k v n xs := own_below h (below_drewN (Below.refl _ _) q)
set_option maxRecDepth 100000 in
set_option maxHeartbeats 8000000 in
/-- The second part: the list's ids differ; look for a circle from each heir on. -/
theorem findCycle_any (A : Option Addr) (n cap : Nat) (F : Nat → Nat → Int) (w : World) (hn : n ≤ 1048576) (hr : Recs w 4 A n F) :
    Calls Try.prog 17 #[.slice A n cap] w (CycQ F n w) := by
  obtain ⟨i0, hi0, iz0, iz1, iz2⟩ := info_parts int_inf
  have HR := Lib.hid hr
  clear hr
  go_enter Try.func17, Try.ntmps17
  go_wp2_with fail
  go_loopw [11] (fun i wr => ∃ m : Nat, m ≤ n ∧ i = .int .i64 m ∧ Below w.heap.size w wr ∧ Hid (∀ j, j < m → (hAt F n (F j 0) == (j : Int)) = true) ∧ Hid (0 < m → n ≤ 10)) (fun i _ => n - (intOf i).toNat)
  case atStart => exact ⟨0, Nat.zero_le _, rfl, Below.refl _ _, fun j hj => by omega, fun h => by omega⟩
  case round =>
    obtain ⟨m, hm, rfl, hbw, hF, hten⟩ := hrel
    by_cases hlt : m < n
    · obtain ⟨b, off, e, hb, c0, c1, c2, c3⟩ := HR.out.at4 hlt
      have d0 := (hbw.cell (p := ⟨b, off + m * 4, none⟩) hb).trans c0
      have d1 := (hbw.cell (p := ⟨b, off + m * 4 + 1, none⟩) hb).trans c1
      have d2 := (hbw.cell (p := ⟨b, off + m * 4 + 2, none⟩) hb).trans c2
      have d3 := (hbw.cell (p := ⟨b, off + m * 4 + 3, none⟩) hb).trans c3
      subst e
      have hmi : (m : Int) < (n : Int) := by omega
      have hm0 : (0 : Int) ≤ (m : Int) := by omega
      have HB := Lib.hid (hbw.alloc hbw.size (.cells #[.int .i64 (F m 0), .int .i64 (F m 1), .int .i64 (F m 2), .int .i64 (F m 3)] 43))
      have zb := hbw.size
      clear c0 c1 c2 c3 hb hbw
      have HA := Lib.hid (fun w1 (h : Below w.heap.size w w1) => heirAt_any (some ⟨b, off, none⟩) n cap F (F m 0) w1 hn (HR.out.kept h))
      rcases Bool.eq_false_or_eq_true (hAt F n (F m 0) == (m : Int)) with hp | hp
      · have hp2 : (hAt F n (F m 0) != (m : Int)) = false := by simp only [bne, hp, Bool.not_true]
        have HP := Lib.hid hp
        clear hp
        by_cases h10 : n ≤ 10
        · have H10 := Lib.hid h10
          go_wp2_with (go_at_call 39; (with_reducible refine (HA.out _ HB.out).mono ?_); rintro e w1 ⟨rfl, hb1⟩)
          go_roundw
          case rel => exact ⟨m + 1, by omega, by go_num, HB.out.trans (hb1.mono (by simp; omega)), fun j hj => (by
            rcases Nat.lt_or_ge j m with h | h
            · exact hF.out j h
            · obtain rfl : j = m := by omega
              exact HP.out), fun _ => H10.out⟩
          case measure => simp [intOf]; omega
        · have HN := Lib.hid (show distB F n = false by simp [distB, h10])
          go_wp2_with (go_at_call 39; (with_reducible refine (HA.out _ HB.out).mono ?_); rintro e w1 ⟨rfl, hb1⟩)
          go_ret
          exact cycQ_of (L := []) (cycle_no HN.out) (World.ownsRow_nil _ _ _ _) (HB.out.trans (hb1.mono (by simp; omega)))
      · have hp2 : (hAt F n (F m 0) != (m : Int)) = true := by simp only [bne, hp, Bool.not_false]
        have HP := Lib.hid hp
        clear hp
        go_wp2_with (go_at_call 39; (with_reducible refine (HA.out _ HB.out).mono ?_); rintro e w1 ⟨rfl, hb1⟩)
        go_ret
        exact cycQ_of (L := []) (cycle_no (dist_no hlt HP.out)) (World.ownsRow_nil _ _ _ _) (HB.out.trans (hb1.mono (by simp; omega)))
    · have hmn : m = n := by omega
      subst hmn
      have HD := Lib.hid (show distB F m = true by
        have h := allB_iff.2 hF.out
        simp only [distB, h, Bool.true_and, decide_eq_true_eq]
        rcases Nat.eq_zero_or_pos m with h0 | h0
        · omega
        · exact hten.out h0)
      have HB0 := Lib.hid hbw
      clear hF hten hbw hm
      have hnn : ¬ m < m := Nat.lt_irrefl _
      obtain ⟨n, rfl⟩ : ∃ n, n = m := ⟨_, rfl⟩
      obtain ⟨wa, rfl⟩ : ∃ wa : World, wa = wr := ⟨_, rfl⟩
      go_wp2_with fail
      go_loopw [30] (fun i wr => ∃ m : Nat, m ≤ n ∧ i = .int .i64 m ∧ Below w.heap.size w wr ∧ Hid (∀ j, j < m → cyc1 F n j = none)) (fun i _ => n - (intOf i).toNat)
      case atStart => exact ⟨0, Nat.zero_le _, rfl, HB0.out, fun j hj => by omega⟩
      case round =>
        clear hlt HB0
        obtain ⟨m, hm, rfl, hbw, hF⟩ := hrel
        by_cases hlt : m < n
        · obtain ⟨wo, rfl⟩ : ∃ wo : World, wo = wr := ⟨_, rfl⟩
          obtain ⟨b, off, e, hb, c0, c1, c2, c3⟩ := HR.out.at4 hlt
          have d0 := (hbw.cell (p := ⟨b, off + m * 4, none⟩) hb).trans c0
          have d1 := (hbw.cell (p := ⟨b, off + m * 4 + 1, none⟩) hb).trans c1
          have d2 := (hbw.cell (p := ⟨b, off + m * 4 + 2, none⟩) hb).trans c2
          have d3 := (hbw.cell (p := ⟨b, off + m * 4 + 3, none⟩) hb).trans c3
          subst e
          have hmi : (m : Int) < (n : Int) := by omega
          have hm0 : (0 : Int) ≤ (m : Int) := by omega
          have zb := hbw.size
          have HB2 := Lib.hid ((hbw.alloc zb (.cells #[.int .i64 (F m 0), .int .i64 (F m 1), .int .i64 (F m 2), .int .i64 (F m 3)] 43)).alloc (by simp; omega) (.cells #[.int .i64 (F m 0)] 3))
          have Y1 := Lib.hid ((Box.made wo 43 #[.int .i64 (F m 0), .int .i64 (F m 1), .int .i64 (F m 2), .int .i64 (F m 3)]).alloc (.cells #[.int .i64 (F m 0)] 3))
          have O1 := Lib.hid (show ((wo.alloc (.cells #[.int .i64 (F m 0), .int .i64 (F m 1), .int .i64 (F m 2), .int .i64 (F m 3)] 43)).alloc (.cells #[.int .i64 (F m 0)] 3)).ownsRow w.heap.size 3 1 (.slice (some ⟨wo.heap.size + 1, 0, none⟩) 1 1) 1 [.int .i64 (F m 0)] by
            have := own_one (wo.alloc (.cells #[.int .i64 (F m 0), .int .i64 (F m 1), .int .i64 (F m 2), .int .i64 (F m 3)] 43)) w.heap.size 3 (F m 0) (by simp; omega)
            simpa using this)
          have HA := Lib.hid (fun (t : Int) w1 (h : Below w.heap.size w w1) => heirAt_any (some ⟨b, off, none⟩) n cap F t w1 hn (HR.out.kept h))
          clear c0 c1 c2 c3 hb hbw
          go_wp2_with (go_at_call 39; (with_reducible refine (HA.out (F m 3) _ HB2.out).mono ?_); rintro e w1 ⟨rfl, hb1⟩)
          have y2 := Y1.out.kept hb1
          have o2 := own_below O1.out hb1
          have HB3 := Lib.hid (HB2.out.trans (hb1.mono (by simp; omega)))
          have z3 := HB3.out.size
          clear HB2 Y1 O1 hb1 d0 d1 d2 d3
          by_cases hz : F m 3 = 0
          · have hz2 : (F m 3 != 0) = false := by simp [hz]
            have HZ := Lib.hid (show cyc1 F n m = none by
              have h := cyc_more (F := F) hlt [F m 0]
              rw [cyc_succ, nxt_zero hz, chk_neg (by omega)] at h
              exact h.symm)
            clear hz
            obtain ⟨q0, q1, q2, q3⟩ := y2.four
            refine wp_loop_rounds 1 ?_
            rw [rounds_succ]
            go_wp2_with fail
            go_big_quiet (fail)
            go_wp2_with fail
            go_big_quiet (fail)
            go_wp2
            go_roundw
            case rel => exact ⟨m + 1, by omega, by go_num, below_drewN HB3.out _, none_snoc hF.out HZ.out⟩
            case measure => simp [intOf]; omega
          · have hz2 : (F m 3 != 0) = true := by simp [hz]
            have HST := Lib.hid (show chk F n m n (hAt F n (F m 3)) [F m 0] = cyc1 F n m by
              rw [← nxt_at hz]
              exact cyc_more (F := F) hlt [F m 0])
            clear hz
            go_loopw [7, 8] (fun v a ws => ∃ (L : List Int) (x : Int) (f c : Nat) (A : Option Addr), v = .slice A L.length c ∧ a = .int .i64 x ∧ ws.ownsRow w.heap.size 3 1 (.slice A L.length c) L.length (L.map (Value.int .i64)) ∧ Hid (x = -1 ∨ ∃ j : Nat, x = j ∧ j < n) ∧ L.length + f = n + 1 ∧ Below w.heap.size w ws ∧ Box ws wo.heap.size 43 #[.int .i64 (F m 0), .int .i64 (F m 1), .int .i64 (F m 2), .int .i64 (F m 3)] ∧ Hid (chk F n m f x L = cyc1 F n m)) (fun v _ _ => n + 1 - lenOf v)
            case atStart => exact ⟨[F m 0], hAt F n (F m 3), n, 1, _, rfl, rfl, o2, hAt_cases F n (F m 3), by simp; omega, HB3.out, y2, HST.out⟩
            case round =>
              clear HST y2 o2 HB3 z3
              obtain ⟨L, x, f, c, A2, rfl, rfl, ho, hx, hlf, hbq, y3, hcy⟩ := hrel
              obtain ⟨q0, q1, q2, q3⟩ := y3.four
              have zq := hbq.size
              have ly := y3.lt
              rcases hx.out with rfl | ⟨j, rfl, hj⟩
              · have HZ := Lib.hid (show cyc1 F n m = none by rw [← hcy.out, chk_neg (by omega)])
                go_wp2_with fail
                go_big_quiet (fail)
                go_wp2_with fail
                go_big_quiet (fail)
                go_wp2
                go_roundw
                case rel => exact ⟨m + 1, by omega, by go_num, below_drewN hbq _, none_snoc hF.out HZ.out⟩
                case measure => simp [intOf]; omega
              · obtain ⟨b', off', e, hb', p0, p1, p2, p3⟩ := HR.out.at4 hj
                cases e
                have g0 := (hbq.cell (p := ⟨b, off + j * 4, none⟩) hb').trans p0
                have hji : (j : Int) < (n : Int) := by omega
                have hj0 : (0 : Int) ≤ (j : Int) := by omega
                have hx0 : decide ((0 : Int) ≤ (j : Int)) = true := decide_eq_true hj0
                have P3 := Lib.hid p3
                have HB' := Lib.hid hb'
                clear p0 p1 p2 p3 hx hb'
                by_cases hjm : j = m
                · have he1 : (F j 0 == F m 0) = true := by simp [hjm]
                  have he2 : (F j 0 != F m 0) = false := by simp [hjm]
                  have HZ := Lib.hid (show cyc1 F n m = some L by rw [← hcy.out, hjm, chk_hit])
                  clear hjm
                  go_wp2_with fail
                  go_big_quiet (fail)
                  go_wp2_with fail
                  go_big_quiet (fail)
                  go_wp2
                  go_ret
                  exact cycQ_of (by unfold cycle; rw [if_pos HD.out]; exact cycR_hit hF.out hlt HZ.out) (own_drewN (own_drewN ho _) _) (below_drewN (below_drewN hbq _) _)
                · have hne : F j 0 ≠ F m 0 := fun e => hjm (dist_inj HD.out hj hlt e)
                  have he1 : (F j 0 == F m 0) = false := by simpa using hne
                  have he2 : (F j 0 != F m 0) = true := by simpa using hne
                  have HZ := Lib.hid (show cyc F n m f j (L ++ [F j 0]) = cyc1 F n m by rw [← hcy.out, chk_on hjm])
                  clear hne hjm hcy
                  by_cases hf0 : f = 0
                  · have hL : ¬ (L.length ≤ n) := by omega
                    have HZ' := Lib.hid (show cyc1 F n m = none by rw [← HZ.out, hf0]; rfl)
                    have HF0 := Lib.hid hf0
                    clear hf0 HZ
                    go_wp2_with fail
                    go_big_quiet (fail)
                    go_wp2_with fail
                    go_big_quiet (fail)
                    go_wp2
                    go_roundw
                    case rel => exact ⟨m + 1, by omega, by go_num, below_drewN hbq _, none_snoc hF.out HZ'.out⟩
                    case measure => simp [intOf]; omega
                  · obtain ⟨f', rfl⟩ : ∃ f', f = f' + 1 := ⟨f - 1, by omega⟩
                    have HZ' := Lib.hid (show chk F n m f' (nxt F n j) (L ++ [F j 0]) = cyc1 F n m by rw [← HZ.out]; rfl)
                    have hL : L.length ≤ n := by omega
                    have HLF := Lib.hid hlf
                    clear hf0 HZ
                    go_wp2_with fail
                    go_big_quiet (fail)
                    have g0' : (wr.drewN nq).cell? ⟨b, off + j * 4, none⟩ = some (.int .i64 (F j 0)) := g0
                    have HO2 := Lib.hid (own_drewN ho nq)
                    have Y4 := Lib.hid (y3.drewN nq)
                    have HB4 := Lib.hid (below_drewN hbq nq)
                    have z4 : w.heap.size ≤ (wr.drewN nq).heap.size := zq
                    clear g0 ho y3 hbq q0 q1 q2 q3 zq ly
                    generalize wr.drewN nq = w2 at *
                    have NE := Lib.hid (own_box_ne HO2.out Y4.out (by decide))
                    go_wp2_with (at_builtin; refine wpList_append_own _ rfl _ _ 29 rfl w.heap.size 3 i0 (.int .i64 0) 1 8 Try.underlying29 hi0 iz0 iz1 iz2 rfl (by decide) _ _ _ rfl (HO2.out.alloc _) ⟨w2.heap.size, 0, none⟩ 1 1 [.int .i64 (F j 0)] rfl rfl ?c1 ?c2 ?c3 ?c4 ?c5 ?_)
                    case c1 => exact cell_one_new _ _ _
                    case c2 => intro u hu; simp at hu; subst hu; rfl
                    case c3 => unfold maxLen; omega
                    case c4 => omega
                    case c5 => simp; omega
                    intro v' w' hown' hgr _
                    have HB5 := Lib.hid ((HB4.out.alloc z4 (.cells #[.int .i64 (F j 0)] 3)).grown hgr (by simp; omega) (fun k e => (HO2.out.lt k e).1))
                    have Y5 := Lib.hid ((Y4.out.alloc (.cells #[.int .i64 (F j 0)] 3)).grown hgr (fun e => NE.out e.symm))
                    obtain ⟨A4, c4', rfl⟩ := own_slice hown'
                    have HO5 := Lib.hid (own_push hown' rfl)
                    have g3 := (HB5.out.cell (p := ⟨b, off + j * 4 + 3, none⟩) HB'.out).trans P3.out
                    have z5 := HB5.out.size
                    clear hown' hgr HO2 Y4 HB4 NE g0'
                    by_cases hjz : F j 3 = 0
                    · have hz3 : (F j 3 == 0) = true := by simp [hjz]
                      have HN := Lib.hid (nxt_zero (n := n) hjz)
                      clear hjz
                      go_wp2
                      go_roundw
                      case rel => exact ⟨L ++ [F j 0], -1, f', c4', A4, by simp, by go_num, by simpa using HO5.out, .inl rfl, by have := HLF.out; simp; omega, HB5.out, Y5.out, by rw [← HN.out]; exact HZ'.out⟩
                      case measure => simp [lenOf]; omega
                    · have hz3 : (F j 3 == 0) = false := by simp [hjz]
                      have HN := Lib.hid (nxt_at (n := n) hjz)
                      clear hjz
                      go_wp2_with (go_at_call 39; (with_reducible refine (HA.out (F j 3) _ HB5.out).mono ?_); rintro e w6 ⟨rfl, hb6⟩)
                      go_roundw
                      case rel => exact ⟨L ++ [F j 0], hAt F n (F j 3), f', c4', A4, by simp, rfl, by simpa using own_below HO5.out hb6, hAt_cases F n (F j 3), by have := HLF.out; simp; omega, HB5.out.trans (hb6.mono z5), Y5.out.kept hb6, by rw [← HN.out]; exact HZ'.out⟩
                      case measure => simp [lenOf]; omega
        · obtain rfl : m = n := by omega
          go_wp2
          go_ret
          exact cycQ_of (L := []) (by unfold cycle; rw [if_pos HD.out]; exact cycR_none hF.out) (World.ownsRow_nil _ _ _ _) hbw
end Go.Proofs.Ytoebibgkpmppdaa
