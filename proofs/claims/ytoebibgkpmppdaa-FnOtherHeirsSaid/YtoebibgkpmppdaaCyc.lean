/- Contracts of FindCycle, of the program and of the reference. -/
import Derived.Test.YtoebibgkpmppdaaHeirAt
import Derived.Test.YtoebibgkpmppdaaList
import Derived.Maps.AppendAt
namespace Go.Proofs.Ytoebibgkpmppdaa
open Go.RowKit

theorem chk_neg {F : Nat → Nat → Int} {n i f : Nat} {x : Int} {L : List Int} (h : x < 0) : chk F n i f x L = none := by unfold chk; rw [if_pos h]
theorem chk_hit {F : Nat → Nat → Int} {n i f : Nat} {L : List Int} : chk F n i f i L = some L := by unfold chk; rw [if_neg (by omega), if_pos rfl]
theorem chk_on {F : Nat → Nat → Int} {n i f j : Nat} {L : List Int} (h : j ≠ i) : chk F n i f j L = cyc F n i f j (L ++ [F j 0]) := by
  unfold chk
  rw [if_neg (by omega), if_neg (by omega), Int.toNat_natCast]
theorem nxt_zero {F : Nat → Nat → Int} {n k : Nat} (h : F k 3 = 0) : nxt F n k = -1 := by unfold nxt; rw [if_pos h]
theorem nxt_at {F : Nat → Nat → Int} {n k : Nat} (h : ¬ F k 3 = 0) : nxt F n k = hAt F n (F k 3) := by unfold nxt; rw [if_neg h]
theorem none_snoc {F : Nat → Nat → Int} {n m : Nat} (h : ∀ j, j < m → cyc1 F n j = none) (hp : cyc1 F n m = none) : ∀ j, j < m + 1 → cyc1 F n j = none := fun j hj => by
  rcases Nat.lt_or_ge j m with h1 | h1
  · exact h j h1
  · obtain rfl : j = m := by omega
    exact hp
def CycQ (F : Nat → Nat → Int) (n : Nat) (w : World) : Ending → World → Prop := IntsQ (cycle F n).length (fun i => (cycle F n).getD i 0) w
theorem cycQ_of {F : Nat → Nat → Int} {n : Nat} {L : List Int} {w w' : World} {v : Value} (e : cycle F n = L) (ho : w'.ownsRow w.heap.size 3 1 v L.length (L.map (Value.int .i64))) (hb : Below w.heap.size w w') : CycQ F n w (.returned v) w' := by
  subst e
  exact intsQ_list ho hb
set_option maxHeartbeats 4000000 in
theorem sfindCycle_any (A : Option Addr) (n cap : Nat) (F : Nat → Nat → Int) (w : World) (hn : n ≤ 1048576) (hr : Recs w 4 A n F) :
    Calls Try.prog 16 #[.slice A n cap] w (CycQ F n w) := by
  obtain ⟨i0, hi0, iz0, iz1, iz2⟩ := info_parts int_inf
  have HR := Lib.hid hr
  clear hr
  rcases Bool.eq_false_or_eq_true (distB F n) with s1 | s1
  · have HS := Lib.hid s1
    clear s1
    go_enter Try.func16, Try.ntmps16
    go_wp2_with fail
    go_loopw [3] (fun i wr => ∃ m : Nat, m ≤ n ∧ i = .int .i64 m ∧ Below w.heap.size w wr ∧ Hid (∀ j, j < m → cyc1 F n j = none)) (fun i _ => n - (intOf i).toNat)
    case atStart => exact ⟨0, Nat.zero_le _, rfl, Below.refl _ _, fun j hj => by omega⟩
    case round =>
      obtain ⟨m, hm, rfl, hbw, hF⟩ := hrel
      by_cases hlt : m < n
      · have hs := Lib.hid (fun w1 (h : Below w.heap.size w w1) => by have := distinct_any A n cap F w1 hn (HR.out.kept h); rw [HS.out] at this; exact this : ∀ w1, Below w.heap.size w w1 → Calls Try.prog 35 #[.slice A n cap] w1 fun e w' => e = .returned (.bool true) ∧ w1 = w')
        obtain ⟨b, off, e, hb, c0, c1, c2, c3⟩ := HR.out.at4 hlt
        have hmi : (m : Int) < (n : Int) := by omega
        have hm0 : (0 : Int) ≤ (m : Int) := by omega
        have d0 := (hbw.cell (p := ⟨b, off + m * 4, none⟩) hb).trans c0
        subst e
        have HB := Lib.hid hbw
        have zb := hbw.size
        clear c0 c1 c2 c3 hb hbw
        obtain ⟨wo, rfl⟩ : ∃ wo : World, wo = wr := ⟨_, rfl⟩
        go_wp2_with (go_at_call 35; (with_reducible refine (hs.out _ HB.out).mono ?_); rintro e w' ⟨rfl, rfl⟩)
        go_loopw [4, 5, 6] (fun v k c ws => ∃ (L : List Int) (q t : Nat), k = .int .i64 q ∧ c = .int .i64 t ∧ ws.ownsRow w.heap.size 3 1 v L.length (L.map (Value.int .i64)) ∧ q < n ∧ t ≤ n ∧ L.length = t + 1 ∧ Below w.heap.size w ws ∧ Hid (cyc F n m (n - t) q L = cyc1 F n m)) (fun _ _ c _ => n - (intOf c).toNat)
        case atStart => exact ⟨[F m 0], m, 0, rfl, rfl, own_one _ _ _ _ zb, hlt, Nat.zero_le _, rfl, HB.out.alloc zb _, rfl⟩
        case round =>
          obtain ⟨L, q, t, rfl, rfl, ho, hq, ht, hl, hbq, hcy⟩ := hrel
          have HC := Lib.hid hl
          by_cases htn : t < n
          · obtain ⟨f, hf⟩ : ∃ f, n - t = f + 1 := ⟨n - t - 1, by omega⟩
            have HCY := Lib.hid (show chk F n m f (nxt F n q) L = cyc1 F n m by rw [← hcy.out, hf]; rfl)
            obtain ⟨b', off', e, hb', p0, p1, p2, p3⟩ := HR.out.at4 hq
            cases e
            have g3 := (hbq.cell (p := ⟨b, off + q * 4 + 3, none⟩) hb').trans p3
            have hqi : (q : Int) < (n : Int) := by omega
            have hti : (t : Int) < (n : Int) := by omega
            clear p0 p1 p2 p3 hcy
            by_cases hz : F q 3 = 0
            · have hz2 : (F q 3 == 0) = true := by simp [hz]
              have HZ := Lib.hid (show cyc1 F n m = none by rw [← HCY.out, nxt_zero hz, chk_neg (by omega)])
              clear hz
              go_wp2
              go_roundw
              case rel => exact ⟨m + 1, by omega, by go_num, hbq, none_snoc hF.out HZ.out⟩
              case measure => simp [intOf]; omega
            · have hz2 : (F q 3 == 0) = false := by simp [hz]
              have HX := Lib.hid (nxt_at (n := n) hz)
              clear hz
              have HA := l19At_any (some ⟨b, off, none⟩) n cap F (F q 3) _ hn (HR.out.kept hbq)
              rcases hAt_cases F n (F q 3) with hx | ⟨j, hx, hj⟩
              · rw [hx] at HA
                have HZ := Lib.hid (show cyc1 F n m = none by rw [← HCY.out, HX.out, hx, chk_neg (by omega)])
                have HA := Lib.hid HA
                clear hx
                go_wp2_with (go_at_call 34; (with_reducible refine (HA.out).mono ?_); rintro e w' ⟨rfl, rfl⟩)
                go_roundw
                case rel => exact ⟨m + 1, by omega, by go_num, hbq, none_snoc hF.out HZ.out⟩
                case measure => simp [intOf]; omega
              · rw [hx] at HA
                have HA' := Lib.hid HA
                have HXJ := Lib.hid (HX.out.trans hx)
                clear hx HA HX
                by_cases hjm : j = m
                · have hj2 : ((j : Int) == (m : Int)) = true := by simp [hjm]
                  have HZ := Lib.hid (show cyc1 F n m = some L by rw [← HCY.out, HXJ.out, hjm, chk_hit])
                  clear hjm
                  go_wp2_with (go_at_call 34; (with_reducible refine (HA'.out).mono ?_); rintro e w' ⟨rfl, rfl⟩)
                  go_ret
                  exact cycQ_of (by unfold cycle; rw [if_pos HS.out]; exact cycR_hit hF.out hlt HZ.out) ho hbq
                · have hj2 : ((j : Int) == (m : Int)) = false := by simp; omega
                  have HZ := Lib.hid (show cyc F n m f j (L ++ [F j 0]) = cyc1 F n m by rw [← HCY.out, HXJ.out, chk_on hjm])
                  obtain ⟨b', off', e, hb', p0, p1, p2, p3⟩ := HR.out.at4 hj
                  cases e
                  have g0 := (hbq.cell (p := ⟨b, off + j * 4, none⟩) hb').trans p0
                  have hji : (j : Int) < (n : Int) := by omega
                  have HO := Lib.hid ho
                  have HBQ := Lib.hid hbq
                  have zq := hbq.size
                  clear p0 p1 p2 p3 hjm ho hbq
                  go_wp2_with (first | (go_at_call 34; (with_reducible refine (HA'.out).mono ?_); rintro e w' ⟨rfl, rfl⟩) | (at_builtin; refine wpList_append_own _ rfl _ _ 29 rfl w.heap.size 3 i0 (.int .i64 0) 1 8 Try.underlying29 hi0 iz0 iz1 iz2 rfl (by decide) _ _ _ rfl (HO.out.alloc _) ⟨wr.heap.size, 0, none⟩ 1 1 [.int .i64 (F j 0)] rfl rfl ?c1 ?c2 ?c3 ?c4 ?c5 ?_))
                  case c1 => exact cell_one_new _ _ _
                  case c2 => intro u hu; simp at hu; subst hu; rfl
                  case c3 => unfold maxLen; omega
                  case c4 => omega
                  case c5 => simp; omega
                  intro v' w' hown' hgr _
                  have HB' := Lib.hid ((HBQ.out.alloc zq (.cells #[.int .i64 (F j 0)] 3)).grown hgr (by simp; omega) (fun k e => (HO.out.lt k e).1))
                  have HO' := Lib.hid (own_push hown' (by rw [HC.out]))
                  clear hown' hgr
                  go_wp2
                  go_roundw
                  case rel => exact ⟨L ++ [F j 0], j, t + 1, rfl, by go_num, HO'.out, hj, by omega, by simp; exact HC.out, HB'.out, (by have e : n - (t + 1) = f := (by omega); rw [e]; exact HZ.out)⟩
                  case measure => simp [intOf]; omega
          · have htn' : t = n := by omega
            have HZ := Lib.hid (show cyc1 F n m = none by rw [← hcy.out, htn', Nat.sub_self]; rfl)
            have hti : ¬ (t : Int) < (n : Int) := by omega
            go_wp2
            go_roundw
            case rel => exact ⟨m + 1, by omega, by go_num, hbq, none_snoc hF.out HZ.out⟩
            case measure => simp [intOf]; omega
      · obtain rfl : m = n := by omega
        have zb := hbw.size
        go_wp2
        go_ret
        exact cycQ_of (L := []) (by unfold cycle; rw [if_pos HS.out]; exact cycR_none hF.out) (own_empty _ _ _ zb) (hbw.alloc zb _)
  · have e : cycle F n = [] := by simp [cycle, s1]
    have HE := Lib.hid e
    clear e
    go_enter Try.func16, Try.ntmps16
    go_wp2_with fail
    refine wp_loop_rounds 1 ?_
    rw [rounds_succ]
    by_cases hz : 0 < n
    · go_wp2_with (go_at_call 35; (with_reducible refine (distinct_any A n cap F _ hn HR.out).mono ?_); rintro e w' ⟨rfl, rfl⟩)
      go_ret
      exact cycQ_of HE.out (own_empty _ _ _ (Nat.le_refl _)) (by (repeat (first | with_reducible exact Below.refl _ _ | with_reducible refine Below.drew ?_ | (with_reducible refine Below.alloc ?_ ?hsz _; case hsz => ((try simp) <;> (try omega))) | (with_reducible refine Below.setCell ?_ ?hsz _; case hsz => ((try simp) <;> (try omega))) | (with_reducible refine below_step (by with_reducible assumption) ?hsz ?_; case hsz => ((try simp) <;> (try omega))))))
    · go_wp2
      go_ret
      exact cycQ_of HE.out (own_empty _ _ _ (Nat.le_refl _)) (by (repeat (first | with_reducible exact Below.refl _ _ | with_reducible refine Below.drew ?_ | (with_reducible refine Below.alloc ?_ ?hsz _; case hsz => ((try simp) <;> (try omega))) | (with_reducible refine Below.setCell ?_ ?hsz _; case hsz => ((try simp) <;> (try omega))) | (with_reducible refine below_step (by with_reducible assumption) ?hsz ?_; case hsz => ((try simp) <;> (try omega))))))
end Go.Proofs.Ytoebibgkpmppdaa
