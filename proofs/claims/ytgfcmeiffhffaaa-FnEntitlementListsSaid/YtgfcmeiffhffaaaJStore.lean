/- Contracts of StoreOk, of the program and of the reference. -/
import Derived.Deep.RegionHeld3
import Derived.Test.YtgfcmeiffhffaaaJRow
import Derived.Test.YtgfcmeiffhffaaaJFact
namespace Go.Proofs.Ytgfcmeiffhffaaa
open Go.RowKit

def factAt (F : Nat → Nat → Int) (i : Nat) : Bool := factB (F i 0) (F i 1) (F i 2) (F i 3) (F i 4)
/-- Fact i is right, and known no earlier than the one ahead of it. -/
def storeAt (F : Nat → Nat → Int) (i : Nat) : Bool := factAt F i && (decide (i = 0) || !decide (F i 3 < F (i - 1) 3))
def storeB (F : Nat → Nat → Int) (n : Nat) : Bool := allB (storeAt F) n && decide (n ≤ 200)
theorem storeB_bad {F : Nat → Nat → Int} {n m : Nat} (hm : m < n) (h : storeAt F m = false) : storeB F n = false := by simp [storeB, allB_false hm h]
theorem storeAll_snoc {p : Nat → Bool} {m : Nat} (h : ∀ i, i < m → p i = true) (hp : p m = true) : ∀ i, i < m + 1 → p i = true := fun i hi => by
  rcases Nat.lt_or_ge i m with h1 | h1
  · exact h i h1
  · obtain rfl : i = m := by omega
    exact hp

set_option maxRecDepth 100000 in
set_option maxHeartbeats 8000000 in
theorem storeOk_any (A : Option Addr) (n cap : Nat) (F : Nat → Nat → Int) (w : World) (hn : n ≤ 1048576) (hr : Recs w 5 A n F) :
    Calls Try.prog 43 #[.agg #[.slice A n cap]] w fun e w' => e = .returned (.bool (storeB F n)) ∧ Below w.heap.size w w' := by
  have HR := Lib.hid hr
  clear hr
  go_enter Try.func43, Try.ntmps43
  go_wp2_with fail
  go_loopw [8] (fun i wr => ∃ m : Nat, m ≤ n ∧ i = .int .i64 m ∧ Below w.heap.size w wr ∧ Box wr w.heap.size 53 #[.slice A n cap] ∧ Hid (∀ i, i < m → storeAt F i = true)) (fun i _ => n - (intOf i).toNat)
  case atStart => exact ⟨0, Nat.zero_le _, rfl, by (repeat (first | with_reducible exact Below.refl _ _ | with_reducible refine Below.drew ?_ | (with_reducible refine Below.alloc ?_ ?hsz _; case hsz => ((try simp) <;> (try omega))) | (with_reducible refine Below.setCell ?_ ?hsz _; case hsz => ((try simp) <;> (try omega))) | (with_reducible refine below_step (by with_reducible assumption) ?hsz ?_; case hsz => ((try simp) <;> (try omega))))), by (repeat (first | with_reducible assumption | with_reducible exact Box.made _ _ _ | (with_reducible refine Box.made_at ?hg; case hg => (simp; done)) | with_reducible refine Box.drew ?_ | with_reducible refine Box.alloc ?_ _ | (with_reducible refine Box.put2 (a := .int .i64 0) (b := .int .i64 0) ?_ _ _) | (with_reducible refine Box.far ?_ ?hg _; case hg => ((try simp) <;> (try omega))) | with_reducible refine Box.kept ?_ (by with_reducible assumption))), fun i hi => by omega⟩
  case round =>
    obtain ⟨m, hm, rfl, hbw, x1, hF⟩ := hrel
    have t1 := x1.cell 0
    have l1 := x1.lt
    have HB := Lib.hid hbw
    have X1 := Lib.hid x1
    have zb := hbw.size
    by_cases hlt : m < n
    · obtain ⟨b, off, e, hb, c0, c1, c2, c3, c4⟩ := HR.out.at5 hlt
      have d0 := (hbw.cell (p := ⟨b, off + m * 5, none⟩) hb).trans c0
      have d1 := (hbw.cell (p := ⟨b, off + m * 5 + 1, none⟩) hb).trans c1
      have d2 := (hbw.cell (p := ⟨b, off + m * 5 + 2, none⟩) hb).trans c2
      have d3 := (hbw.cell (p := ⟨b, off + m * 5 + 3, none⟩) hb).trans c3
      have d4 := (hbw.cell (p := ⟨b, off + m * 5 + 4, none⟩) hb).trans c4
      have lb : b < wr.heap.size := Nat.lt_of_lt_of_le hb zb
      have hmi : (m : Int) < (n : Int) := by omega
      have hm0 : (0 : Int) ≤ (m : Int) := by omega
      have HP := Lib.hid (fun k (hk : m = k + 1) => (by
        obtain ⟨b', off', e', hb', _, _, _, h3, _⟩ := HR.out.at5 (show k < n by omega)
        rw [e] at e'
        cases e'
        exact (hbw.cell (p := ⟨b, off + k * 5 + 3, none⟩) hb').trans h3 : wr.cell? ⟨b, off + k * 5 + 3, none⟩ = some (.int .i64 (F k 3))))
      subst e
      clear c0 c1 c2 c3 c4 hb hbw x1
      rcases Bool.eq_false_or_eq_true (factAt F m) with k1 | k1
      · by_cases hm1 : m = 0
        · subst hm1
          have K2 : factB (F 0 0) (F 0 1) (F 0 2) (F 0 3) (F 0 4) = true := k1
          have K3 := Lib.hid (show storeAt F 0 = true by simp only [storeAt, k1]; rfl)
          clear k1 HP
          simp only [Nat.zero_mul, Nat.add_zero] at d0 d1 d2 d3 d4
          go_wp2_with fail
          refine wp_region_held_drew (S := (fun w' => w'.cell? ⟨w.heap.size, 0, none⟩ = some (.slice (some ⟨b, off, none⟩) n cap) ∧ w'.cell? ⟨wr.heap.size, 0, none⟩ = some (.int .i64 (F 0 0)) ∧ w'.cell? ⟨wr.heap.size, 1, none⟩ = some (.int .i64 (F 0 1)) ∧ w'.cell? ⟨wr.heap.size, 2, none⟩ = some (.int .i64 (F 0 2)) ∧ w'.cell? ⟨wr.heap.size, 3, none⟩ = some (.int .i64 (F 0 3)) ∧ w'.cell? ⟨wr.heap.size, 4, none⟩ = some (.int .i64 (F 0 4)))) (by kernel_rfl) (by (try dsimp only); simp [go_sem, *]) (fun hHeld => ?_)
          refine wpAnyH_take (i := 0) (oi := ?oi0b) (v := ?v0b) ?hi0b (by kernel_rfl) (by kernel_rfl) (by kernel_rfl) ?hQ0b ?hy0b (by assumption) ?hh0b
          case hi0b => simp only [List.getElem?_toArray, List.getElem?_cons_zero]; rfl
          case hy0b =>
            refine Or.inl ⟨by rfl, ?_⟩
            intro w hSw
            (try dsimp only at hSw)
            go_simp
            all_goals with_reducible rfl
          case hQ0b => exact fun _ _ _ h => h
          try simp only [Act.put, List.setIfInBounds_toArray, List.set_cons_zero, List.set_cons_succ]
          refine wpAnyH_ready (rs := [1]) (by kernel_rfl) (by simp) ?_
          refine AllReadyH.cons (o := ?oo1b) ?ho1b (fun K hK => ?hs1b) AllReadyH.nil
          case ho1b => simp only [List.getElem?_toArray, List.getElem?_cons_succ, List.getElem?_cons_zero]; rfl
          go_simp
          go_at_call 74
          with_reducible refine (factOk_any (F 0 0) (F 0 1) (F 0 2) (F 0 3) (F 0 4) _).mono ?_
          rintro e wg ⟨rfl, hbg⟩
          rw [K2]
          obtain ⟨hcg, hfg⟩ := bcell hbg
          (try simp only [World.size_drew] at hcg hfg)
          have zg := hbg.size
          (try simp only [World.size_drew] at zg)
          refine hK.out _ _ (by (try dsimp only); simp [go_sem, *]) (fun hHeld => ?_)
          clear hK K
          try simp only [Act.put, List.setIfInBounds_toArray, List.set_cons_zero, List.set_cons_succ]
          refine wpAnyH_take (i := 2) (oi := ?oi2b) (v := ?v2b) ?hi2b (by kernel_rfl) (by kernel_rfl) (by kernel_rfl) ?hQ2b ?hy2b (by assumption) ?hh2b
          case hi2b => simp only [List.getElem?_toArray, List.getElem?_cons_succ, List.getElem?_cons_zero]; rfl
          case hy2b =>
            refine Or.inl ⟨by rfl, ?_⟩
            intro w hSw
            (try dsimp only at hSw)
            go_simp
            all_goals with_reducible rfl
          case hQ2b => exact fun _ _ _ h => h
          try simp only [Act.put, List.setIfInBounds_toArray, List.set_cons_zero, List.set_cons_succ]
          refine wpAnyH_take (i := 3) (oi := ?oi3b) (v := ?v3b) ?hi3b (by kernel_rfl) (by kernel_rfl) (by kernel_rfl) ?hQ3b ?hy3b (by assumption) ?hh3b
          case hi3b => simp only [List.getElem?_toArray, List.getElem?_cons_succ, List.getElem?_cons_zero]; rfl
          case hy3b =>
            refine Or.inl ⟨by rfl, ?_⟩
            intro w hSw
            (try dsimp only at hSw)
            go_simp
            all_goals with_reducible rfl
          case hQ3b => exact fun _ _ _ h => h
          try simp only [Act.put, List.setIfInBounds_toArray, List.set_cons_zero, List.set_cons_succ]
          refine wpAnyH_take (i := 4) (oi := ?oi4b) (v := ?v4b) ?hi4b (by kernel_rfl) (by kernel_rfl) (by kernel_rfl) ?hQ4b ?hy4b (by assumption) ?hh4b
          case hi4b => simp only [List.getElem?_toArray, List.getElem?_cons_succ, List.getElem?_cons_zero]; rfl
          case hy4b =>
            refine Or.inl ⟨by rfl, ?_⟩
            intro w hSw
            (try dsimp only at hSw)
            go_simp
            all_goals with_reducible rfl
          case hQ4b => exact fun _ _ _ h => h
          try simp only [Act.put, List.setIfInBounds_toArray, List.set_cons_zero, List.set_cons_succ]
          refine wpAnyH_take (i := 5) (oi := ?oi5b) (v := ?v5b) ?hi5b (by kernel_rfl) (by kernel_rfl) (by kernel_rfl) ?hQ5b ?hy5b (by assumption) ?hh5b
          case hi5b => simp only [List.getElem?_toArray, List.getElem?_cons_succ, List.getElem?_cons_zero]; rfl
          case hy5b =>
            refine Or.inl ⟨by rfl, ?_⟩
            intro w hSw
            (try dsimp only at hSw)
            go_simp
            all_goals with_reducible rfl
          case hQ5b => exact fun _ _ _ h => h
          try simp only [Act.put, List.setIfInBounds_toArray, List.set_cons_zero, List.set_cons_succ]
          refine wpAnyH_take (i := 6) (oi := ?oi6b) (v := ?v6b) ?hi6b (by kernel_rfl) (by kernel_rfl) (by kernel_rfl) ?hQ6b ?hy6b (by assumption) ?hh6b
          case hi6b => simp only [List.getElem?_toArray, List.getElem?_cons_succ, List.getElem?_cons_zero]; rfl
          case hy6b =>
            refine Or.inl ⟨by rfl, ?_⟩
            intro w hSw
            (try dsimp only at hSw)
            go_simp
            all_goals with_reducible rfl
          case hQ6b => exact fun _ _ _ h => h
          try simp only [Act.put, List.setIfInBounds_toArray, List.set_cons_zero, List.set_cons_succ]
          refine wpAnyH_take (i := 7) (oi := ?oi7b) (v := undef) ?hi7b (by kernel_rfl) (by kernel_rfl) (by kernel_rfl) ?hQ7b ?hy7b (by assumption) ?hh7b
          case hi7b => simp only [List.getElem?_toArray, List.getElem?_cons_succ, List.getElem?_cons_zero]; rfl
          case hy7b => exact Or.inr ⟨by rfl, rfl⟩
          case hQ7b => exact fun _ _ _ h => h
          try simp only [Act.put, List.setIfInBounds_toArray, List.set_cons_zero, List.set_cons_succ]
          refine wpAnyH_take (i := 8) (oi := ?oi8b) (v := undef) ?hi8b (by kernel_rfl) (by kernel_rfl) (by kernel_rfl) ?hQ8b ?hy8b (by assumption) ?hh8b
          case hi8b => simp only [List.getElem?_toArray, List.getElem?_cons_succ, List.getElem?_cons_zero]; rfl
          case hy8b => exact Or.inr ⟨by rfl, rfl⟩
          case hQ8b => exact fun _ _ _ h => h
          try simp only [Act.put, List.setIfInBounds_toArray, List.set_cons_zero, List.set_cons_succ]
          refine wpAnyH_take (i := 9) (oi := ?oi9b) (v := undef) ?hi9b (by kernel_rfl) (by kernel_rfl) (by kernel_rfl) ?hQ9b ?hy9b (by assumption) ?hh9b
          case hi9b => simp only [List.getElem?_toArray, List.getElem?_cons_succ, List.getElem?_cons_zero]; rfl
          case hy9b => exact Or.inr ⟨by rfl, rfl⟩
          case hQ9b => exact fun _ _ _ h => h
          try simp only [Act.put, List.setIfInBounds_toArray, List.set_cons_zero, List.set_cons_succ]
          refine wpAnyH_take (i := 10) (oi := ?oi10b) (v := undef) ?hi10b (by kernel_rfl) (by kernel_rfl) (by kernel_rfl) ?hQ10b ?hy10b (by assumption) ?hh10b
          case hi10b => simp only [List.getElem?_toArray, List.getElem?_cons_succ, List.getElem?_cons_zero]; rfl
          case hy10b => exact Or.inr ⟨by rfl, rfl⟩
          case hQ10b => exact fun _ _ _ h => h
          try simp only [Act.put, List.setIfInBounds_toArray, List.set_cons_zero, List.set_cons_succ]
          refine wpAnyH_take (i := 11) (oi := ?oi11b) (v := undef) ?hi11b (by kernel_rfl) (by kernel_rfl) (by kernel_rfl) ?hQ11b ?hy11b (by assumption) ?hh11b
          case hi11b => simp only [List.getElem?_toArray, List.getElem?_cons_succ, List.getElem?_cons_zero]; rfl
          case hy11b => exact Or.inr ⟨by rfl, rfl⟩
          case hQ11b => exact fun _ _ _ h => h
          try simp only [Act.put, List.setIfInBounds_toArray, List.set_cons_zero, List.set_cons_succ]
          refine wpAnyH_take (i := 12) (oi := ?oi12b) (v := undef) ?hi12b (by kernel_rfl) (by kernel_rfl) (by kernel_rfl) ?hQ12b ?hy12b (by assumption) ?hh12b
          case hi12b => simp only [List.getElem?_toArray, List.getElem?_cons_succ, List.getElem?_cons_zero]; rfl
          case hy12b => exact Or.inr ⟨by rfl, rfl⟩
          case hQ12b => exact fun _ _ _ h => h
          try simp only [Act.put, List.setIfInBounds_toArray, List.set_cons_zero, List.set_cons_succ]
          refine wpAnyH_take (i := 13) (oi := ?oi13b) (v := undef) ?hi13b (by kernel_rfl) (by kernel_rfl) (by kernel_rfl) ?hQ13b ?hy13b (by assumption) ?hh13b
          case hi13b => simp only [List.getElem?_toArray, List.getElem?_cons_succ, List.getElem?_cons_zero]; rfl
          case hy13b => exact Or.inr ⟨by rfl, rfl⟩
          case hQ13b => exact fun _ _ _ h => h
          try simp only [Act.put, List.setIfInBounds_toArray, List.set_cons_zero, List.set_cons_succ]
          refine wpAnyH_take (i := 14) (oi := ?oi14b) (v := undef) ?hi14b (by kernel_rfl) (by kernel_rfl) (by kernel_rfl) ?hQ14b ?hy14b (by assumption) ?hh14b
          case hi14b => simp only [List.getElem?_toArray, List.getElem?_cons_succ, List.getElem?_cons_zero]; rfl
          case hy14b => exact Or.inr ⟨by rfl, rfl⟩
          case hQ14b => exact fun _ _ _ h => h
          try simp only [Act.put, List.setIfInBounds_toArray, List.set_cons_zero, List.set_cons_succ]
          refine wpAnyH_take (i := 15) (oi := ?oi15b) (v := undef) ?hi15b (by kernel_rfl) (by kernel_rfl) (by kernel_rfl) ?hQ15b ?hy15b (by assumption) ?hh15b
          case hi15b => simp only [List.getElem?_toArray, List.getElem?_cons_succ, List.getElem?_cons_zero]; rfl
          case hy15b => exact Or.inr ⟨by rfl, rfl⟩
          case hQ15b => exact fun _ _ _ h => h
          try simp only [Act.put, List.setIfInBounds_toArray, List.set_cons_zero, List.set_cons_succ]
          refine wpAnyH_take (i := 16) (oi := ?oi16b) (v := undef) ?hi16b (by kernel_rfl) (by kernel_rfl) (by kernel_rfl) ?hQ16b ?hy16b (by assumption) ?hh16b
          case hi16b => simp only [List.getElem?_toArray, List.getElem?_cons_succ, List.getElem?_cons_zero]; rfl
          case hy16b => exact Or.inr ⟨by rfl, rfl⟩
          case hQ16b => exact fun _ _ _ h => h
          try simp only [Act.put, List.setIfInBounds_toArray, List.set_cons_zero, List.set_cons_succ]
          refine wpAnyH_take (i := 17) (oi := ?oi17b) (v := ?v17b) ?hi17b (by kernel_rfl) (by kernel_rfl) (by kernel_rfl) ?hQ17b ?hy17b (by assumption) ?hh17b
          case hi17b => simp only [List.getElem?_toArray, List.getElem?_cons_succ, List.getElem?_cons_zero]; rfl
          case hy17b =>
            refine Or.inl ⟨by rfl, ?_⟩
            intro w hSw
            (try dsimp only at hSw)
            go_simp
            all_goals with_reducible rfl
          case hQ17b => exact fun _ _ _ h => h
          try simp only [Act.put, List.setIfInBounds_toArray, List.set_cons_zero, List.set_cons_succ]
          refine wpAnyH_take (i := 18) (oi := ?oi18b) (v := ?v18b) ?hi18b (by kernel_rfl) (by kernel_rfl) (by kernel_rfl) ?hQ18b ?hy18b (by assumption) ?hh18b
          case hi18b => simp only [List.getElem?_toArray, List.getElem?_cons_succ, List.getElem?_cons_zero]; rfl
          case hy18b =>
            refine Or.inl ⟨by rfl, ?_⟩
            intro w hSw
            (try dsimp only at hSw)
            go_simp
            all_goals with_reducible rfl
          case hQ18b => exact fun _ _ _ h => h
          try simp only [Act.put, List.setIfInBounds_toArray, List.set_cons_zero, List.set_cons_succ]
          refine wpAnyH_done (by kernel_rfl) ?_ _
          have hbx : Below w.heap.size w wg := ((HB.out.alloc zb (.cells #[.int .i64 (F 0 0), .int .i64 (F 0 1), .int .i64 (F 0 2), .int .i64 (F 0 3), .int .i64 (F 0 4)] 124)).drew).trans (hbg.mono (by simp; omega))
          have X2 := Lib.hid (((X1.out.alloc _).drew).kept hbg)
          clear hcg hfg hbg
          go_wp2_with fail
          go_roundw
          case rel => exact ⟨0 + 1, by omega, by go_num, hbx, X2.out, storeAll_snoc hF.out K3.out⟩
          case measure => simp [intOf]; omega
        · obtain ⟨k, rfl⟩ : ∃ k, m = k + 1 := ⟨m - 1, by omega⟩
          have pk := HP.out k rfl
          have K2 : factB (F (k + 1) 0) (F (k + 1) 1) (F (k + 1) 2) (F (k + 1) 3) (F (k + 1) 4) = true := k1
          have hw : IntKind.i64.wrap (((k + 1 : Nat) : Int) - 1) = (k : Int) := by rw [IntKind.wrap_i64]; omega
          have hw' : IntKind.i64.wrap (k : Int) = (k : Int) := by rw [IntKind.wrap_i64]; omega
          have hk1 : (0 : Int) ≤ (k : Int) + 1 := by omega
          have hk2 : (k : Int) + 1 < (n : Int) := by omega
          have hz : decide (0 < k + 1) = true := by simp
          have hki : (k : Int) < (n : Int) := by omega
          have hk0 : (0 : Int) ≤ (k : Int) := by omega
          rcases Bool.eq_false_or_eq_true (decide (F (k + 1) 3 < F k 3)) with k3 | k3
          · have K3 := Lib.hid (show storeAt F (k + 1) = false by simp only [storeAt, k1, Nat.add_sub_cancel, k3]; rfl)
            clear k1 HP hm1
            go_wp2_with fail
            refine wp_region_held_drew (S := (fun w' => w'.cell? ⟨w.heap.size, 0, none⟩ = some (.slice (some ⟨b, off, none⟩) n cap) ∧ w'.cell? ⟨wr.heap.size, 0, none⟩ = some (.int .i64 (F (k + 1) 0)) ∧ w'.cell? ⟨wr.heap.size, 1, none⟩ = some (.int .i64 (F (k + 1) 1)) ∧ w'.cell? ⟨wr.heap.size, 2, none⟩ = some (.int .i64 (F (k + 1) 2)) ∧ w'.cell? ⟨wr.heap.size, 3, none⟩ = some (.int .i64 (F (k + 1) 3)) ∧ w'.cell? ⟨wr.heap.size, 4, none⟩ = some (.int .i64 (F (k + 1) 4)) ∧ w'.cell? ⟨b, off + k * 5 + 3, none⟩ = some (.int .i64 (F k 3)))) (by kernel_rfl) (by (try dsimp only); simp [go_sem, *]) (fun hHeld => ?_)
            refine wpAnyH_take (i := 0) (oi := ?oi0d) (v := ?v0d) ?hi0d (by kernel_rfl) (by kernel_rfl) (by kernel_rfl) ?hQ0d ?hy0d (by assumption) ?hh0d
            case hi0d => simp only [List.getElem?_toArray, List.getElem?_cons_zero]; rfl
            case hy0d =>
              refine Or.inl ⟨by rfl, ?_⟩
              intro w hSw
              (try dsimp only at hSw)
              go_simp
              all_goals with_reducible rfl
            case hQ0d => exact fun _ _ _ h => h
            try simp only [Act.put, List.setIfInBounds_toArray, List.set_cons_zero, List.set_cons_succ]
            refine wpAnyH_ready (rs := [1]) (by kernel_rfl) (by simp) ?_
            refine AllReadyH.cons (o := ?oo1d) ?ho1d (fun K hK => ?hs1d) AllReadyH.nil
            case ho1d => simp only [List.getElem?_toArray, List.getElem?_cons_succ, List.getElem?_cons_zero]; rfl
            go_simp
            go_at_call 74
            with_reducible refine (factOk_any (F (k + 1) 0) (F (k + 1) 1) (F (k + 1) 2) (F (k + 1) 3) (F (k + 1) 4) _).mono ?_
            rintro e wg ⟨rfl, hbg⟩
            rw [K2]
            obtain ⟨hcg, hfg⟩ := bcell hbg
            (try simp only [World.size_drew] at hcg hfg)
            have zg := hbg.size
            (try simp only [World.size_drew] at zg)
            refine hK.out _ _ (by (try dsimp only); simp [go_sem, *]) (fun hHeld => ?_)
            clear hK K
            try simp only [Act.put, List.setIfInBounds_toArray, List.set_cons_zero, List.set_cons_succ]
            refine wpAnyH_take (i := 2) (oi := ?oi2d) (v := ?v2d) ?hi2d (by kernel_rfl) (by kernel_rfl) (by kernel_rfl) ?hQ2d ?hy2d (by assumption) ?hh2d
            case hi2d => simp only [List.getElem?_toArray, List.getElem?_cons_succ, List.getElem?_cons_zero]; rfl
            case hy2d =>
              refine Or.inl ⟨by rfl, ?_⟩
              intro w hSw
              (try dsimp only at hSw)
              go_simp
              all_goals with_reducible rfl
            case hQ2d => exact fun _ _ _ h => h
            try simp only [Act.put, List.setIfInBounds_toArray, List.set_cons_zero, List.set_cons_succ]
            refine wpAnyH_take (i := 3) (oi := ?oi3d) (v := ?v3d) ?hi3d (by kernel_rfl) (by kernel_rfl) (by kernel_rfl) ?hQ3d ?hy3d (by assumption) ?hh3d
            case hi3d => simp only [List.getElem?_toArray, List.getElem?_cons_succ, List.getElem?_cons_zero]; rfl
            case hy3d =>
              refine Or.inl ⟨by rfl, ?_⟩
              intro w hSw
              (try dsimp only at hSw)
              go_simp
              all_goals with_reducible rfl
            case hQ3d => exact fun _ _ _ h => h
            try simp only [Act.put, List.setIfInBounds_toArray, List.set_cons_zero, List.set_cons_succ]
            refine wpAnyH_take (i := 4) (oi := ?oi4d) (v := ?v4d) ?hi4d (by kernel_rfl) (by kernel_rfl) (by kernel_rfl) ?hQ4d ?hy4d (by assumption) ?hh4d
            case hi4d => simp only [List.getElem?_toArray, List.getElem?_cons_succ, List.getElem?_cons_zero]; rfl
            case hy4d =>
              refine Or.inl ⟨by rfl, ?_⟩
              intro w hSw
              (try dsimp only at hSw)
              go_simp
              all_goals with_reducible rfl
            case hQ4d => exact fun _ _ _ h => h
            try simp only [Act.put, List.setIfInBounds_toArray, List.set_cons_zero, List.set_cons_succ]
            refine wpAnyH_take (i := 5) (oi := ?oi5d) (v := ?v5d) ?hi5d (by kernel_rfl) (by kernel_rfl) (by kernel_rfl) ?hQ5d ?hy5d (by assumption) ?hh5d
            case hi5d => simp only [List.getElem?_toArray, List.getElem?_cons_succ, List.getElem?_cons_zero]; rfl
            case hy5d =>
              refine Or.inl ⟨by rfl, ?_⟩
              intro w hSw
              (try dsimp only at hSw)
              go_simp
              all_goals with_reducible rfl
            case hQ5d => exact fun _ _ _ h => h
            try simp only [Act.put, List.setIfInBounds_toArray, List.set_cons_zero, List.set_cons_succ]
            refine wpAnyH_take (i := 6) (oi := ?oi6d) (v := ?v6d) ?hi6d (by kernel_rfl) (by kernel_rfl) (by kernel_rfl) ?hQ6d ?hy6d (by assumption) ?hh6d
            case hi6d => simp only [List.getElem?_toArray, List.getElem?_cons_succ, List.getElem?_cons_zero]; rfl
            case hy6d =>
              refine Or.inl ⟨by rfl, ?_⟩
              intro w hSw
              (try dsimp only at hSw)
              go_simp
              all_goals with_reducible rfl
            case hQ6d => exact fun _ _ _ h => h
            try simp only [Act.put, List.setIfInBounds_toArray, List.set_cons_zero, List.set_cons_succ]
            refine wpAnyH_take (i := 7) (oi := ?oi7d) (v := ?v7d) ?hi7d (by kernel_rfl) (by kernel_rfl) (by kernel_rfl) ?hQ7d ?hy7d (by assumption) ?hh7d
            case hi7d => simp only [List.getElem?_toArray, List.getElem?_cons_succ, List.getElem?_cons_zero]; rfl
            case hy7d =>
              refine Or.inl ⟨by rfl, ?_⟩
              intro w hSw
              (try dsimp only at hSw)
              go_simp
              all_goals with_reducible rfl
            case hQ7d => exact fun _ _ _ h => h
            try simp only [Act.put, List.setIfInBounds_toArray, List.set_cons_zero, List.set_cons_succ]
            refine wpAnyH_take (i := 8) (oi := ?oi8d) (v := ?v8d) ?hi8d (by kernel_rfl) (by kernel_rfl) (by kernel_rfl) ?hQ8d ?hy8d (by assumption) ?hh8d
            case hi8d => simp only [List.getElem?_toArray, List.getElem?_cons_succ, List.getElem?_cons_zero]; rfl
            case hy8d =>
              refine Or.inl ⟨by rfl, ?_⟩
              intro w hSw
              (try dsimp only at hSw)
              go_simp
              all_goals with_reducible rfl
            case hQ8d => exact fun _ _ _ h => h
            try simp only [Act.put, List.setIfInBounds_toArray, List.set_cons_zero, List.set_cons_succ]
            refine wpAnyH_take (i := 9) (oi := ?oi9d) (v := ?v9d) ?hi9d (by kernel_rfl) (by kernel_rfl) (by kernel_rfl) ?hQ9d ?hy9d (by assumption) ?hh9d
            case hi9d => simp only [List.getElem?_toArray, List.getElem?_cons_succ, List.getElem?_cons_zero]; rfl
            case hy9d =>
              refine Or.inl ⟨by rfl, ?_⟩
              intro w hSw
              (try dsimp only at hSw)
              go_simp
              all_goals with_reducible rfl
            case hQ9d => exact fun _ _ _ h => h
            try simp only [Act.put, List.setIfInBounds_toArray, List.set_cons_zero, List.set_cons_succ]
            refine wpAnyH_take (i := 10) (oi := ?oi10d) (v := ?v10d) ?hi10d (by kernel_rfl) (by kernel_rfl) (by kernel_rfl) ?hQ10d ?hy10d (by assumption) ?hh10d
            case hi10d => simp only [List.getElem?_toArray, List.getElem?_cons_succ, List.getElem?_cons_zero]; rfl
            case hy10d =>
              refine Or.inl ⟨by rfl, ?_⟩
              intro w hSw
              (try dsimp only at hSw)
              go_simp
              all_goals with_reducible rfl
            case hQ10d => exact fun _ _ _ h => h
            try simp only [Act.put, List.setIfInBounds_toArray, List.set_cons_zero, List.set_cons_succ]
            refine wpAnyH_take (i := 11) (oi := ?oi11d) (v := ?v11d) ?hi11d (by kernel_rfl) (by kernel_rfl) (by kernel_rfl) ?hQ11d ?hy11d (by assumption) ?hh11d
            case hi11d => simp only [List.getElem?_toArray, List.getElem?_cons_succ, List.getElem?_cons_zero]; rfl
            case hy11d =>
              refine Or.inl ⟨by rfl, ?_⟩
              intro w hSw
              (try dsimp only at hSw)
              go_simp
              all_goals with_reducible rfl
            case hQ11d => exact fun _ _ _ h => h
            try simp only [Act.put, List.setIfInBounds_toArray, List.set_cons_zero, List.set_cons_succ]
            refine wpAnyH_take (i := 12) (oi := ?oi12d) (v := ?v12d) ?hi12d (by kernel_rfl) (by kernel_rfl) (by kernel_rfl) ?hQ12d ?hy12d (by assumption) ?hh12d
            case hi12d => simp only [List.getElem?_toArray, List.getElem?_cons_succ, List.getElem?_cons_zero]; rfl
            case hy12d =>
              refine Or.inl ⟨by rfl, ?_⟩
              intro w hSw
              (try dsimp only at hSw)
              go_simp
              all_goals with_reducible rfl
            case hQ12d => exact fun _ _ _ h => h
            try simp only [Act.put, List.setIfInBounds_toArray, List.set_cons_zero, List.set_cons_succ]
            refine wpAnyH_take (i := 13) (oi := ?oi13d) (v := ?v13d) ?hi13d (by kernel_rfl) (by kernel_rfl) (by kernel_rfl) ?hQ13d ?hy13d (by assumption) ?hh13d
            case hi13d => simp only [List.getElem?_toArray, List.getElem?_cons_succ, List.getElem?_cons_zero]; rfl
            case hy13d =>
              refine Or.inl ⟨by rfl, ?_⟩
              intro w hSw
              (try dsimp only at hSw)
              go_simp
              all_goals with_reducible rfl
            case hQ13d => exact fun _ _ _ h => h
            try simp only [Act.put, List.setIfInBounds_toArray, List.set_cons_zero, List.set_cons_succ]
            refine wpAnyH_take (i := 14) (oi := ?oi14d) (v := ?v14d) ?hi14d (by kernel_rfl) (by kernel_rfl) (by kernel_rfl) ?hQ14d ?hy14d (by assumption) ?hh14d
            case hi14d => simp only [List.getElem?_toArray, List.getElem?_cons_succ, List.getElem?_cons_zero]; rfl
            case hy14d =>
              refine Or.inl ⟨by rfl, ?_⟩
              intro w hSw
              (try dsimp only at hSw)
              go_simp
              all_goals with_reducible rfl
            case hQ14d => exact fun _ _ _ h => h
            try simp only [Act.put, List.setIfInBounds_toArray, List.set_cons_zero, List.set_cons_succ]
            refine wpAnyH_take (i := 15) (oi := ?oi15d) (v := ?v15d) ?hi15d (by kernel_rfl) (by kernel_rfl) (by kernel_rfl) ?hQ15d ?hy15d (by assumption) ?hh15d
            case hi15d => simp only [List.getElem?_toArray, List.getElem?_cons_succ, List.getElem?_cons_zero]; rfl
            case hy15d =>
              refine Or.inl ⟨by rfl, ?_⟩
              intro w hSw
              (try dsimp only at hSw)
              go_simp
              all_goals with_reducible rfl
            case hQ15d => exact fun _ _ _ h => h
            try simp only [Act.put, List.setIfInBounds_toArray, List.set_cons_zero, List.set_cons_succ]
            refine wpAnyH_take (i := 16) (oi := ?oi16d) (v := ?v16d) ?hi16d (by kernel_rfl) (by kernel_rfl) (by kernel_rfl) ?hQ16d ?hy16d (by assumption) ?hh16d
            case hi16d => simp only [List.getElem?_toArray, List.getElem?_cons_succ, List.getElem?_cons_zero]; rfl
            case hy16d =>
              refine Or.inl ⟨by rfl, ?_⟩
              intro w hSw
              (try dsimp only at hSw)
              go_simp
              all_goals with_reducible rfl
            case hQ16d => exact fun _ _ _ h => h
            try simp only [Act.put, List.setIfInBounds_toArray, List.set_cons_zero, List.set_cons_succ]
            refine wpAnyH_take (i := 17) (oi := ?oi17d) (v := ?v17d) ?hi17d (by kernel_rfl) (by kernel_rfl) (by kernel_rfl) ?hQ17d ?hy17d (by assumption) ?hh17d
            case hi17d => simp only [List.getElem?_toArray, List.getElem?_cons_succ, List.getElem?_cons_zero]; rfl
            case hy17d =>
              refine Or.inl ⟨by rfl, ?_⟩
              intro w hSw
              (try dsimp only at hSw)
              go_simp
              all_goals with_reducible rfl
            case hQ17d => exact fun _ _ _ h => h
            try simp only [Act.put, List.setIfInBounds_toArray, List.set_cons_zero, List.set_cons_succ]
            refine wpAnyH_take (i := 18) (oi := ?oi18d) (v := ?v18d) ?hi18d (by kernel_rfl) (by kernel_rfl) (by kernel_rfl) ?hQ18d ?hy18d (by assumption) ?hh18d
            case hi18d => simp only [List.getElem?_toArray, List.getElem?_cons_succ, List.getElem?_cons_zero]; rfl
            case hy18d =>
              refine Or.inl ⟨by rfl, ?_⟩
              intro w hSw
              (try dsimp only at hSw)
              go_simp
              all_goals with_reducible rfl
            case hQ18d => exact fun _ _ _ h => h
            try simp only [Act.put, List.setIfInBounds_toArray, List.set_cons_zero, List.set_cons_succ]
            refine wpAnyH_done (by kernel_rfl) ?_ _
            have hbx : Below w.heap.size w wg := ((HB.out.alloc zb (.cells #[.int .i64 (F (k + 1) 0), .int .i64 (F (k + 1) 1), .int .i64 (F (k + 1) 2), .int .i64 (F (k + 1) 3), .int .i64 (F (k + 1) 4)] 124)).drew).trans (hbg.mono (by simp; omega))
            clear hcg hfg hbg
            go_wp2_with fail
            go_ret
            exact ⟨ret_bool (storeB_bad hlt K3.out).symm, hbx⟩
          · have K3 := Lib.hid (show storeAt F (k + 1) = true by simp only [storeAt, k1, Nat.add_sub_cancel, k3]; rfl)
            clear k1 HP hm1
            go_wp2_with fail
            refine wp_region_held_drew (S := (fun w' => w'.cell? ⟨w.heap.size, 0, none⟩ = some (.slice (some ⟨b, off, none⟩) n cap) ∧ w'.cell? ⟨wr.heap.size, 0, none⟩ = some (.int .i64 (F (k + 1) 0)) ∧ w'.cell? ⟨wr.heap.size, 1, none⟩ = some (.int .i64 (F (k + 1) 1)) ∧ w'.cell? ⟨wr.heap.size, 2, none⟩ = some (.int .i64 (F (k + 1) 2)) ∧ w'.cell? ⟨wr.heap.size, 3, none⟩ = some (.int .i64 (F (k + 1) 3)) ∧ w'.cell? ⟨wr.heap.size, 4, none⟩ = some (.int .i64 (F (k + 1) 4)) ∧ w'.cell? ⟨b, off + k * 5 + 3, none⟩ = some (.int .i64 (F k 3)))) (by kernel_rfl) (by (try dsimp only); simp [go_sem, *]) (fun hHeld => ?_)
            refine wpAnyH_take (i := 0) (oi := ?oi0c) (v := ?v0c) ?hi0c (by kernel_rfl) (by kernel_rfl) (by kernel_rfl) ?hQ0c ?hy0c (by assumption) ?hh0c
            case hi0c => simp only [List.getElem?_toArray, List.getElem?_cons_zero]; rfl
            case hy0c =>
              refine Or.inl ⟨by rfl, ?_⟩
              intro w hSw
              (try dsimp only at hSw)
              go_simp
              all_goals with_reducible rfl
            case hQ0c => exact fun _ _ _ h => h
            try simp only [Act.put, List.setIfInBounds_toArray, List.set_cons_zero, List.set_cons_succ]
            refine wpAnyH_ready (rs := [1]) (by kernel_rfl) (by simp) ?_
            refine AllReadyH.cons (o := ?oo1c) ?ho1c (fun K hK => ?hs1c) AllReadyH.nil
            case ho1c => simp only [List.getElem?_toArray, List.getElem?_cons_succ, List.getElem?_cons_zero]; rfl
            go_simp
            go_at_call 74
            with_reducible refine (factOk_any (F (k + 1) 0) (F (k + 1) 1) (F (k + 1) 2) (F (k + 1) 3) (F (k + 1) 4) _).mono ?_
            rintro e wg ⟨rfl, hbg⟩
            rw [K2]
            obtain ⟨hcg, hfg⟩ := bcell hbg
            (try simp only [World.size_drew] at hcg hfg)
            have zg := hbg.size
            (try simp only [World.size_drew] at zg)
            refine hK.out _ _ (by (try dsimp only); simp [go_sem, *]) (fun hHeld => ?_)
            clear hK K
            try simp only [Act.put, List.setIfInBounds_toArray, List.set_cons_zero, List.set_cons_succ]
            refine wpAnyH_take (i := 2) (oi := ?oi2c) (v := ?v2c) ?hi2c (by kernel_rfl) (by kernel_rfl) (by kernel_rfl) ?hQ2c ?hy2c (by assumption) ?hh2c
            case hi2c => simp only [List.getElem?_toArray, List.getElem?_cons_succ, List.getElem?_cons_zero]; rfl
            case hy2c =>
              refine Or.inl ⟨by rfl, ?_⟩
              intro w hSw
              (try dsimp only at hSw)
              go_simp
              all_goals with_reducible rfl
            case hQ2c => exact fun _ _ _ h => h
            try simp only [Act.put, List.setIfInBounds_toArray, List.set_cons_zero, List.set_cons_succ]
            refine wpAnyH_take (i := 3) (oi := ?oi3c) (v := ?v3c) ?hi3c (by kernel_rfl) (by kernel_rfl) (by kernel_rfl) ?hQ3c ?hy3c (by assumption) ?hh3c
            case hi3c => simp only [List.getElem?_toArray, List.getElem?_cons_succ, List.getElem?_cons_zero]; rfl
            case hy3c =>
              refine Or.inl ⟨by rfl, ?_⟩
              intro w hSw
              (try dsimp only at hSw)
              go_simp
              all_goals with_reducible rfl
            case hQ3c => exact fun _ _ _ h => h
            try simp only [Act.put, List.setIfInBounds_toArray, List.set_cons_zero, List.set_cons_succ]
            refine wpAnyH_take (i := 4) (oi := ?oi4c) (v := ?v4c) ?hi4c (by kernel_rfl) (by kernel_rfl) (by kernel_rfl) ?hQ4c ?hy4c (by assumption) ?hh4c
            case hi4c => simp only [List.getElem?_toArray, List.getElem?_cons_succ, List.getElem?_cons_zero]; rfl
            case hy4c =>
              refine Or.inl ⟨by rfl, ?_⟩
              intro w hSw
              (try dsimp only at hSw)
              go_simp
              all_goals with_reducible rfl
            case hQ4c => exact fun _ _ _ h => h
            try simp only [Act.put, List.setIfInBounds_toArray, List.set_cons_zero, List.set_cons_succ]
            refine wpAnyH_take (i := 5) (oi := ?oi5c) (v := ?v5c) ?hi5c (by kernel_rfl) (by kernel_rfl) (by kernel_rfl) ?hQ5c ?hy5c (by assumption) ?hh5c
            case hi5c => simp only [List.getElem?_toArray, List.getElem?_cons_succ, List.getElem?_cons_zero]; rfl
            case hy5c =>
              refine Or.inl ⟨by rfl, ?_⟩
              intro w hSw
              (try dsimp only at hSw)
              go_simp
              all_goals with_reducible rfl
            case hQ5c => exact fun _ _ _ h => h
            try simp only [Act.put, List.setIfInBounds_toArray, List.set_cons_zero, List.set_cons_succ]
            refine wpAnyH_take (i := 6) (oi := ?oi6c) (v := ?v6c) ?hi6c (by kernel_rfl) (by kernel_rfl) (by kernel_rfl) ?hQ6c ?hy6c (by assumption) ?hh6c
            case hi6c => simp only [List.getElem?_toArray, List.getElem?_cons_succ, List.getElem?_cons_zero]; rfl
            case hy6c =>
              refine Or.inl ⟨by rfl, ?_⟩
              intro w hSw
              (try dsimp only at hSw)
              go_simp
              all_goals with_reducible rfl
            case hQ6c => exact fun _ _ _ h => h
            try simp only [Act.put, List.setIfInBounds_toArray, List.set_cons_zero, List.set_cons_succ]
            refine wpAnyH_take (i := 7) (oi := ?oi7c) (v := ?v7c) ?hi7c (by kernel_rfl) (by kernel_rfl) (by kernel_rfl) ?hQ7c ?hy7c (by assumption) ?hh7c
            case hi7c => simp only [List.getElem?_toArray, List.getElem?_cons_succ, List.getElem?_cons_zero]; rfl
            case hy7c =>
              refine Or.inl ⟨by rfl, ?_⟩
              intro w hSw
              (try dsimp only at hSw)
              go_simp
              all_goals with_reducible rfl
            case hQ7c => exact fun _ _ _ h => h
            try simp only [Act.put, List.setIfInBounds_toArray, List.set_cons_zero, List.set_cons_succ]
            refine wpAnyH_take (i := 8) (oi := ?oi8c) (v := ?v8c) ?hi8c (by kernel_rfl) (by kernel_rfl) (by kernel_rfl) ?hQ8c ?hy8c (by assumption) ?hh8c
            case hi8c => simp only [List.getElem?_toArray, List.getElem?_cons_succ, List.getElem?_cons_zero]; rfl
            case hy8c =>
              refine Or.inl ⟨by rfl, ?_⟩
              intro w hSw
              (try dsimp only at hSw)
              go_simp
              all_goals with_reducible rfl
            case hQ8c => exact fun _ _ _ h => h
            try simp only [Act.put, List.setIfInBounds_toArray, List.set_cons_zero, List.set_cons_succ]
            refine wpAnyH_take (i := 9) (oi := ?oi9c) (v := ?v9c) ?hi9c (by kernel_rfl) (by kernel_rfl) (by kernel_rfl) ?hQ9c ?hy9c (by assumption) ?hh9c
            case hi9c => simp only [List.getElem?_toArray, List.getElem?_cons_succ, List.getElem?_cons_zero]; rfl
            case hy9c =>
              refine Or.inl ⟨by rfl, ?_⟩
              intro w hSw
              (try dsimp only at hSw)
              go_simp
              all_goals with_reducible rfl
            case hQ9c => exact fun _ _ _ h => h
            try simp only [Act.put, List.setIfInBounds_toArray, List.set_cons_zero, List.set_cons_succ]
            refine wpAnyH_take (i := 10) (oi := ?oi10c) (v := ?v10c) ?hi10c (by kernel_rfl) (by kernel_rfl) (by kernel_rfl) ?hQ10c ?hy10c (by assumption) ?hh10c
            case hi10c => simp only [List.getElem?_toArray, List.getElem?_cons_succ, List.getElem?_cons_zero]; rfl
            case hy10c =>
              refine Or.inl ⟨by rfl, ?_⟩
              intro w hSw
              (try dsimp only at hSw)
              go_simp
              all_goals with_reducible rfl
            case hQ10c => exact fun _ _ _ h => h
            try simp only [Act.put, List.setIfInBounds_toArray, List.set_cons_zero, List.set_cons_succ]
            refine wpAnyH_take (i := 11) (oi := ?oi11c) (v := ?v11c) ?hi11c (by kernel_rfl) (by kernel_rfl) (by kernel_rfl) ?hQ11c ?hy11c (by assumption) ?hh11c
            case hi11c => simp only [List.getElem?_toArray, List.getElem?_cons_succ, List.getElem?_cons_zero]; rfl
            case hy11c =>
              refine Or.inl ⟨by rfl, ?_⟩
              intro w hSw
              (try dsimp only at hSw)
              go_simp
              all_goals with_reducible rfl
            case hQ11c => exact fun _ _ _ h => h
            try simp only [Act.put, List.setIfInBounds_toArray, List.set_cons_zero, List.set_cons_succ]
            refine wpAnyH_take (i := 12) (oi := ?oi12c) (v := ?v12c) ?hi12c (by kernel_rfl) (by kernel_rfl) (by kernel_rfl) ?hQ12c ?hy12c (by assumption) ?hh12c
            case hi12c => simp only [List.getElem?_toArray, List.getElem?_cons_succ, List.getElem?_cons_zero]; rfl
            case hy12c =>
              refine Or.inl ⟨by rfl, ?_⟩
              intro w hSw
              (try dsimp only at hSw)
              go_simp
              all_goals with_reducible rfl
            case hQ12c => exact fun _ _ _ h => h
            try simp only [Act.put, List.setIfInBounds_toArray, List.set_cons_zero, List.set_cons_succ]
            refine wpAnyH_take (i := 13) (oi := ?oi13c) (v := ?v13c) ?hi13c (by kernel_rfl) (by kernel_rfl) (by kernel_rfl) ?hQ13c ?hy13c (by assumption) ?hh13c
            case hi13c => simp only [List.getElem?_toArray, List.getElem?_cons_succ, List.getElem?_cons_zero]; rfl
            case hy13c =>
              refine Or.inl ⟨by rfl, ?_⟩
              intro w hSw
              (try dsimp only at hSw)
              go_simp
              all_goals with_reducible rfl
            case hQ13c => exact fun _ _ _ h => h
            try simp only [Act.put, List.setIfInBounds_toArray, List.set_cons_zero, List.set_cons_succ]
            refine wpAnyH_take (i := 14) (oi := ?oi14c) (v := ?v14c) ?hi14c (by kernel_rfl) (by kernel_rfl) (by kernel_rfl) ?hQ14c ?hy14c (by assumption) ?hh14c
            case hi14c => simp only [List.getElem?_toArray, List.getElem?_cons_succ, List.getElem?_cons_zero]; rfl
            case hy14c =>
              refine Or.inl ⟨by rfl, ?_⟩
              intro w hSw
              (try dsimp only at hSw)
              go_simp
              all_goals with_reducible rfl
            case hQ14c => exact fun _ _ _ h => h
            try simp only [Act.put, List.setIfInBounds_toArray, List.set_cons_zero, List.set_cons_succ]
            refine wpAnyH_take (i := 15) (oi := ?oi15c) (v := ?v15c) ?hi15c (by kernel_rfl) (by kernel_rfl) (by kernel_rfl) ?hQ15c ?hy15c (by assumption) ?hh15c
            case hi15c => simp only [List.getElem?_toArray, List.getElem?_cons_succ, List.getElem?_cons_zero]; rfl
            case hy15c =>
              refine Or.inl ⟨by rfl, ?_⟩
              intro w hSw
              (try dsimp only at hSw)
              go_simp
              all_goals with_reducible rfl
            case hQ15c => exact fun _ _ _ h => h
            try simp only [Act.put, List.setIfInBounds_toArray, List.set_cons_zero, List.set_cons_succ]
            refine wpAnyH_take (i := 16) (oi := ?oi16c) (v := ?v16c) ?hi16c (by kernel_rfl) (by kernel_rfl) (by kernel_rfl) ?hQ16c ?hy16c (by assumption) ?hh16c
            case hi16c => simp only [List.getElem?_toArray, List.getElem?_cons_succ, List.getElem?_cons_zero]; rfl
            case hy16c =>
              refine Or.inl ⟨by rfl, ?_⟩
              intro w hSw
              (try dsimp only at hSw)
              go_simp
              all_goals with_reducible rfl
            case hQ16c => exact fun _ _ _ h => h
            try simp only [Act.put, List.setIfInBounds_toArray, List.set_cons_zero, List.set_cons_succ]
            refine wpAnyH_take (i := 17) (oi := ?oi17c) (v := ?v17c) ?hi17c (by kernel_rfl) (by kernel_rfl) (by kernel_rfl) ?hQ17c ?hy17c (by assumption) ?hh17c
            case hi17c => simp only [List.getElem?_toArray, List.getElem?_cons_succ, List.getElem?_cons_zero]; rfl
            case hy17c =>
              refine Or.inl ⟨by rfl, ?_⟩
              intro w hSw
              (try dsimp only at hSw)
              go_simp
              all_goals with_reducible rfl
            case hQ17c => exact fun _ _ _ h => h
            try simp only [Act.put, List.setIfInBounds_toArray, List.set_cons_zero, List.set_cons_succ]
            refine wpAnyH_take (i := 18) (oi := ?oi18c) (v := ?v18c) ?hi18c (by kernel_rfl) (by kernel_rfl) (by kernel_rfl) ?hQ18c ?hy18c (by assumption) ?hh18c
            case hi18c => simp only [List.getElem?_toArray, List.getElem?_cons_succ, List.getElem?_cons_zero]; rfl
            case hy18c =>
              refine Or.inl ⟨by rfl, ?_⟩
              intro w hSw
              (try dsimp only at hSw)
              go_simp
              all_goals with_reducible rfl
            case hQ18c => exact fun _ _ _ h => h
            try simp only [Act.put, List.setIfInBounds_toArray, List.set_cons_zero, List.set_cons_succ]
            refine wpAnyH_done (by kernel_rfl) ?_ _
            have hbx : Below w.heap.size w wg := ((HB.out.alloc zb (.cells #[.int .i64 (F (k + 1) 0), .int .i64 (F (k + 1) 1), .int .i64 (F (k + 1) 2), .int .i64 (F (k + 1) 3), .int .i64 (F (k + 1) 4)] 124)).drew).trans (hbg.mono (by simp; omega))
            have X2 := Lib.hid (((X1.out.alloc _).drew).kept hbg)
            clear hcg hfg hbg
            go_wp2_with fail
            go_roundw
            case rel => exact ⟨(k + 1) + 1, by omega, by go_num, hbx, X2.out, storeAll_snoc hF.out K3.out⟩
            case measure => simp [intOf]; omega
      · have K2 : factB (F m 0) (F m 1) (F m 2) (F m 3) (F m 4) = false := k1
        have K3 := Lib.hid (show storeAt F m = false by simp only [storeAt, k1, Bool.false_and])
        clear k1 HP
        go_wp2_with fail
        refine wp_region_held_drew (S := (fun w' => w'.cell? ⟨w.heap.size, 0, none⟩ = some (.slice (some ⟨b, off, none⟩) n cap) ∧ w'.cell? ⟨wr.heap.size, 0, none⟩ = some (.int .i64 (F m 0)) ∧ w'.cell? ⟨wr.heap.size, 1, none⟩ = some (.int .i64 (F m 1)) ∧ w'.cell? ⟨wr.heap.size, 2, none⟩ = some (.int .i64 (F m 2)) ∧ w'.cell? ⟨wr.heap.size, 3, none⟩ = some (.int .i64 (F m 3)) ∧ w'.cell? ⟨wr.heap.size, 4, none⟩ = some (.int .i64 (F m 4)))) (by kernel_rfl) (by (try dsimp only); simp [go_sem, *]) (fun hHeld => ?_)
        refine wpAnyH_take (i := 0) (oi := ?oi0a) (v := ?v0a) ?hi0a (by kernel_rfl) (by kernel_rfl) (by kernel_rfl) ?hQ0a ?hy0a (by assumption) ?hh0a
        case hi0a => simp only [List.getElem?_toArray, List.getElem?_cons_zero]; rfl
        case hy0a =>
          refine Or.inl ⟨by rfl, ?_⟩
          intro w hSw
          (try dsimp only at hSw)
          go_simp
          all_goals with_reducible rfl
        case hQ0a => exact fun _ _ _ h => h
        try simp only [Act.put, List.setIfInBounds_toArray, List.set_cons_zero, List.set_cons_succ]
        refine wpAnyH_ready (rs := [1]) (by kernel_rfl) (by simp) ?_
        refine AllReadyH.cons (o := ?oo1a) ?ho1a (fun K hK => ?hs1a) AllReadyH.nil
        case ho1a => simp only [List.getElem?_toArray, List.getElem?_cons_succ, List.getElem?_cons_zero]; rfl
        go_simp
        go_at_call 74
        with_reducible refine (factOk_any (F m 0) (F m 1) (F m 2) (F m 3) (F m 4) _).mono ?_
        rintro e wg ⟨rfl, hbg⟩
        rw [K2]
        obtain ⟨hcg, hfg⟩ := bcell hbg
        (try simp only [World.size_drew] at hcg hfg)
        have zg := hbg.size
        (try simp only [World.size_drew] at zg)
        refine hK.out _ _ (by (try dsimp only); simp [go_sem, *]) (fun hHeld => ?_)
        clear hK K
        try simp only [Act.put, List.setIfInBounds_toArray, List.set_cons_zero, List.set_cons_succ]
        refine wpAnyH_take (i := 2) (oi := ?oi2a) (v := ?v2a) ?hi2a (by kernel_rfl) (by kernel_rfl) (by kernel_rfl) ?hQ2a ?hy2a (by assumption) ?hh2a
        case hi2a => simp only [List.getElem?_toArray, List.getElem?_cons_succ, List.getElem?_cons_zero]; rfl
        case hy2a =>
          refine Or.inl ⟨by rfl, ?_⟩
          intro w hSw
          (try dsimp only at hSw)
          go_simp
          all_goals with_reducible rfl
        case hQ2a => exact fun _ _ _ h => h
        try simp only [Act.put, List.setIfInBounds_toArray, List.set_cons_zero, List.set_cons_succ]
        refine wpAnyH_take (i := 3) (oi := ?oi3a) (v := ?v3a) ?hi3a (by kernel_rfl) (by kernel_rfl) (by kernel_rfl) ?hQ3a ?hy3a (by assumption) ?hh3a
        case hi3a => simp only [List.getElem?_toArray, List.getElem?_cons_succ, List.getElem?_cons_zero]; rfl
        case hy3a =>
          refine Or.inl ⟨by rfl, ?_⟩
          intro w hSw
          (try dsimp only at hSw)
          go_simp
          all_goals with_reducible rfl
        case hQ3a => exact fun _ _ _ h => h
        try simp only [Act.put, List.setIfInBounds_toArray, List.set_cons_zero, List.set_cons_succ]
        refine wpAnyH_take (i := 4) (oi := ?oi4a) (v := undef) ?hi4a (by kernel_rfl) (by kernel_rfl) (by kernel_rfl) ?hQ4a ?hy4a (by assumption) ?hh4a
        case hi4a => simp only [List.getElem?_toArray, List.getElem?_cons_succ, List.getElem?_cons_zero]; rfl
        case hy4a => exact Or.inr ⟨by rfl, rfl⟩
        case hQ4a => exact fun _ _ _ h => h
        try simp only [Act.put, List.setIfInBounds_toArray, List.set_cons_zero, List.set_cons_succ]
        refine wpAnyH_take (i := 5) (oi := ?oi5a) (v := undef) ?hi5a (by kernel_rfl) (by kernel_rfl) (by kernel_rfl) ?hQ5a ?hy5a (by assumption) ?hh5a
        case hi5a => simp only [List.getElem?_toArray, List.getElem?_cons_succ, List.getElem?_cons_zero]; rfl
        case hy5a => exact Or.inr ⟨by rfl, rfl⟩
        case hQ5a => exact fun _ _ _ h => h
        try simp only [Act.put, List.setIfInBounds_toArray, List.set_cons_zero, List.set_cons_succ]
        refine wpAnyH_take (i := 6) (oi := ?oi6a) (v := undef) ?hi6a (by kernel_rfl) (by kernel_rfl) (by kernel_rfl) ?hQ6a ?hy6a (by assumption) ?hh6a
        case hi6a => simp only [List.getElem?_toArray, List.getElem?_cons_succ, List.getElem?_cons_zero]; rfl
        case hy6a => exact Or.inr ⟨by rfl, rfl⟩
        case hQ6a => exact fun _ _ _ h => h
        try simp only [Act.put, List.setIfInBounds_toArray, List.set_cons_zero, List.set_cons_succ]
        refine wpAnyH_take (i := 7) (oi := ?oi7a) (v := undef) ?hi7a (by kernel_rfl) (by kernel_rfl) (by kernel_rfl) ?hQ7a ?hy7a (by assumption) ?hh7a
        case hi7a => simp only [List.getElem?_toArray, List.getElem?_cons_succ, List.getElem?_cons_zero]; rfl
        case hy7a => exact Or.inr ⟨by rfl, rfl⟩
        case hQ7a => exact fun _ _ _ h => h
        try simp only [Act.put, List.setIfInBounds_toArray, List.set_cons_zero, List.set_cons_succ]
        refine wpAnyH_take (i := 8) (oi := ?oi8a) (v := undef) ?hi8a (by kernel_rfl) (by kernel_rfl) (by kernel_rfl) ?hQ8a ?hy8a (by assumption) ?hh8a
        case hi8a => simp only [List.getElem?_toArray, List.getElem?_cons_succ, List.getElem?_cons_zero]; rfl
        case hy8a => exact Or.inr ⟨by rfl, rfl⟩
        case hQ8a => exact fun _ _ _ h => h
        try simp only [Act.put, List.setIfInBounds_toArray, List.set_cons_zero, List.set_cons_succ]
        refine wpAnyH_take (i := 9) (oi := ?oi9a) (v := undef) ?hi9a (by kernel_rfl) (by kernel_rfl) (by kernel_rfl) ?hQ9a ?hy9a (by assumption) ?hh9a
        case hi9a => simp only [List.getElem?_toArray, List.getElem?_cons_succ, List.getElem?_cons_zero]; rfl
        case hy9a => exact Or.inr ⟨by rfl, rfl⟩
        case hQ9a => exact fun _ _ _ h => h
        try simp only [Act.put, List.setIfInBounds_toArray, List.set_cons_zero, List.set_cons_succ]
        refine wpAnyH_take (i := 10) (oi := ?oi10a) (v := undef) ?hi10a (by kernel_rfl) (by kernel_rfl) (by kernel_rfl) ?hQ10a ?hy10a (by assumption) ?hh10a
        case hi10a => simp only [List.getElem?_toArray, List.getElem?_cons_succ, List.getElem?_cons_zero]; rfl
        case hy10a => exact Or.inr ⟨by rfl, rfl⟩
        case hQ10a => exact fun _ _ _ h => h
        try simp only [Act.put, List.setIfInBounds_toArray, List.set_cons_zero, List.set_cons_succ]
        refine wpAnyH_take (i := 11) (oi := ?oi11a) (v := undef) ?hi11a (by kernel_rfl) (by kernel_rfl) (by kernel_rfl) ?hQ11a ?hy11a (by assumption) ?hh11a
        case hi11a => simp only [List.getElem?_toArray, List.getElem?_cons_succ, List.getElem?_cons_zero]; rfl
        case hy11a => exact Or.inr ⟨by rfl, rfl⟩
        case hQ11a => exact fun _ _ _ h => h
        try simp only [Act.put, List.setIfInBounds_toArray, List.set_cons_zero, List.set_cons_succ]
        refine wpAnyH_take (i := 12) (oi := ?oi12a) (v := undef) ?hi12a (by kernel_rfl) (by kernel_rfl) (by kernel_rfl) ?hQ12a ?hy12a (by assumption) ?hh12a
        case hi12a => simp only [List.getElem?_toArray, List.getElem?_cons_succ, List.getElem?_cons_zero]; rfl
        case hy12a => exact Or.inr ⟨by rfl, rfl⟩
        case hQ12a => exact fun _ _ _ h => h
        try simp only [Act.put, List.setIfInBounds_toArray, List.set_cons_zero, List.set_cons_succ]
        refine wpAnyH_take (i := 13) (oi := ?oi13a) (v := undef) ?hi13a (by kernel_rfl) (by kernel_rfl) (by kernel_rfl) ?hQ13a ?hy13a (by assumption) ?hh13a
        case hi13a => simp only [List.getElem?_toArray, List.getElem?_cons_succ, List.getElem?_cons_zero]; rfl
        case hy13a => exact Or.inr ⟨by rfl, rfl⟩
        case hQ13a => exact fun _ _ _ h => h
        try simp only [Act.put, List.setIfInBounds_toArray, List.set_cons_zero, List.set_cons_succ]
        refine wpAnyH_take (i := 14) (oi := ?oi14a) (v := undef) ?hi14a (by kernel_rfl) (by kernel_rfl) (by kernel_rfl) ?hQ14a ?hy14a (by assumption) ?hh14a
        case hi14a => simp only [List.getElem?_toArray, List.getElem?_cons_succ, List.getElem?_cons_zero]; rfl
        case hy14a => exact Or.inr ⟨by rfl, rfl⟩
        case hQ14a => exact fun _ _ _ h => h
        try simp only [Act.put, List.setIfInBounds_toArray, List.set_cons_zero, List.set_cons_succ]
        refine wpAnyH_take (i := 15) (oi := ?oi15a) (v := undef) ?hi15a (by kernel_rfl) (by kernel_rfl) (by kernel_rfl) ?hQ15a ?hy15a (by assumption) ?hh15a
        case hi15a => simp only [List.getElem?_toArray, List.getElem?_cons_succ, List.getElem?_cons_zero]; rfl
        case hy15a => exact Or.inr ⟨by rfl, rfl⟩
        case hQ15a => exact fun _ _ _ h => h
        try simp only [Act.put, List.setIfInBounds_toArray, List.set_cons_zero, List.set_cons_succ]
        refine wpAnyH_take (i := 16) (oi := ?oi16a) (v := undef) ?hi16a (by kernel_rfl) (by kernel_rfl) (by kernel_rfl) ?hQ16a ?hy16a (by assumption) ?hh16a
        case hi16a => simp only [List.getElem?_toArray, List.getElem?_cons_succ, List.getElem?_cons_zero]; rfl
        case hy16a => exact Or.inr ⟨by rfl, rfl⟩
        case hQ16a => exact fun _ _ _ h => h
        try simp only [Act.put, List.setIfInBounds_toArray, List.set_cons_zero, List.set_cons_succ]
        refine wpAnyH_take (i := 17) (oi := ?oi17a) (v := undef) ?hi17a (by kernel_rfl) (by kernel_rfl) (by kernel_rfl) ?hQ17a ?hy17a (by assumption) ?hh17a
        case hi17a => simp only [List.getElem?_toArray, List.getElem?_cons_succ, List.getElem?_cons_zero]; rfl
        case hy17a => exact Or.inr ⟨by rfl, rfl⟩
        case hQ17a => exact fun _ _ _ h => h
        try simp only [Act.put, List.setIfInBounds_toArray, List.set_cons_zero, List.set_cons_succ]
        refine wpAnyH_take (i := 18) (oi := ?oi18a) (v := ?v18a) ?hi18a (by kernel_rfl) (by kernel_rfl) (by kernel_rfl) ?hQ18a ?hy18a (by assumption) ?hh18a
        case hi18a => simp only [List.getElem?_toArray, List.getElem?_cons_succ, List.getElem?_cons_zero]; rfl
        case hy18a =>
          refine Or.inl ⟨by rfl, ?_⟩
          intro w hSw
          (try dsimp only at hSw)
          go_simp
          all_goals with_reducible rfl
        case hQ18a => exact fun _ _ _ h => h
        try simp only [Act.put, List.setIfInBounds_toArray, List.set_cons_zero, List.set_cons_succ]
        refine wpAnyH_done (by kernel_rfl) ?_ _
        have hbx : Below w.heap.size w wg := ((HB.out.alloc zb (.cells #[.int .i64 (F m 0), .int .i64 (F m 1), .int .i64 (F m 2), .int .i64 (F m 3), .int .i64 (F m 4)] 124)).drew).trans (hbg.mono (by simp; omega))
        clear hcg hfg hbg
        go_wp2_with fail
        go_ret
        exact ⟨ret_bool (storeB_bad hlt K3.out).symm, hbx⟩
    · obtain rfl : n = m := by omega
      have HE := Lib.hid (show storeB F n = decide (n ≤ 200) by simp only [storeB, allB_iff.2 hF.out, Bool.true_and])
      clear hbw x1
      go_wp2_with fail
      go_ret
      exact ⟨ret_bool (by rw [HE.out]; first | rfl | (simp; done) | (rw [Bool.eq_iff_iff]; simp; omega)), HB.out⟩
set_option maxRecDepth 100000 in
set_option maxHeartbeats 8000000 in
theorem sstoreOk_any (A : Option Addr) (n cap : Nat) (F : Nat → Nat → Int) (w : World) (hn : n ≤ 1048576) (hr : Recs w 5 A n F) :
    Calls Try.prog 37 #[.agg #[.slice A n cap]] w fun e w' => e = .returned (.bool (storeB F n)) ∧ Below w.heap.size w w' := by
  have HR := Lib.hid hr
  clear hr
  go_enter Try.func37, Try.ntmps37
  go_wp2_with fail
  go_loopw [3] (fun i wr => ∃ m : Nat, m ≤ n ∧ i = .int .i64 m ∧ Below w.heap.size w wr ∧ Box wr w.heap.size 53 #[.slice A n cap] ∧ Hid (∀ i, i < m → storeAt F i = true)) (fun i _ => n - (intOf i).toNat)
  case atStart => exact ⟨0, Nat.zero_le _, rfl, by (repeat (first | with_reducible exact Below.refl _ _ | with_reducible refine Below.drew ?_ | (with_reducible refine Below.alloc ?_ ?hsz _; case hsz => ((try simp) <;> (try omega))) | (with_reducible refine Below.setCell ?_ ?hsz _; case hsz => ((try simp) <;> (try omega))) | (with_reducible refine below_step (by with_reducible assumption) ?hsz ?_; case hsz => ((try simp) <;> (try omega))))), by (repeat (first | with_reducible assumption | with_reducible exact Box.made _ _ _ | (with_reducible refine Box.made_at ?hg; case hg => (simp; done)) | with_reducible refine Box.drew ?_ | with_reducible refine Box.alloc ?_ _ | (with_reducible refine Box.put2 (a := .int .i64 0) (b := .int .i64 0) ?_ _ _) | (with_reducible refine Box.far ?_ ?hg _; case hg => ((try simp) <;> (try omega))) | with_reducible refine Box.kept ?_ (by with_reducible assumption))), fun i hi => by omega⟩
  case round =>
    obtain ⟨m, hm, rfl, hbw, x1, hF⟩ := hrel
    have t1 := x1.cell 0
    have l1 := x1.lt
    have HB := Lib.hid hbw
    have X1 := Lib.hid x1
    have zb := hbw.size
    by_cases hlt : m < n
    · obtain ⟨b, off, e, hb, c0, c1, c2, c3, c4⟩ := HR.out.at5 hlt
      have d0 := (hbw.cell (p := ⟨b, off + m * 5, none⟩) hb).trans c0
      have d1 := (hbw.cell (p := ⟨b, off + m * 5 + 1, none⟩) hb).trans c1
      have d2 := (hbw.cell (p := ⟨b, off + m * 5 + 2, none⟩) hb).trans c2
      have d3 := (hbw.cell (p := ⟨b, off + m * 5 + 3, none⟩) hb).trans c3
      have d4 := (hbw.cell (p := ⟨b, off + m * 5 + 4, none⟩) hb).trans c4
      have lb : b < wr.heap.size := Nat.lt_of_lt_of_le hb zb
      have hmi : (m : Int) < (n : Int) := by omega
      have hm0 : (0 : Int) ≤ (m : Int) := by omega
      have HP := Lib.hid (fun k (hk : m = k + 1) => (by
        obtain ⟨b', off', e', hb', _, _, _, h3, _⟩ := HR.out.at5 (show k < n by omega)
        rw [e] at e'
        cases e'
        exact (hbw.cell (p := ⟨b, off + k * 5 + 3, none⟩) hb').trans h3 : wr.cell? ⟨b, off + k * 5 + 3, none⟩ = some (.int .i64 (F k 3))))
      subst e
      clear c0 c1 c2 c3 c4 hb hbw x1
      rcases Bool.eq_false_or_eq_true (factAt F m) with k1 | k1
      · by_cases hm1 : m = 0
        · subst hm1
          have K2 : factB (F 0 0) (F 0 1) (F 0 2) (F 0 3) (F 0 4) = true := k1
          have K3 := Lib.hid (show storeAt F 0 = true by simp only [storeAt, k1]; rfl)
          clear k1 HP
          simp only [Nat.zero_mul, Nat.add_zero] at d0 d1 d2 d3 d4
          go_wp2_with fail
          refine wp_region_held_drew (S := (fun w' => w'.cell? ⟨w.heap.size, 0, none⟩ = some (.slice (some ⟨b, off, none⟩) n cap) ∧ w'.cell? ⟨b, off, none⟩ = some (.int .i64 (F 0 0)) ∧ w'.cell? ⟨b, off + 1, none⟩ = some (.int .i64 (F 0 1)) ∧ w'.cell? ⟨b, off + 2, none⟩ = some (.int .i64 (F 0 2)) ∧ w'.cell? ⟨b, off + 3, none⟩ = some (.int .i64 (F 0 3)) ∧ w'.cell? ⟨b, off + 4, none⟩ = some (.int .i64 (F 0 4)))) (by kernel_rfl) (by (try dsimp only); simp [go_sem, *]) (fun hHeld => ?_)
          refine wpAnyH_take (i := 0) (oi := ?oi0b) (v := ?v0b) ?hi0b (by kernel_rfl) (by kernel_rfl) (by kernel_rfl) ?hQ0b ?hy0b (by assumption) ?hh0b
          case hi0b => simp only [List.getElem?_toArray, List.getElem?_cons_zero]; rfl
          case hy0b =>
            refine Or.inl ⟨by rfl, ?_⟩
            intro w hSw
            (try dsimp only at hSw)
            go_simp
            all_goals with_reducible rfl
          case hQ0b => exact fun _ _ _ h => h
          try simp only [Act.put, List.setIfInBounds_toArray, List.set_cons_zero, List.set_cons_succ]
          refine wpAnyH_take (i := 1) (oi := ?oi1b) (v := ?v1b) ?hi1b (by kernel_rfl) (by kernel_rfl) (by kernel_rfl) ?hQ1b ?hy1b (by assumption) ?hh1b
          case hi1b => simp only [List.getElem?_toArray, List.getElem?_cons_succ, List.getElem?_cons_zero]; rfl
          case hy1b =>
            refine Or.inl ⟨by rfl, ?_⟩
            intro w hSw
            (try dsimp only at hSw)
            go_simp
            all_goals with_reducible rfl
          case hQ1b => exact fun _ _ _ h => h
          try simp only [Act.put, List.setIfInBounds_toArray, List.set_cons_zero, List.set_cons_succ]
          refine wpAnyH_take (i := 2) (oi := ?oi2b) (v := ?v2b) ?hi2b (by kernel_rfl) (by kernel_rfl) (by kernel_rfl) ?hQ2b ?hy2b (by assumption) ?hh2b
          case hi2b => simp only [List.getElem?_toArray, List.getElem?_cons_succ, List.getElem?_cons_zero]; rfl
          case hy2b =>
            refine Or.inl ⟨by rfl, ?_⟩
            intro w hSw
            (try dsimp only at hSw)
            go_simp
            all_goals with_reducible rfl
          case hQ2b => exact fun _ _ _ h => h
          try simp only [Act.put, List.setIfInBounds_toArray, List.set_cons_zero, List.set_cons_succ]
          refine wpAnyH_take (i := 3) (oi := ?oi3b) (v := ?v3b) ?hi3b (by kernel_rfl) (by kernel_rfl) (by kernel_rfl) ?hQ3b ?hy3b (by assumption) ?hh3b
          case hi3b => simp only [List.getElem?_toArray, List.getElem?_cons_succ, List.getElem?_cons_zero]; rfl
          case hy3b =>
            refine Or.inl ⟨by rfl, ?_⟩
            intro w hSw
            (try dsimp only at hSw)
            go_simp
            all_goals with_reducible rfl
          case hQ3b => exact fun _ _ _ h => h
          try simp only [Act.put, List.setIfInBounds_toArray, List.set_cons_zero, List.set_cons_succ]
          refine wpAnyH_take (i := 4) (oi := ?oi4b) (v := ?v4b) ?hi4b (by kernel_rfl) (by kernel_rfl) (by kernel_rfl) ?hQ4b ?hy4b (by assumption) ?hh4b
          case hi4b => simp only [List.getElem?_toArray, List.getElem?_cons_succ, List.getElem?_cons_zero]; rfl
          case hy4b =>
            refine Or.inl ⟨by rfl, ?_⟩
            intro w hSw
            (try dsimp only at hSw)
            go_simp
            all_goals with_reducible rfl
          case hQ4b => exact fun _ _ _ h => h
          try simp only [Act.put, List.setIfInBounds_toArray, List.set_cons_zero, List.set_cons_succ]
          refine wpAnyH_ready (rs := [5]) (by kernel_rfl) (by simp) ?_
          refine AllReadyH.cons (o := ?oo5b) ?ho5b (fun K hK => ?hs5b) AllReadyH.nil
          case ho5b => simp only [List.getElem?_toArray, List.getElem?_cons_succ, List.getElem?_cons_zero]; rfl
          go_simp
          go_at_call 69
          with_reducible refine (sfactOk_any (F 0 0) (F 0 1) (F 0 2) (F 0 3) (F 0 4) _).mono ?_
          rintro e wg ⟨rfl, hbg⟩
          rw [K2]
          obtain ⟨hcg, hfg⟩ := bcell hbg
          (try simp only [World.size_drew] at hcg hfg)
          have zg := hbg.size
          (try simp only [World.size_drew] at zg)
          refine hK.out _ _ (by (try dsimp only); simp [go_sem, *]) (fun hHeld => ?_)
          clear hK K
          try simp only [Act.put, List.setIfInBounds_toArray, List.set_cons_zero, List.set_cons_succ]
          refine wpAnyH_take (i := 6) (oi := ?oi6b) (v := ?v6b) ?hi6b (by kernel_rfl) (by kernel_rfl) (by kernel_rfl) ?hQ6b ?hy6b (by assumption) ?hh6b
          case hi6b => simp only [List.getElem?_toArray, List.getElem?_cons_succ, List.getElem?_cons_zero]; rfl
          case hy6b =>
            refine Or.inl ⟨by rfl, ?_⟩
            intro w hSw
            (try dsimp only at hSw)
            go_simp
            all_goals with_reducible rfl
          case hQ6b => exact fun _ _ _ h => h
          try simp only [Act.put, List.setIfInBounds_toArray, List.set_cons_zero, List.set_cons_succ]
          refine wpAnyH_take (i := 7) (oi := ?oi7b) (v := ?v7b) ?hi7b (by kernel_rfl) (by kernel_rfl) (by kernel_rfl) ?hQ7b ?hy7b (by assumption) ?hh7b
          case hi7b => simp only [List.getElem?_toArray, List.getElem?_cons_succ, List.getElem?_cons_zero]; rfl
          case hy7b =>
            refine Or.inl ⟨by rfl, ?_⟩
            intro w hSw
            (try dsimp only at hSw)
            go_simp
            all_goals with_reducible rfl
          case hQ7b => exact fun _ _ _ h => h
          try simp only [Act.put, List.setIfInBounds_toArray, List.set_cons_zero, List.set_cons_succ]
          refine wpAnyH_take (i := 8) (oi := ?oi8b) (v := ?v8b) ?hi8b (by kernel_rfl) (by kernel_rfl) (by kernel_rfl) ?hQ8b ?hy8b (by assumption) ?hh8b
          case hi8b => simp only [List.getElem?_toArray, List.getElem?_cons_succ, List.getElem?_cons_zero]; rfl
          case hy8b =>
            refine Or.inl ⟨by rfl, ?_⟩
            intro w hSw
            (try dsimp only at hSw)
            go_simp
            all_goals with_reducible rfl
          case hQ8b => exact fun _ _ _ h => h
          try simp only [Act.put, List.setIfInBounds_toArray, List.set_cons_zero, List.set_cons_succ]
          refine wpAnyH_take (i := 9) (oi := ?oi9b) (v := ?v9b) ?hi9b (by kernel_rfl) (by kernel_rfl) (by kernel_rfl) ?hQ9b ?hy9b (by assumption) ?hh9b
          case hi9b => simp only [List.getElem?_toArray, List.getElem?_cons_succ, List.getElem?_cons_zero]; rfl
          case hy9b =>
            refine Or.inl ⟨by rfl, ?_⟩
            intro w hSw
            (try dsimp only at hSw)
            go_simp
            all_goals with_reducible rfl
          case hQ9b => exact fun _ _ _ h => h
          try simp only [Act.put, List.setIfInBounds_toArray, List.set_cons_zero, List.set_cons_succ]
          refine wpAnyH_take (i := 10) (oi := ?oi10b) (v := ?v10b) ?hi10b (by kernel_rfl) (by kernel_rfl) (by kernel_rfl) ?hQ10b ?hy10b (by assumption) ?hh10b
          case hi10b => simp only [List.getElem?_toArray, List.getElem?_cons_succ, List.getElem?_cons_zero]; rfl
          case hy10b =>
            refine Or.inl ⟨by rfl, ?_⟩
            intro w hSw
            (try dsimp only at hSw)
            go_simp
            all_goals with_reducible rfl
          case hQ10b => exact fun _ _ _ h => h
          try simp only [Act.put, List.setIfInBounds_toArray, List.set_cons_zero, List.set_cons_succ]
          refine wpAnyH_take (i := 11) (oi := ?oi11b) (v := undef) ?hi11b (by kernel_rfl) (by kernel_rfl) (by kernel_rfl) ?hQ11b ?hy11b (by assumption) ?hh11b
          case hi11b => simp only [List.getElem?_toArray, List.getElem?_cons_succ, List.getElem?_cons_zero]; rfl
          case hy11b => exact Or.inr ⟨by rfl, rfl⟩
          case hQ11b => exact fun _ _ _ h => h
          try simp only [Act.put, List.setIfInBounds_toArray, List.set_cons_zero, List.set_cons_succ]
          refine wpAnyH_take (i := 12) (oi := ?oi12b) (v := undef) ?hi12b (by kernel_rfl) (by kernel_rfl) (by kernel_rfl) ?hQ12b ?hy12b (by assumption) ?hh12b
          case hi12b => simp only [List.getElem?_toArray, List.getElem?_cons_succ, List.getElem?_cons_zero]; rfl
          case hy12b => exact Or.inr ⟨by rfl, rfl⟩
          case hQ12b => exact fun _ _ _ h => h
          try simp only [Act.put, List.setIfInBounds_toArray, List.set_cons_zero, List.set_cons_succ]
          refine wpAnyH_take (i := 13) (oi := ?oi13b) (v := undef) ?hi13b (by kernel_rfl) (by kernel_rfl) (by kernel_rfl) ?hQ13b ?hy13b (by assumption) ?hh13b
          case hi13b => simp only [List.getElem?_toArray, List.getElem?_cons_succ, List.getElem?_cons_zero]; rfl
          case hy13b => exact Or.inr ⟨by rfl, rfl⟩
          case hQ13b => exact fun _ _ _ h => h
          try simp only [Act.put, List.setIfInBounds_toArray, List.set_cons_zero, List.set_cons_succ]
          refine wpAnyH_take (i := 14) (oi := ?oi14b) (v := undef) ?hi14b (by kernel_rfl) (by kernel_rfl) (by kernel_rfl) ?hQ14b ?hy14b (by assumption) ?hh14b
          case hi14b => simp only [List.getElem?_toArray, List.getElem?_cons_succ, List.getElem?_cons_zero]; rfl
          case hy14b => exact Or.inr ⟨by rfl, rfl⟩
          case hQ14b => exact fun _ _ _ h => h
          try simp only [Act.put, List.setIfInBounds_toArray, List.set_cons_zero, List.set_cons_succ]
          refine wpAnyH_take (i := 15) (oi := ?oi15b) (v := undef) ?hi15b (by kernel_rfl) (by kernel_rfl) (by kernel_rfl) ?hQ15b ?hy15b (by assumption) ?hh15b
          case hi15b => simp only [List.getElem?_toArray, List.getElem?_cons_succ, List.getElem?_cons_zero]; rfl
          case hy15b => exact Or.inr ⟨by rfl, rfl⟩
          case hQ15b => exact fun _ _ _ h => h
          try simp only [Act.put, List.setIfInBounds_toArray, List.set_cons_zero, List.set_cons_succ]
          refine wpAnyH_take (i := 16) (oi := ?oi16b) (v := undef) ?hi16b (by kernel_rfl) (by kernel_rfl) (by kernel_rfl) ?hQ16b ?hy16b (by assumption) ?hh16b
          case hi16b => simp only [List.getElem?_toArray, List.getElem?_cons_succ, List.getElem?_cons_zero]; rfl
          case hy16b => exact Or.inr ⟨by rfl, rfl⟩
          case hQ16b => exact fun _ _ _ h => h
          try simp only [Act.put, List.setIfInBounds_toArray, List.set_cons_zero, List.set_cons_succ]
          refine wpAnyH_take (i := 17) (oi := ?oi17b) (v := undef) ?hi17b (by kernel_rfl) (by kernel_rfl) (by kernel_rfl) ?hQ17b ?hy17b (by assumption) ?hh17b
          case hi17b => simp only [List.getElem?_toArray, List.getElem?_cons_succ, List.getElem?_cons_zero]; rfl
          case hy17b => exact Or.inr ⟨by rfl, rfl⟩
          case hQ17b => exact fun _ _ _ h => h
          try simp only [Act.put, List.setIfInBounds_toArray, List.set_cons_zero, List.set_cons_succ]
          refine wpAnyH_take (i := 18) (oi := ?oi18b) (v := undef) ?hi18b (by kernel_rfl) (by kernel_rfl) (by kernel_rfl) ?hQ18b ?hy18b (by assumption) ?hh18b
          case hi18b => simp only [List.getElem?_toArray, List.getElem?_cons_succ, List.getElem?_cons_zero]; rfl
          case hy18b => exact Or.inr ⟨by rfl, rfl⟩
          case hQ18b => exact fun _ _ _ h => h
          try simp only [Act.put, List.setIfInBounds_toArray, List.set_cons_zero, List.set_cons_succ]
          refine wpAnyH_take (i := 19) (oi := ?oi19b) (v := undef) ?hi19b (by kernel_rfl) (by kernel_rfl) (by kernel_rfl) ?hQ19b ?hy19b (by assumption) ?hh19b
          case hi19b => simp only [List.getElem?_toArray, List.getElem?_cons_succ, List.getElem?_cons_zero]; rfl
          case hy19b => exact Or.inr ⟨by rfl, rfl⟩
          case hQ19b => exact fun _ _ _ h => h
          try simp only [Act.put, List.setIfInBounds_toArray, List.set_cons_zero, List.set_cons_succ]
          refine wpAnyH_take (i := 20) (oi := ?oi20b) (v := undef) ?hi20b (by kernel_rfl) (by kernel_rfl) (by kernel_rfl) ?hQ20b ?hy20b (by assumption) ?hh20b
          case hi20b => simp only [List.getElem?_toArray, List.getElem?_cons_succ, List.getElem?_cons_zero]; rfl
          case hy20b => exact Or.inr ⟨by rfl, rfl⟩
          case hQ20b => exact fun _ _ _ h => h
          try simp only [Act.put, List.setIfInBounds_toArray, List.set_cons_zero, List.set_cons_succ]
          refine wpAnyH_take (i := 21) (oi := ?oi21b) (v := undef) ?hi21b (by kernel_rfl) (by kernel_rfl) (by kernel_rfl) ?hQ21b ?hy21b (by assumption) ?hh21b
          case hi21b => simp only [List.getElem?_toArray, List.getElem?_cons_succ, List.getElem?_cons_zero]; rfl
          case hy21b => exact Or.inr ⟨by rfl, rfl⟩
          case hQ21b => exact fun _ _ _ h => h
          try simp only [Act.put, List.setIfInBounds_toArray, List.set_cons_zero, List.set_cons_succ]
          refine wpAnyH_take (i := 22) (oi := ?oi22b) (v := undef) ?hi22b (by kernel_rfl) (by kernel_rfl) (by kernel_rfl) ?hQ22b ?hy22b (by assumption) ?hh22b
          case hi22b => simp only [List.getElem?_toArray, List.getElem?_cons_succ, List.getElem?_cons_zero]; rfl
          case hy22b => exact Or.inr ⟨by rfl, rfl⟩
          case hQ22b => exact fun _ _ _ h => h
          try simp only [Act.put, List.setIfInBounds_toArray, List.set_cons_zero, List.set_cons_succ]
          refine wpAnyH_take (i := 23) (oi := ?oi23b) (v := undef) ?hi23b (by kernel_rfl) (by kernel_rfl) (by kernel_rfl) ?hQ23b ?hy23b (by assumption) ?hh23b
          case hi23b => simp only [List.getElem?_toArray, List.getElem?_cons_succ, List.getElem?_cons_zero]; rfl
          case hy23b => exact Or.inr ⟨by rfl, rfl⟩
          case hQ23b => exact fun _ _ _ h => h
          try simp only [Act.put, List.setIfInBounds_toArray, List.set_cons_zero, List.set_cons_succ]
          refine wpAnyH_take (i := 24) (oi := ?oi24b) (v := undef) ?hi24b (by kernel_rfl) (by kernel_rfl) (by kernel_rfl) ?hQ24b ?hy24b (by assumption) ?hh24b
          case hi24b => simp only [List.getElem?_toArray, List.getElem?_cons_succ, List.getElem?_cons_zero]; rfl
          case hy24b => exact Or.inr ⟨by rfl, rfl⟩
          case hQ24b => exact fun _ _ _ h => h
          try simp only [Act.put, List.setIfInBounds_toArray, List.set_cons_zero, List.set_cons_succ]
          refine wpAnyH_take (i := 25) (oi := ?oi25b) (v := ?v25b) ?hi25b (by kernel_rfl) (by kernel_rfl) (by kernel_rfl) ?hQ25b ?hy25b (by assumption) ?hh25b
          case hi25b => simp only [List.getElem?_toArray, List.getElem?_cons_succ, List.getElem?_cons_zero]; rfl
          case hy25b =>
            refine Or.inl ⟨by rfl, ?_⟩
            intro w hSw
            (try dsimp only at hSw)
            go_simp
            all_goals with_reducible rfl
          case hQ25b => exact fun _ _ _ h => h
          try simp only [Act.put, List.setIfInBounds_toArray, List.set_cons_zero, List.set_cons_succ]
          refine wpAnyH_take (i := 26) (oi := ?oi26b) (v := ?v26b) ?hi26b (by kernel_rfl) (by kernel_rfl) (by kernel_rfl) ?hQ26b ?hy26b (by assumption) ?hh26b
          case hi26b => simp only [List.getElem?_toArray, List.getElem?_cons_succ, List.getElem?_cons_zero]; rfl
          case hy26b =>
            refine Or.inl ⟨by rfl, ?_⟩
            intro w hSw
            (try dsimp only at hSw)
            go_simp
            all_goals with_reducible rfl
          case hQ26b => exact fun _ _ _ h => h
          try simp only [Act.put, List.setIfInBounds_toArray, List.set_cons_zero, List.set_cons_succ]
          refine wpAnyH_done (by kernel_rfl) ?_ _
          have hbx : Below w.heap.size w wg := (HB.out.drew).trans (hbg.mono zb)
          have X2 := Lib.hid (X1.out.drew.kept hbg)
          clear hcg hfg hbg
          go_wp2_with fail
          go_roundw
          case rel => exact ⟨0 + 1, by omega, by go_num, hbx, X2.out, storeAll_snoc hF.out K3.out⟩
          case measure => simp [intOf]; omega
        · obtain ⟨k, rfl⟩ : ∃ k, m = k + 1 := ⟨m - 1, by omega⟩
          have pk := HP.out k rfl
          have K2 : factB (F (k + 1) 0) (F (k + 1) 1) (F (k + 1) 2) (F (k + 1) 3) (F (k + 1) 4) = true := k1
          have hw : IntKind.i64.wrap (((k + 1 : Nat) : Int) - 1) = (k : Int) := by rw [IntKind.wrap_i64]; omega
          have hw' : IntKind.i64.wrap (k : Int) = (k : Int) := by rw [IntKind.wrap_i64]; omega
          have hk1 : (0 : Int) ≤ (k : Int) + 1 := by omega
          have hk2 : (k : Int) + 1 < (n : Int) := by omega
          have hz : decide (0 < k + 1) = true := by simp
          have hki : (k : Int) < (n : Int) := by omega
          have hk0 : (0 : Int) ≤ (k : Int) := by omega
          rcases Bool.eq_false_or_eq_true (decide (F (k + 1) 3 < F k 3)) with k3 | k3
          · have K3 := Lib.hid (show storeAt F (k + 1) = false by simp only [storeAt, k1, Nat.add_sub_cancel, k3]; rfl)
            clear k1 HP hm1
            go_wp2_with fail
            refine wp_region_held_drew (S := (fun w' => w'.cell? ⟨w.heap.size, 0, none⟩ = some (.slice (some ⟨b, off, none⟩) n cap) ∧ w'.cell? ⟨b, off + (k + 1) * 5, none⟩ = some (.int .i64 (F (k + 1) 0)) ∧ w'.cell? ⟨b, off + (k + 1) * 5 + 1, none⟩ = some (.int .i64 (F (k + 1) 1)) ∧ w'.cell? ⟨b, off + (k + 1) * 5 + 2, none⟩ = some (.int .i64 (F (k + 1) 2)) ∧ w'.cell? ⟨b, off + (k + 1) * 5 + 3, none⟩ = some (.int .i64 (F (k + 1) 3)) ∧ w'.cell? ⟨b, off + (k + 1) * 5 + 4, none⟩ = some (.int .i64 (F (k + 1) 4)) ∧ w'.cell? ⟨b, off + k * 5 + 3, none⟩ = some (.int .i64 (F k 3)))) (by kernel_rfl) (by (try dsimp only); simp [go_sem, *]) (fun hHeld => ?_)
            refine wpAnyH_take (i := 0) (oi := ?oi0d) (v := ?v0d) ?hi0d (by kernel_rfl) (by kernel_rfl) (by kernel_rfl) ?hQ0d ?hy0d (by assumption) ?hh0d
            case hi0d => simp only [List.getElem?_toArray, List.getElem?_cons_zero]; rfl
            case hy0d =>
              refine Or.inl ⟨by rfl, ?_⟩
              intro w hSw
              (try dsimp only at hSw)
              go_simp
              all_goals with_reducible rfl
            case hQ0d => exact fun _ _ _ h => h
            try simp only [Act.put, List.setIfInBounds_toArray, List.set_cons_zero, List.set_cons_succ]
            refine wpAnyH_take (i := 1) (oi := ?oi1d) (v := ?v1d) ?hi1d (by kernel_rfl) (by kernel_rfl) (by kernel_rfl) ?hQ1d ?hy1d (by assumption) ?hh1d
            case hi1d => simp only [List.getElem?_toArray, List.getElem?_cons_succ, List.getElem?_cons_zero]; rfl
            case hy1d =>
              refine Or.inl ⟨by rfl, ?_⟩
              intro w hSw
              (try dsimp only at hSw)
              go_simp
              all_goals with_reducible rfl
            case hQ1d => exact fun _ _ _ h => h
            try simp only [Act.put, List.setIfInBounds_toArray, List.set_cons_zero, List.set_cons_succ]
            refine wpAnyH_take (i := 2) (oi := ?oi2d) (v := ?v2d) ?hi2d (by kernel_rfl) (by kernel_rfl) (by kernel_rfl) ?hQ2d ?hy2d (by assumption) ?hh2d
            case hi2d => simp only [List.getElem?_toArray, List.getElem?_cons_succ, List.getElem?_cons_zero]; rfl
            case hy2d =>
              refine Or.inl ⟨by rfl, ?_⟩
              intro w hSw
              (try dsimp only at hSw)
              go_simp
              all_goals with_reducible rfl
            case hQ2d => exact fun _ _ _ h => h
            try simp only [Act.put, List.setIfInBounds_toArray, List.set_cons_zero, List.set_cons_succ]
            refine wpAnyH_take (i := 3) (oi := ?oi3d) (v := ?v3d) ?hi3d (by kernel_rfl) (by kernel_rfl) (by kernel_rfl) ?hQ3d ?hy3d (by assumption) ?hh3d
            case hi3d => simp only [List.getElem?_toArray, List.getElem?_cons_succ, List.getElem?_cons_zero]; rfl
            case hy3d =>
              refine Or.inl ⟨by rfl, ?_⟩
              intro w hSw
              (try dsimp only at hSw)
              go_simp
              all_goals with_reducible rfl
            case hQ3d => exact fun _ _ _ h => h
            try simp only [Act.put, List.setIfInBounds_toArray, List.set_cons_zero, List.set_cons_succ]
            refine wpAnyH_take (i := 4) (oi := ?oi4d) (v := ?v4d) ?hi4d (by kernel_rfl) (by kernel_rfl) (by kernel_rfl) ?hQ4d ?hy4d (by assumption) ?hh4d
            case hi4d => simp only [List.getElem?_toArray, List.getElem?_cons_succ, List.getElem?_cons_zero]; rfl
            case hy4d =>
              refine Or.inl ⟨by rfl, ?_⟩
              intro w hSw
              (try dsimp only at hSw)
              go_simp
              all_goals with_reducible rfl
            case hQ4d => exact fun _ _ _ h => h
            try simp only [Act.put, List.setIfInBounds_toArray, List.set_cons_zero, List.set_cons_succ]
            refine wpAnyH_ready (rs := [5]) (by kernel_rfl) (by simp) ?_
            refine AllReadyH.cons (o := ?oo5d) ?ho5d (fun K hK => ?hs5d) AllReadyH.nil
            case ho5d => simp only [List.getElem?_toArray, List.getElem?_cons_succ, List.getElem?_cons_zero]; rfl
            go_simp
            go_at_call 69
            with_reducible refine (sfactOk_any (F (k + 1) 0) (F (k + 1) 1) (F (k + 1) 2) (F (k + 1) 3) (F (k + 1) 4) _).mono ?_
            rintro e wg ⟨rfl, hbg⟩
            rw [K2]
            obtain ⟨hcg, hfg⟩ := bcell hbg
            (try simp only [World.size_drew] at hcg hfg)
            have zg := hbg.size
            (try simp only [World.size_drew] at zg)
            refine hK.out _ _ (by (try dsimp only); simp [go_sem, *]) (fun hHeld => ?_)
            clear hK K
            try simp only [Act.put, List.setIfInBounds_toArray, List.set_cons_zero, List.set_cons_succ]
            refine wpAnyH_take (i := 6) (oi := ?oi6d) (v := ?v6d) ?hi6d (by kernel_rfl) (by kernel_rfl) (by kernel_rfl) ?hQ6d ?hy6d (by assumption) ?hh6d
            case hi6d => simp only [List.getElem?_toArray, List.getElem?_cons_succ, List.getElem?_cons_zero]; rfl
            case hy6d =>
              refine Or.inl ⟨by rfl, ?_⟩
              intro w hSw
              (try dsimp only at hSw)
              go_simp
              all_goals with_reducible rfl
            case hQ6d => exact fun _ _ _ h => h
            try simp only [Act.put, List.setIfInBounds_toArray, List.set_cons_zero, List.set_cons_succ]
            refine wpAnyH_take (i := 7) (oi := ?oi7d) (v := ?v7d) ?hi7d (by kernel_rfl) (by kernel_rfl) (by kernel_rfl) ?hQ7d ?hy7d (by assumption) ?hh7d
            case hi7d => simp only [List.getElem?_toArray, List.getElem?_cons_succ, List.getElem?_cons_zero]; rfl
            case hy7d =>
              refine Or.inl ⟨by rfl, ?_⟩
              intro w hSw
              (try dsimp only at hSw)
              go_simp
              all_goals with_reducible rfl
            case hQ7d => exact fun _ _ _ h => h
            try simp only [Act.put, List.setIfInBounds_toArray, List.set_cons_zero, List.set_cons_succ]
            refine wpAnyH_take (i := 8) (oi := ?oi8d) (v := ?v8d) ?hi8d (by kernel_rfl) (by kernel_rfl) (by kernel_rfl) ?hQ8d ?hy8d (by assumption) ?hh8d
            case hi8d => simp only [List.getElem?_toArray, List.getElem?_cons_succ, List.getElem?_cons_zero]; rfl
            case hy8d =>
              refine Or.inl ⟨by rfl, ?_⟩
              intro w hSw
              (try dsimp only at hSw)
              go_simp
              all_goals with_reducible rfl
            case hQ8d => exact fun _ _ _ h => h
            try simp only [Act.put, List.setIfInBounds_toArray, List.set_cons_zero, List.set_cons_succ]
            refine wpAnyH_take (i := 9) (oi := ?oi9d) (v := ?v9d) ?hi9d (by kernel_rfl) (by kernel_rfl) (by kernel_rfl) ?hQ9d ?hy9d (by assumption) ?hh9d
            case hi9d => simp only [List.getElem?_toArray, List.getElem?_cons_succ, List.getElem?_cons_zero]; rfl
            case hy9d =>
              refine Or.inl ⟨by rfl, ?_⟩
              intro w hSw
              (try dsimp only at hSw)
              go_simp
              all_goals with_reducible rfl
            case hQ9d => exact fun _ _ _ h => h
            try simp only [Act.put, List.setIfInBounds_toArray, List.set_cons_zero, List.set_cons_succ]
            refine wpAnyH_take (i := 10) (oi := ?oi10d) (v := ?v10d) ?hi10d (by kernel_rfl) (by kernel_rfl) (by kernel_rfl) ?hQ10d ?hy10d (by assumption) ?hh10d
            case hi10d => simp only [List.getElem?_toArray, List.getElem?_cons_succ, List.getElem?_cons_zero]; rfl
            case hy10d =>
              refine Or.inl ⟨by rfl, ?_⟩
              intro w hSw
              (try dsimp only at hSw)
              go_simp
              all_goals with_reducible rfl
            case hQ10d => exact fun _ _ _ h => h
            try simp only [Act.put, List.setIfInBounds_toArray, List.set_cons_zero, List.set_cons_succ]
            refine wpAnyH_take (i := 11) (oi := ?oi11d) (v := ?v11d) ?hi11d (by kernel_rfl) (by kernel_rfl) (by kernel_rfl) ?hQ11d ?hy11d (by assumption) ?hh11d
            case hi11d => simp only [List.getElem?_toArray, List.getElem?_cons_succ, List.getElem?_cons_zero]; rfl
            case hy11d =>
              refine Or.inl ⟨by rfl, ?_⟩
              intro w hSw
              (try dsimp only at hSw)
              go_simp
              all_goals with_reducible rfl
            case hQ11d => exact fun _ _ _ h => h
            try simp only [Act.put, List.setIfInBounds_toArray, List.set_cons_zero, List.set_cons_succ]
            refine wpAnyH_take (i := 12) (oi := ?oi12d) (v := ?v12d) ?hi12d (by kernel_rfl) (by kernel_rfl) (by kernel_rfl) ?hQ12d ?hy12d (by assumption) ?hh12d
            case hi12d => simp only [List.getElem?_toArray, List.getElem?_cons_succ, List.getElem?_cons_zero]; rfl
            case hy12d =>
              refine Or.inl ⟨by rfl, ?_⟩
              intro w hSw
              (try dsimp only at hSw)
              go_simp
              all_goals with_reducible rfl
            case hQ12d => exact fun _ _ _ h => h
            try simp only [Act.put, List.setIfInBounds_toArray, List.set_cons_zero, List.set_cons_succ]
            refine wpAnyH_take (i := 13) (oi := ?oi13d) (v := ?v13d) ?hi13d (by kernel_rfl) (by kernel_rfl) (by kernel_rfl) ?hQ13d ?hy13d (by assumption) ?hh13d
            case hi13d => simp only [List.getElem?_toArray, List.getElem?_cons_succ, List.getElem?_cons_zero]; rfl
            case hy13d =>
              refine Or.inl ⟨by rfl, ?_⟩
              intro w hSw
              (try dsimp only at hSw)
              go_simp
              all_goals with_reducible rfl
            case hQ13d => exact fun _ _ _ h => h
            try simp only [Act.put, List.setIfInBounds_toArray, List.set_cons_zero, List.set_cons_succ]
            refine wpAnyH_take (i := 14) (oi := ?oi14d) (v := ?v14d) ?hi14d (by kernel_rfl) (by kernel_rfl) (by kernel_rfl) ?hQ14d ?hy14d (by assumption) ?hh14d
            case hi14d => simp only [List.getElem?_toArray, List.getElem?_cons_succ, List.getElem?_cons_zero]; rfl
            case hy14d =>
              refine Or.inl ⟨by rfl, ?_⟩
              intro w hSw
              (try dsimp only at hSw)
              go_simp
              all_goals with_reducible rfl
            case hQ14d => exact fun _ _ _ h => h
            try simp only [Act.put, List.setIfInBounds_toArray, List.set_cons_zero, List.set_cons_succ]
            refine wpAnyH_take (i := 15) (oi := ?oi15d) (v := ?v15d) ?hi15d (by kernel_rfl) (by kernel_rfl) (by kernel_rfl) ?hQ15d ?hy15d (by assumption) ?hh15d
            case hi15d => simp only [List.getElem?_toArray, List.getElem?_cons_succ, List.getElem?_cons_zero]; rfl
            case hy15d =>
              refine Or.inl ⟨by rfl, ?_⟩
              intro w hSw
              (try dsimp only at hSw)
              go_simp
              all_goals with_reducible rfl
            case hQ15d => exact fun _ _ _ h => h
            try simp only [Act.put, List.setIfInBounds_toArray, List.set_cons_zero, List.set_cons_succ]
            refine wpAnyH_take (i := 16) (oi := ?oi16d) (v := ?v16d) ?hi16d (by kernel_rfl) (by kernel_rfl) (by kernel_rfl) ?hQ16d ?hy16d (by assumption) ?hh16d
            case hi16d => simp only [List.getElem?_toArray, List.getElem?_cons_succ, List.getElem?_cons_zero]; rfl
            case hy16d =>
              refine Or.inl ⟨by rfl, ?_⟩
              intro w hSw
              (try dsimp only at hSw)
              go_simp
              all_goals with_reducible rfl
            case hQ16d => exact fun _ _ _ h => h
            try simp only [Act.put, List.setIfInBounds_toArray, List.set_cons_zero, List.set_cons_succ]
            refine wpAnyH_take (i := 17) (oi := ?oi17d) (v := ?v17d) ?hi17d (by kernel_rfl) (by kernel_rfl) (by kernel_rfl) ?hQ17d ?hy17d (by assumption) ?hh17d
            case hi17d => simp only [List.getElem?_toArray, List.getElem?_cons_succ, List.getElem?_cons_zero]; rfl
            case hy17d =>
              refine Or.inl ⟨by rfl, ?_⟩
              intro w hSw
              (try dsimp only at hSw)
              go_simp
              all_goals with_reducible rfl
            case hQ17d => exact fun _ _ _ h => h
            try simp only [Act.put, List.setIfInBounds_toArray, List.set_cons_zero, List.set_cons_succ]
            refine wpAnyH_take (i := 18) (oi := ?oi18d) (v := ?v18d) ?hi18d (by kernel_rfl) (by kernel_rfl) (by kernel_rfl) ?hQ18d ?hy18d (by assumption) ?hh18d
            case hi18d => simp only [List.getElem?_toArray, List.getElem?_cons_succ, List.getElem?_cons_zero]; rfl
            case hy18d =>
              refine Or.inl ⟨by rfl, ?_⟩
              intro w hSw
              (try dsimp only at hSw)
              go_simp
              all_goals with_reducible rfl
            case hQ18d => exact fun _ _ _ h => h
            try simp only [Act.put, List.setIfInBounds_toArray, List.set_cons_zero, List.set_cons_succ]
            refine wpAnyH_take (i := 19) (oi := ?oi19d) (v := ?v19d) ?hi19d (by kernel_rfl) (by kernel_rfl) (by kernel_rfl) ?hQ19d ?hy19d (by assumption) ?hh19d
            case hi19d => simp only [List.getElem?_toArray, List.getElem?_cons_succ, List.getElem?_cons_zero]; rfl
            case hy19d =>
              refine Or.inl ⟨by rfl, ?_⟩
              intro w hSw
              (try dsimp only at hSw)
              go_simp
              all_goals with_reducible rfl
            case hQ19d => exact fun _ _ _ h => h
            try simp only [Act.put, List.setIfInBounds_toArray, List.set_cons_zero, List.set_cons_succ]
            refine wpAnyH_take (i := 20) (oi := ?oi20d) (v := ?v20d) ?hi20d (by kernel_rfl) (by kernel_rfl) (by kernel_rfl) ?hQ20d ?hy20d (by assumption) ?hh20d
            case hi20d => simp only [List.getElem?_toArray, List.getElem?_cons_succ, List.getElem?_cons_zero]; rfl
            case hy20d =>
              refine Or.inl ⟨by rfl, ?_⟩
              intro w hSw
              (try dsimp only at hSw)
              go_simp
              all_goals with_reducible rfl
            case hQ20d => exact fun _ _ _ h => h
            try simp only [Act.put, List.setIfInBounds_toArray, List.set_cons_zero, List.set_cons_succ]
            refine wpAnyH_take (i := 21) (oi := ?oi21d) (v := ?v21d) ?hi21d (by kernel_rfl) (by kernel_rfl) (by kernel_rfl) ?hQ21d ?hy21d (by assumption) ?hh21d
            case hi21d => simp only [List.getElem?_toArray, List.getElem?_cons_succ, List.getElem?_cons_zero]; rfl
            case hy21d =>
              refine Or.inl ⟨by rfl, ?_⟩
              intro w hSw
              (try dsimp only at hSw)
              go_simp
              all_goals with_reducible rfl
            case hQ21d => exact fun _ _ _ h => h
            try simp only [Act.put, List.setIfInBounds_toArray, List.set_cons_zero, List.set_cons_succ]
            refine wpAnyH_take (i := 22) (oi := ?oi22d) (v := ?v22d) ?hi22d (by kernel_rfl) (by kernel_rfl) (by kernel_rfl) ?hQ22d ?hy22d (by assumption) ?hh22d
            case hi22d => simp only [List.getElem?_toArray, List.getElem?_cons_succ, List.getElem?_cons_zero]; rfl
            case hy22d =>
              refine Or.inl ⟨by rfl, ?_⟩
              intro w hSw
              (try dsimp only at hSw)
              go_simp
              all_goals with_reducible rfl
            case hQ22d => exact fun _ _ _ h => h
            try simp only [Act.put, List.setIfInBounds_toArray, List.set_cons_zero, List.set_cons_succ]
            refine wpAnyH_take (i := 23) (oi := ?oi23d) (v := ?v23d) ?hi23d (by kernel_rfl) (by kernel_rfl) (by kernel_rfl) ?hQ23d ?hy23d (by assumption) ?hh23d
            case hi23d => simp only [List.getElem?_toArray, List.getElem?_cons_succ, List.getElem?_cons_zero]; rfl
            case hy23d =>
              refine Or.inl ⟨by rfl, ?_⟩
              intro w hSw
              (try dsimp only at hSw)
              go_simp
              all_goals with_reducible rfl
            case hQ23d => exact fun _ _ _ h => h
            try simp only [Act.put, List.setIfInBounds_toArray, List.set_cons_zero, List.set_cons_succ]
            refine wpAnyH_take (i := 24) (oi := ?oi24d) (v := ?v24d) ?hi24d (by kernel_rfl) (by kernel_rfl) (by kernel_rfl) ?hQ24d ?hy24d (by assumption) ?hh24d
            case hi24d => simp only [List.getElem?_toArray, List.getElem?_cons_succ, List.getElem?_cons_zero]; rfl
            case hy24d =>
              refine Or.inl ⟨by rfl, ?_⟩
              intro w hSw
              (try dsimp only at hSw)
              go_simp
              all_goals with_reducible rfl
            case hQ24d => exact fun _ _ _ h => h
            try simp only [Act.put, List.setIfInBounds_toArray, List.set_cons_zero, List.set_cons_succ]
            refine wpAnyH_take (i := 25) (oi := ?oi25d) (v := ?v25d) ?hi25d (by kernel_rfl) (by kernel_rfl) (by kernel_rfl) ?hQ25d ?hy25d (by assumption) ?hh25d
            case hi25d => simp only [List.getElem?_toArray, List.getElem?_cons_succ, List.getElem?_cons_zero]; rfl
            case hy25d =>
              refine Or.inl ⟨by rfl, ?_⟩
              intro w hSw
              (try dsimp only at hSw)
              go_simp
              all_goals with_reducible rfl
            case hQ25d => exact fun _ _ _ h => h
            try simp only [Act.put, List.setIfInBounds_toArray, List.set_cons_zero, List.set_cons_succ]
            refine wpAnyH_take (i := 26) (oi := ?oi26d) (v := ?v26d) ?hi26d (by kernel_rfl) (by kernel_rfl) (by kernel_rfl) ?hQ26d ?hy26d (by assumption) ?hh26d
            case hi26d => simp only [List.getElem?_toArray, List.getElem?_cons_succ, List.getElem?_cons_zero]; rfl
            case hy26d =>
              refine Or.inl ⟨by rfl, ?_⟩
              intro w hSw
              (try dsimp only at hSw)
              go_simp
              all_goals with_reducible rfl
            case hQ26d => exact fun _ _ _ h => h
            try simp only [Act.put, List.setIfInBounds_toArray, List.set_cons_zero, List.set_cons_succ]
            refine wpAnyH_done (by kernel_rfl) ?_ _
            have hbx : Below w.heap.size w wg := (HB.out.drew).trans (hbg.mono zb)
            clear hcg hfg hbg
            go_wp2_with fail
            go_ret
            exact ⟨ret_bool (storeB_bad hlt K3.out).symm, hbx⟩
          · have K3 := Lib.hid (show storeAt F (k + 1) = true by simp only [storeAt, k1, Nat.add_sub_cancel, k3]; rfl)
            clear k1 HP hm1
            go_wp2_with fail
            refine wp_region_held_drew (S := (fun w' => w'.cell? ⟨w.heap.size, 0, none⟩ = some (.slice (some ⟨b, off, none⟩) n cap) ∧ w'.cell? ⟨b, off + (k + 1) * 5, none⟩ = some (.int .i64 (F (k + 1) 0)) ∧ w'.cell? ⟨b, off + (k + 1) * 5 + 1, none⟩ = some (.int .i64 (F (k + 1) 1)) ∧ w'.cell? ⟨b, off + (k + 1) * 5 + 2, none⟩ = some (.int .i64 (F (k + 1) 2)) ∧ w'.cell? ⟨b, off + (k + 1) * 5 + 3, none⟩ = some (.int .i64 (F (k + 1) 3)) ∧ w'.cell? ⟨b, off + (k + 1) * 5 + 4, none⟩ = some (.int .i64 (F (k + 1) 4)) ∧ w'.cell? ⟨b, off + k * 5 + 3, none⟩ = some (.int .i64 (F k 3)))) (by kernel_rfl) (by (try dsimp only); simp [go_sem, *]) (fun hHeld => ?_)
            refine wpAnyH_take (i := 0) (oi := ?oi0c) (v := ?v0c) ?hi0c (by kernel_rfl) (by kernel_rfl) (by kernel_rfl) ?hQ0c ?hy0c (by assumption) ?hh0c
            case hi0c => simp only [List.getElem?_toArray, List.getElem?_cons_zero]; rfl
            case hy0c =>
              refine Or.inl ⟨by rfl, ?_⟩
              intro w hSw
              (try dsimp only at hSw)
              go_simp
              all_goals with_reducible rfl
            case hQ0c => exact fun _ _ _ h => h
            try simp only [Act.put, List.setIfInBounds_toArray, List.set_cons_zero, List.set_cons_succ]
            refine wpAnyH_take (i := 1) (oi := ?oi1c) (v := ?v1c) ?hi1c (by kernel_rfl) (by kernel_rfl) (by kernel_rfl) ?hQ1c ?hy1c (by assumption) ?hh1c
            case hi1c => simp only [List.getElem?_toArray, List.getElem?_cons_succ, List.getElem?_cons_zero]; rfl
            case hy1c =>
              refine Or.inl ⟨by rfl, ?_⟩
              intro w hSw
              (try dsimp only at hSw)
              go_simp
              all_goals with_reducible rfl
            case hQ1c => exact fun _ _ _ h => h
            try simp only [Act.put, List.setIfInBounds_toArray, List.set_cons_zero, List.set_cons_succ]
            refine wpAnyH_take (i := 2) (oi := ?oi2c) (v := ?v2c) ?hi2c (by kernel_rfl) (by kernel_rfl) (by kernel_rfl) ?hQ2c ?hy2c (by assumption) ?hh2c
            case hi2c => simp only [List.getElem?_toArray, List.getElem?_cons_succ, List.getElem?_cons_zero]; rfl
            case hy2c =>
              refine Or.inl ⟨by rfl, ?_⟩
              intro w hSw
              (try dsimp only at hSw)
              go_simp
              all_goals with_reducible rfl
            case hQ2c => exact fun _ _ _ h => h
            try simp only [Act.put, List.setIfInBounds_toArray, List.set_cons_zero, List.set_cons_succ]
            refine wpAnyH_take (i := 3) (oi := ?oi3c) (v := ?v3c) ?hi3c (by kernel_rfl) (by kernel_rfl) (by kernel_rfl) ?hQ3c ?hy3c (by assumption) ?hh3c
            case hi3c => simp only [List.getElem?_toArray, List.getElem?_cons_succ, List.getElem?_cons_zero]; rfl
            case hy3c =>
              refine Or.inl ⟨by rfl, ?_⟩
              intro w hSw
              (try dsimp only at hSw)
              go_simp
              all_goals with_reducible rfl
            case hQ3c => exact fun _ _ _ h => h
            try simp only [Act.put, List.setIfInBounds_toArray, List.set_cons_zero, List.set_cons_succ]
            refine wpAnyH_take (i := 4) (oi := ?oi4c) (v := ?v4c) ?hi4c (by kernel_rfl) (by kernel_rfl) (by kernel_rfl) ?hQ4c ?hy4c (by assumption) ?hh4c
            case hi4c => simp only [List.getElem?_toArray, List.getElem?_cons_succ, List.getElem?_cons_zero]; rfl
            case hy4c =>
              refine Or.inl ⟨by rfl, ?_⟩
              intro w hSw
              (try dsimp only at hSw)
              go_simp
              all_goals with_reducible rfl
            case hQ4c => exact fun _ _ _ h => h
            try simp only [Act.put, List.setIfInBounds_toArray, List.set_cons_zero, List.set_cons_succ]
            refine wpAnyH_ready (rs := [5]) (by kernel_rfl) (by simp) ?_
            refine AllReadyH.cons (o := ?oo5c) ?ho5c (fun K hK => ?hs5c) AllReadyH.nil
            case ho5c => simp only [List.getElem?_toArray, List.getElem?_cons_succ, List.getElem?_cons_zero]; rfl
            go_simp
            go_at_call 69
            with_reducible refine (sfactOk_any (F (k + 1) 0) (F (k + 1) 1) (F (k + 1) 2) (F (k + 1) 3) (F (k + 1) 4) _).mono ?_
            rintro e wg ⟨rfl, hbg⟩
            rw [K2]
            obtain ⟨hcg, hfg⟩ := bcell hbg
            (try simp only [World.size_drew] at hcg hfg)
            have zg := hbg.size
            (try simp only [World.size_drew] at zg)
            refine hK.out _ _ (by (try dsimp only); simp [go_sem, *]) (fun hHeld => ?_)
            clear hK K
            try simp only [Act.put, List.setIfInBounds_toArray, List.set_cons_zero, List.set_cons_succ]
            refine wpAnyH_take (i := 6) (oi := ?oi6c) (v := ?v6c) ?hi6c (by kernel_rfl) (by kernel_rfl) (by kernel_rfl) ?hQ6c ?hy6c (by assumption) ?hh6c
            case hi6c => simp only [List.getElem?_toArray, List.getElem?_cons_succ, List.getElem?_cons_zero]; rfl
            case hy6c =>
              refine Or.inl ⟨by rfl, ?_⟩
              intro w hSw
              (try dsimp only at hSw)
              go_simp
              all_goals with_reducible rfl
            case hQ6c => exact fun _ _ _ h => h
            try simp only [Act.put, List.setIfInBounds_toArray, List.set_cons_zero, List.set_cons_succ]
            refine wpAnyH_take (i := 7) (oi := ?oi7c) (v := ?v7c) ?hi7c (by kernel_rfl) (by kernel_rfl) (by kernel_rfl) ?hQ7c ?hy7c (by assumption) ?hh7c
            case hi7c => simp only [List.getElem?_toArray, List.getElem?_cons_succ, List.getElem?_cons_zero]; rfl
            case hy7c =>
              refine Or.inl ⟨by rfl, ?_⟩
              intro w hSw
              (try dsimp only at hSw)
              go_simp
              all_goals with_reducible rfl
            case hQ7c => exact fun _ _ _ h => h
            try simp only [Act.put, List.setIfInBounds_toArray, List.set_cons_zero, List.set_cons_succ]
            refine wpAnyH_take (i := 8) (oi := ?oi8c) (v := ?v8c) ?hi8c (by kernel_rfl) (by kernel_rfl) (by kernel_rfl) ?hQ8c ?hy8c (by assumption) ?hh8c
            case hi8c => simp only [List.getElem?_toArray, List.getElem?_cons_succ, List.getElem?_cons_zero]; rfl
            case hy8c =>
              refine Or.inl ⟨by rfl, ?_⟩
              intro w hSw
              (try dsimp only at hSw)
              go_simp
              all_goals with_reducible rfl
            case hQ8c => exact fun _ _ _ h => h
            try simp only [Act.put, List.setIfInBounds_toArray, List.set_cons_zero, List.set_cons_succ]
            refine wpAnyH_take (i := 9) (oi := ?oi9c) (v := ?v9c) ?hi9c (by kernel_rfl) (by kernel_rfl) (by kernel_rfl) ?hQ9c ?hy9c (by assumption) ?hh9c
            case hi9c => simp only [List.getElem?_toArray, List.getElem?_cons_succ, List.getElem?_cons_zero]; rfl
            case hy9c =>
              refine Or.inl ⟨by rfl, ?_⟩
              intro w hSw
              (try dsimp only at hSw)
              go_simp
              all_goals with_reducible rfl
            case hQ9c => exact fun _ _ _ h => h
            try simp only [Act.put, List.setIfInBounds_toArray, List.set_cons_zero, List.set_cons_succ]
            refine wpAnyH_take (i := 10) (oi := ?oi10c) (v := ?v10c) ?hi10c (by kernel_rfl) (by kernel_rfl) (by kernel_rfl) ?hQ10c ?hy10c (by assumption) ?hh10c
            case hi10c => simp only [List.getElem?_toArray, List.getElem?_cons_succ, List.getElem?_cons_zero]; rfl
            case hy10c =>
              refine Or.inl ⟨by rfl, ?_⟩
              intro w hSw
              (try dsimp only at hSw)
              go_simp
              all_goals with_reducible rfl
            case hQ10c => exact fun _ _ _ h => h
            try simp only [Act.put, List.setIfInBounds_toArray, List.set_cons_zero, List.set_cons_succ]
            refine wpAnyH_take (i := 11) (oi := ?oi11c) (v := ?v11c) ?hi11c (by kernel_rfl) (by kernel_rfl) (by kernel_rfl) ?hQ11c ?hy11c (by assumption) ?hh11c
            case hi11c => simp only [List.getElem?_toArray, List.getElem?_cons_succ, List.getElem?_cons_zero]; rfl
            case hy11c =>
              refine Or.inl ⟨by rfl, ?_⟩
              intro w hSw
              (try dsimp only at hSw)
              go_simp
              all_goals with_reducible rfl
            case hQ11c => exact fun _ _ _ h => h
            try simp only [Act.put, List.setIfInBounds_toArray, List.set_cons_zero, List.set_cons_succ]
            refine wpAnyH_take (i := 12) (oi := ?oi12c) (v := ?v12c) ?hi12c (by kernel_rfl) (by kernel_rfl) (by kernel_rfl) ?hQ12c ?hy12c (by assumption) ?hh12c
            case hi12c => simp only [List.getElem?_toArray, List.getElem?_cons_succ, List.getElem?_cons_zero]; rfl
            case hy12c =>
              refine Or.inl ⟨by rfl, ?_⟩
              intro w hSw
              (try dsimp only at hSw)
              go_simp
              all_goals with_reducible rfl
            case hQ12c => exact fun _ _ _ h => h
            try simp only [Act.put, List.setIfInBounds_toArray, List.set_cons_zero, List.set_cons_succ]
            refine wpAnyH_take (i := 13) (oi := ?oi13c) (v := ?v13c) ?hi13c (by kernel_rfl) (by kernel_rfl) (by kernel_rfl) ?hQ13c ?hy13c (by assumption) ?hh13c
            case hi13c => simp only [List.getElem?_toArray, List.getElem?_cons_succ, List.getElem?_cons_zero]; rfl
            case hy13c =>
              refine Or.inl ⟨by rfl, ?_⟩
              intro w hSw
              (try dsimp only at hSw)
              go_simp
              all_goals with_reducible rfl
            case hQ13c => exact fun _ _ _ h => h
            try simp only [Act.put, List.setIfInBounds_toArray, List.set_cons_zero, List.set_cons_succ]
            refine wpAnyH_take (i := 14) (oi := ?oi14c) (v := ?v14c) ?hi14c (by kernel_rfl) (by kernel_rfl) (by kernel_rfl) ?hQ14c ?hy14c (by assumption) ?hh14c
            case hi14c => simp only [List.getElem?_toArray, List.getElem?_cons_succ, List.getElem?_cons_zero]; rfl
            case hy14c =>
              refine Or.inl ⟨by rfl, ?_⟩
              intro w hSw
              (try dsimp only at hSw)
              go_simp
              all_goals with_reducible rfl
            case hQ14c => exact fun _ _ _ h => h
            try simp only [Act.put, List.setIfInBounds_toArray, List.set_cons_zero, List.set_cons_succ]
            refine wpAnyH_take (i := 15) (oi := ?oi15c) (v := ?v15c) ?hi15c (by kernel_rfl) (by kernel_rfl) (by kernel_rfl) ?hQ15c ?hy15c (by assumption) ?hh15c
            case hi15c => simp only [List.getElem?_toArray, List.getElem?_cons_succ, List.getElem?_cons_zero]; rfl
            case hy15c =>
              refine Or.inl ⟨by rfl, ?_⟩
              intro w hSw
              (try dsimp only at hSw)
              go_simp
              all_goals with_reducible rfl
            case hQ15c => exact fun _ _ _ h => h
            try simp only [Act.put, List.setIfInBounds_toArray, List.set_cons_zero, List.set_cons_succ]
            refine wpAnyH_take (i := 16) (oi := ?oi16c) (v := ?v16c) ?hi16c (by kernel_rfl) (by kernel_rfl) (by kernel_rfl) ?hQ16c ?hy16c (by assumption) ?hh16c
            case hi16c => simp only [List.getElem?_toArray, List.getElem?_cons_succ, List.getElem?_cons_zero]; rfl
            case hy16c =>
              refine Or.inl ⟨by rfl, ?_⟩
              intro w hSw
              (try dsimp only at hSw)
              go_simp
              all_goals with_reducible rfl
            case hQ16c => exact fun _ _ _ h => h
            try simp only [Act.put, List.setIfInBounds_toArray, List.set_cons_zero, List.set_cons_succ]
            refine wpAnyH_take (i := 17) (oi := ?oi17c) (v := ?v17c) ?hi17c (by kernel_rfl) (by kernel_rfl) (by kernel_rfl) ?hQ17c ?hy17c (by assumption) ?hh17c
            case hi17c => simp only [List.getElem?_toArray, List.getElem?_cons_succ, List.getElem?_cons_zero]; rfl
            case hy17c =>
              refine Or.inl ⟨by rfl, ?_⟩
              intro w hSw
              (try dsimp only at hSw)
              go_simp
              all_goals with_reducible rfl
            case hQ17c => exact fun _ _ _ h => h
            try simp only [Act.put, List.setIfInBounds_toArray, List.set_cons_zero, List.set_cons_succ]
            refine wpAnyH_take (i := 18) (oi := ?oi18c) (v := ?v18c) ?hi18c (by kernel_rfl) (by kernel_rfl) (by kernel_rfl) ?hQ18c ?hy18c (by assumption) ?hh18c
            case hi18c => simp only [List.getElem?_toArray, List.getElem?_cons_succ, List.getElem?_cons_zero]; rfl
            case hy18c =>
              refine Or.inl ⟨by rfl, ?_⟩
              intro w hSw
              (try dsimp only at hSw)
              go_simp
              all_goals with_reducible rfl
            case hQ18c => exact fun _ _ _ h => h
            try simp only [Act.put, List.setIfInBounds_toArray, List.set_cons_zero, List.set_cons_succ]
            refine wpAnyH_take (i := 19) (oi := ?oi19c) (v := ?v19c) ?hi19c (by kernel_rfl) (by kernel_rfl) (by kernel_rfl) ?hQ19c ?hy19c (by assumption) ?hh19c
            case hi19c => simp only [List.getElem?_toArray, List.getElem?_cons_succ, List.getElem?_cons_zero]; rfl
            case hy19c =>
              refine Or.inl ⟨by rfl, ?_⟩
              intro w hSw
              (try dsimp only at hSw)
              go_simp
              all_goals with_reducible rfl
            case hQ19c => exact fun _ _ _ h => h
            try simp only [Act.put, List.setIfInBounds_toArray, List.set_cons_zero, List.set_cons_succ]
            refine wpAnyH_take (i := 20) (oi := ?oi20c) (v := ?v20c) ?hi20c (by kernel_rfl) (by kernel_rfl) (by kernel_rfl) ?hQ20c ?hy20c (by assumption) ?hh20c
            case hi20c => simp only [List.getElem?_toArray, List.getElem?_cons_succ, List.getElem?_cons_zero]; rfl
            case hy20c =>
              refine Or.inl ⟨by rfl, ?_⟩
              intro w hSw
              (try dsimp only at hSw)
              go_simp
              all_goals with_reducible rfl
            case hQ20c => exact fun _ _ _ h => h
            try simp only [Act.put, List.setIfInBounds_toArray, List.set_cons_zero, List.set_cons_succ]
            refine wpAnyH_take (i := 21) (oi := ?oi21c) (v := ?v21c) ?hi21c (by kernel_rfl) (by kernel_rfl) (by kernel_rfl) ?hQ21c ?hy21c (by assumption) ?hh21c
            case hi21c => simp only [List.getElem?_toArray, List.getElem?_cons_succ, List.getElem?_cons_zero]; rfl
            case hy21c =>
              refine Or.inl ⟨by rfl, ?_⟩
              intro w hSw
              (try dsimp only at hSw)
              go_simp
              all_goals with_reducible rfl
            case hQ21c => exact fun _ _ _ h => h
            try simp only [Act.put, List.setIfInBounds_toArray, List.set_cons_zero, List.set_cons_succ]
            refine wpAnyH_take (i := 22) (oi := ?oi22c) (v := ?v22c) ?hi22c (by kernel_rfl) (by kernel_rfl) (by kernel_rfl) ?hQ22c ?hy22c (by assumption) ?hh22c
            case hi22c => simp only [List.getElem?_toArray, List.getElem?_cons_succ, List.getElem?_cons_zero]; rfl
            case hy22c =>
              refine Or.inl ⟨by rfl, ?_⟩
              intro w hSw
              (try dsimp only at hSw)
              go_simp
              all_goals with_reducible rfl
            case hQ22c => exact fun _ _ _ h => h
            try simp only [Act.put, List.setIfInBounds_toArray, List.set_cons_zero, List.set_cons_succ]
            refine wpAnyH_take (i := 23) (oi := ?oi23c) (v := ?v23c) ?hi23c (by kernel_rfl) (by kernel_rfl) (by kernel_rfl) ?hQ23c ?hy23c (by assumption) ?hh23c
            case hi23c => simp only [List.getElem?_toArray, List.getElem?_cons_succ, List.getElem?_cons_zero]; rfl
            case hy23c =>
              refine Or.inl ⟨by rfl, ?_⟩
              intro w hSw
              (try dsimp only at hSw)
              go_simp
              all_goals with_reducible rfl
            case hQ23c => exact fun _ _ _ h => h
            try simp only [Act.put, List.setIfInBounds_toArray, List.set_cons_zero, List.set_cons_succ]
            refine wpAnyH_take (i := 24) (oi := ?oi24c) (v := ?v24c) ?hi24c (by kernel_rfl) (by kernel_rfl) (by kernel_rfl) ?hQ24c ?hy24c (by assumption) ?hh24c
            case hi24c => simp only [List.getElem?_toArray, List.getElem?_cons_succ, List.getElem?_cons_zero]; rfl
            case hy24c =>
              refine Or.inl ⟨by rfl, ?_⟩
              intro w hSw
              (try dsimp only at hSw)
              go_simp
              all_goals with_reducible rfl
            case hQ24c => exact fun _ _ _ h => h
            try simp only [Act.put, List.setIfInBounds_toArray, List.set_cons_zero, List.set_cons_succ]
            refine wpAnyH_take (i := 25) (oi := ?oi25c) (v := ?v25c) ?hi25c (by kernel_rfl) (by kernel_rfl) (by kernel_rfl) ?hQ25c ?hy25c (by assumption) ?hh25c
            case hi25c => simp only [List.getElem?_toArray, List.getElem?_cons_succ, List.getElem?_cons_zero]; rfl
            case hy25c =>
              refine Or.inl ⟨by rfl, ?_⟩
              intro w hSw
              (try dsimp only at hSw)
              go_simp
              all_goals with_reducible rfl
            case hQ25c => exact fun _ _ _ h => h
            try simp only [Act.put, List.setIfInBounds_toArray, List.set_cons_zero, List.set_cons_succ]
            refine wpAnyH_take (i := 26) (oi := ?oi26c) (v := ?v26c) ?hi26c (by kernel_rfl) (by kernel_rfl) (by kernel_rfl) ?hQ26c ?hy26c (by assumption) ?hh26c
            case hi26c => simp only [List.getElem?_toArray, List.getElem?_cons_succ, List.getElem?_cons_zero]; rfl
            case hy26c =>
              refine Or.inl ⟨by rfl, ?_⟩
              intro w hSw
              (try dsimp only at hSw)
              go_simp
              all_goals with_reducible rfl
            case hQ26c => exact fun _ _ _ h => h
            try simp only [Act.put, List.setIfInBounds_toArray, List.set_cons_zero, List.set_cons_succ]
            refine wpAnyH_done (by kernel_rfl) ?_ _
            have hbx : Below w.heap.size w wg := (HB.out.drew).trans (hbg.mono zb)
            have X2 := Lib.hid (X1.out.drew.kept hbg)
            clear hcg hfg hbg
            go_wp2_with fail
            go_roundw
            case rel => exact ⟨(k + 1) + 1, by omega, by go_num, hbx, X2.out, storeAll_snoc hF.out K3.out⟩
            case measure => simp [intOf]; omega
      · have K2 : factB (F m 0) (F m 1) (F m 2) (F m 3) (F m 4) = false := k1
        have K3 := Lib.hid (show storeAt F m = false by simp only [storeAt, k1, Bool.false_and])
        clear k1 HP
        go_wp2_with fail
        refine wp_region_held_drew (S := (fun w' => w'.cell? ⟨w.heap.size, 0, none⟩ = some (.slice (some ⟨b, off, none⟩) n cap) ∧ w'.cell? ⟨b, off + m * 5, none⟩ = some (.int .i64 (F m 0)) ∧ w'.cell? ⟨b, off + m * 5 + 1, none⟩ = some (.int .i64 (F m 1)) ∧ w'.cell? ⟨b, off + m * 5 + 2, none⟩ = some (.int .i64 (F m 2)) ∧ w'.cell? ⟨b, off + m * 5 + 3, none⟩ = some (.int .i64 (F m 3)) ∧ w'.cell? ⟨b, off + m * 5 + 4, none⟩ = some (.int .i64 (F m 4)))) (by kernel_rfl) (by (try dsimp only); simp [go_sem, *]) (fun hHeld => ?_)
        refine wpAnyH_take (i := 0) (oi := ?oi0a) (v := ?v0a) ?hi0a (by kernel_rfl) (by kernel_rfl) (by kernel_rfl) ?hQ0a ?hy0a (by assumption) ?hh0a
        case hi0a => simp only [List.getElem?_toArray, List.getElem?_cons_zero]; rfl
        case hy0a =>
          refine Or.inl ⟨by rfl, ?_⟩
          intro w hSw
          (try dsimp only at hSw)
          go_simp
          all_goals with_reducible rfl
        case hQ0a => exact fun _ _ _ h => h
        try simp only [Act.put, List.setIfInBounds_toArray, List.set_cons_zero, List.set_cons_succ]
        refine wpAnyH_take (i := 1) (oi := ?oi1a) (v := ?v1a) ?hi1a (by kernel_rfl) (by kernel_rfl) (by kernel_rfl) ?hQ1a ?hy1a (by assumption) ?hh1a
        case hi1a => simp only [List.getElem?_toArray, List.getElem?_cons_succ, List.getElem?_cons_zero]; rfl
        case hy1a =>
          refine Or.inl ⟨by rfl, ?_⟩
          intro w hSw
          (try dsimp only at hSw)
          go_simp
          all_goals with_reducible rfl
        case hQ1a => exact fun _ _ _ h => h
        try simp only [Act.put, List.setIfInBounds_toArray, List.set_cons_zero, List.set_cons_succ]
        refine wpAnyH_take (i := 2) (oi := ?oi2a) (v := ?v2a) ?hi2a (by kernel_rfl) (by kernel_rfl) (by kernel_rfl) ?hQ2a ?hy2a (by assumption) ?hh2a
        case hi2a => simp only [List.getElem?_toArray, List.getElem?_cons_succ, List.getElem?_cons_zero]; rfl
        case hy2a =>
          refine Or.inl ⟨by rfl, ?_⟩
          intro w hSw
          (try dsimp only at hSw)
          go_simp
          all_goals with_reducible rfl
        case hQ2a => exact fun _ _ _ h => h
        try simp only [Act.put, List.setIfInBounds_toArray, List.set_cons_zero, List.set_cons_succ]
        refine wpAnyH_take (i := 3) (oi := ?oi3a) (v := ?v3a) ?hi3a (by kernel_rfl) (by kernel_rfl) (by kernel_rfl) ?hQ3a ?hy3a (by assumption) ?hh3a
        case hi3a => simp only [List.getElem?_toArray, List.getElem?_cons_succ, List.getElem?_cons_zero]; rfl
        case hy3a =>
          refine Or.inl ⟨by rfl, ?_⟩
          intro w hSw
          (try dsimp only at hSw)
          go_simp
          all_goals with_reducible rfl
        case hQ3a => exact fun _ _ _ h => h
        try simp only [Act.put, List.setIfInBounds_toArray, List.set_cons_zero, List.set_cons_succ]
        refine wpAnyH_take (i := 4) (oi := ?oi4a) (v := ?v4a) ?hi4a (by kernel_rfl) (by kernel_rfl) (by kernel_rfl) ?hQ4a ?hy4a (by assumption) ?hh4a
        case hi4a => simp only [List.getElem?_toArray, List.getElem?_cons_succ, List.getElem?_cons_zero]; rfl
        case hy4a =>
          refine Or.inl ⟨by rfl, ?_⟩
          intro w hSw
          (try dsimp only at hSw)
          go_simp
          all_goals with_reducible rfl
        case hQ4a => exact fun _ _ _ h => h
        try simp only [Act.put, List.setIfInBounds_toArray, List.set_cons_zero, List.set_cons_succ]
        refine wpAnyH_ready (rs := [5]) (by kernel_rfl) (by simp) ?_
        refine AllReadyH.cons (o := ?oo5a) ?ho5a (fun K hK => ?hs5a) AllReadyH.nil
        case ho5a => simp only [List.getElem?_toArray, List.getElem?_cons_succ, List.getElem?_cons_zero]; rfl
        go_simp
        go_at_call 69
        with_reducible refine (sfactOk_any (F m 0) (F m 1) (F m 2) (F m 3) (F m 4) _).mono ?_
        rintro e wg ⟨rfl, hbg⟩
        rw [K2]
        obtain ⟨hcg, hfg⟩ := bcell hbg
        (try simp only [World.size_drew] at hcg hfg)
        have zg := hbg.size
        (try simp only [World.size_drew] at zg)
        refine hK.out _ _ (by (try dsimp only); simp [go_sem, *]) (fun hHeld => ?_)
        clear hK K
        try simp only [Act.put, List.setIfInBounds_toArray, List.set_cons_zero, List.set_cons_succ]
        refine wpAnyH_take (i := 6) (oi := ?oi6a) (v := ?v6a) ?hi6a (by kernel_rfl) (by kernel_rfl) (by kernel_rfl) ?hQ6a ?hy6a (by assumption) ?hh6a
        case hi6a => simp only [List.getElem?_toArray, List.getElem?_cons_succ, List.getElem?_cons_zero]; rfl
        case hy6a =>
          refine Or.inl ⟨by rfl, ?_⟩
          intro w hSw
          (try dsimp only at hSw)
          go_simp
          all_goals with_reducible rfl
        case hQ6a => exact fun _ _ _ h => h
        try simp only [Act.put, List.setIfInBounds_toArray, List.set_cons_zero, List.set_cons_succ]
        refine wpAnyH_take (i := 7) (oi := ?oi7a) (v := ?v7a) ?hi7a (by kernel_rfl) (by kernel_rfl) (by kernel_rfl) ?hQ7a ?hy7a (by assumption) ?hh7a
        case hi7a => simp only [List.getElem?_toArray, List.getElem?_cons_succ, List.getElem?_cons_zero]; rfl
        case hy7a =>
          refine Or.inl ⟨by rfl, ?_⟩
          intro w hSw
          (try dsimp only at hSw)
          go_simp
          all_goals with_reducible rfl
        case hQ7a => exact fun _ _ _ h => h
        try simp only [Act.put, List.setIfInBounds_toArray, List.set_cons_zero, List.set_cons_succ]
        refine wpAnyH_take (i := 8) (oi := ?oi8a) (v := undef) ?hi8a (by kernel_rfl) (by kernel_rfl) (by kernel_rfl) ?hQ8a ?hy8a (by assumption) ?hh8a
        case hi8a => simp only [List.getElem?_toArray, List.getElem?_cons_succ, List.getElem?_cons_zero]; rfl
        case hy8a => exact Or.inr ⟨by rfl, rfl⟩
        case hQ8a => exact fun _ _ _ h => h
        try simp only [Act.put, List.setIfInBounds_toArray, List.set_cons_zero, List.set_cons_succ]
        refine wpAnyH_take (i := 9) (oi := ?oi9a) (v := undef) ?hi9a (by kernel_rfl) (by kernel_rfl) (by kernel_rfl) ?hQ9a ?hy9a (by assumption) ?hh9a
        case hi9a => simp only [List.getElem?_toArray, List.getElem?_cons_succ, List.getElem?_cons_zero]; rfl
        case hy9a => exact Or.inr ⟨by rfl, rfl⟩
        case hQ9a => exact fun _ _ _ h => h
        try simp only [Act.put, List.setIfInBounds_toArray, List.set_cons_zero, List.set_cons_succ]
        refine wpAnyH_take (i := 10) (oi := ?oi10a) (v := undef) ?hi10a (by kernel_rfl) (by kernel_rfl) (by kernel_rfl) ?hQ10a ?hy10a (by assumption) ?hh10a
        case hi10a => simp only [List.getElem?_toArray, List.getElem?_cons_succ, List.getElem?_cons_zero]; rfl
        case hy10a => exact Or.inr ⟨by rfl, rfl⟩
        case hQ10a => exact fun _ _ _ h => h
        try simp only [Act.put, List.setIfInBounds_toArray, List.set_cons_zero, List.set_cons_succ]
        refine wpAnyH_take (i := 11) (oi := ?oi11a) (v := undef) ?hi11a (by kernel_rfl) (by kernel_rfl) (by kernel_rfl) ?hQ11a ?hy11a (by assumption) ?hh11a
        case hi11a => simp only [List.getElem?_toArray, List.getElem?_cons_succ, List.getElem?_cons_zero]; rfl
        case hy11a => exact Or.inr ⟨by rfl, rfl⟩
        case hQ11a => exact fun _ _ _ h => h
        try simp only [Act.put, List.setIfInBounds_toArray, List.set_cons_zero, List.set_cons_succ]
        refine wpAnyH_take (i := 12) (oi := ?oi12a) (v := undef) ?hi12a (by kernel_rfl) (by kernel_rfl) (by kernel_rfl) ?hQ12a ?hy12a (by assumption) ?hh12a
        case hi12a => simp only [List.getElem?_toArray, List.getElem?_cons_succ, List.getElem?_cons_zero]; rfl
        case hy12a => exact Or.inr ⟨by rfl, rfl⟩
        case hQ12a => exact fun _ _ _ h => h
        try simp only [Act.put, List.setIfInBounds_toArray, List.set_cons_zero, List.set_cons_succ]
        refine wpAnyH_take (i := 13) (oi := ?oi13a) (v := undef) ?hi13a (by kernel_rfl) (by kernel_rfl) (by kernel_rfl) ?hQ13a ?hy13a (by assumption) ?hh13a
        case hi13a => simp only [List.getElem?_toArray, List.getElem?_cons_succ, List.getElem?_cons_zero]; rfl
        case hy13a => exact Or.inr ⟨by rfl, rfl⟩
        case hQ13a => exact fun _ _ _ h => h
        try simp only [Act.put, List.setIfInBounds_toArray, List.set_cons_zero, List.set_cons_succ]
        refine wpAnyH_take (i := 14) (oi := ?oi14a) (v := undef) ?hi14a (by kernel_rfl) (by kernel_rfl) (by kernel_rfl) ?hQ14a ?hy14a (by assumption) ?hh14a
        case hi14a => simp only [List.getElem?_toArray, List.getElem?_cons_succ, List.getElem?_cons_zero]; rfl
        case hy14a => exact Or.inr ⟨by rfl, rfl⟩
        case hQ14a => exact fun _ _ _ h => h
        try simp only [Act.put, List.setIfInBounds_toArray, List.set_cons_zero, List.set_cons_succ]
        refine wpAnyH_take (i := 15) (oi := ?oi15a) (v := undef) ?hi15a (by kernel_rfl) (by kernel_rfl) (by kernel_rfl) ?hQ15a ?hy15a (by assumption) ?hh15a
        case hi15a => simp only [List.getElem?_toArray, List.getElem?_cons_succ, List.getElem?_cons_zero]; rfl
        case hy15a => exact Or.inr ⟨by rfl, rfl⟩
        case hQ15a => exact fun _ _ _ h => h
        try simp only [Act.put, List.setIfInBounds_toArray, List.set_cons_zero, List.set_cons_succ]
        refine wpAnyH_take (i := 16) (oi := ?oi16a) (v := undef) ?hi16a (by kernel_rfl) (by kernel_rfl) (by kernel_rfl) ?hQ16a ?hy16a (by assumption) ?hh16a
        case hi16a => simp only [List.getElem?_toArray, List.getElem?_cons_succ, List.getElem?_cons_zero]; rfl
        case hy16a => exact Or.inr ⟨by rfl, rfl⟩
        case hQ16a => exact fun _ _ _ h => h
        try simp only [Act.put, List.setIfInBounds_toArray, List.set_cons_zero, List.set_cons_succ]
        refine wpAnyH_take (i := 17) (oi := ?oi17a) (v := undef) ?hi17a (by kernel_rfl) (by kernel_rfl) (by kernel_rfl) ?hQ17a ?hy17a (by assumption) ?hh17a
        case hi17a => simp only [List.getElem?_toArray, List.getElem?_cons_succ, List.getElem?_cons_zero]; rfl
        case hy17a => exact Or.inr ⟨by rfl, rfl⟩
        case hQ17a => exact fun _ _ _ h => h
        try simp only [Act.put, List.setIfInBounds_toArray, List.set_cons_zero, List.set_cons_succ]
        refine wpAnyH_take (i := 18) (oi := ?oi18a) (v := undef) ?hi18a (by kernel_rfl) (by kernel_rfl) (by kernel_rfl) ?hQ18a ?hy18a (by assumption) ?hh18a
        case hi18a => simp only [List.getElem?_toArray, List.getElem?_cons_succ, List.getElem?_cons_zero]; rfl
        case hy18a => exact Or.inr ⟨by rfl, rfl⟩
        case hQ18a => exact fun _ _ _ h => h
        try simp only [Act.put, List.setIfInBounds_toArray, List.set_cons_zero, List.set_cons_succ]
        refine wpAnyH_take (i := 19) (oi := ?oi19a) (v := undef) ?hi19a (by kernel_rfl) (by kernel_rfl) (by kernel_rfl) ?hQ19a ?hy19a (by assumption) ?hh19a
        case hi19a => simp only [List.getElem?_toArray, List.getElem?_cons_succ, List.getElem?_cons_zero]; rfl
        case hy19a => exact Or.inr ⟨by rfl, rfl⟩
        case hQ19a => exact fun _ _ _ h => h
        try simp only [Act.put, List.setIfInBounds_toArray, List.set_cons_zero, List.set_cons_succ]
        refine wpAnyH_take (i := 20) (oi := ?oi20a) (v := undef) ?hi20a (by kernel_rfl) (by kernel_rfl) (by kernel_rfl) ?hQ20a ?hy20a (by assumption) ?hh20a
        case hi20a => simp only [List.getElem?_toArray, List.getElem?_cons_succ, List.getElem?_cons_zero]; rfl
        case hy20a => exact Or.inr ⟨by rfl, rfl⟩
        case hQ20a => exact fun _ _ _ h => h
        try simp only [Act.put, List.setIfInBounds_toArray, List.set_cons_zero, List.set_cons_succ]
        refine wpAnyH_take (i := 21) (oi := ?oi21a) (v := undef) ?hi21a (by kernel_rfl) (by kernel_rfl) (by kernel_rfl) ?hQ21a ?hy21a (by assumption) ?hh21a
        case hi21a => simp only [List.getElem?_toArray, List.getElem?_cons_succ, List.getElem?_cons_zero]; rfl
        case hy21a => exact Or.inr ⟨by rfl, rfl⟩
        case hQ21a => exact fun _ _ _ h => h
        try simp only [Act.put, List.setIfInBounds_toArray, List.set_cons_zero, List.set_cons_succ]
        refine wpAnyH_take (i := 22) (oi := ?oi22a) (v := undef) ?hi22a (by kernel_rfl) (by kernel_rfl) (by kernel_rfl) ?hQ22a ?hy22a (by assumption) ?hh22a
        case hi22a => simp only [List.getElem?_toArray, List.getElem?_cons_succ, List.getElem?_cons_zero]; rfl
        case hy22a => exact Or.inr ⟨by rfl, rfl⟩
        case hQ22a => exact fun _ _ _ h => h
        try simp only [Act.put, List.setIfInBounds_toArray, List.set_cons_zero, List.set_cons_succ]
        refine wpAnyH_take (i := 23) (oi := ?oi23a) (v := undef) ?hi23a (by kernel_rfl) (by kernel_rfl) (by kernel_rfl) ?hQ23a ?hy23a (by assumption) ?hh23a
        case hi23a => simp only [List.getElem?_toArray, List.getElem?_cons_succ, List.getElem?_cons_zero]; rfl
        case hy23a => exact Or.inr ⟨by rfl, rfl⟩
        case hQ23a => exact fun _ _ _ h => h
        try simp only [Act.put, List.setIfInBounds_toArray, List.set_cons_zero, List.set_cons_succ]
        refine wpAnyH_take (i := 24) (oi := ?oi24a) (v := undef) ?hi24a (by kernel_rfl) (by kernel_rfl) (by kernel_rfl) ?hQ24a ?hy24a (by assumption) ?hh24a
        case hi24a => simp only [List.getElem?_toArray, List.getElem?_cons_succ, List.getElem?_cons_zero]; rfl
        case hy24a => exact Or.inr ⟨by rfl, rfl⟩
        case hQ24a => exact fun _ _ _ h => h
        try simp only [Act.put, List.setIfInBounds_toArray, List.set_cons_zero, List.set_cons_succ]
        refine wpAnyH_take (i := 25) (oi := ?oi25a) (v := undef) ?hi25a (by kernel_rfl) (by kernel_rfl) (by kernel_rfl) ?hQ25a ?hy25a (by assumption) ?hh25a
        case hi25a => simp only [List.getElem?_toArray, List.getElem?_cons_succ, List.getElem?_cons_zero]; rfl
        case hy25a => exact Or.inr ⟨by rfl, rfl⟩
        case hQ25a => exact fun _ _ _ h => h
        try simp only [Act.put, List.setIfInBounds_toArray, List.set_cons_zero, List.set_cons_succ]
        refine wpAnyH_take (i := 26) (oi := ?oi26a) (v := ?v26a) ?hi26a (by kernel_rfl) (by kernel_rfl) (by kernel_rfl) ?hQ26a ?hy26a (by assumption) ?hh26a
        case hi26a => simp only [List.getElem?_toArray, List.getElem?_cons_succ, List.getElem?_cons_zero]; rfl
        case hy26a =>
          refine Or.inl ⟨by rfl, ?_⟩
          intro w hSw
          (try dsimp only at hSw)
          go_simp
          all_goals with_reducible rfl
        case hQ26a => exact fun _ _ _ h => h
        try simp only [Act.put, List.setIfInBounds_toArray, List.set_cons_zero, List.set_cons_succ]
        refine wpAnyH_done (by kernel_rfl) ?_ _
        have hbx : Below w.heap.size w wg := (HB.out.drew).trans (hbg.mono zb)
        clear hcg hfg hbg
        go_wp2_with fail
        go_ret
        exact ⟨ret_bool (storeB_bad hlt K3.out).symm, hbx⟩
    · obtain rfl : n = m := by omega
      have HE := Lib.hid (show storeB F n = decide (n ≤ 200) by simp only [storeB, allB_iff.2 hF.out, Bool.true_and])
      clear hbw x1
      go_wp2_with fail
      go_ret
      exact ⟨ret_bool (by rw [HE.out]; first | rfl | (simp; done) | (rw [Bool.eq_iff_iff]; simp; omega)), HB.out⟩
end Go.Proofs.Ytgfcmeiffhffaaa
