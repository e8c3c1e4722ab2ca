/- Contract of the reference's drawn rules. -/
import Derived.Deep.DeepCutAuto
import Derived.Deep.RegionLaw
import Derived.Test.YtgfcmeiffhffaaaJRecMore
import Derived.Test.YtgfcmeiffhffaaaJDrawM
import Derived.Test.YtgfcmeiffhffaaaJDrawN
import Derived.Test.YtgfcmeiffhffaaaJRecNode
namespace Go.Proofs.Ytgfcmeiffhffaaa
open Go.RowKit

theorem sfracNewI_any (a b : Int) (a0 : 0 ≤ a) (ha : a ≤ 1000000) (hb : b ≤ 1000000) (hb1 : 1 ≤ b) (w : World) : Calls Try.prog 112 #[.int .i64 a, .int .i64 b] w fun e w' => ∃ (p q : Int) (ok : Bool), e = .returned (.tuple #[.agg #[.int .i64 p, .int .i64 q], .bool ok]) ∧ Below w.heap.size w w' := by
  obtain ⟨x, rfl⟩ := Int.eq_ofNat_of_zero_le a0
  obtain ⟨y, rfl⟩ := Int.eq_ofNat_of_zero_le (show 0 ≤ b by omega)
  exact sfracNew_any x y (by omega) (by omega) (by omega) w
/-- The k numbers at i * k. -/
def numF (L : List Int) (k : Nat) : Nat → Nat → Int := fun i j => L.getD (i * k + j) 0
theorem own_nums {w : World} {base g : Nat} {e : TypeId} {k n : Nat} {cs : Array Value} (L : List Int) (hk : 0 < k) (hg : base ≤ g) (hx : Box w g e cs) (hcs : cs = (L.map (Value.int .i64)).toArray) (hl : L.length = n * k) (hn : n ≤ 1048576) :
    w.ownsRow base e k (.slice (some ⟨g, 0, none⟩) n n) n (recs (numF L k) k n) := by
  refine own_of_box hk hg hx (by simp [hcs, hl]) (by unfold maxLen; omega) fun i hi j hj => ?_
  have hlt := idx_lt hi hj
  rw [hcs]
  simp only [numF, List.getElem?_toArray, List.getElem?_map, List.getD_eq_getElem?_getD]
  rw [List.getElem?_eq_getElem (by omega)]
  rfl
theorem row_trip {w : World} {b : Nat} {x y z : Int} (h : Box w b 3 #[.int .i64 x, .int .i64 y, .int .i64 z]) : Row w .i64 (some ⟨b, 0, none⟩) 3 (trip x y z) := by
  refine .inr ⟨b, 0, rfl, h.lt, fun i hi => ?_⟩
  rw [Nat.zero_add, h.cell]
  rcases (show i = 0 ∨ i = 1 ∨ i = 2 by omega) with rfl | rfl | rfl <;> rfl
/-- A drawn rule: six numbers and a row of nodes of its own. -/
def RuleQ (B g : Nat) (w : World) (e : Ending) (w' : World) : Prop :=
  ∃ (r0 r1 r2 r3 r4 r5 : Int) (n : Nat) (F : Nat → Nat → Int) (A : Option Addr) (c : Nat), e = .returned (.agg #[.int .i64 r0, .int .i64 r1, .int .i64 r2, .int .i64 r3, .int .i64 r4, .int .i64 r5, .slice A n c]) ∧ w'.ownsRow w.heap.size 175 6 (.slice A n c) n (recs F 6 n) ∧ n ≤ 7 ∧ w.grownBy w' (some g) ∧ CurOk B w' g
set_option maxRecDepth 100000 in
set_option maxHeartbeats 16000000 in
theorem rule_draw (B g : Nat) (w : World) (hc : CurOk B w g) : Calls Try.prog 82 #[.pointer (some ⟨g, 0, none⟩)] w (RuleQ B g w) := by
  have gl := hc.lt
  have HC := Lib.hid (hc.alloc (.cells #[.int .i64 0, .int .i64 0, .int .i64 0, .int .i64 0, .int .i64 0, .int .i64 0, .slice none 0 0] 119))
  have X0 := Lib.hid (Box.made w 119 #[.int .i64 0, .int .i64 0, .int .i64 0, .int .i64 0, .int .i64 0, .int .i64 0, .slice none 0 0])
  have G0 := Lib.hid (grown_of_below ((Below.refl w.heap.size w).alloc (Nat.le_refl _) (.cells #[.int .i64 0, .int .i64 0, .int .i64 0, .int .i64 0, .int .i64 0, .int .i64 0, .slice none 0 0] 119)) (some g))
  have gn0 : w.heap.size ≠ g := by omega
  clear hc
  go_enter Try.func82, Try.ntmps82
  go_wp2_with fail
  with_reducible refine (below_draw B g 9 _ (by omega) (by omega) HC.out).mono ?_
  rintro e w1 ⟨x, x0, x1, rfl, hg1, hc1⟩
  have Y1 := Lib.hid (X0.out.grown hg1 (fun e => gn0 (Option.some.inj e)))
  have G1 := Lib.hid (grown_trans G0.out hg1)
  have C1 := Lib.hid hc1
  clear hg1 hc1 HC X0 G0
  go_wp2_with fail
  with_reducible refine (sfracNewI_any (1 + x) 4000 (by omega) (by omega) (by omega) (by omega) _).mono ?_
  rintro e w2 ⟨p, q, ok, rfl, hb2⟩
  have z2 := hb2.size
  have l1 := Y1.out.lt
  have Y2 := Lib.hid ((Y1.out.kept hb2).alloc (.cells #[.int .i64 p, .int .i64 q] 144))
  have G2 := Lib.hid (grown_trans G1.out (grown_of_below (hb2.alloc z2 (.cells #[.int .i64 p, .int .i64 q] 144)) (some g)))
  have C2 := Lib.hid ((C1.out.kept hb2).alloc (.cells #[.int .i64 p, .int .i64 q] 144))
  clear hb2 Y1 G1 C1
  go_wp2_with fail
  have z22 := Y2.out.lt
  have hz2 : w.heap.size ≤ (w2.alloc (.cells #[.int .i64 p, .int .i64 q] 144)).heap.size := Nat.le_of_lt z22
  have hx5 := Box.made_at (w := w2.alloc (.cells #[.int .i64 p, .int .i64 q] 144)) (t := 175) (cs := #[.int .i64 2, .int .i64 0, .int .i64 0, .int .i64 0, .int .i64 0, .int .i64 0, .int .i64 1, .int .i64 0, .int .i64 0, .int .i64 0, .int .i64 p, .int .i64 q, .int .i64 5, .int .i64 0, .int .i64 1, .int .i64 0, .int .i64 0, .int .i64 0, .int .i64 2, .int .i64 1, .int .i64 0, .int .i64 0, .int .i64 0, .int .i64 0, .int .i64 5, .int .i64 2, .int .i64 3, .int .i64 0, .int .i64 0, .int .i64 0]) (g := w2.heap.size + 1) (by simp)
  have O3 := Lib.hid (own_nums (base := w.heap.size + 1) (k := 6) (n := 5) [2, 0, 0, 0, 0, 0, 1, 0, 0, 0, p, q, 5, 0, 1, 0, 0, 0, 2, 1, 0, 0, 0, 0, 5, 2, 3, 0, 0, 0] (by omega) (by omega) hx5 rfl rfl (by omega))
  have Y3 := Lib.hid (Y2.out.alloc (.cells #[.int .i64 2, .int .i64 0, .int .i64 0, .int .i64 0, .int .i64 0, .int .i64 0, .int .i64 1, .int .i64 0, .int .i64 0, .int .i64 0, .int .i64 p, .int .i64 q, .int .i64 5, .int .i64 0, .int .i64 1, .int .i64 0, .int .i64 0, .int .i64 0, .int .i64 2, .int .i64 1, .int .i64 0, .int .i64 0, .int .i64 0, .int .i64 0, .int .i64 5, .int .i64 2, .int .i64 3, .int .i64 0, .int .i64 0, .int .i64 0] 175))
  have C3 := Lib.hid (C2.out.alloc (.cells #[.int .i64 2, .int .i64 0, .int .i64 0, .int .i64 0, .int .i64 0, .int .i64 0, .int .i64 1, .int .i64 0, .int .i64 0, .int .i64 0, .int .i64 p, .int .i64 q, .int .i64 5, .int .i64 0, .int .i64 1, .int .i64 0, .int .i64 0, .int .i64 0, .int .i64 2, .int .i64 1, .int .i64 0, .int .i64 0, .int .i64 0, .int .i64 0, .int .i64 5, .int .i64 2, .int .i64 3, .int .i64 0, .int .i64 0, .int .i64 0] 175))
  have G3 := Lib.hid (grown_trans G2.out (grown_of_below ((Below.refl _ _).alloc (Nat.le_refl _) (.cells #[.int .i64 2, .int .i64 0, .int .i64 0, .int .i64 0, .int .i64 0, .int .i64 0, .int .i64 1, .int .i64 0, .int .i64 0, .int .i64 0, .int .i64 p, .int .i64 q, .int .i64 5, .int .i64 0, .int .i64 1, .int .i64 0, .int .i64 0, .int .i64 0, .int .i64 2, .int .i64 1, .int .i64 0, .int .i64 0, .int .i64 0, .int .i64 0, .int .i64 5, .int .i64 2, .int .i64 3, .int .i64 0, .int .i64 0, .int .i64 0] 175)) (some g)))
  clear hx5 Y2 C2 G2 hz2 z22
  generalize numF [2, 0, 0, 0, 0, 0, 1, 0, 0, 0, p, q, 5, 0, 1, 0, 0, 0, 2, 1, 0, 0, 0, 0, 5, 2, 3, 0, 0, 0] 6 = F5 at *
  generalize (w2.alloc (.cells #[.int .i64 p, .int .i64 q] 144)).alloc (.cells #[.int .i64 2, .int .i64 0, .int .i64 0, .int .i64 0, .int .i64 0, .int .i64 0, .int .i64 1, .int .i64 0, .int .i64 0, .int .i64 0, .int .i64 p, .int .i64 q, .int .i64 5, .int .i64 0, .int .i64 1, .int .i64 0, .int .i64 0, .int .i64 0, .int .i64 2, .int .i64 1, .int .i64 0, .int .i64 0, .int .i64 0, .int .i64 0, .int .i64 5, .int .i64 2, .int .i64 3, .int .i64 0, .int .i64 0, .int .i64 0] 175) = W3 at *
  with_reducible refine (onceC_draw B g 2 _ (by omega) (by omega) C3.out).mono ?_
  rintro e w4 ⟨l, rfl, hg4, hc4⟩
  have O4 := Lib.hid (O3.out.kept hg4 (.inr (C3.out.own_ne O3.out (by decide))))
  have Y4 := Lib.hid (Y3.out.grown hg4 (fun e => gn0 (Option.some.inj e)))
  have G4 := Lib.hid (grown_trans G3.out hg4)
  have C4 := Lib.hid hc4
  clear hg4 hc4 O3 Y3 G3 C3
  go_upto_if 22 with fail
  go_cut [5] (fun s5 wx => ∃ (n : Nat) (F : Nat → Nat → Int) (A : Option Addr) (c : Nat), s5 = .slice A n c ∧ wx.ownsRow (w.heap.size + 1) 175 6 (.slice A n c) n (recs F 6 n) ∧ n ≤ 7 ∧ w.grownBy wx (some g) ∧ CurOk B wx g ∧ Box wx w.heap.size 119 #[.int .i64 0, .int .i64 0, .int .i64 0, .int .i64 0, .int .i64 0, .int .i64 0, .slice none 0 0])
  case first =>
    cases l
    · go_wp2_with fail
      go_meet
      exact ⟨5, F5, _, _, rfl, O4.out, by omega, G4.out, C4.out, Y4.out⟩
    · go_wp2_with fail
      have Y5 := Lib.hid (Box.made w4 3 #[.int .i64 2, .int .i64 3, .int .i64 4])
      with_reducible refine (pick_draw B g _ 3 (trip 2 3 4) _ (by have := C4.out.lt; omega) (by omega) (by omega) (row_trip Y5.out) (C4.out.alloc (.cells #[.int .i64 2, .int .i64 3, .int .i64 4] 3))).mono ?_
      rintro e w5 ⟨j, hj, rfl, hg5, hc5⟩
      have O5 := Lib.hid ((O4.out.alloc (.cells #[.int .i64 2, .int .i64 3, .int .i64 4] 3)).kept hg5 (.inr ((C4.out.alloc (.cells #[.int .i64 2, .int .i64 3, .int .i64 4] 3)).own_ne (O4.out.alloc (.cells #[.int .i64 2, .int .i64 3, .int .i64 4] 3)) (by decide))))
      have G5 := Lib.hid (grown_trans (grown_trans G4.out (grown_of_below ((Below.refl _ _).alloc (Nat.le_refl _) (.cells #[.int .i64 2, .int .i64 3, .int .i64 4] 3)) _)) hg5)
      have Z5 := Lib.hid ((Y4.out.alloc (.cells #[.int .i64 2, .int .i64 3, .int .i64 4] 3)).grown hg5 (fun e => gn0 (Option.some.inj e)))
      have C5 := Lib.hid hc5
      generalize trip 2 3 4 j = k1 at *
      clear hg5 hc5 C4 O4 G4 Y4 Y5
      go_wp2_with fail
      have Y6 := Lib.hid (Box.made w5 3 #[.int .i64 3, .int .i64 8, .int .i64 5])
      with_reducible refine (pick_draw B g _ 3 (trip 3 8 5) _ (by have := C5.out.lt; omega) (by omega) (by omega) (row_trip Y6.out) (C5.out.alloc (.cells #[.int .i64 3, .int .i64 8, .int .i64 5] 3))).mono ?_
      rintro e w6 ⟨j2, hj2, rfl, hg6, hc6⟩
      have O6 := Lib.hid ((O5.out.alloc (.cells #[.int .i64 3, .int .i64 8, .int .i64 5] 3)).kept hg6 (.inr ((C5.out.alloc (.cells #[.int .i64 3, .int .i64 8, .int .i64 5] 3)).own_ne (O5.out.alloc (.cells #[.int .i64 3, .int .i64 8, .int .i64 5] 3)) (by decide))))
      have G6 := Lib.hid (grown_trans (grown_trans G5.out (grown_of_below ((Below.refl _ _).alloc (Nat.le_refl _) (.cells #[.int .i64 3, .int .i64 8, .int .i64 5] 3)) _)) hg6)
      have Z6 := Lib.hid ((Z5.out.alloc (.cells #[.int .i64 3, .int .i64 8, .int .i64 5] 3)).grown hg6 (fun e => gn0 (Option.some.inj e)))
      have C6 := Lib.hid hc6
      generalize trip 3 8 5 j2 = k2 at *
      clear hg6 hc6 C5 O5 G5 Z5 Y6
      have z6 := G6.out.size
      have l6 := Z6.out.lt
      have R6 := Lib.hid (own_rec (own_nums (base := 0) (k := 6) (n := 2) [2, k1, 0, 0, 0, 0, k2, 4, 5, 0, 0, 0] (by omega) (Nat.zero_le _) (Box.made w6 175 #[.int .i64 2, .int .i64 k1, .int .i64 0, .int .i64 0, .int .i64 0, .int .i64 0, .int .i64 k2, .int .i64 4, .int .i64 5, .int .i64 0, .int .i64 0, .int .i64 0]) rfl rfl (by omega)))
      go_wp2_with (at_builtin; refine wpList_app_recs rfl (.tmp 23) (.tmp 32) 117 (by rfl) (w.heap.size + 1) 175 (.agg #[.int .i64 0, .int .i64 0, .int .i64 0, .int .i64 0, .int .i64 0, .int .i64 0]) 6 48 Try.underlying117 infNode rfl (by decide) (by decide) _ 5 F5 (O6.out.alloc _) (some ⟨w6.heap.size, 0, none⟩) 2 2 _ (.inr ⟨_, _, rfl⟩) R6.out (by omega) (by simp; omega) rfl rfl ?_)
      intro v7 w7 o7 hg7
      obtain ⟨A7, c7, rfl, _, _⟩ := own_recs o7
      have O7 := Lib.hid o7
      have l7 := own_lo O6.out
      have C7 := Lib.hid ((C6.out.alloc (.cells #[.int .i64 2, .int .i64 k1, .int .i64 0, .int .i64 0, .int .i64 0, .int .i64 0, .int .i64 k2, .int .i64 4, .int .i64 5, .int .i64 0, .int .i64 0, .int .i64 0] 175)).grown hg7 (fun k e => ⟨by have h2 := C6.out.low; have := l7 k e; omega, fun h => (C6.out.own_ne O6.out (by decide)) (by rw [e, h])⟩))
      have G7 := Lib.hid (grown_moreC (grown_moreC G6.out (grown_of_below ((Below.refl _ _).alloc (Nat.le_refl _) (.cells #[.int .i64 2, .int .i64 k1, .int .i64 0, .int .i64 0, .int .i64 0, .int .i64 0, .int .i64 k2, .int .i64 4, .int .i64 5, .int .i64 0, .int .i64 0, .int .i64 0] 175)) none) (fun i e => by cases e)) hg7 (fun i e => by have := l7 i e; omega))
      have Z7 := Lib.hid ((Z6.out.alloc (.cells #[.int .i64 2, .int .i64 k1, .int .i64 0, .int .i64 0, .int .i64 0, .int .i64 0, .int .i64 k2, .int .i64 4, .int .i64 5, .int .i64 0, .int .i64 0, .int .i64 0] 175)).grown hg7 (box_apart_lt (Nat.lt_succ_self _) l7))
      clear o7 hg7 l7 O6 G6 C6 Z6 R6
      go_wp2_with fail
      go_meet
      exact ⟨7, _, _, _, rfl, O7.out, by omega, G7.out, C7.out, Z7.out⟩
  case rest =>
    obtain ⟨wz, rfl⟩ : ∃ w0 : World, w0 = wc := ⟨_, rfl⟩
    obtain ⟨n, F, A, c, rfl, ho, hn7, hg, hcz, hx⟩ := hcut
    clear O4 Y4 G4 C4
    have O5 := Lib.hid ho
    have Y5 := Lib.hid hx
    have G5 := Lib.hid hg
    have C5 := Lib.hid hcz
    clear ho hx hg hcz
    go_wp2_with fail
    with_reducible refine (below_draw B g 4 _ (by omega) (by omega) C5.out).mono ?_
    rintro e w6 ⟨y, y0, y1, rfl, hg6, hc6⟩
    have O6 := Lib.hid ((O5.out.kept hg6 (.inr (C5.out.own_ne O5.out (by decide)))).alloc (.cells #[.int .i64 1, .int .i64 0, .int .i64 3600, .int .i64 3600, .int .i64 0, .int .i64 (1 + y), .slice A n c] 119))
    have Y6 := Lib.hid ((Y5.out.grown hg6 (fun e => gn0 (Option.some.inj e))).alloc (.cells #[.int .i64 1, .int .i64 0, .int .i64 3600, .int .i64 3600, .int .i64 0, .int .i64 (1 + y), .slice A n c] 119))
    have G6 := Lib.hid (grown_trans (grown_trans G5.out hg6) (grown_of_below ((Below.refl _ _).alloc (Nat.le_refl _) (.cells #[.int .i64 1, .int .i64 0, .int .i64 3600, .int .i64 3600, .int .i64 0, .int .i64 (1 + y), .slice A n c] 119)) (some g)))
    have C6 := Lib.hid (hc6.alloc (.cells #[.int .i64 1, .int .i64 0, .int .i64 3600, .int .i64 3600, .int .i64 0, .int .i64 (1 + y), .slice A n c] 119))
    have R6 := Lib.hid (Box.made w6 119 #[.int .i64 1, .int .i64 0, .int .i64 3600, .int .i64 3600, .int .i64 0, .int .i64 (1 + y), .slice A n c])
    have gl6 := hc6.lt
    have wl6 : w.heap.size < w6.heap.size := by have := hg6.size; have := Y5.out.lt; omega
    have al6 : ∀ b, (Value.slice A n c).ownBlock = some b → b < w6.heap.size := fun b hb => by have h1 := own_hi O5.out b hb; have := hg6.size; omega
    clear hg6 hc6 O5 Y5 G5 C5
    go_wp2_with fail
    generalize w6.alloc (.cells #[.int .i64 1, .int .i64 0, .int .i64 3600, .int .i64 3600, .int .i64 0, .int .i64 (1 + y), .slice A n c] 119) = W6 at *
    generalize w6.heap.size = g6 at *
    have gn6 : g6 ≠ g := by omega
    with_reducible refine (onceC_draw B g 2 _ (by omega) (by omega) C6.out).mono ?_
    rintro e w7 ⟨l2, rfl, hg7, hc7⟩
    have O7 := Lib.hid (O6.out.kept hg7 (.inr (C6.out.own_ne O6.out (by decide))))
    have Y7 := Lib.hid (Y6.out.grown hg7 (fun e => gn0 (Option.some.inj e)))
    have R7 := Lib.hid (R6.out.grown hg7 (fun e => gn6 (Option.some.inj e)))
    have G7 := Lib.hid (grown_trans G6.out hg7)
    have C7 := Lib.hid hc7
    clear hg7 hc7 O6 Y6 G6 C6 R6
    go_upto_if 40 with fail
    go_cut [6] (fun s6 wx => ∃ r1 r2 r4 : Int, s6 = .pointer (some ⟨g6, 0, none⟩) ∧ wx.ownsRow (w.heap.size + 1) 175 6 (.slice A n c) n (recs F 6 n) ∧ w.grownBy wx (some g) ∧ CurOk B wx g ∧ Box wx w.heap.size 119 #[.int .i64 0, .int .i64 0, .int .i64 0, .int .i64 0, .int .i64 0, .int .i64 0, .slice none 0 0] ∧ Box wx g6 119 #[.int .i64 1, .int .i64 r1, .int .i64 r2, .int .i64 3600, .int .i64 r4, .int .i64 (1 + y), .slice A n c])
    case first =>
      cases l2
      · go_wp2_with fail
        go_meet
        exact ⟨0, 3600, 0, rfl, O7.out, G7.out, C7.out, Y7.out, R7.out⟩
      · have nA : (Value.slice A n c).ownBlock ≠ some g6 := fun e => by have := al6 _ e; omega
        go_wp2_with fail
        with_reducible refine (below_draw B g 60 _ (by omega) (by omega) C7.out).mono ?_
        rintro e w8 ⟨v, v0, v1, rfl, hg8, hc8⟩
        have o8 := O7.out.kept hg8 (.inr (C7.out.own_ne O7.out (by decide)))
        have y8 := Y7.out.grown hg8 (fun e => gn0 (Option.some.inj e))
        have r8 := R7.out.grown hg8 (fun e => gn6 (Option.some.inj e))
        have G8 := grown_trans G7.out hg8
        have t1 := r8.cell 1
        have f1 := r8.frozen 1
        have l8 := r8.lt
        simp at t1
        have s8 := grown_set (grown_refl w8 (some g6)) 1 (.int .i64 v)
        have O9 := Lib.hid (o8.kept s8 (.inr nA))
        have Y9 := Lib.hid (y8.grown s8 (fun e => by have := Option.some.inj e; omega))
        have R9 := Lib.hid (show Box (w8.setCell ⟨g6, 1, none⟩ (.int .i64 v)) g6 119 #[.int .i64 1, .int .i64 v, .int .i64 3600, .int .i64 3600, .int .i64 0, .int .i64 (1 + y), .slice A n c] from by simpa using r8.put 1 (.int .i64 v))
        have G9 := Lib.hid (grown_moreC G8 s8 (fun i e => by cases e; omega))
        have C9 := Lib.hid (hc8.grown s8 (fun i e => by cases e; have := hc8.low; exact ⟨by omega, gn6⟩))
        clear o8 y8 r8 G8 s8 hg8 hc8 O7 Y7 R7 G7 C7
        go_upto_region 8 with fail
        generalize w8.setCell ⟨g6, 1, none⟩ (.int .i64 v) = W9 at *
        clear t1 f1 l8
        have t1 := R9.out.cell 1
        have l9 := R9.out.lt
        simp at t1
        have FD := Lib.hid (below_draw B g 60 W9.drew (by omega) (by omega) (show CurOk B W9.drew g from C9.out))
        have OD := Lib.hid (show W9.drew.ownsRow (w.heap.size + 1) 175 6 (.slice A n c) n (recs F 6 n) from O9.out)
        have GD := Lib.hid (show w.grownBy W9.drew (some g) from ⟨G9.out.os, G9.out.tape, G9.out.output, G9.out.size, G9.out.block⟩)
        have YD := Lib.hid (show Box W9.drew w.heap.size 119 #[.int .i64 0, .int .i64 0, .int .i64 0, .int .i64 0, .int .i64 0, .int .i64 0, .slice none 0 0] from Y9.out)
        have RD := Lib.hid (show Box W9.drew g6 119 #[.int .i64 1, .int .i64 v, .int .i64 3600, .int .i64 3600, .int .i64 0, .int .i64 (1 + y), .slice A n c] from R9.out)
        have neD := C9.out.own_ne O9.out (by decide)
        have hw10 : IntKind.i64.wrap (v + 10) = v + 10 := by rw [IntKind.wrap_i64]; omega
        go_region_law (first | (go_simp; go_at_call 50; (with_reducible refine FD.out.mono ?_); rintro e w4 ⟨v2, v20, v21, rfl, hg4, hc4⟩; have r4 := RD.out.grown hg4 (fun e => gn6 (Option.some.inj e)); have tc1 := r4.cell 1; have tc2 := r4.cell 2; have tf2 := r4.frozen 2; (simp at tc1 tc2); have u4 := r4.lt; have hw11 : IntKind.i64.wrap (v + 10 + v2) = v + 10 + v2 := (by rw [IntKind.wrap_i64]; omega)))
        all_goals
          have o8 := OD.out.kept hg4 (.inr neD)
          have y8 := YD.out.grown hg4 (fun e => gn0 (Option.some.inj e))
          have G8 := grown_trans GD.out hg4
          have s8 := grown_set (grown_refl w4 (some g6)) 2 (.int .i64 (v + 10 + v2))
          have O1 := Lib.hid (o8.kept s8 (.inr nA))
          have Y1 := Lib.hid (y8.grown s8 (fun e => by have := Option.some.inj e; omega))
          have R1 := Lib.hid (show Box (w4.setCell ⟨g6, 2, none⟩ (.int .i64 (v + 10 + v2))) g6 119 #[.int .i64 1, .int .i64 v, .int .i64 (v + 10 + v2), .int .i64 3600, .int .i64 0, .int .i64 (1 + y), .slice A n c] from by simpa using r4.put 2 (.int .i64 (v + 10 + v2)))
          have G1 := Lib.hid (grown_moreC G8 s8 (fun i e => by cases e; omega))
          have C1 := Lib.hid (hc4.grown s8 (fun i e => by cases e; have := hc4.low; exact ⟨by omega, gn6⟩))
          clear o8 y8 r4 G8 s8 hg4 hc4 OD YD RD GD FD O9 Y9 R9 G9 C9 tc1 tc2 tf2 t1
          generalize w4.setCell ⟨g6, 2, none⟩ (.int .i64 (v + 10 + v2)) = W1 at *
          go_wp2_with fail
          with_reducible refine (below_draw B g 3 _ (by omega) (by omega) C1.out).mono ?_
          rintro e w2 ⟨v3, v30, v31, rfl, hg2, hc2⟩
          have o8 := O1.out.kept hg2 (.inr (C1.out.own_ne O1.out (by decide)))
          have y8 := Y1.out.grown hg2 (fun e => gn0 (Option.some.inj e))
          have r8 := R1.out.grown hg2 (fun e => gn6 (Option.some.inj e))
          have G8 := grown_trans G1.out hg2
          have t4 := r8.cell 4
          have f4 := r8.frozen 4
          have l8 := r8.lt
          simp at t4
          have s8 := grown_set (grown_refl w2 (some g6)) 4 (.int .i64 (1 + v3))
          have O2 := Lib.hid (o8.kept s8 (.inr nA))
          have Y2 := Lib.hid (y8.grown s8 (fun e => by have := Option.some.inj e; omega))
          have R2 := Lib.hid (show Box (w2.setCell ⟨g6, 4, none⟩ (.int .i64 (1 + v3))) g6 119 #[.int .i64 1, .int .i64 v, .int .i64 (v + 10 + v2), .int .i64 3600, .int .i64 (1 + v3), .int .i64 (1 + y), .slice A n c] from by simpa using r8.put 4 (.int .i64 (1 + v3)))
          have G2 := Lib.hid (grown_moreC G8 s8 (fun i e => by cases e; omega))
          have C2 := Lib.hid (hc2.grown s8 (fun i e => by cases e; have := hc2.low; exact ⟨by omega, gn6⟩))
          clear o8 y8 r8 G8 s8 hg2 hc2 O1 Y1 R1 G1 C1
          go_wp2_with fail
          go_meet
          exact ⟨v, v + 10 + v2, 1 + v3, rfl, O2.out, G2.out, C2.out, Y2.out, R2.out⟩
    case rest =>
      obtain ⟨wv, rfl⟩ : ∃ w0 : World, w0 = wc := ⟨_, rfl⟩
      obtain ⟨r1, r2, r4, rfl, ho, hg, hcv, hx, hr⟩ := hcut
      obtain ⟨t0, t1, t2, t3, t4, t5, t6⟩ := (show _ ∧ _ ∧ _ ∧ _ ∧ _ ∧ _ ∧ _ from ⟨hr.cell 0, hr.cell 1, hr.cell 2, hr.cell 3, hr.cell 4, hr.cell 5, hr.cell 6⟩)
      obtain ⟨s0, s1, s2, s3, s4, s5, s6⟩ := (show _ ∧ _ ∧ _ ∧ _ ∧ _ ∧ _ ∧ _ from ⟨hx.cell 0, hx.cell 1, hx.cell 2, hx.cell 3, hx.cell 4, hx.cell 5, hx.cell 6⟩)
      obtain ⟨f0, f1, f2, f3, f4, f5, f6⟩ := (show _ ∧ _ ∧ _ ∧ _ ∧ _ ∧ _ ∧ _ from ⟨hx.frozen 0, hx.frozen 1, hx.frozen 2, hx.frozen 3, hx.frozen 4, hx.frozen 5, hx.frozen 6⟩)
      simp at t0 t1 t2 t3 t4 t5 t6 s0 s1 s2 s3 s4 s5 s6
      have lv := hx.lt
      have lr := hr.lt
      have HG := Lib.hid (grown_set (grown_set (grown_set (grown_set (grown_set (grown_set (grown_set (grown_refl wv (some w.heap.size)) 0 (.int .i64 1)) 1 (.int .i64 r1)) 2 (.int .i64 r2)) 3 (.int .i64 3600)) 4 (.int .i64 r4)) 5 (.int .i64 (1 + y))) 6 (.slice A n c))
      have HG9 := Lib.hid (grown_moreC hg HG.out (fun i e => by cases e; exact Nat.le_refl _))
      have HC9 := Lib.hid (hcv.grown HG.out (fun i e => by cases e; have := hcv.low; exact ⟨by omega, gn0⟩))
      have HO9 := Lib.hid (own_mono (B' := w.heap.size) (ho.kept HG.out (.inr (fun e => by have := own_lo ho _ e; omega))) (Nat.le_succ _))
      clear O7 Y7 R7 G7 C7 ho hg hcv hx hr HG
      go_wp2
      exact bodyPost_ret (v := .agg #[.int .i64 1, .int .i64 r1, .int .i64 r2, .int .i64 3600, .int .i64 r4, .int .i64 (1 + y), .slice A n c]) (by simp [results, Try.results82, go_sem, *]) rfl ⟨1, r1, r2, 3600, r4, 1 + y, n, F, A, c, rfl, HO9.out, hn7, HG9.out, HC9.out⟩
end Go.Proofs.Ytgfcmeiffhffaaa
