/- Contract of the reference's drawn spells. -/
import Derived.Test.YtgfcmeiffhffaaaJSpell
import Derived.Test.YtgfcmeiffhffaaaJDrawF
import Derived.Test.YtgfcmeiffhffaaaJVApp
namespace Go.Proofs.Ytgfcmeiffhffaaa
open Go.RowKit

/-- One of the numbers of a row comes back. -/
def PickQ (B g n : Nat) (F : Nat → Int) (w : World) (e : Ending) (w' : World) : Prop :=
  ∃ j, j < n ∧ e = .returned (.int .i64 (F j)) ∧ w.grownBy w' (some g) ∧ CurOk B w' g
theorem pick_draw (B g b n : Nat) (F : Nat → Int) (w : World) (hb : b ≠ g) (n1 : 1 ≤ n) (n2 : n ≤ 256) (hx : Row w .i64 (some ⟨b, 0, none⟩) n F) (hc : CurOk B w g) :
    Calls Try.prog 114 #[.pointer (some ⟨g, 0, none⟩), .slice (some ⟨b, 0, none⟩) n n] w (PickQ B g n F w) := by
  have HX := Lib.hid hx
  clear hx
  go_enter Try.func114, Try.ntmps114
  go_wp2_with fail
  with_reducible refine (below_draw B g n _ (by omega) (by omega) hc).mono ?_
  rintro e w1 ⟨x, x0, x1, rfl, hg1, hc1⟩
  have Y := Row.moved HX.out hg1 (fun b' off e => by cases e; exact fun h => hb (Option.some.inj h))
  obtain ⟨j, rfl⟩ := Int.eq_ofNat_of_zero_le x0
  have hj : j < n := by omega
  have hji : (j : Int) < (n : Int) := by omega
  have hj0 : (0 : Int) ≤ (j : Int) := by omega
  rcases Y with h | ⟨b', off, e, _, hcell⟩
  · omega
  · cases e
    have hcj := hcell j hj
    rw [Nat.zero_add] at hcj
    clear hcell HX
    go_wp2
    go_ret
    exact ⟨j, hj, rfl, hg1, hc1⟩
/-- Yes or no, drawn. -/
def OnceCQ (B g : Nat) (w : World) (e : Ending) (w' : World) : Prop :=
  ∃ b : Bool, e = .returned (.bool b) ∧ w.grownBy w' (some g) ∧ CurOk B w' g
theorem onceC_draw (B g : Nat) (n : Int) (w : World) (hn : 1 ≤ n) (hn2 : n ≤ 1000000000) (hc : CurOk B w g) : Calls Try.prog 113 #[.pointer (some ⟨g, 0, none⟩), .int .i64 n] w (OnceCQ B g w) := by
  go_enter Try.func113, Try.ntmps113
  go_wp2_with fail
  with_reducible refine (below_draw B g n _ hn hn2 hc).mono ?_
  rintro e w1 ⟨x, x0, x1, rfl, hg1, hc1⟩
  go_wp2
  go_ret
  exact ⟨_, rfl, hg1, hc1⟩
/-- The five shares that are drawn. -/
def pct5 : Nat → Int := fun i => [(100 : Int), 100, 50, 80, 1].getD i 0
theorem pct5_bd {j : Nat} (h : j < 5) : 1 ≤ pct5 j ∧ pct5 j ≤ 100 := by
  rcases (show j = 0 ∨ j = 1 ∨ j = 2 ∨ j = 3 ∨ j = 4 by omega) with rfl | rfl | rfl | rfl | rfl <;> decide
theorem row_pct5 {w : World} {b : Nat} (h : Box w b 3 #[.int .i64 100, .int .i64 100, .int .i64 50, .int .i64 80, .int .i64 1]) : Row w .i64 (some ⟨b, 0, none⟩) 5 pct5 := by
  refine .inr ⟨b, 0, rfl, h.lt, fun i hi => ?_⟩
  rw [Nat.zero_add, h.cell]
  rcases (show i = 0 ∨ i = 1 ∨ i = 2 ∨ i = 3 ∨ i = 4 by omega) with rfl | rfl | rfl | rfl | rfl <;> rfl
/-- One record of a spell. -/
def spellX (a b p : Int) (l : Bool) : Nat → Value
  | 0 => .int .i64 a
  | 1 => .int .i64 b
  | 2 => .int .i64 p
  | _ => .bool l
theorem spell_cat (F : Nat → Nat → Int) (L : Nat → Bool) (n : Nat) (a b p : Int) (l : Bool) : catV (spellV F L) n (spellX a b p l) = spellV (fun i j => if i < n then F i j else trip a b p j) (fun i => if i < n then L i else l) := by
  funext i j
  unfold catV
  by_cases h : i < n
  · rw [if_pos h]
    match j with
    | 0 => simp only [spellV, if_pos h]
    | 1 => simp only [spellV, if_pos h]
    | 2 => simp only [spellV, if_pos h]
    | j + 3 => simp only [spellV, if_pos h]
  · rw [if_neg h]
    match j with
    | 0 => simp only [spellV, spellX, if_neg h]; rfl
    | 1 => simp only [spellV, spellX, if_neg h]; rfl
    | 2 => simp only [spellV, spellX, if_neg h]; rfl
    | j + 3 => simp only [spellV, spellX, if_neg h]
end Go.Proofs.Ytgfcmeiffhffaaa
namespace Go.Proofs.Ytgfcmeiffhffaaa
open Go.RowKit

theorem spells_step {F : Nat → Nat → Int} {n : Nat} {a b p : Int} (h : spellsB F n = true) (hn : n + 1 ≤ 30) (a0 : 0 ≤ a) (ab : a < b) (b1 : b ≤ 3600) (p0 : 1 ≤ p) (p1 : p ≤ 100) (hk : ∀ i, i < n → F i 1 ≤ a) : spellsB (fun i j => if i < n then F i j else trip a b p j) (n + 1) = true := by
  simp only [spellsB, Bool.and_eq_true, decide_eq_true_eq] at h ⊢
  refine ⟨allB_iff.2 fun i hi => ?_, hn⟩
  by_cases hin : i < n
  · have := allB_iff.1 h.1 i hin
    unfold spellB at *
    simp only [if_pos hin, if_pos (show i - 1 < n by omega)]
    exact this
  · obtain rfl : i = n := by omega
    have e1 : spanB a b = true := spanB_true.2 ⟨a0, ab, b1⟩
    have e2 : inB p 1 100 = true := inB_true.2 ⟨p0, p1⟩
    have t0 : trip a b p 0 = a := rfl
    have t1 : trip a b p 1 = b := rfl
    have t2 : trip a b p 2 = p := rfl
    unfold spellB
    simp only [if_neg (Nat.lt_irrefl i), t0, t1, t2, e1, e2]
    rcases Nat.eq_zero_or_pos i with h0 | h0
    · simp [h0]
    · rw [if_pos (show i - 1 < i by omega), decide_eq_true (hk (i - 1) (by omega))]
      simp
theorem ends_step {F : Nat → Nat → Int} {n : Nat} {a b p at_ : Int} (h : ∀ i, i < n → F i 1 ≤ at_) (hb : at_ ≤ b) : ∀ i, i < n + 1 → (if i < n then F i 1 else trip a b p 1) ≤ b := fun i hi => by
  split
  · have := h i (by assumption); omega
  · exact Int.le_refl _
/-- Drawn spells: right ones, in a row of their own. -/
def SpellsQ (B g : Nat) (w : World) (e : Ending) (w' : World) : Prop :=
  ∃ (n : Nat) (F : Nat → Nat → Int) (L : Nat → Bool) (A : Option Addr) (c : Nat), e = .returned (.slice A n c) ∧ w'.ownsRow w.heap.size 102 4 (.slice A n c) n (recV (spellV F L) 4 n) ∧ spellsB F n = true ∧ n ≤ 6 ∧ w.grownBy w' (some g) ∧ CurOk B w' g
theorem own_recv_empty (w : World) (base : Nat) (e : TypeId) (k : Nat) (V : Nat → Nat → Value) (hb : base ≤ w.heap.size) : (w.alloc (.cells #[] e)).ownsRow base e k (.slice (some ⟨w.heap.size, 0, none⟩) 0 0) 0 (recV V k 0) := by
  have h := own_rec_empty w base e k (fun _ _ => 0) hb
  have e1 : recs (fun _ _ => (0 : Int)) k 0 = [] := by simp [recs]
  have e2 : recV V k 0 = [] := by simp [recV]
  rw [e2]; rw [e1] at h; exact h
set_option maxRecDepth 100000 in
set_option maxHeartbeats 16000000 in
theorem spells_draw (B g : Nat) (w : World) (hc : CurOk B w g) : Calls Try.prog 108 #[.pointer (some ⟨g, 0, none⟩)] w (SpellsQ B g w) := by
  have gl := hc.lt
  have HC := Lib.hid (hc.alloc (.cells #[] 102))
  have O0 := Lib.hid (own_recv_empty w w.heap.size 102 4 (spellV (fun _ _ => 0) (fun _ => false)) (Nat.le_refl _))
  have G0 := Lib.hid (show w.grownBy (w.alloc (.cells #[] 102)) (some g) from grown_of_below ((Below.refl _ _).alloc (Nat.le_refl _) _) _)
  clear hc
  go_enter Try.func108, Try.ntmps108
  go_wp2_with fail
  with_reducible refine (below_draw B g 20 _ (by omega) (by omega) HC.out).mono ?_
  rintro e w1 ⟨x, x0, x1, rfl, hg1, hc1⟩
  have O1 := Lib.hid (O0.out.kept hg1 (.inr (HC.out.own_ne O0.out (by decide))))
  have G1 := Lib.hid (grown_trans G0.out hg1)
  have C1 := Lib.hid hc1
  clear hg1 hc1 HC O0 G0
  go_wp2_with fail
  go_loopw [3, 4, 5] (fun out at_ i wr => ∃ (n : Nat) (F : Nat → Nat → Int) (L : Nat → Bool) (A : Option Addr) (c : Nat) (a : Int), n ≤ 6 ∧ i = .int .i64 n ∧ at_ = .int .i64 a ∧ 0 ≤ a ∧ a ≤ 19 + 37 * n ∧ out = .slice A n c ∧ wr.ownsRow w.heap.size 102 4 (.slice A n c) n (recV (spellV F L) 4 n) ∧ Hid (spellsB F n = true) ∧ Hid (∀ i, i < n → F i 1 ≤ a) ∧ CurOk B wr g ∧ w.grownBy wr (some g)) (fun _ _ i _ => 6 - (intOf i).toNat)
  case atStart => exact ⟨0, fun _ _ => 0, fun _ => false, _, _, x, by omega, rfl, rfl, x0, by omega, rfl, O1.out, by show spellsB _ 0 = true; rfl, fun i hi => by omega, C1.out, G1.out⟩
  case round =>
    clear O1 G1 C1
    obtain ⟨n, F, L, A, c, a, hn, rfl, rfl, a0, a1, rfl, ho, hS, hT, hc, hg⟩ := hrel
    have HC := Lib.hid hc
    have HO := Lib.hid ho
    have HG := Lib.hid hg
    clear hc ho hg
    go_wp2_with fail
    with_reducible refine (below_draw B g 7 _ (by omega) (by omega) HC.out).mono ?_
    rintro e w1 ⟨y, y0, y1, rfl, hg1, hc1⟩
    have O1 := Lib.hid (HO.out.kept hg1 (.inr (HC.out.own_ne HO.out (by decide))))
    have G1 := Lib.hid (grown_trans HG.out hg1)
    have C1 := Lib.hid hc1
    clear hg1 hc1 HC HO HG
    by_cases hlt : (n : Int) < y
    · go_wp2_with fail
      with_reducible refine (below_draw B g 8 _ (by omega) (by omega) C1.out).mono ?_
      rintro e w2 ⟨u, u0, u1, rfl, hg2, hc2⟩
      have O2 := Lib.hid (O1.out.kept hg2 (.inr (C1.out.own_ne O1.out (by decide))))
      have G2 := Lib.hid (grown_trans G1.out hg2)
      have C2 := Lib.hid hc2
      clear hg2 hc2 C1 O1 G1
      go_wp2_with fail
      with_reducible refine (below_draw B g 2 _ (by omega) (by omega) C2.out).mono ?_
      rintro e w3 ⟨q, q0, q1, rfl, hg3, hc3⟩
      have O3 := Lib.hid (O2.out.kept hg3 (.inr (C2.out.own_ne O2.out (by decide))))
      have G3 := Lib.hid (grown_trans G2.out hg3)
      have C3 := Lib.hid hc3
      have uq0 : 0 ≤ u * q := Int.mul_nonneg u0 q0
      have uq1 : u * q ≤ 7 := by
        have h1 : u * q ≤ u * 1 := Int.mul_le_mul_of_nonneg_left (by omega) u0
        omega
      clear hg3 hc3 C2 O2 G2
      generalize huq : u * q = uq at *
      go_wp2_with fail
      have hbb : (0 : Int) ≤ a + uq := by omega
      with_reducible refine (below_draw B g 30 _ (by omega) (by omega) C3.out).mono ?_
      rintro e w4 ⟨d, d0, d1, rfl, hg4, hc4⟩
      have O4 := Lib.hid (O3.out.kept hg4 (.inr (C3.out.own_ne O3.out (by decide))))
      have G4 := Lib.hid (grown_trans G3.out hg4)
      have C4 := Lib.hid hc4
      clear hg4 hc4 C3 O3 G3
      go_wp2_with fail
      have Y5 := Lib.hid (Box.made w4 3 #[.int .i64 100, .int .i64 100, .int .i64 50, .int .i64 80, .int .i64 1])
      with_reducible refine (pick_draw B g _ 5 pct5 _ (by have := C4.out.lt; omega) (by omega) (by omega) (row_pct5 Y5.out) (C4.out.alloc (.cells #[.int .i64 100, .int .i64 100, .int .i64 50, .int .i64 80, .int .i64 1] 3))).mono ?_
      rintro e w5 ⟨j, hj, rfl, hg5, hc5⟩
      have O5 := Lib.hid ((O4.out.alloc (.cells #[.int .i64 100, .int .i64 100, .int .i64 50, .int .i64 80, .int .i64 1] 3)).kept hg5 (.inr ((C4.out.alloc (.cells #[.int .i64 100, .int .i64 100, .int .i64 50, .int .i64 80, .int .i64 1] 3)).own_ne (O4.out.alloc (.cells #[.int .i64 100, .int .i64 100, .int .i64 50, .int .i64 80, .int .i64 1] 3)) (by decide))))
      have G5 := Lib.hid (grown_trans (grown_trans G4.out (grown_of_below ((Below.refl _ _).alloc (Nat.le_refl _) (.cells #[.int .i64 100, .int .i64 100, .int .i64 50, .int .i64 80, .int .i64 1] 3)) _)) hg5)
      have C5 := Lib.hid hc5
      obtain ⟨p0, p1⟩ := pct5_bd hj
      generalize pct5 j = p at *
      clear hg5 hc5 C4 O4 G4 Y5
      go_wp2_with fail
      with_reducible refine (onceC_draw B g 5 _ (by omega) (by omega) C5.out).mono ?_
      rintro e w6 ⟨l, rfl, hg6, hc6⟩
      have O6 := Lib.hid (O5.out.kept hg6 (.inr (C5.out.own_ne O5.out (by decide))))
      have G6 := Lib.hid (grown_trans G5.out hg6)
      have C6 := Lib.hid hc6
      have z6 := G6.out.size
      clear hg6 hc6 C5 O5 G5
      go_wp2_with (at_builtin; refine wpList_app_recV rfl (.tmp 28) (.tmp 37) 28 (by rfl) w.heap.size 102 (.agg #[.int .i64 0, .int .i64 0, .int .i64 0, .bool false]) 4 32 Try.underlying28 infSpell rfl (by decide) (by decide) _ n (spellV F L) (O6.out.alloc _) w6.heap.size _ _ (Box.made w6 102 #[.int .i64 (a + uq), .int .i64 (a + uq + 1 + d), .int .i64 p, .bool l]) (spellX (a + uq) (a + uq + 1 + d) p l) (fun j hj => by rcases (show j = 0 ∨ j = 1 ∨ j = 2 ∨ j = 3 by omega) with rfl | rfl | rfl | rfl <;> rfl) (fun j hj => by rcases (show j = 0 ∨ j = 1 ∨ j = 2 ∨ j = 3 by omega) with rfl | rfl | rfl | rfl <;> rfl) (by omega) (by simp; omega) rfl rfl ?_)
      intro v7 w7 o7 hg7
      rw [spell_cat] at o7
      obtain ⟨A7, c7, rfl, _, _⟩ := own_recV o7
      have O7 := Lib.hid o7
      have l6 := own_lo O6.out
      have C7 := Lib.hid ((C6.out.alloc (.cells #[.int .i64 (a + uq), .int .i64 (a + uq + 1 + d), .int .i64 p, .bool l] 102)).grown hg7 (fun k e => ⟨by have h2 := C6.out.low; have := l6 k e; have := C6.out.lt; omega, fun h => (C6.out.own_ne O6.out (by decide)) (by rw [e, h])⟩))
      have G7 := Lib.hid (grown_moreC (grown_moreC G6.out (grown_of_below ((Below.refl _ _).alloc (Nat.le_refl _) (.cells #[.int .i64 (a + uq), .int .i64 (a + uq + 1 + d), .int .i64 p, .bool l] 102)) none) (fun i e => by cases e)) hg7 (fun i e => l6 i e))
      have HS7 := Lib.hid (spells_step (a := a + uq) (b := a + uq + 1 + d) (p := p) hS.out (show n + 1 ≤ 30 by omega) hbb (by omega) (by omega) p0 p1 (fun i hi => by have := hT.out i hi; omega))
      have HT7 := Lib.hid (ends_step (a := a + uq) (b := a + uq + 1 + d) (p := p) hT.out (by omega))
      clear o7 hg7 l6 O6 G6 C6
      go_wp2
      go_roundw
      case rel => exact ⟨n + 1, _, _, A7, c7, a + uq + 1 + d, by omega, by go_num, rfl, by omega, by omega, rfl, O7.out, HS7.out, HT7.out, C7.out, G7.out⟩
      case measure => simp [intOf]; omega
    · go_wp2
      go_ret
      exact ⟨n, F, L, A, c, rfl, O1.out, hS.out, hn, G1.out, C1.out⟩
end Go.Proofs.Ytgfcmeiffhffaaa
