/- Contract of the reference's AddRule: a right book stays right. -/
import Derived.Deep.RegionLaw
import Derived.Deep.DeepCutAuto
import Derived.Test.YtgfcmeiffhffaaaJOwnB
namespace Go.Proofs.Ytgfcmeiffhffaaa
open Go.RowKit

/-- The same rules in rows of their own. -/
def BookCQ (n : Nat) (R : Nat → Nat → Int) (Nn : Nat → Nat) (NF : Nat → Nat → Nat → Int) (w : World) (e : Ending) (w' : World) : Prop :=
  ∃ (A : Option Addr) (c : Nat) (NA : Nat → Option Addr) (Nc : Nat → Nat), e = .returned (.agg #[.slice A n c]) ∧ OwnRules w' w.heap.size A n c R NA Nn Nc NF ∧ Below w.heap.size w w'
theorem copy_step {w : World} {base : Nat} {A : Option Addr} {m c : Nat} {R : Nat → Nat → Int} {NA : Nat → Option Addr} {Nn Nc : Nat → Nat} {NF : Nat → Nat → Nat → Int} (h : OwnRules w base A (m + 1) c (more R m (six (R m 0) (R m 1) (R m 2) (R m 3) (R m 4) (R m 5))) NA (more Nn m (Nn m)) Nc (more NF m (NF m))) : OwnRules w base A (m + 1) c R NA Nn Nc NF := by
  refine h.congr (fun i hi j hj => ?_) (fun i hi => ?_) (fun i hi => ?_)
  · unfold more
    by_cases hin : i < m
    · rw [if_pos hin]
    · obtain rfl : i = m := by omega
      rw [if_neg hin]
      rcases (show j = 0 ∨ j = 1 ∨ j = 2 ∨ j = 3 ∨ j = 4 ∨ j = 5 by omega) with rfl | rfl | rfl | rfl | rfl | rfl <;> rfl
  · unfold more
    by_cases hin : i < m
    · rw [if_pos hin]
    · obtain rfl : i = m := by omega
      rw [if_neg hin]
  · unfold more
    by_cases hin : i < m
    · rw [if_pos hin]
    · obtain rfl : i = m := by omega
      rw [if_neg hin]
set_option maxRecDepth 100000 in
set_option maxHeartbeats 16000000 in
theorem bookCopy_any (A : Option Addr) (n c : Nat) (R : Nat → Nat → Int) (NA : Nat → Option Addr) (Nn Nc : Nat → Nat) (NF : Nat → Nat → Nat → Int) (w : World) (hn : n ≤ 100) (hnc : n ≤ c) (hr : Rules w A n R NA Nn Nc NF) (hA : ∀ i, i < n → AnyA (NA i) (Nc i)) (hS : ∀ i, i < n → Nn i ≤ 7) :
    Calls Try.prog 110 #[.agg #[.slice A n c]] w (BookCQ n R Nn NF w) := by
  have HR := Lib.hid hr
  have HA := Lib.hid hA
  have HS := Lib.hid hS
  have B3 := Lib.hid ((((Below.refl w.heap.size w).alloc (Nat.le_refl _) (.cells #[.slice A n c] 50)).alloc (by simp) (.cells #[.slice none 0 0] 50)).alloc (by simp; omega) (.cells #[.slice none 0 0] 50))
  have X0 := Lib.hid (((Box.made w 50 #[.slice A n c]).alloc (.cells #[.slice none 0 0] 50)).alloc (.cells #[.slice none 0 0] 50))
  have X1 := Lib.hid ((Box.made_at (w := w.alloc (.cells #[.slice A n c] 50)) (t := 50) (cs := #[.slice none 0 0]) (g := w.heap.size + 1) (by simp)).alloc (.cells #[.slice none 0 0] 50))
  have X2 := Lib.hid (Box.made_at (w := (w.alloc (.cells #[.slice A n c] 50)).alloc (.cells #[.slice none 0 0] 50)) (t := 50) (cs := #[.slice none 0 0]) (g := w.heap.size + 2) (by simp))
  clear hr hA hS
  go_enter Try.func110, Try.ntmps110
  go_wp2_with fail
  go_loopw [4] (fun i wr => ∃ (m : Nat) (A' : Option Addr) (c' : Nat) (NA' : Nat → Option Addr) (Nc' : Nat → Nat), m ≤ n ∧ i = .int .i64 m ∧ OwnRules wr (w.heap.size + 3) A' m c' R NA' Nn Nc' NF ∧ Below w.heap.size w wr ∧ w.heap.size + 3 ≤ wr.heap.size ∧ Box wr w.heap.size 50 #[.slice A n c] ∧ Box wr (w.heap.size + 1) 50 #[.slice none 0 0] ∧ Box wr (w.heap.size + 1 + 1) 50 #[.slice A' m c']) (fun i _ => n - (intOf i).toNat)
  case atStart => exact ⟨0, none, 0, NA, Nc, Nat.zero_le _, rfl, own_rules_nil _ _ _ _ _ _ _, B3.out, by simp, X0.out, X1.out, X2.out⟩
  case round =>
    clear B3 X0 X1 X2
    obtain ⟨m, A', c', NA', Nc', hm, rfl, ho, hb, hz, x0, x1, x2⟩ := hrel
    have t0 := x0.cell 0
    have l0 := x0.lt
    have l2 := x2.lt
    have l1 := x1.lt
    simp at t0
    by_cases hlt : m < n
    · obtain ⟨b, off, e, hbl, d0, d1, d2, d3, d4, d5, d6⟩ := HR.out.at7 hlt
      have HRr := Lib.hid (HR.out.kept hb)
      obtain ⟨b', off', e', hbl', d0', d1', d2', d3', d4', d5', d6'⟩ := HRr.out.at7 hlt
      cases e
      cases e'
      have RN := Lib.hid (HRr.out.nodes m hlt)
      have hmi : (m : Int) < (n : Int) := by omega
      have hm0 : (0 : Int) ≤ (m : Int) := by omega
      have hmc : m < c := by omega
      have td := x2.cell 0
      have fd := x2.frozen 0
      simp at td
      have OD := Lib.hid (ho.below (Below.refl _ _).drew)
      have BD := Lib.hid hb.drew
      have XD0 := Lib.hid (show Box wr.drew w.heap.size 50 #[.slice (some ⟨b, off, none⟩) n c] from x0)
      have XD1 := Lib.hid (show Box wr.drew (w.heap.size + 1) 50 #[.slice none 0 0] from x1)
      have XD2 := Lib.hid (show Box wr.drew (w.heap.size + 1 + 1) 50 #[.slice A' m c'] from x2)
      have FD := Lib.hid (ruleCopy_any (R m 0) (R m 1) (R m 2) (R m 3) (R m 4) (R m 5) (NA m) (Nn m) (Nc m) (NF m) wr.drew (by have := HS.out m hlt; omega) (HA.out m hlt) RN.out.drew)
      have zD : w.heap.size + 3 ≤ wr.drew.heap.size := hz
      clear d0 d1 d2 d3 d4 d5 d6 hbl hbl' x0 x1 x2 ho hb RN HRr
      go_wp2_with fail
      go_region_law (first | (go_simp; go_at_call 111; (with_reducible refine FD.out.mono ?_); rintro e w4 ⟨A4, c4, rfl, o4, hb4⟩; have y4 := XD2.out.kept hb4; have tc4 := y4.cell 0; (simp at tc4); have u4 := y4.lt; have z4 := hb4.size; have Y4 := Lib.hid y4; have O4 := Lib.hid (OD.out.below hb4); have N4 := Lib.hid (own_mono o4 zD); have Y04 := Lib.hid (XD0.out.kept hb4); have Y14 := Lib.hid (XD1.out.kept hb4); have B4 := Lib.hid (BD.out.trans (hb4.mono BD.out.size)); clear o4 hb4 y4) | (refine step_app_recV (w := w4.alloc (.cells #[.int .i64 (R m 0), .int .i64 (R m 1), .int .i64 (R m 2), .int .i64 (R m 3), .int .i64 (R m 4), .int .i64 (R m 5), .slice A4 (Nn m) c4] 119)) (by rfl) (.tmp 14) (.tmp 21) 48 (by rfl) (w.heap.size + 3) 119 (.agg #[.int .i64 0, .int .i64 0, .int .i64 0, .int .i64 0, .int .i64 0, .int .i64 0, .slice none 0 0]) 7 72 Try.underlying48 infRule rfl (by decide) (by decide) _ m (ruleV R NA' Nn Nc') (O4.out.alloc (.cells #[.int .i64 (R m 0), .int .i64 (R m 1), .int .i64 (R m 2), .int .i64 (R m 3), .int .i64 (R m 4), .int .i64 (R m 5), .slice A4 (Nn m) c4] 119)).row w4.heap.size _ _ (Box.made w4 _ _) (ruleX (R m 0) (R m 1) (R m 2) (R m 3) (R m 4) (R m 5) A4 (Nn m) c4) (fun j hj => by rcases (show j = 0 ∨ j = 1 ∨ j = 2 ∨ j = 3 ∨ j = 4 ∨ j = 5 ∨ j = 6 by omega) with rfl | rfl | rfl | rfl | rfl | rfl | rfl <;> rfl) (fun j hj => by rcases (show j = 0 ∨ j = 1 ∨ j = 2 ∨ j = 3 ∨ j = 4 ∨ j = 5 ∨ j = 6 by omega) with rfl | rfl | rfl | rfl | rfl | rfl | rfl <;> rfl) (by omega) (by simp; omega) (by rfl) (by rfl) ?_; intro v7 w7 o7 hg7; obtain ⟨A7, c7, rfl, _, _⟩ := own_recV o7; have hz7 := (Y4.out.alloc (.cells #[.int .i64 (R m 0), .int .i64 (R m 1), .int .i64 (R m 2), .int .i64 (R m 3), .int .i64 (R m 4), .int .i64 (R m 5), .slice A4 (Nn m) c4] 119)).grown hg7 (box_ne_own (Y4.out.alloc (.cells #[.int .i64 (R m 0), .int .i64 (R m 1), .int .i64 (R m 2), .int .i64 (R m 3), .int .i64 (R m 4), .int .i64 (R m 5), .slice A4 (Nn m) c4] 119)) (O4.out.alloc (.cells #[.int .i64 (R m 0), .int .i64 (R m 1), .int .i64 (R m 2), .int .i64 (R m 3), .int .i64 (R m 4), .int .i64 (R m 5), .slice A4 (Nn m) c4] 119)).row (by decide)); have tc7 := hz7.cell 0; (simp at tc7); have tf7 := hz7.frozen 0; have u7 := hz7.lt))
      all_goals
        have l4 := own_lo (O4.out.alloc (.cells #[.int .i64 (R m 0), .int .i64 (R m 1), .int .i64 (R m 2), .int .i64 (R m 3), .int .i64 (R m 4), .int .i64 (R m 5), .slice A4 (Nn m) c4] 119)).row
        have o7s := copy_step ((O4.out.alloc (.cells #[.int .i64 (R m 0), .int .i64 (R m 1), .int .i64 (R m 2), .int .i64 (R m 3), .int .i64 (R m 4), .int .i64 (R m 5), .slice A4 (Nn m) c4] 119)).snoc hg7 o7 (own_below N4.out ((Below.refl _ _).alloc (Nat.le_refl _) (.cells #[.int .i64 (R m 0), .int .i64 (R m 1), .int .i64 (R m 2), .int .i64 (R m 3), .int .i64 (R m 4), .int .i64 (R m 5), .slice A4 (Nn m) c4] 119))) (HS.out m hlt))
        have B7 := below_grown (B4.out.alloc (by omega) (.cells #[.int .i64 (R m 0), .int .i64 (R m 1), .int .i64 (R m 2), .int .i64 (R m 3), .int .i64 (R m 4), .int .i64 (R m 5), .slice A4 (Nn m) c4] 119)) hg7 (by simp; omega) (fun b hb => by have := l4 b hb; omega)
        have Z0 := (Y04.out.alloc (.cells #[.int .i64 (R m 0), .int .i64 (R m 1), .int .i64 (R m 2), .int .i64 (R m 3), .int .i64 (R m 4), .int .i64 (R m 5), .slice A4 (Nn m) c4] 119)).grown hg7 (box_ne_own (Y04.out.alloc (.cells #[.int .i64 (R m 0), .int .i64 (R m 1), .int .i64 (R m 2), .int .i64 (R m 3), .int .i64 (R m 4), .int .i64 (R m 5), .slice A4 (Nn m) c4] 119)) (O4.out.alloc (.cells #[.int .i64 (R m 0), .int .i64 (R m 1), .int .i64 (R m 2), .int .i64 (R m 3), .int .i64 (R m 4), .int .i64 (R m 5), .slice A4 (Nn m) c4] 119)).row (by decide))
        have Z1 := (Y14.out.alloc (.cells #[.int .i64 (R m 0), .int .i64 (R m 1), .int .i64 (R m 2), .int .i64 (R m 3), .int .i64 (R m 4), .int .i64 (R m 5), .slice A4 (Nn m) c4] 119)).grown hg7 (box_ne_own (Y14.out.alloc (.cells #[.int .i64 (R m 0), .int .i64 (R m 1), .int .i64 (R m 2), .int .i64 (R m 3), .int .i64 (R m 4), .int .i64 (R m 5), .slice A4 (Nn m) c4] 119)) (O4.out.alloc (.cells #[.int .i64 (R m 0), .int .i64 (R m 1), .int .i64 (R m 2), .int .i64 (R m 3), .int .i64 (R m 4), .int .i64 (R m 5), .slice A4 (Nn m) c4] 119)).row (by decide))
        have zz7 := hg7.size
        have s9 := grown_set (grown_refl w7 (some (w.heap.size + 1 + 1))) 0 (.slice A7 (m + 1) c7)
        have O9 := Lib.hid (o7s.boxT s9 hz7 (by decide) (by decide))
        have B9 := Lib.hid (B7.setCell (p := ⟨w.heap.size + 1 + 1, 0, none⟩) (by simp; omega) (.slice A7 (m + 1) c7))
        have Z09 := Lib.hid (Z0.grown s9 (fun e => by have := Option.some.inj e; omega))
        have Z19 := Lib.hid (Z1.grown s9 (fun e => by have := Option.some.inj e; omega))
        have Z29 := Lib.hid (hz7.put 0 (.slice A7 (m + 1) c7))
        have z9 : w.heap.size + 3 ≤ w7.heap.size := by simp at zz7; omega
        clear o7s B7 Z0 Z1 s9 hz7 hg7 o7 O4 N4 Y04 Y14 Y4 B4 zz7
        go_wp2
        go_roundw
        case rel => exact ⟨m + 1, A7, c7, _, _, by omega, by go_num, O9.out, B9.out, by simp; omega, Z09.out, Z19.out, Z29.out⟩
        case measure => simp [intOf]; omega
    · have hmn : m = n := by omega
      subst hmn
      have td := x2.cell 0
      have t1 := x1.cell 0
      have f1 := x1.frozen 0
      simp at td t1
      have s9 := grown_set (grown_refl wr (some (w.heap.size + 1))) 0 (.slice A' m c')
      have O9 := Lib.hid ((ho.box s9 (by omega)).mono (show w.heap.size ≤ w.heap.size + 3 by omega))
      have B9 := Lib.hid (hb.setCell (p := ⟨w.heap.size + 1, 0, none⟩) (by simp) (.slice A' m c'))
      clear ho hb x0 x1 x2 s9
      go_wp2
      exact bodyPost_ret (v := .agg #[.slice A' m c']) (by simp [results, Try.results110, go_sem, *]) rfl ⟨A', c', NA', Nc', rfl, O9.out, B9.out⟩
end Go.Proofs.Ytgfcmeiffhffaaa
namespace Go.Proofs.Ytgfcmeiffhffaaa
open Go.RowKit

/-- A right book in rows of its own comes back. -/
def AddBQ (n : Nat) (w : World) (e : Ending) (w' : World) : Prop :=
  ∃ (A : Option Addr) (m c : Nat) (R : Nat → Nat → Int) (NA : Nat → Option Addr) (Nn Nc : Nat → Nat) (NF : Nat → Nat → Nat → Int) (ok : Bool), e = .returned (.tuple #[.agg #[.slice A m c], .bool ok]) ∧ OwnRules w' w.heap.size A m c R NA Nn Nc NF ∧ m ≤ n + 1 ∧ bookB R Nn NF m = true ∧ Below w.heap.size w w'
set_option maxRecDepth 100000 in
set_option maxHeartbeats 16000000 in
theorem addRule_draw (A : Option Addr) (n c : Nat) (R : Nat → Nat → Int) (NA : Nat → Option Addr) (Nn Nc : Nat → Nat) (NF : Nat → Nat → Nat → Int) (r0 r1 r2 r3 r4 r5 : Int) (XA : Option Addr) (xn xc : Nat) (XF : Nat → Nat → Int) (w : World) (hn : n ≤ 90) (hnc : n ≤ c)
    (hr : Rules w A n R NA Nn Nc NF) (hA : ∀ i, i < n → AnyA (NA i) (Nc i)) (hS : ∀ i, i < n → Nn i ≤ 7) (hb : bookB R Nn NF n = true) (hx : Recs w 6 XA xn XF) (hxA : AnyA XA xc) (hxn : xn ≤ 7) :
    Calls Try.prog 81 #[.agg #[.slice A n c], .agg #[.int .i64 r0, .int .i64 r1, .int .i64 r2, .int .i64 r3, .int .i64 r4, .int .i64 r5, .slice XA xn xc]] w (AddBQ n w) := by
  have HA := Lib.hid hA
  have HS := Lib.hid hS
  have HB := Lib.hid hb
  have HXA := Lib.hid hxA
  have B3 := Lib.hid ((((Below.refl w.heap.size w).alloc (Nat.le_refl _) (.cells #[.slice A n c] 50)).alloc (by simp) (.cells #[.int .i64 r0, .int .i64 r1, .int .i64 r2, .int .i64 r3, .int .i64 r4, .int .i64 r5, .slice XA xn xc] 119)).alloc (by simp; omega) (.cells #[.slice none 0 0] 50))
  have X0 := Lib.hid (((Box.made w 50 #[.slice A n c]).alloc (.cells #[.int .i64 r0, .int .i64 r1, .int .i64 r2, .int .i64 r3, .int .i64 r4, .int .i64 r5, .slice XA xn xc] 119)).alloc (.cells #[.slice none 0 0] 50))
  have X1 := Lib.hid ((Box.made_at (w := w.alloc (.cells #[.slice A n c] 50)) (t := 119) (cs := #[.int .i64 r0, .int .i64 r1, .int .i64 r2, .int .i64 r3, .int .i64 r4, .int .i64 r5, .slice XA xn xc]) (g := w.heap.size + 1) (by simp)).alloc (.cells #[.slice none 0 0] 50))
  have X2 := Lib.hid (Box.made_at (w := (w.alloc (.cells #[.slice A n c] 50)).alloc (.cells #[.int .i64 r0, .int .i64 r1, .int .i64 r2, .int .i64 r3, .int .i64 r4, .int .i64 r5, .slice XA xn xc] 119)) (t := 50) (cs := #[.slice none 0 0]) (g := w.heap.size + 1 + 1) (by simp))
  have HR0 := Lib.hid hr
  have HR := Lib.hid (hr.kept B3.out)
  have HX := Lib.hid (hx.kept B3.out)
  have z3 : (((w.alloc (.cells #[.slice A n c] 50)).alloc (.cells #[.int .i64 r0, .int .i64 r1, .int .i64 r2, .int .i64 r3, .int .i64 r4, .int .i64 r5, .slice XA xn xc] 119)).alloc (.cells #[.slice none 0 0] 50)).heap.size = w.heap.size + 3 := by simp
  clear hr hA hS hb hx hxA
  go_enter Try.func81, Try.ntmps81
  go_wp2_with fail
  generalize (((w.alloc (.cells #[.slice A n c] 50)).alloc (.cells #[.int .i64 r0, .int .i64 r1, .int .i64 r2, .int .i64 r3, .int .i64 r4, .int .i64 r5, .slice XA xn xc] 119)).alloc (.cells #[.slice none 0 0] 50)) = W3 at *
  with_reducible refine (bookCopy_any A n c R NA Nn Nc NF _ (by omega) hnc HR.out HA.out HS.out).mono ?_
  rintro e w1 ⟨A1, c1, NA1, Nc1, rfl, ho1, hb1⟩
  have z1 := hb1.size
  have OD := Lib.hid ((ho1.mono (show w.heap.size + 3 ≤ W3.heap.size by omega)).alloc (.cells #[.slice A1 n c1] 50))
  have BD := Lib.hid ((B3.out.trans (hb1.mono (by omega))).alloc (by omega) (.cells #[.slice A1 n c1] 50))
  have XD0 := Lib.hid ((X0.out.kept hb1).alloc (.cells #[.slice A1 n c1] 50))
  have XD1 := Lib.hid ((X1.out.kept hb1).alloc (.cells #[.slice A1 n c1] 50))
  have XD2 := Lib.hid ((X2.out.kept hb1).alloc (.cells #[.slice A1 n c1] 50))
  have XD3 := Lib.hid (Box.made w1 50 #[.slice A1 n c1])
  have RD := Lib.hid ((HR.out.kept hb1).alloc (.cells #[.slice A1 n c1] 50))
  have ND := Lib.hid ((HX.out.kept hb1).alloc (.cells #[.slice A1 n c1] 50))
  clear ho1 hb1 B3 X0 X1 X2 HR HX
  have zg : w.heap.size + 3 ≤ w1.heap.size := by omega
  have zW : (w1.alloc (.cells #[.slice A1 n c1] 50)).heap.size = w1.heap.size + 1 := by simp
  clear z1 z3
  go_upto_region 2 with fail
  generalize w1.alloc (.cells #[.slice A1 n c1] 50) = W1 at *
  generalize w1.heap.size = g1 at *
  have OE := Lib.hid (OD.out.below (Below.refl _ _).drew)
  have BE := Lib.hid BD.out.drew
  have XE0 := Lib.hid (show Box W1.drew w.heap.size 50 #[.slice A n c] from XD0.out)
  have XE2 := Lib.hid (show Box W1.drew (w.heap.size + 1 + 1) 50 #[.slice none 0 0] from XD2.out)
  have XE3 := Lib.hid (show Box W1.drew g1 50 #[.slice A1 n c1] from XD3.out)
  have FD := Lib.hid (ruleCopy_any r0 r1 r2 r3 r4 r5 XA xn xc XF W1.drew (by omega) HXA.out ND.out.drew)
  have zD : w.heap.size + 3 ≤ W1.drew.heap.size := show w.heap.size + 3 ≤ W1.heap.size by omega
  have td := XD3.out.cell 0
  obtain ⟨q0, q1, q2, q3, q4, q5, q6⟩ := (show _ ∧ _ ∧ _ ∧ _ ∧ _ ∧ _ ∧ _ from ⟨XD1.out.cell 0, XD1.out.cell 1, XD1.out.cell 2, XD1.out.cell 3, XD1.out.cell 4, XD1.out.cell 5, XD1.out.cell 6⟩)
  have ld := XD3.out.lt
  have l1 := XD1.out.lt
  simp at td q0 q1 q2 q3 q4 q5 q6
  clear OD BD XD0 XD1 XD2 XD3 RD ND
  go_region_law (first | (go_simp; go_at_call 111; (with_reducible refine FD.out.mono ?_); rintro e w4 ⟨A4, c4, rfl, o4, hb4⟩; have y4 := XE3.out.kept hb4; have tc4 := y4.cell 0; (simp at tc4); have u4 := y4.lt; have z4 := hb4.size; have Y4 := Lib.hid y4; have O4 := Lib.hid (OE.out.below hb4); have N4 := Lib.hid (own_mono o4 zD); have Y04 := Lib.hid (XE0.out.kept hb4); have Y24 := Lib.hid (XE2.out.kept hb4); have B4 := Lib.hid (BE.out.trans (hb4.mono BE.out.size)); clear o4 hb4 y4) | (refine step_app_recV (w := w4.alloc (.cells #[.int .i64 r0, .int .i64 r1, .int .i64 r2, .int .i64 r3, .int .i64 r4, .int .i64 r5, .slice A4 xn c4] 119)) (by rfl) (.tmp 10) (.tmp 13) 48 (by rfl) (w.heap.size + 3) 119 (.agg #[.int .i64 0, .int .i64 0, .int .i64 0, .int .i64 0, .int .i64 0, .int .i64 0, .slice none 0 0]) 7 72 Try.underlying48 infRule rfl (by decide) (by decide) _ n (ruleV R NA1 Nn Nc1) (O4.out.alloc (.cells #[.int .i64 r0, .int .i64 r1, .int .i64 r2, .int .i64 r3, .int .i64 r4, .int .i64 r5, .slice A4 xn c4] 119)).row w4.heap.size _ _ (Box.made w4 _ _) (ruleX r0 r1 r2 r3 r4 r5 A4 xn c4) (fun j hj => by rcases (show j = 0 ∨ j = 1 ∨ j = 2 ∨ j = 3 ∨ j = 4 ∨ j = 5 ∨ j = 6 by omega) with rfl | rfl | rfl | rfl | rfl | rfl | rfl <;> rfl) (fun j hj => by rcases (show j = 0 ∨ j = 1 ∨ j = 2 ∨ j = 3 ∨ j = 4 ∨ j = 5 ∨ j = 6 by omega) with rfl | rfl | rfl | rfl | rfl | rfl | rfl <;> rfl) (by omega) (by simp; omega) (by rfl) (by rfl) ?_; intro v7 w7 o7 hg7; obtain ⟨A7, c7, rfl, _, _⟩ := own_recV o7; have hz7 := (Y4.out.alloc (.cells #[.int .i64 r0, .int .i64 r1, .int .i64 r2, .int .i64 r3, .int .i64 r4, .int .i64 r5, .slice A4 xn c4] 119)).grown hg7 (box_ne_own (Y4.out.alloc (.cells #[.int .i64 r0, .int .i64 r1, .int .i64 r2, .int .i64 r3, .int .i64 r4, .int .i64 r5, .slice A4 xn c4] 119)) (O4.out.alloc (.cells #[.int .i64 r0, .int .i64 r1, .int .i64 r2, .int .i64 r3, .int .i64 r4, .int .i64 r5, .slice A4 xn c4] 119)).row (by decide)); have tc7 := hz7.cell 0; (simp at tc7); have tf7 := hz7.frozen 0; have u7 := hz7.lt))
  all_goals
    have l4 := own_lo (O4.out.alloc (.cells #[.int .i64 r0, .int .i64 r1, .int .i64 r2, .int .i64 r3, .int .i64 r4, .int .i64 r5, .slice A4 xn c4] 119)).row
    have o7s := (O4.out.alloc (.cells #[.int .i64 r0, .int .i64 r1, .int .i64 r2, .int .i64 r3, .int .i64 r4, .int .i64 r5, .slice A4 xn c4] 119)).snoc hg7 o7 (own_below N4.out ((Below.refl _ _).alloc (Nat.le_refl _) (.cells #[.int .i64 r0, .int .i64 r1, .int .i64 r2, .int .i64 r3, .int .i64 r4, .int .i64 r5, .slice A4 xn c4] 119))) hxn
    have B7 := below_grown (B4.out.alloc (by omega) (.cells #[.int .i64 r0, .int .i64 r1, .int .i64 r2, .int .i64 r3, .int .i64 r4, .int .i64 r5, .slice A4 xn c4] 119)) hg7 (by simp; omega) (fun b hb => by have := l4 b hb; omega)
    have Z0 := (Y04.out.alloc (.cells #[.int .i64 r0, .int .i64 r1, .int .i64 r2, .int .i64 r3, .int .i64 r4, .int .i64 r5, .slice A4 xn c4] 119)).grown hg7 (box_ne_own (Y04.out.alloc (.cells #[.int .i64 r0, .int .i64 r1, .int .i64 r2, .int .i64 r3, .int .i64 r4, .int .i64 r5, .slice A4 xn c4] 119)) (O4.out.alloc (.cells #[.int .i64 r0, .int .i64 r1, .int .i64 r2, .int .i64 r3, .int .i64 r4, .int .i64 r5, .slice A4 xn c4] 119)).row (by decide))
    have Z2 := (Y24.out.alloc (.cells #[.int .i64 r0, .int .i64 r1, .int .i64 r2, .int .i64 r3, .int .i64 r4, .int .i64 r5, .slice A4 xn c4] 119)).grown hg7 (box_ne_own (Y24.out.alloc (.cells #[.int .i64 r0, .int .i64 r1, .int .i64 r2, .int .i64 r3, .int .i64 r4, .int .i64 r5, .slice A4 xn c4] 119)) (O4.out.alloc (.cells #[.int .i64 r0, .int .i64 r1, .int .i64 r2, .int .i64 r3, .int .i64 r4, .int .i64 r5, .slice A4 xn c4] 119)).row (by decide))
    have zz7 := hg7.size
    have s9 := grown_set (grown_refl w7 (some g1)) 0 (.slice A7 (n + 1) c7)
    have O9 := Lib.hid (o7s.boxT s9 hz7 (by decide) (by decide))
    have B9 := Lib.hid (B7.setCell (p := ⟨g1, 0, none⟩) (by simp; omega) (.slice A7 (n + 1) c7))
    have Z09 := Lib.hid (Z0.grown s9 (fun e => by have := Option.some.inj e; omega))
    have Z29 := Lib.hid (Z2.grown s9 (fun e => by have := Option.some.inj e; omega))
    have Z39 := Lib.hid (hz7.put 0 (.slice A7 (n + 1) c7))
    have z9 : w.heap.size + 3 ≤ w7.heap.size := by simp at zz7; omega
    clear o7s B7 Z0 Z2 s9 hz7 hg7 o7 O4 N4 Y04 Y24 Y4 B4 zz7 OE BE XE0 XE2 XE3 FD q0 q1 q2 q3 q4 q5 q6 td ld l1
    go_upto_region 3 with fail
    have z99 : w.heap.size + 3 ≤ (w7.setCell ⟨g1, 0, none⟩ (.slice A7 (n + 1) c7)).heap.size := by simpa using z9
    have HM := Lib.hid O9.out.rules
    generalize w7.setCell ⟨g1, 0, none⟩ (.slice A7 (n + 1) c7) = W9 at *
    generalize more R n (six r0 r1 r2 r3 r4 r5) = R9 at *
    generalize more NA1 n A4 = NA9 at *
    generalize more Nn n xn = Nn9 at *
    generalize more Nc1 n c4 = Nc9 at *
    generalize more NF n XF = NF9 at *
    clear tc4 u4 z4 tc7 tf7 u7 l4 z9 zW zD
    have t0 := Z09.out.cell 0
    have l0 := Z09.out.lt
    simp at t0
    go_wp2_with fail
    with_reducible refine (sbookOk_any A n c R NA Nn Nc NF _ (by omega) (HR0.out.kept B9.out)).mono ?_
    rintro e w2 ⟨rfl, hb2⟩
    rw [HB.out]
    have zb2 := hb2.size
    have y2 := Z39.out.kept hb2
    have t2 := y2.cell 0
    have l2 := y2.lt
    simp at t2
    have Y0 := Lib.hid (Z09.out.kept hb2)
    have Y2 := Lib.hid (Z29.out.kept hb2)
    have Y3 := Lib.hid y2
    have O2 := Lib.hid (O9.out.below hb2)
    have B2 := Lib.hid (B9.out.trans (hb2.mono (by omega)))
    have HM2 := Lib.hid (HM.out.kept hb2)
    clear hb2 y2 t0 l0 Z09 Z29 Z39 O9 B9 HM
    go_wp2_with fail
    with_reducible refine (sbookOk_any A7 (n + 1) c7 R9 NA9 Nn9 Nc9 NF9 _ (by omega) HM2.out).mono ?_
    rintro e w3 ⟨rfl, hb3⟩
    have zb3 := hb3.size
    have x0 := Y0.out.kept hb3
    have x2 := Y2.out.kept hb3
    have x3 := Y3.out.kept hb3
    have O3 := Lib.hid (O2.out.below hb3)
    have B3 := Lib.hid (B2.out.trans (hb3.mono (by omega)))
    have t3 := x3.cell 0
    have l3 := x3.lt
    have t0 := x0.cell 0
    have l0 := x0.lt
    have tr := x2.cell 0
    have fr := x2.frozen 0
    have lr := x2.lt
    simp at t3 t0 tr
    have X2 := Lib.hid x2
    clear hb3 x0 x2 x3 t2 l2 Y0 Y2 Y3 O2 B2 HM2
    generalize hq : bookB R9 Nn9 NF9 (n + 1) = q at *
    cases q
    · go_wp2_with fail
      with_reducible refine (bookCopy_any A n c R NA Nn Nc NF _ (by omega) hnc (HR0.out.kept B3.out) HA.out HS.out).mono ?_
      rintro e w5 ⟨A5, c5, NA5, Nc5, rfl, ho5, hb5⟩
      have zb5 := hb5.size
      have x5 := X2.out.kept hb5
      have t5 := x5.cell 0
      have f5 := x5.frozen 0
      have l5 := x5.lt
      simp at t5
      have s9 := grown_set (grown_refl w5 (some (w.heap.size + 1 + 1))) 0 (.slice A5 n c5)
      have O9 := Lib.hid ((ho5.boxT s9 x5 (by decide) (by decide)).mono (show w.heap.size ≤ w3.heap.size by omega))
      have B9 := Lib.hid ((B3.out.trans (hb5.mono (by omega))).setCell (p := ⟨w.heap.size + 1 + 1, 0, none⟩) (by simp; omega) (.slice A5 n c5))
      clear ho5 hb5 x5 s9 t0 l0 t3 l3 tr fr lr
      go_wp2
      exact bodyPost_ret (v := .tuple #[.agg #[.slice A5 n c5], .bool false]) (by simp [results, Try.results81, go_sem, *]) rfl ⟨A5, n, c5, R, NA5, Nn, Nc5, NF, false, rfl, O9.out, by omega, HB.out, B9.out⟩
    · have s9 := grown_set (grown_refl w3 (some (w.heap.size + 1 + 1))) 0 (.slice A7 (n + 1) c7)
      have O9 := Lib.hid ((O3.out.boxT s9 X2.out (by decide) (by decide)).mono (show w.heap.size ≤ w.heap.size + 3 by omega))
      have B9 := Lib.hid (B3.out.setCell (p := ⟨w.heap.size + 1 + 1, 0, none⟩) (by simp; omega) (.slice A7 (n + 1) c7))
      clear s9 t0 l0
      go_wp2
      exact bodyPost_ret (v := .tuple #[.agg #[.slice A7 (n + 1) c7], .bool true]) (by simp [results, Try.results81, go_sem, *]) rfl ⟨A7, n + 1, c7, R9, NA9, Nn9, Nc9, NF9, true, rfl, O9.out, by omega, hq, B9.out⟩
end Go.Proofs.Ytgfcmeiffhffaaa
