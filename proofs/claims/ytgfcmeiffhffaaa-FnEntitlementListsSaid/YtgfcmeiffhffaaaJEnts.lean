/- Contract of the program's Entitlements, at valid cases. -/
import Derived.Deep.RegionHeld3
import Derived.Deep.DeepCutAuto
import Derived.Maps.AppendAt
import Derived.Test.YtgfcmeiffhffaaaJCaseOk
import Derived.Test.YtgfcmeiffhffaaaJService
import Derived.Test.YtgfcmeiffhffaaaJRatio
import Derived.Test.YtgfcmeiffhffaaaJPay
import Derived.Test.YtgfcmeiffhffaaaJStatusAt
import Derived.Test.YtgfcmeiffhffaaaJFigure
namespace Go.Proofs.Ytgfcmeiffhffaaa
open Go.RowKit

structure CS where
  RA : Option Addr
  rn : Nat
  rc : Nat
  R : Nat → Nat → Int
  NA : Nat → Option Addr
  Nn : Nat → Nat
  Nc : Nat → Nat
  NF : Nat → Nat → Nat → Int
  FA : Option Addr
  fn : Nat
  fc : Nat
  F : Nat → Nat → Int
  PA : Option Addr
  pn : Nat
  pc : Nat
  P : Nat → Nat → Int
  b : Int
  j : Int
  SA : Option Addr
  sn : Nat
  sc : Nat
  S : Nat → Nat → Int
  L : Nat → Bool
  EA : Option Addr
  en : Nat
  ec : Nat
  E : Nat → Nat → Int
def CS.At (c : CS) (w : World) : Prop := CaseAt w c.RA c.rn c.rc c.R c.NA c.Nn c.Nc c.NF c.FA c.fn c.F c.PA c.pn c.P c.SA c.sn c.S c.L c.EA c.en c.E
theorem CS.At.kept {c : CS} {w w' : World} (h : c.At w) (hb : Below w.heap.size w w') : c.At w' := CaseAt.kept h hb
theorem CS.At.un {c : CS} {w : World} (h : c.At w) : CaseAt w c.RA c.rn c.rc c.R c.NA c.Nn c.Nc c.NF c.FA c.fn c.F c.PA c.pn c.P c.SA c.sn c.S c.L c.EA c.en c.E := h
structure CS.Good (c : CS) : Prop where
  ok : caseB c.R c.Nn c.NF c.rn c.F c.fn c.P c.pn c.b c.j c.S c.sn c.E c.en = true
  hF : HdA c.FA c.fn c.fc
  hE : HdA c.EA c.en c.ec
theorem CS.Good.parts {c : CS} (h : c.Good) : bookB c.R c.Nn c.NF c.rn = true ∧ storeB c.F c.fn = true ∧ seriesB c.P c.pn = true ∧ spellsB c.S c.sn = true ∧ eventsB c.E c.en = true ∧ 0 ≤ c.b ∧ c.b ≤ c.j ∧ c.j ≤ 3599 := by
  have := h.ok
  simp only [caseB, memberB, Bool.and_eq_true, decide_eq_true_eq] at this
  obtain ⟨h1, h2, h3, ⟨⟨⟨h4, h5⟩, h6⟩, h7⟩, h8⟩ := this
  have h4 := inB_true.1 h4
  have h5 := inB_true.1 h5
  exact ⟨h1, h2, h3, h7, h8, by omega, h6, by omega⟩
def CS.ratio (c : CS) (m : Nat) (kn : Int) : FR := ratioR c.P c.pn c.j m kn
def CS.ratN (c : CS) (m : Nat) (kn : Int) : Int := if (c.ratio m kn).ok = true then (c.ratio m kn).n else 1
def CS.ratD (c : CS) (m : Nat) (kn : Int) : Int := if (c.ratio m kn).ok = true then (c.ratio m kn).d else 1
def CS.ret (c : CS) (m : Nat) : Int := if monthI c.E c.en 3 < 0 ∨ (m : Int) < monthI c.E c.en 3 then m else monthI c.E c.en 3
def CS.ser (c : CS) (m : Nat) : FR := redR (serI c.S c.L m c.sn) 100
def CS.num (c : CS) (m : Nat) (kn : Int) : Nat → Int
  | 0 => (c.ser m).n
  | 1 => payI c.F c.fn kn m
  | 2 => ((m : Int) - c.b) / 12
  | 3 => c.ratN m kn
  | 4 => (m : Int) - c.ret m
  | 5 => m
  | _ => 0
def CS.den (c : CS) (m : Nat) (kn : Int) : Nat → Int
  | 0 => (c.ser m).d
  | 3 => c.ratD m kn
  | _ => 1
/-- The eight variables. -/
def CS.var (c : CS) (m : Nat) (kn : Int) (i j : Nat) : Int := if j = 0 then c.num m kn i else c.den m kn i
def CS.varOk (c : CS) (m : Nat) (kn : Int) : Bool := !decide ((m : Int) < c.j) && ((c.ser m).ok && fracsB (c.var m kn) 8)
theorem CS.ret_bd (c : CS) (m : Nat) : 0 ≤ c.ret m ∧ c.ret m ≤ m := by
  unfold CS.ret
  split <;> omega
/-- The variables in a row, and whether there are any. -/
def VarQ (c : CS) (m : Nat) (kn : Int) (w : World) (e : Ending) (w' : World) : Prop :=
  Below w.heap.size w w' ∧ ((c.varOk m kn = true ∧ ∃ A k, e = .returned (.tuple #[.slice A 8 k, .bool true]) ∧ Recs w' 2 A 8 (c.var m kn)) ∨ (c.varOk m kn = false ∧ e = .returned (.tuple #[.slice none 0 0, .bool false])))
end Go.Proofs.Ytgfcmeiffhffaaa
namespace Go.Proofs.Ytgfcmeiffhffaaa
open Go.RowKit

theorem cs_caseOk (c : CS) (hg : c.Good) (w : World) (h : c.At w) : Calls Try.prog 14 #[.agg #[.slice c.RA c.rn c.rc, .slice c.FA c.fn c.fc, .slice c.PA c.pn c.pc, .int .i64 c.b, .int .i64 c.j, .slice c.SA c.sn c.sc, .slice c.EA c.en c.ec]] w fun e w' => e = .returned (.bool true) ∧ Below w.heap.size w w' := by
  have := caseOk_any c.RA c.rn c.rc c.R c.NA c.Nn c.Nc c.NF c.FA c.fn c.fc c.F c.PA c.pn c.pc c.P c.b c.j c.SA c.sn c.sc c.S c.L c.EA c.en c.ec c.E w h
  rw [hg.ok] at this
  exact this
theorem rowVar (c : CS) (m : Nat) (kn : Int) {w : World} {g : Nat} {t : TypeId} (h : Box w g t #[.int .i64 (c.ser m).n, .int .i64 (c.ser m).d, .int .i64 (payI c.F c.fn kn m), .int .i64 1, .int .i64 (((m : Int) - c.b) / 12), .int .i64 1, .int .i64 (c.ratN m kn), .int .i64 (c.ratD m kn), .int .i64 ((m : Int) - c.ret m), .int .i64 1, .int .i64 m, .int .i64 1, .int .i64 0, .int .i64 1, .int .i64 0, .int .i64 1]) :
    Recs w 2 (some ⟨g, 0, none⟩) 8 (c.var m kn) := by
  refine .inr ⟨g, 0, rfl, h.lt, fun i hi j hj => ?_⟩
  rw [h.cell]
  rcases (show j = 0 ∨ j = 1 by omega) with rfl | rfl
  all_goals rcases (show i = 0 ∨ i = 1 ∨ i = 2 ∨ i = 3 ∨ i = 4 ∨ i = 5 ∨ i = 6 ∨ i = 7 by omega) with rfl | rfl | rfl | rfl | rfl | rfl | rfl | rfl
  all_goals rfl
set_option maxRecDepth 100000 in
set_option maxHeartbeats 16000000 in
theorem varsFor_any (c : CS) (hg : c.Good) (m : Nat) (kn : Int) (hm : m ≤ 3599) (k0 : 0 ≤ kn) (k1 : kn ≤ 3599) (w : World) (h : c.At w) : Calls Try.prog 53 #[.agg #[.slice c.RA c.rn c.rc, .slice c.FA c.fn c.fc, .slice c.PA c.pn c.pc, .int .i64 c.b, .int .i64 c.j, .slice c.SA c.sn c.sc, .slice c.EA c.en c.ec], .int .i64 m, .int .i64 kn] w (VarQ c m kn w) := by
  obtain ⟨g1, g2, g3, g4, g5, b0, bj, j1⟩ := hg.parts
  have B0 := Lib.hid (((Below.refl w.heap.size w).alloc (Nat.le_refl _) (.cells #[.slice c.RA c.rn c.rc, .slice c.FA c.fn c.fc, .slice c.PA c.pn c.pc, .int .i64 c.b, .int .i64 c.j, .slice c.SA c.sn c.sc, .slice c.EA c.en c.ec] 58)).alloc (by simp) (.cells #[.int .i64 c.b, .int .i64 c.j, .slice c.SA c.sn c.sc, .slice c.EA c.en c.ec] 31))
  have X0 := Lib.hid ((Box.made w 58 #[.slice c.RA c.rn c.rc, .slice c.FA c.fn c.fc, .slice c.PA c.pn c.pc, .int .i64 c.b, .int .i64 c.j, .slice c.SA c.sn c.sc, .slice c.EA c.en c.ec]).alloc (.cells #[.int .i64 c.b, .int .i64 c.j, .slice c.SA c.sn c.sc, .slice c.EA c.en c.ec] 31))
  have X1 := Lib.hid (Box.made_at (w := w.alloc (.cells #[.slice c.RA c.rn c.rc, .slice c.FA c.fn c.fc, .slice c.PA c.pn c.pc, .int .i64 c.b, .int .i64 c.j, .slice c.SA c.sn c.sc, .slice c.EA c.en c.ec] 58)) (t := 31) (cs := #[.int .i64 c.b, .int .i64 c.j, .slice c.SA c.sn c.sc, .slice c.EA c.en c.ec]) (g := w.heap.size + 1) (by simp))
  have HC := Lib.hid (h.kept B0.out)
  have HK := Lib.hid (cs_caseOk c hg _ HC.out)
  have e1 : inB (m : Int) 0 3599 = true := inB_true.2 ⟨by omega, by omega⟩
  have e2 : inB kn 0 3599 = true := inB_true.2 ⟨k0, k1⟩
  have HG := Lib.hid hg
  have h0 := Lib.hid (fun w' (hb : Below w.heap.size w w') => h.kept hb)
  have G2 := Lib.hid g2
  have G4 := Lib.hid g4
  clear hg g1 g2 g3 g4 g5 h
  rcases Bool.eq_false_or_eq_true (decide ((m : Int) < c.j)) with s1 | s1
  · have HV := Lib.hid (show c.varOk m kn = false by simp only [CS.varOk, s1, Bool.not_true, Bool.false_and])
    go_enter Try.func53, Try.ntmps53
    go_wp2_with (first | (go_at_call 14; (with_reducible refine HK.out.mono ?_); rintro e w1 ⟨rfl, hb1⟩; have x1 := X1.out.kept hb1; have t1 := x1.cell 1; have l1 := x1.lt; (simp at t1); clear x1) | (go_at_call 28; (with_reducible refine (monthOk_any m _).mono ?_); rintro e w' ⟨rfl, rfl⟩) | (go_at_call 28; (with_reducible refine (monthOk_any kn _).mono ?_); rintro e w' ⟨rfl, rfl⟩))
    go_ret2
    exact ⟨B0.out.trans (hb1.mono (by simp; omega)), .inr ⟨HV.out, rfl⟩⟩
  · have HP := Lib.hid (fun w hr => finalPay_any c.FA c.fn c.fc c.F m kn w G2.out (by omega) HG.out.hF hr)
    have HRT := Lib.hid (fun w hr => ratio_any c.PA c.pn c.pc c.P c.j m kn w HC.out.un.p1 hr)
    have HQR := Lib.hid (show ratioR c.P c.pn c.j m kn = c.ratio m kn from rfl)
    rw [HQR.out] at HRT
    go_enter Try.func53, Try.ntmps53
    go_wp2_with (first | (go_at_call 14; (with_reducible refine HK.out.mono ?_); rintro e w1 ⟨rfl, hb1⟩; have x0 := X0.out.kept hb1; have x1 := X1.out.kept hb1; have t1 := x1.cell 1; have l1 := x1.lt; have l0 := x0.lt; have t2 := x0.cell 1; (simp at t1 t2)) | (go_at_call 28; (with_reducible refine (monthOk_any m _).mono ?_); rintro e w' ⟨rfl, rfl⟩) | (go_at_call 28; (with_reducible refine (monthOk_any kn _).mono ?_); rintro e w' ⟨rfl, rfl⟩))
    have B1 := Lib.hid (B0.out.trans (hb1.mono (by simp; omega)))
    have HC1 := Lib.hid (HC.out.kept hb1)
    have Y0 := Lib.hid x0
    have Y1 := Lib.hid x1
    clear hb1 x0 x1 t1 t2 X0 X1 B0 HC HK
    with_reducible refine (HP.out _ HC1.out.un.f).mono ?_
    rintro e w2 ⟨rfl, hb2⟩
    have x0 := Y0.out.kept hb2
    have x1 := Y1.out.kept hb2
    have HC2 := Lib.hid (HC1.out.kept hb2)
    have B2 := Lib.hid (B1.out.trans (hb2.mono (by omega)))
    have t1 := x1.cell 1
    have t2 := x0.cell 2
    simp at t1 t2
    have l2 := x1.lt
    have l2' := x0.lt
    have Z0 := Lib.hid x0
    have Z1 := Lib.hid x1
    clear hb2 x0 x1 Y0 Y1 HC1 B1 HP
    go_wp2_with fail
    with_reducible refine (HRT.out _ HC2.out.un.p).mono ?_
    rintro e w3 ⟨rfl, hb3⟩
    have Y0 := Lib.hid ((Z0.out.kept hb3).alloc (.cells #[.int .i64 (c.ratio m kn).n, .int .i64 (c.ratio m kn).d] 144))
    have Y1 := Lib.hid ((Z1.out.kept hb3).alloc (.cells #[.int .i64 (c.ratio m kn).n, .int .i64 (c.ratio m kn).d] 144))
    have HC3 := Lib.hid ((HC2.out.kept hb3).kept ((Below.refl w3.heap.size w3).alloc (Nat.le_refl _) (.cells #[.int .i64 (c.ratio m kn).n, .int .i64 (c.ratio m kn).d] 144)))
    have z3 := hb3.size
    have B3 := Lib.hid ((B2.out.trans (hb3.mono (by omega))).alloc (by omega) (.cells #[.int .i64 (c.ratio m kn).n, .int .i64 (c.ratio m kn).d] 144))
    clear hb3 Z0 Z1 HC2 B2 HRT t1 t2
    have YF := Lib.hid (Box.made w3 144 #[.int .i64 (c.ratio m kn).n, .int .i64 (c.ratio m kn).d])
    go_upto_if 57 with fail
    generalize w3.alloc (.cells #[.int .i64 (c.ratio m kn).n, .int .i64 (c.ratio m kn).d] 144) = W3 at *
    have gl : w.heap.size + 1 < w3.heap.size := by omega
    generalize w3.heap.size = g at *
    go_cut [11] (fun s11 wx => s11 = .pointer (some ⟨g, 0, none⟩) ∧ Below w.heap.size w wx ∧ Box wx w.heap.size 58 #[.slice c.RA c.rn c.rc, .slice c.FA c.fn c.fc, .slice c.PA c.pn c.pc, .int .i64 c.b, .int .i64 c.j, .slice c.SA c.sn c.sc, .slice c.EA c.en c.ec] ∧ Box wx (w.heap.size + 1) 31 #[.int .i64 c.b, .int .i64 c.j, .slice c.SA c.sn c.sc, .slice c.EA c.en c.ec] ∧ Box wx g 144 #[.int .i64 (c.ratN m kn), .int .i64 (c.ratD m kn)] ∧ c.At wx)
    case first =>
      have HN := Lib.hid (show c.ratN m kn = if (c.ratio m kn).ok = true then (c.ratio m kn).n else 1 from rfl)
      have HD := Lib.hid (show c.ratD m kn = if (c.ratio m kn).ok = true then (c.ratio m kn).d else 1 from rfl)
      generalize c.ratio m kn = r at *
      obtain ⟨rn, rd, ok⟩ := r
      obtain ⟨t3, t4, t5, t6⟩ := YF.out.two
      have l3 := YF.out.lt
      cases ok
      · have HNn := Lib.hid (show c.ratN m kn = 1 from HN.out)
        have HDd := Lib.hid (show c.ratD m kn = 1 from HD.out)
        have Y2 := Lib.hid (YF.out.put2 (.int .i64 1) (.int .i64 1))
        have B2 := Lib.hid ((B3.out.setCell (p := ⟨g, 0, none⟩) (by show w.heap.size ≤ g; omega) (.int .i64 1)).setCell (p := ⟨g, 1, none⟩) (by show w.heap.size ≤ g; omega) (.int .i64 1))
        have Q0 := Lib.hid ((Y0.out.far (p := ⟨g, 0, none⟩) (by show w.heap.size ≠ g; omega) (.int .i64 1)).far (p := ⟨g, 1, none⟩) (by show w.heap.size ≠ g; omega) (.int .i64 1))
        have Q1 := Lib.hid ((Y1.out.far (p := ⟨g, 0, none⟩) (by show w.heap.size + 1 ≠ g; omega) (.int .i64 1)).far (p := ⟨g, 1, none⟩) (by show w.heap.size + 1 ≠ g; omega) (.int .i64 1))
        have C2 := Lib.hid (h0.out _ B2.out)
        clear HN HD YF B3 Y0 Y1 HC3
        go_wp2_with fail
        go_meet
        exact ⟨rfl, B2.out, Q0.out, Q1.out, by rw [HNn.out, HDd.out]; exact Y2.out, C2.out⟩
      · have HNn := Lib.hid (show c.ratN m kn = rn from HN.out)
        have HDd := Lib.hid (show c.ratD m kn = rd from HD.out)
        clear HN HD
        go_wp2_with fail
        go_meet
        exact ⟨rfl, B3.out, Y0.out, Y1.out, by rw [HNn.out, HDd.out]; exact YF.out, HC3.out⟩
    case rest =>
      obtain ⟨wz, rfl⟩ : ∃ w0 : World, w0 = wc := ⟨_, rfl⟩
      obtain ⟨rfl, bz, x0, x1, xf, hcz⟩ := hcut
      clear YF B3 Y0 Y1 HC3
      have HM := Lib.hid (monthH_any c.EA c.en c.ec c.E 3 wz hcz.un.e1 HG.out.hE hcz.un.e)
      have t1 := x1.cell 3
      simp at t1
      have l1 := x1.lt
      have lz := xf.lt
      have X0 := Lib.hid x0
      have X1 := Lib.hid x1
      have XF := Lib.hid xf
      have BZ := Lib.hid bz
      have HCZ := Lib.hid hcz
      clear x0 x1 xf bz hcz
      go_upto_region 9 with (first | (go_at_call 86; (with_reducible refine HM.out.mono ?_); rintro e w4 ⟨rfl, hb4⟩))
      have B4 := Lib.hid (BZ.out.trans (hb4.mono (by omega)))
      have X4 := Lib.hid (X1.out.kept hb4)
      have X40 := Lib.hid (X0.out.kept hb4)
      have XF4 := Lib.hid (XF.out.kept hb4)
      have HC4 := Lib.hid (HCZ.out.kept hb4)
      clear hb4 HM X0 X1 XF BZ HCZ t1
      have HRE := Lib.hid (show c.ret m = if monthI c.E c.en 3 < 0 ∨ (m : Int) < monthI c.E c.en 3 then (m : Int) else monthI c.E c.en 3 from rfl)
      generalize monthI c.E c.en 3 = me at *
      go_cut [68] (fun s68 wx => s68 = .bool (decide (me < 0) || decide ((m : Int) < me)) ∧ wx = w4)
      case first =>
        rcases Bool.eq_false_or_eq_true (decide (me < 0)) with q1 | q1
        · go_wp2_with fail
          go_meet
          exact ⟨by rw [q1]; rfl, rfl⟩
        · rcases Bool.eq_false_or_eq_true (decide ((m : Int) < me)) with q2 | q2
          · go_wp2_with fail
            go_meet
            exact ⟨by rw [q1, q2]; rfl, rfl⟩
          · go_wp2_with fail
            go_meet
            exact ⟨by rw [q1, q2]; rfl, rfl⟩
      case rest =>
        obtain ⟨rfl, rfl⟩ := hcut
        go_upto_if 68 with fail
        go_cut [13] (fun s13 wx => s13 = .int .i64 (c.ret m) ∧ wx = wc)
        case first =>
          generalize hq : (decide (me < 0) || decide ((m : Int) < me)) = qb at *
          have q1 := Lib.hid hq
          clear hq
          cases qb
          · have HR1 := Lib.hid (show me = c.ret m by rw [HRE.out, if_neg (by simpa using q1.out)])
            go_wp2_with fail
            go_meet
            exact ⟨congrArg (Value.int .i64) HR1.out, rfl⟩
          · have HR1 := Lib.hid (show (m : Int) = c.ret m by rw [HRE.out, if_pos (by simpa using q1.out)])
            go_wp2_with fail
            go_meet
            exact ⟨congrArg (Value.int .i64) HR1.out, rfl⟩
        case rest =>
          obtain ⟨rfl, rfl⟩ := hcut
          have HS := Lib.hid (fun w hr => serviceIn_any c.SA c.sn c.sc c.S c.L m w G4.out ⟨by omega, by omega⟩ hr)
          have HSB := Lib.hid (ser_bd (L := c.L) (t := (m : Int)) G4.out ⟨by omega, by omega⟩ c.sn (Nat.le_refl _))
          have HL := Lib.hid (spells_len G4.out)
          have HSR := Lib.hid (show redR (serI c.S c.L m c.sn) 100 = c.ser m from rfl)
          have HRJ := Lib.hid (redJ_any (serI c.S c.L m c.sn) 100 (by omega) (by have := HSB.out.1; omega) (by have := HSB.out.2; have := HL.out; omega) (by omega) (by omega))
          rw [HSR.out] at HRJ
          generalize serI c.S c.L m c.sn = sv at *
          have t1 := X4.out.cell 2
          simp at t1
          have l1 := X4.out.lt
          clear HRE HSB HL
          go_upto_region 12 with (first | (go_at_call 88; (with_reducible refine (HS.out _ HC4.out.un.s).mono ?_); rintro e w5 ⟨rfl, hb5⟩) | (go_at_call 87; (with_reducible refine (HRJ.out _).mono ?_); rintro e w6 ⟨rfl, hb6⟩))
          have B5 := B4.out.trans (hb5.mono (by omega))
          have z5 := hb5.size
          have B6 := Lib.hid (B5.trans (hb6.mono (by omega)))
          have z6 := hb6.size
          have Y1 := (((X4.out.kept hb5).kept hb6).alloc (.cells #[.int .i64 (c.ser m).n, .int .i64 (c.ser m).d] 144))
          have YF := (((XF4.out.kept hb5).kept hb6).alloc (.cells #[.int .i64 (c.ser m).n, .int .i64 (c.ser m).d] 144))
          have YS := Box.made w6 144 #[.int .i64 (c.ser m).n, .int .i64 (c.ser m).d]
          have B7 := Lib.hid (B6.out.alloc (by omega) (.cells #[.int .i64 (c.ser m).n, .int .i64 (c.ser m).d] 144))
          have HR4 := Lib.hid (c.ret_bd m)
          clear hb5 hb6 B5 B6 HS HRJ HSR X4 XF4 X40 HC4 t1 B4
          generalize w6.alloc (.cells #[.int .i64 (c.ser m).n, .int .i64 (c.ser m).d] 144) = W at *
          generalize w6.heap.size = g6 at *
          have q1 := Y1.lt
          have q2 := YF.lt
          have q3 := YS.lt
          have hsub : IntKind.i64.wrap ((m : Int) - c.ret m) = (m : Int) - c.ret m := by
            obtain ⟨h1, h2⟩ := HR4.out
            rw [IntKind.wrap_i64]; omega
          obtain ⟨t1, t2, _, _⟩ := YS.two
          obtain ⟨t3, t4, _, _⟩ := YF.two
          have t5 := Y1.cell 0
          simp at t5
          have hwz : w.heap.size ≤ W.heap.size := by omega
          have HRV := Lib.hid (fun (w : World) (g : Nat) (t : TypeId) h => rowVar c m kn (w := w) (g := g) (t := t) h)
          have HAG := Lib.hid (ageAt_any c.b m b0 (by have := of_decide_eq_false s1; omega) (by omega))
          clear YS YF Y1
          go_cut [16] (fun s16 wx => ∃ ga : Nat, s16 = .slice (some ⟨ga, 0, none⟩) 8 8 ∧ Recs wx 2 (some ⟨ga, 0, none⟩) 8 (c.var m kn) ∧ Below w.heap.size w wx)
          case first =>
            generalize hv1 : (c.ser m).n = v1 at *
            generalize hv2 : (c.ser m).d = v2 at *
            generalize hv3 : payI c.F c.fn kn m = v3 at *
            generalize hv4 : ((m : Int) - c.b) / 12 = v4 at *
            generalize hv5 : c.ratN m kn = v5 at *
            generalize hv6 : c.ratD m kn = v6 at *
            go_region_held3 (fun w' => w'.cell? ⟨g6, 0, none⟩ = some (.int .i64 v1) ∧ w'.cell? ⟨g6, 1, none⟩ = some (.int .i64 v2) ∧ w'.cell? ⟨g, 0, none⟩ = some (.int .i64 v5) ∧ w'.cell? ⟨g, 1, none⟩ = some (.int .i64 v6) ∧ w'.cell? ⟨w.heap.size + 1, 0, none⟩ = some (.int .i64 c.b)) (simp [go_sem, *])
              (first | (go_at_call 89; (with_reducible refine (wholeI_any _ _).mono ?_); rintro e w4 ⟨rfl, hb4⟩; obtain ⟨hc4, hf4⟩ := bcell hb4; (try simp only [World.size_drew] at hc4 hf4); have s4 := hb4.size; (try simp only [World.size_drew] at s4); have u1 : w.heap.size + 1 < w4.heap.size := (by omega); have u2 : g < w4.heap.size := (by omega); have u3 : g6 < w4.heap.size := (by omega)) | (go_at_call 90; (with_reducible refine (HAG.out _).mono ?_); rintro e w4 ⟨rfl, rfl⟩))
            all_goals (go_wp2_with fail; go_meet; exact ⟨w4.heap.size, rfl, HRV.out _ _ _ (Box.made _ _ _), by have hbw := B7.out; (repeat (first | with_reducible exact Below.refl _ _ | with_reducible refine Below.drew ?_ | (with_reducible refine Below.alloc ?_ ?hsz _; case hsz => ((try simp) <;> (try omega))) | (with_reducible refine Below.setCell ?_ ?hsz _; case hsz => ((try simp) <;> (try omega))) | (with_reducible refine below_step (by with_reducible assumption) ?hsz ?_; case hsz => ((try simp) <;> (try omega)))))⟩)
          case rest =>
            obtain ⟨wv, rfl⟩ : ∃ w0 : World, w0 = wc := ⟨_, rfl⟩
            obtain ⟨ga, rfl, rv, bv⟩ := hcut
            have HVO := Lib.hid (show c.varOk m kn = ((c.ser m).ok && fracsB (c.var m kn) 8) by simp only [CS.varOk, s1, Bool.not_false, Bool.true_and])
            have HCF := Lib.hid (containsFrV_any (some ⟨ga, 0, none⟩) 8 8 (c.var m kn) wv (by omega) rv)
            have RV := Lib.hid rv
            have BV := Lib.hid bv
            clear rv bv B7 HRV HAG
            generalize (c.ser m).ok = ok at *
            cases ok
            · go_wp2_with fail
              go_ret2
              exact ⟨BV.out, .inr ⟨HVO.out, rfl⟩⟩
            · have HVP := Lib.hid (show c.varOk m kn = fracsB (c.var m kn) 8 from HVO.out)
              clear HVO
              generalize fracsB (c.var m kn) 8 = fb at *
              cases fb
              · go_wp2_with (first | (go_at_call 91; (with_reducible refine HCF.out.mono ?_); rintro e w8 ⟨rfl, hb8⟩))
                go_ret2
                exact ⟨BV.out.trans (hb8.mono BV.out.size), .inr ⟨HVP.out, rfl⟩⟩
              · go_wp2_with (first | (go_at_call 91; (with_reducible refine HCF.out.mono ?_); rintro e w8 ⟨rfl, hb8⟩))
                go_ret2
                exact ⟨BV.out.trans (hb8.mono BV.out.size), .inl ⟨HVP.out, _, _, rfl, RV.out.kept hb8⟩⟩
end Go.Proofs.Ytgfcmeiffhffaaa
namespace Go.Proofs.Ytgfcmeiffhffaaa
open Go.RowKit

def CS.best (c : CS) (m : Nat) : Int := bestI c.R 1 m c.j c.rn
def clampI (n : Int) : Int := max 0 (min n 10000000)
theorem clamp_nonneg (n : Int) : 0 ≤ clampI n := by unfold clampI; omega
def CS.entF (c : CS) (m : Nat) (kn : Int) : Bool := c.varOk m kn && figB c.R c.Nn c.NF (c.var m kn) 8 (c.best m)
/-- What the case entitles to in month m, as known in month kn. -/
def CS.ent (c : CS) (m : Nat) (kn : Int) : Int := if (statusI c.E c.en m == 3) = true then (if c.entF m kn = true then clampI (figN c.R c.Nn c.NF (c.var m kn) 8 (c.best m)) else 0) else 0
theorem CS.ent_nonneg (c : CS) (m : Nat) (kn : Int) : 0 ≤ c.ent m kn := by
  unfold CS.ent
  split
  · split
    · exact clamp_nonneg _
    · exact Int.le_refl _
  · exact Int.le_refl _
theorem Box.sev {w : World} {g : Nat} {t : TypeId} {a b c d e f h : Value} (x : Box w g t #[a, b, c, d, e, f, h]) : w.cell? ⟨g, 0, none⟩ = some a ∧ w.cell? ⟨g, 1, none⟩ = some b ∧ w.cell? ⟨g, 2, none⟩ = some c ∧ w.cell? ⟨g, 3, none⟩ = some d ∧ w.cell? ⟨g, 4, none⟩ = some e ∧ w.cell? ⟨g, 5, none⟩ = some f ∧ w.cell? ⟨g, 6, none⟩ = some h :=
  ⟨x.cell 0, x.cell 1, x.cell 2, x.cell 3, x.cell 4, x.cell 5, x.cell 6⟩
set_option maxRecDepth 100000 in
set_option maxHeartbeats 16000000 in
theorem entAt_any (c : CS) (hg : c.Good) (m : Nat) (kn : Int) (hm : m ≤ 3599) (k0 : 0 ≤ kn) (k1 : kn ≤ 3599) (w : World) (h : c.At w) : Calls Try.prog 20 #[.agg #[.slice c.RA c.rn c.rc, .slice c.FA c.fn c.fc, .slice c.PA c.pn c.pc, .int .i64 c.b, .int .i64 c.j, .slice c.SA c.sn c.sc, .slice c.EA c.en c.ec], .int .i64 m, .int .i64 kn] w fun e w' => e = .returned (.int .i64 (c.ent m kn)) ∧ Below w.heap.size w w' := by
  obtain ⟨g1, g2, g3, g4, g5, b0, bj, j1⟩ := hg.parts
  have B0 := Lib.hid ((Below.refl w.heap.size w).alloc (Nat.le_refl _) (.cells #[.slice c.RA c.rn c.rc, .slice c.FA c.fn c.fc, .slice c.PA c.pn c.pc, .int .i64 c.b, .int .i64 c.j, .slice c.SA c.sn c.sc, .slice c.EA c.en c.ec] 58))
  have X0 := Lib.hid (Box.made w 58 #[.slice c.RA c.rn c.rc, .slice c.FA c.fn c.fc, .slice c.PA c.pn c.pc, .int .i64 c.b, .int .i64 c.j, .slice c.SA c.sn c.sc, .slice c.EA c.en c.ec])
  have HC := Lib.hid (h.kept B0.out)
  have HK := Lib.hid (cs_caseOk c hg _ HC.out)
  have HV := Lib.hid (fun w h => varsFor_any c hg m kn hm k0 k1 w h)
  have HS := Lib.hid (fun w hr => statusAt_any c.EA c.en c.ec c.E m w HC.out.un.e1 hr)
  have G1 := Lib.hid g1
  clear hg g1 g2 g3 g4 g5 h
  have HD := Lib.hid (show c.ent m kn = if (statusI c.E c.en m == 3) = true then (if c.entF m kn = true then clampI (figN c.R c.Nn c.NF (c.var m kn) 8 (c.best m)) else 0) else 0 from rfl)
  have HEF := Lib.hid (show c.entF m kn = (c.varOk m kn && figB c.R c.Nn c.NF (c.var m kn) 8 (c.best m)) from rfl)
  generalize c.ent m kn = ev at *
  generalize hst : statusI c.E c.en m = st at *
  clear hst
  rcases Bool.eq_false_or_eq_true (st == 3) with s1 | s1
  · have s2 : (st != 3) = false := by simp at s1 ⊢; exact s1
    have HD2 := Lib.hid (show ev = if c.entF m kn = true then clampI (figN c.R c.Nn c.NF (c.var m kn) 8 (c.best m)) else 0 by rw [HD.out, if_pos s1])
    clear HD s1
    go_enter Try.func20, Try.ntmps20
    go_wp2_with (first | (go_at_call 14; (with_reducible refine HK.out.mono ?_); rintro e w1 ⟨rfl, hb1⟩; have x1 := X0.out.kept hb1; have t6 := x1.cell 6; have l1 := x1.lt; (simp at t6); have HC1 := Lib.hid (HC.out.kept hb1)) | (go_at_call 52; (with_reducible refine (HS.out _ HC1.out.un.e).mono ?_); rintro e w2 ⟨rfl, hb2⟩; have x2 := x1.kept hb2; have l2 := x2.lt; have B2 := Lib.hid (B0.out.trans ((hb1.trans (hb2.mono hb1.size)).mono (by simp))); obtain ⟨r0, r1, r2, r3, r4, r5, r6⟩ := x2.sev))
    have HC2 := Lib.hid (HC1.out.kept hb2)
    have HRC := Lib.hid HC.out.un.rcap
    clear hb1 hb2 x1 t6 r0 r1 r2 r3 r4 r5 r6 HK HC1 HC B0 X0 HS s2
    have X2 := Lib.hid x2
    clear x2
    with_reducible refine (HV.out _ HC2.out).mono ?_
    rintro e w3 ⟨hb3, hcases⟩
    have x3 := X2.out.kept hb3
    obtain ⟨r0, r1, r2, r3, r4, r5, r6⟩ := x3.sev
    have l3 := x3.lt
    have B3 := Lib.hid (B2.out.trans (hb3.mono (by omega)))
    have HC3 := Lib.hid (HC2.out.kept hb3)
    clear hb3 x3 X2 B2 HC2 HV
    rcases hcases with ⟨hv, VA, vk, rfl, rv⟩ | ⟨hv, rfl⟩
    · have HF := Lib.hid (figure_any c.RA c.rn c.rc c.R c.NA c.Nn c.Nc c.NF 1 m c.j VA 8 vk (c.var m kn) w3 HRC.out HC3.out.un.r G1.out (by omega) rv)
      have HE2 := Lib.hid (show c.entF m kn = figB c.R c.Nn c.NF (c.var m kn) 8 (c.best m) by rw [HEF.out, hv]; rfl)
      have HBE := Lib.hid (show bestI c.R 1 m c.j c.rn = c.best m from rfl)
      rw [HBE.out] at HF
      have HBD := Lib.hid (show clampI (figN c.R c.Nn c.NF (c.var m kn) 8 (c.best m)) = max 0 (min (figN c.R c.Nn c.NF (c.var m kn) 8 (c.best m)) 10000000) from rfl)
      rw [HE2.out] at HD2
      generalize figB c.R c.Nn c.NF (c.var m kn) 8 (c.best m) = fb at *
      generalize figN c.R c.Nn c.NF (c.var m kn) 8 (c.best m) = fnn at *
      generalize figA c.R c.Nn c.NF (c.var m kn) 8 (c.best m) = fa at *
      clear hv rv HEF
      cases fb
      · have HZ := Lib.hid (show ev = 0 from HD2.out)
        go_wp2_with (first | (go_at_call 54; (with_reducible refine HF.out.mono ?_); rintro e w4 ⟨rfl, hb4⟩))
        go_ret
        exact ⟨by rw [HZ.out]; rfl, B3.out.trans (hb4.mono B3.out.size)⟩
      · have HZ := Lib.hid (show ev = max 0 (min fnn 10000000) from HD2.out.trans HBD.out)
        clear HD2 HBD
        go_wp2_with (first | (go_at_call 54; (with_reducible refine HF.out.mono ?_); rintro e w4 ⟨rfl, hb4⟩))
        all_goals (go_ret; exact ⟨ret_int (by rw [HZ.out]; (repeat' split at *) <;> omega), B3.out.trans (hb4.mono B3.out.size)⟩)
    · have HF := Lib.hid (figure_any c.RA c.rn c.rc c.R c.NA c.Nn c.Nc c.NF 1 m c.j none 0 0 (c.var m kn) w3 HRC.out HC3.out.un.r G1.out (by omega) (.inl rfl))
      have HZ := Lib.hid (show ev = 0 by rw [HD2.out, HEF.out, hv]; rfl)
      generalize figB c.R c.Nn c.NF (c.var m kn) 0 (bestI c.R 1 m c.j c.rn) = fb at *
      generalize figN c.R c.Nn c.NF (c.var m kn) 0 (bestI c.R 1 m c.j c.rn) = fnn at *
      generalize figA c.R c.Nn c.NF (c.var m kn) 0 (bestI c.R 1 m c.j c.rn) = fa at *
      go_wp2_with (first | (go_at_call 54; (with_reducible refine HF.out.mono ?_); rintro e w4 ⟨rfl, hb4⟩))
      go_ret
      exact ⟨by rw [HZ.out]; rfl, B3.out.trans (hb4.mono B3.out.size)⟩
  · have s2 : (st != 3) = true := by simp at s1 ⊢; exact s1
    have HD2 := Lib.hid (show ev = 0 by rw [HD.out, s1]; rfl)
    clear HD s1
    go_enter Try.func20, Try.ntmps20
    go_wp2_with (first | (go_at_call 14; (with_reducible refine HK.out.mono ?_); rintro e w1 ⟨rfl, hb1⟩; have x1 := X0.out.kept hb1; have t6 := x1.cell 6; have l1 := x1.lt; (simp at t6); have HC1 := Lib.hid (HC.out.kept hb1)) | (go_at_call 52; (with_reducible refine (HS.out _ HC1.out.un.e).mono ?_); rintro e w2 ⟨rfl, hb2⟩; have x2 := x1.kept hb2; have l2 := x2.lt; have B2 := Lib.hid (B0.out.trans ((hb1.trans (hb2.mono hb1.size)).mono (by simp)))))
    go_ret
    exact ⟨by rw [HD2.out]; rfl, B2.out⟩
end Go.Proofs.Ytgfcmeiffhffaaa
namespace Go.Proofs.Ytgfcmeiffhffaaa
open Go.RowKit

set_option maxRecDepth 100000 in
set_option maxHeartbeats 16000000 in
theorem ents_any (c : CS) (hg : c.Good) (f d : Nat) (kn : Int) (hd : d ≤ 240) (hf : f + d ≤ 3600) (k0 : 0 ≤ kn) (k1 : kn ≤ 3599) (w : World) (h : c.At w) : Calls Try.prog 19 #[.agg #[.slice c.RA c.rn c.rc, .slice c.FA c.fn c.fc, .slice c.PA c.pn c.pc, .int .i64 c.b, .int .i64 c.j, .slice c.SA c.sn c.sc, .slice c.EA c.en c.ec], .int .i64 f, .int .i64 ((f : Int) + d), .int .i64 kn] w (IntsQ d (fun i => c.ent (f + i) kn) w) := by
  obtain ⟨i0, hi0, iz0, iz1, iz2⟩ := info_parts int_inf
  have B0 := Lib.hid ((Below.refl w.heap.size w).alloc (Nat.le_refl _) (.cells #[.slice c.RA c.rn c.rc, .slice c.FA c.fn c.fc, .slice c.PA c.pn c.pc, .int .i64 c.b, .int .i64 c.j, .slice c.SA c.sn c.sc, .slice c.EA c.en c.ec] 58))
  have X0 := Lib.hid (Box.made w 58 #[.slice c.RA c.rn c.rc, .slice c.FA c.fn c.fc, .slice c.PA c.pn c.pc, .int .i64 c.b, .int .i64 c.j, .slice c.SA c.sn c.sc, .slice c.EA c.en c.ec])
  have HC := Lib.hid (h.kept B0.out)
  have HK := Lib.hid (cs_caseOk c hg _ HC.out)
  have HE := Lib.hid (fun m hm w h => entAt_any c hg m kn hm k0 k1 w h)
  have HC0 := Lib.hid (fun w' (hb : Below w.heap.size w w') => h.kept hb)
  have e1 : inB (f : Int) 0 3600 = true := inB_true.2 ⟨by omega, by omega⟩
  have e2 : inB ((f : Int) + d) 0 3600 = true := inB_true.2 ⟨by omega, by omega⟩
  have e3 : decide ((f : Int) + 240 < (f : Int) + d) = false := by simp; omega
  clear hg h
  go_enter Try.func19, Try.ntmps19
  go_wp2_with (first | (go_at_call 14; (with_reducible refine HK.out.mono ?_); rintro e w1 ⟨rfl, hb1⟩) | (go_at_call 51; (with_reducible refine (isEnd_any f _).mono ?_); rintro e w' ⟨rfl, rfl⟩) | (go_at_call 51; (with_reducible refine (isEnd_any ((f : Int) + d) _).mono ?_); rintro e w' ⟨rfl, rfl⟩))
  have b1 := B0.out.trans (hb1.mono (by simp))
  have z1 := b1.size
  have z2 : w.heap.size + 1 ≤ w1.heap.size := by have := hb1.size; simp at this; omega
  have O1 := Lib.hid (own_empty w1 (w.heap.size + 1) 3 z2)
  have B1 := Lib.hid (b1.alloc z1 (.cells #[] 3))
  have X1 := Lib.hid ((X0.out.kept hb1).alloc (.cells #[] 3))
  clear hb1 b1 z1 z2 X0 B0 HC HK e1 e2 e3
  go_loopw [9, 10] (fun x i wr => ∃ m : Nat, m ≤ d ∧ i = .int .i64 ((f : Int) + m) ∧ wr.ownsRow (w.heap.size + 1) 3 1 x m (ints (fun i => c.ent (f + i) kn) m) ∧ Below w.heap.size w wr ∧ Box wr w.heap.size 58 #[.slice c.RA c.rn c.rc, .slice c.FA c.fn c.fc, .slice c.PA c.pn c.pc, .int .i64 c.b, .int .i64 c.j, .slice c.SA c.sn c.sc, .slice c.EA c.en c.ec]) (fun _ i _ => ((f : Int) + d - intOf i).toNat)
  case atStart => exact ⟨0, Nat.zero_le _, by simp, O1.out, B1.out, X1.out⟩
  case round =>
    obtain ⟨m, hm, rfl, ho, hbw, x1⟩ := hrel
    have HO := Lib.hid ho
    have HB := Lib.hid hbw
    have X2 := Lib.hid x1
    have zb := hbw.size
    by_cases hlt : m < d
    · have HQ := Lib.hid (HE.out (f + m) (by omega) wr (HC0.out wr hbw))
      have HM := Lib.hid (show ints (fun i => c.ent (f + i) kn) (m + 1) = ints (fun i => c.ent (f + i) kn) m ++ [.int .i64 (c.ent (f + m) kn)] from ints_succ _ _)
      have hcast : (((f + m : Nat)) : Int) = (f : Int) + m := by omega
      rw [hcast] at HQ
      have hc1 : decide ((f : Int) + m < (f : Int) + d) = true := by simp; omega
      have HW := Lib.hid (show IntKind.i64.wrap ((f : Int) + m + 1) = (f : Int) + m + 1 by rw [IntKind.wrap_i64]; omega)
      obtain ⟨r0, r1, r2, r3, r4, r5, r6⟩ := x1.sev
      have l1 := x1.lt
      clear ho hbw x1
      generalize c.ent (f + m) kn = ev at *
      generalize hmm : (f : Int) + m = mm at *
      have HMM := Lib.hid hmm
      have hwr := HW.out
      clear hmm hcast HW
      go_wp2_with (first | (go_at_call 20; (with_reducible refine HQ.out.mono ?_); rintro e w2 ⟨rfl, hb2⟩) | (at_builtin; refine wpList_append_own_at _ rfl _ _ 65 rfl (w.heap.size + 1) 3 i0 (.int .i64 0) 1 8 Try.underlying65 hi0 iz0 iz1 iz2 rfl (by decide) _ _ _ rfl (World.ownsRow.alloc (own_below HO.out hb2) _) ⟨w2.heap.size, 0, none⟩ 1 1 [.int .i64 ev] rfl rfl ?c1 ?c2 ?c3 ?c4 ?c5 ?_))
      case c1 => exact cell_one_new w2 _ _
      case c2 => intro u hu; simp at hu; subst hu; rfl
      case c3 => unfold maxLen; omega
      case c4 => omega
      case c5 => first | (simp; have := hb2.size; omega) | (have := hb2.size; omega)
      intro v3 w3 ho3 hg3 _ _
      have o2 := World.ownsRow.alloc (own_below HO.out hb2) (.cells #[.int .i64 ev] 3)
      have z2 := hb2.size
      have B3 := Lib.hid ((((HB.out.trans (hb2.mono zb)).alloc (by omega) (.cells #[.int .i64 ev] 3)).grown hg3 (by simp; omega) (fun b hb => Nat.le_trans (Nat.le_succ _) (own_lo o2 b hb))))
      have X3 := Lib.hid (((X2.out.kept hb2).alloc (.cells #[.int .i64 ev] 3)).grown hg3 (box_apart_lt (Nat.lt_succ_self _) (own_lo o2)))
      rw [← HM.out] at ho3
      have O3 := Lib.hid ho3
      clear ho3 hg3 o2 hb2 HO HB X2 HQ r0 r1 r2 r3 r4 r5 r6
      go_wp2
      go_roundw
      case rel => exact ⟨m + 1, by omega, by first | (rw [← HMM.out]; go_num) | (rw [← HMM.out]; simp; omega), O3.out, B3.out, X3.out⟩
      case measure => have := HMM.out; simp [intOf]; omega
    · obtain rfl : m = d := by omega
      have hc1 : decide ((f : Int) + m < (f : Int) + m) = false := by simp
      go_wp2
      go_ret
      exact ⟨_, rfl, own_mono HO.out (Nat.le_succ _), HB.out⟩
end Go.Proofs.Ytgfcmeiffhffaaa
