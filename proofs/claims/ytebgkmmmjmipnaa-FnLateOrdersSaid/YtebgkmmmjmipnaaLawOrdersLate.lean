/- Proved: for every byte string, the order that is drawn from it changes nothing before it is known or takes effect, and is applied from then on; and it is listed as late. No condition. -/
import Derived.Test.YtebgkmmmjmipnaaOpen
import Derived.Test.YtebgkmmmjmipnaaCur
import Derived.Test.YtebgkmmmjmipnaaSplit
import Derived.Test.YtebgkmmmjmipnaaLate
import Derived.Test.YtebgkmmmjmipnaaSame
import Derived.Test.YtebgkmmmjmipnaaRecApp
import Derived.Outline
import Derived.IntWalk
import Derived.Deep.RegionHeld3
import Derived.Deep.DeepCutAuto
namespace Go.Proofs.Ytebgkmmmjmipnaa
open Go.ChangeShapes Go.WideShapes Go.ChangeAt Go.RowKit

def lone (e p : Int) : Nat → Nat → Int := fun _ => trip e 40 p
theorem lone_ok {e p : Int} (e0 : 0 ≤ e) (e1 : e ≤ 3599) (p0 : 0 ≤ p) (p1 : p ≤ 100) : ordersB (lone e p) 1 = true := by
  simp [ordersB, allB, orderB, lone, trip, inB_true, e0, e1, p0, p1]
theorem lone_unknown (e p a : Int) : splitR (lone e p) 1 a 50 39 = a := by
  have h : seqL (lone e p) 50 39 1 = [] := by simp [seqL, lone, trip]
  unfold splitR
  rw [h]
  split <;> rfl
theorem lone_early {e : Int} (p a : Int) (h0 : 10 ≤ e) : splitR (lone e p) 1 a 9 40 = a := by
  have h : seqL (lone e p) 9 40 1 = [] := by simp [seqL, lone, trip]; omega
  unfold splitR
  rw [h]
  split <;> rfl
theorem lone_late {e p a : Int} (h0 : 10 ≤ e) (h1 : e ≤ 29) (p0 : 0 ≤ p) (p1 : p ≤ 100) (a0 : 0 ≤ a) (a1 : a ≤ 9999) : splitR (lone e p) 1 a 50 40 = a - a * p / 100 := by
  have h : seqL (lone e p) 50 40 1 = [0] := by simp [seqL, lone, trip]; omega
  have hb : splitB (lone e p) 1 a = true := by
    simp only [splitB, lone_ok (show 0 ≤ e by omega) (by omega) p0 p1, Bool.true_and]
    exact inB_true.2 ⟨a0, by omega⟩
  unfold splitR
  rw [if_pos hb, h]
  simp [leftS, lone, trip]
theorem lone_list {e p : Int} (h0 : 10 ≤ e) (h1 : e ≤ 29) (p0 : 0 ≤ p) (p1 : p ≤ 100) : lateR (lone e p) 1 = [0] := by
  unfold lateR
  rw [if_pos (lone_ok (by omega) (by omega) p0 p1)]
  simp [lateL, lone, trip]
  omega
set_option maxHeartbeats 4000000 in
theorem lawOrdersLate (code : Option Addr) (n cap : Nat) (F : Nat → Int) (w : World) (_hl : n ≤ cap) (_hm : cap ≤ maxLen) (hr : Row w .u8 code n F) : Calls Try.prog 9 #[.slice code n cap] w fun e w' => e = .returned (.bool true) ∧ Below w.heap.size w w' := by
  by_cases hn : n ≤ 1048576
  · have hbig : decide (1048576 < n) = false := by simp; omega
    have HR := Lib.hid hr
    clear hr
    go_enter Try.func9, Try.ntmps9
    go_wp2_with (first | (go_at_call 29; (with_reducible refine (big_any code n cap _).mono ?_); rintro e w' ⟨rfl, rfl⟩))
    with_reducible refine (places_any code n cap F _ hn HR.out).mono ?_
    rintro e w1 ⟨q, qc, P, rfl, hq, hq2, hb1, hP, hcell⟩
    have p0 := hcell 0 (by omega)
    have p1 := hcell 1 (by omega)
    have p2 := hcell 2 (by omega)
    obtain ⟨x00, x01⟩ := hP 0 (by omega)
    obtain ⟨x10, x11⟩ := hP 1 (by omega)
    obtain ⟨x20, x21⟩ := hP 2 (by omega)
    have B1 := Lib.hid hb1
    have z1 := hb1.size
    clear hP hcell hb1
    generalize P 0 = x0 at *
    generalize P 1 = x1 at *
    generalize P 2 = x2 at *
    clear P
    go_wp2_with fail
    go_cut [4] (fun s4 wx => ∃ g : Nat, s4 = .slice (some ⟨g, 0, none⟩) 1 1 ∧ q < wx.heap.size ∧ Below w.heap.size w wx ∧ wx.cell? ⟨q, 1, none⟩ = some (.int .i64 x1) ∧ wx.cell? ⟨q, 2, none⟩ = some (.int .i64 x2) ∧ Box wx g 49 #[.int .i64 (10 + x0 % 20), .int .i64 40, .int .i64 (x1 % 101)])
    case first =>
      have m0 : x0.tmod 20 = x0 % 20 := Int.tmod_eq_emod_of_nonneg x00
      have m1 : x1.tmod 101 = x1 % 101 := Int.tmod_eq_emod_of_nonneg x10
      have k0 : IntKind.i64.wrap (10 + x0 % 20) = 10 + x0 % 20 := IntWalk.i64_in _ (by omega)
      go_region_held3 (fun w' => w'.cell? ⟨q, 0, none⟩ = some (.int .i64 x0) ∧ w'.cell? ⟨q, 1, none⟩ = some (.int .i64 x1) ∧ w'.cell? ⟨q, 2, none⟩ = some (.int .i64 x2)) (simp [go_sem, *])
        (fail)
      all_goals (go_wp2_with fail; go_meet; refine ⟨_, rfl, ?_, ?_, ?_, ?_, ?_⟩)
      all_goals first | (with_reducible refine Below.mono ?_ (Nat.le_refl _); have hbw := B1.out; (repeat (first | with_reducible exact Below.refl _ _ | with_reducible refine Below.drew ?_ | (with_reducible refine Below.alloc ?_ ?hsz _; case hsz => ((try simp) <;> (try omega))) | (with_reducible refine Below.setCell ?_ ?hsz _; case hsz => ((try simp) <;> (try omega))) | (with_reducible refine below_step (by with_reducible assumption) ?hsz ?_; case hsz => ((try simp) <;> (try omega))))); done) | (with_reducible refine id (α := Box _ _ _ _) ?_; (repeat (first | with_reducible assumption | with_reducible exact Box.made _ _ _ | (with_reducible refine Box.made_at ?hg; case hg => (simp; done)) | with_reducible refine Box.drew ?_ | with_reducible refine Box.alloc ?_ _ | (with_reducible refine Box.put2 (a := .int .i64 0) (b := .int .i64 0) ?_ _ _) | (with_reducible refine Box.far ?_ ?hg _; case hg => ((try simp) <;> (try omega))) | with_reducible refine Box.kept ?_ (by with_reducible assumption))); done) | (simp [go_sem, *]; done) | omega | (simp; omega)
    case rest =>
      obtain ⟨w0, rfl⟩ : ∃ w0 : World, w0 = wc := ⟨_, rfl⟩
      obtain ⟨g, rfl, ql, hbw, c1, c2, hx⟩ := hcut
      have e0 : 10 ≤ 10 + x0 % 20 ∧ 10 + x0 % 20 ≤ 29 := by omega
      have y0 : 0 ≤ x1 % 101 ∧ x1 % 101 ≤ 100 := by omega
      have RX := Lib.hid (show Recs w0 3 (some ⟨g, 0, none⟩) 1 (lone (10 + x0 % 20) (x1 % 101)) from recs_trip hx)
      have B := Lib.hid hbw
      have z0 := hbw.size
      have m1 : x1.tmod 101 = x1 % 101 := Int.tmod_eq_emod_of_nonneg x10
      have V1 := Lib.hid (lone_unknown (10 + x0 % 20) (x1 % 101) x2)
      have V2 := Lib.hid (lone_late e0.1 e0.2 y0.1 y0.2 x20 x21)
      have V3 := Lib.hid (lone_early (x1 % 101) x2 e0.1)
      have V4 := Lib.hid (lone_list e0.1 e0.2 y0.1 y0.2)
      have C1 := Lib.hid c1
      have C2 := Lib.hid c2
      have hpr := split_bd x20 (by omega) y0.1 y0.2
      clear c1 c2 hbw hx e0
      generalize lone (10 + x0 % 20) (x1 % 101) = G at *
      generalize hp : x1 % 101 = p at *
      have c2 := C2.out
      go_wp2_with fail
      with_reducible refine (split_any _ 1 1 G x2 50 39 _ (by omega) RX.out).mono ?_
      rintro e w2 ⟨v2, rfl, o2, b2⟩
      rw [V1.out]
      have RX2 := Lib.hid (RX.out.kept b2)
      have c1' := Lib.hid ((b2.cell (p := ⟨q, 1, none⟩) ql).trans C1.out)
      have B2 := Lib.hid (B.out.trans (b2.mono z0))
      have z2 := b2.size
      clear o2 b2 RX C1 C2 c2 B
      go_wp2_with fail
      with_reducible refine (split_any _ 1 1 G x2 50 40 _ (by omega) RX2.out).mono ?_
      rintro e w3 ⟨v3, rfl, o3, b3⟩
      rw [V2.out]
      have RX3 := Lib.hid (RX2.out.kept b3)
      have c13 := Lib.hid ((b3.cell (p := ⟨q, 1, none⟩) (Nat.lt_of_lt_of_le ql z2)).trans c1'.out)
      have B3 := Lib.hid (B2.out.trans (b3.mono (Nat.le_trans z0 z2)))
      have z3 := b3.size
      clear o3 b3 RX2 c1' B2
      go_wp2_with fail
      with_reducible refine (split_any _ 1 1 G x2 9 40 _ (by omega) RX3.out).mono ?_
      rintro e w4 ⟨v4, rfl, o4, b4⟩
      rw [V3.out]
      have RX4 := Lib.hid (RX3.out.kept b4)
      have c14 := Lib.hid ((b4.cell (p := ⟨q, 1, none⟩) (show q < _ by omega)).trans c13.out)
      have B4 := Lib.hid (B3.out.trans (b4.mono (by omega)))
      have z4 := b4.size
      clear o4 b4 RX3 c13 B3
      go_wp2_with fail
      with_reducible refine (late_any _ 1 1 G _ (by omega) RX4.out).mono ?_
      rintro e w5 ⟨v5, rfl, o5, b5⟩
      rw [V4.out] at o5
      have c15 := (b5.cell (p := ⟨q, 1, none⟩) (show q < _ by omega)).trans c14.out
      have B5 := Lib.hid (B4.out.trans (b5.mono (by omega)))
      have z5 := b5.size
      obtain ⟨A5, cc, rfl, _, r5, _⟩ := own_row o5
      have R5 := Lib.hid r5
      clear o5 b5 r5 RX4 c14 B4
      have RL := Lib.hid (show Row (w5.alloc (.cells #[.int .i64 0] 3)) .i64 (some ⟨w5.heap.size, 0, none⟩) 1 (fun _ => 0) from .inr ⟨w5.heap.size, 0, rfl, by simp, fun i hi => by
        obtain rfl : i = 0 := by omega
        exact (Box.made w5 3 #[.int .i64 0]).cell 0⟩)
      go_wp2_with fail
      with_reducible refine (sameInts_same A5 (some ⟨w5.heap.size, 0, none⟩) 1 cc 1 _ (fun _ => 0) _ (by omega) (R5.out.alloc _) RL.out (fun i hi => by obtain rfl : i = 0 := (by omega); simp)).mono ?_
      rintro e w6 ⟨rfl, b6⟩
      go_wp2
      go_ret
      exact ⟨rfl, by have hbw := B5.out; (repeat (first | with_reducible exact Below.refl _ _ | with_reducible refine Below.drew ?_ | (with_reducible refine Below.alloc ?_ ?hsz _; case hsz => ((try simp) <;> (try omega))) | (with_reducible refine Below.setCell ?_ ?hsz _; case hsz => ((try simp) <;> (try omega))) | (with_reducible refine below_step (by with_reducible assumption) ?hsz ?_; case hsz => ((try simp) <;> (try omega)))))⟩
  · have hbig : decide (1048576 < n) = true := by simp; omega
    go_enter Try.func9, Try.ntmps9
    go_wp2_with (first | (go_at_call 29; (with_reducible refine (big_any code n cap _).mono ?_); rintro e w' ⟨rfl, rfl⟩))
    go_ret
    exact ⟨rfl, Below.refl _ _⟩
set_option maxRecDepth 100000 in
theorem fnLateOrders_open {H : Type} {enc : TypeId × Value → H} (W : World) (base : Nat) (args : Array Value) (ds : List (DataW H)) (p : List MemPlace)
    (hval : ∀ (j : Nat) t v, Try.f9.params[j]? = some t → args[j]? = some v → Value.okWide Try.prog W .any base t v)
    (hA : DataW.TrodAll enc Try.prog W 0 (fun _ => true) true Try.f9.params.toList args.toList ds p) :
    Calls Try.prog 9 args W fun e W' => e = .returned (.bool true) ∧ Below W.heap.size W W' := by
  rw [Try.params9] at hA hval
  obtain ⟨v0, vs0, d0, ds0, p0, q0, hargs, rfl, rfl, h0, r0⟩ := trodAll_cons hA
  obtain ⟨rfl, rfl, rfl⟩ := trodAll_nil r0
  obtain rfl : args = #[v0] := by cases args; simp_all
  obtain ⟨code, coden, codecap, codeF, rfl, hl0, hm0, hr0, hw0⟩ := open_row Try.underlying44 Try.underlying5 (by kernel_rfl) (hval 0 44 v0 rfl rfl) h0
  exact lawOrdersLate code coden codecap codeF W hl0 hm0 hr0
theorem fnLateOrders_lifted (os : Os) (started : os.Started) (H : Type) (enc : TypeId × Value → H) :
    ReturnsInHanded {} Try.checked os 9 .any (Rows.fnLateOrdersSpec.pre6 enc Try.prog Try.f9 Rows.fnLateOrdersRow.domain false) (Rows.fnLateOrdersSpec.post enc Try.prog Try.f9 false true false false) :=
  law_lifted (C := Try.checked) (s := Rows.fnLateOrdersSpec) (tb := 4) Tryown TrylaidOut (by kernel_rfl) Try.func9 rfl Try.underlying4 (by kernel_rfl) rfl (fun H ds h => match ds, h with | [d0], _ => rfl) os started H enc
    (ChangeSpec.witness6 (enc := enc) (C := Try.checked) false ⟨#[], #[.slice none 0 0], []⟩ 8 (by kernel_rfl) (by kernel_rfl) (by kernel_rfl) (by kernel_rfl))
    (fun W base args ds p hval hA _ _ => fnLateOrders_open W base args ds p hval hA)
theorem fnLateOrders_holds : Rows.FnLateOrdersSaid :=
  OpenClaim.holds_of_wide 9 Try.f9 rfl rfl rfl rfl rfl rfl rfl ⟨rfl, rfl, rfl, rfl, rfl⟩ rfl rfl rfl rfl rfl (by kernel_rfl) Try.func9 (by kernel_rfl)
    (of_decide_eq_true (by kernel_rfl)) (by unfold Func.isWrapper; first | (rw [if_pos (by decide +kernel)]; kernel_rfl) | (rw [if_neg (by decide +kernel)]; exact ⟨rfl, rfl⟩))
    (fun os started H enc _ => fnLateOrders_lifted os started H enc)
#print axioms fnLateOrders_holds
end Go.Proofs.Ytebgkmmmjmipnaa
