/- Contracts of MoveMoney, of the program and of the reference. -/
import Derived.Test.YtogoddbkamgndaaClone
import Derived.Test.YtogoddbkamgndaaTabW
import Derived.Test.YtogoddbkamgndaaIntS
namespace Go.Proofs.Ytogoddbkamgndaa
open Go.RowKit

/-- The built-in append of a whole row to an empty row of the call's own, in a plain region. -/
theorem wpList_append_row {w : World} {ops : Array Oper} {rest : List Oper} {o : Oper} {a : Act} {Q : Exit → Act → World → Prop} (hgd : o.guard = none) (s x : Operand)
    (ho : o.op = .call { callee := .builtin .append, args := #[s, x], argTypes := #[34, 34] })
    (base : Nat) (v : Value) (hown : w.ownsRow base 3 1 v 0 []) (A : Option Addr) (m c : Nat) (F : Nat → Int) (hA : Headed A c) (hr : Row w .i64 A m F) (hm : m ≤ 1048576) (hbase : base ≤ w.heap.size) (hs : a.eval s = v) (hx : a.eval x = .slice A m c)
    (h : ∀ v' w', w'.ownsRow base 3 1 v' m (ints F m) → w.grownBy w' v.ownBlock → wpList Try.prog ops Q rest (a.put o.dst v') w') :
    wpList Try.prog ops Q (o :: rest) a w := by
  refine wpList_plain hgd fun K hK' => ?_
  have hstep := step_append_row (ops := ops) (K := K) (E := True) (Q := Q) hgd s x ho base v hown A m c F hA hr hm hbase hs hx (fun v' w' h1 h2 => hK' _ _ (h v' w' h1 h2))
  rw [if_pos (by simp [Region.wanted, hgd])] at hstep
  exact hstep
def moneyB (F : Nat → Int) (n : Nat) (s d c : Int) : Bool :=
  decide (n ≤ 9) && allB (fun i => inB (F i) 0 1000000000000) n && inB s 0 (n - 1) && inB d 0 (n - 1) && !(decide (s = d)) && decide (0 ≤ c) && decide (c ≤ F s.toNat)
def moneyF (F : Nat → Int) (n : Nat) (s d c : Int) (i : Nat) : Int :=
  if moneyB F n s d c = true then (if (i : Int) = d then F i + c else if (i : Int) = s then F i - c else F i) else F i
/-- A row of numbers and a truth value come back. -/
def MoneyQ (n : Nat) (G : Nat → Int) (b : Bool) (w : World) (e : Ending) (w' : World) : Prop :=
  ∃ v, e = .returned (.tuple #[v, .bool b]) ∧ w'.ownsRow w.heap.size 3 1 v n (ints G n) ∧ Below w.heap.size w w'
theorem money_false {F : Nat → Int} {n : Nat} {s d c : Int} (h : moneyB F n s d c = false) {w w' : World} {v : Value} (ho : w'.ownsRow w.heap.size 3 1 v n (ints F n)) (hb : Below w.heap.size w w') : MoneyQ n (moneyF F n s d c) (moneyB F n s d c) w (.returned (.tuple #[v, .bool false])) w' :=
  ⟨v, by rw [h], own_congr ho (fun i _ => by simp [moneyF, h]), hb⟩
set_option maxHeartbeats 2000000 in
theorem money_any (A : Option Addr) (n cap : Nat) (F : Nat → Int) (s d c : Int) (w : World) (hn : n ≤ 1048576) (hA : Headed A cap) (hr : Row w .i64 A n F) :
    Calls Try.prog 29 #[.slice A n cap, .int .i64 s, .int .i64 d, .int .i64 c] w (MoneyQ n (moneyF F n s d c) (moneyB F n s d c) w) := by
  have HR := Lib.hid hr
  clear hr
  go_enter Try.func29, Try.ntmps29
  go_wp2_with fail
  with_reducible refine (cloneInts_any A n cap F _ hn hA HR.out).mono ?_
  rintro e w1 ⟨v, rfl, o1, hb1⟩
  obtain ⟨A1, c1, rfl, _, _, hat⟩ := own_row o1
  have O1 := Lib.hid o1
  have HR1 := Lib.hid (HR.out.kept hb1)
  have HB1 := Lib.hid hb1
  have z1 := hb1.size
  clear o1 HR hb1
  have hw := Lib.hid (fun w => allWithin_any A n cap F 0 1000000000000 w (by omega) : ∀ w, Row w .i64 A n F → Calls Try.prog 65 #[.slice A n cap, .int .i64 0, .int .i64 1000000000000] w fun e w' => e = .returned (.bool (allB (fun i => inB (F i) 0 1000000000000) n)) ∧ Below w.heap.size w w')
  by_cases h9 : n ≤ 9
  · rcases Bool.eq_false_or_eq_true (allB (fun i => inB (F i) 0 1000000000000) n) with k1 | k1
    · rcases Bool.eq_false_or_eq_true (inB s 0 (n - 1)) with k2 | k2
      · rcases Bool.eq_false_or_eq_true (inB d 0 (n - 1)) with k3 | k3
        · obtain ⟨s0, s1⟩ := inB_true.1 k2
          obtain ⟨d0, d1⟩ := inB_true.1 k3
          obtain ⟨i, rfl⟩ := Int.eq_ofNat_of_zero_le s0
          obtain ⟨j, rfl⟩ := Int.eq_ofNat_of_zero_le d0
          by_cases hij : i = j
          · subst hij
            go_wp2_with (first | (go_at_call 65; (with_reducible refine (hw.out _ HR1.out).mono ?_); rintro e w2 ⟨rfl, hb2⟩; obtain ⟨hc2, hf2⟩ := bcell hb2; (try simp only [World.size_drew] at hc2 hf2); have hz2 := hb2.size; (try simp at hz2); (try have q2_0 : w.heap.size < w2.heap.size := by omega); (try have q2_1 : w.heap.size + 1 < w2.heap.size := by omega); (try have q2_2 : w.heap.size + 2 < w2.heap.size := by omega); (try have q2_3 : w.heap.size + 3 < w2.heap.size := by omega); (try have q2_4 : w.heap.size + 4 < w2.heap.size := by omega); (try have q2_0_0 : w0.heap.size < w2.heap.size := by omega); (try have q2_0_1 : w0.heap.size + 1 < w2.heap.size := by omega); (try have q2_1_0 : w1.heap.size < w2.heap.size := by omega); (try have q2_1_1 : w1.heap.size + 1 < w2.heap.size := by omega); (try have q2_3_0 : w3.heap.size < w2.heap.size := by omega); (try have q2_3_1 : w3.heap.size + 1 < w2.heap.size := by omega); (try have q2_4_0 : w4.heap.size < w2.heap.size := by omega); (try have q2_4_1 : w4.heap.size + 1 < w2.heap.size := by omega); (try have q2_5_0 : w5.heap.size < w2.heap.size := by omega); (try have q2_5_1 : w5.heap.size + 1 < w2.heap.size := by omega); (try have q2_6_0 : w6.heap.size < w2.heap.size := by omega); (try have q2_6_1 : w6.heap.size + 1 < w2.heap.size := by omega); (try have u2_b : b < w2.heap.size := by omega); (try have u2_q : q < w2.heap.size := by omega); (try have u2_g : g < w2.heap.size := by omega); (try have u2_g1 : g1 < w2.heap.size := by omega); (try have u2_g2 : g2 < w2.heap.size := by omega); (try have u2_g3 : g3 < w2.heap.size := by omega); (try have u2_g4 : g4 < w2.heap.size := by omega); (try have u2_g5 : g5 < w2.heap.size := by omega)) | (go_at_call 57; (with_reducible refine (within_any i 0 (n - 1) _).mono ?_); rintro e w' ⟨rfl, rfl⟩))
            go_ret2; exact money_false (by simp [moneyB] ) (by first | exact O1.out | exact own_below O1.out hb2) (by first | exact HB1.out | exact HB1.out.trans (hb2.mono z1))
          · have hij2 : ((i : Int) == (j : Int)) = false := by simp; omega
            rcases Bool.eq_false_or_eq_true (decide (c < 0)) with k4 | k4
            · go_wp2_with (first | (go_at_call 65; (with_reducible refine (hw.out _ HR1.out).mono ?_); rintro e w2 ⟨rfl, hb2⟩; obtain ⟨hc2, hf2⟩ := bcell hb2; (try simp only [World.size_drew] at hc2 hf2); have hz2 := hb2.size; (try simp at hz2); (try have q2_0 : w.heap.size < w2.heap.size := by omega); (try have q2_1 : w.heap.size + 1 < w2.heap.size := by omega); (try have q2_2 : w.heap.size + 2 < w2.heap.size := by omega); (try have q2_3 : w.heap.size + 3 < w2.heap.size := by omega); (try have q2_4 : w.heap.size + 4 < w2.heap.size := by omega); (try have q2_0_0 : w0.heap.size < w2.heap.size := by omega); (try have q2_0_1 : w0.heap.size + 1 < w2.heap.size := by omega); (try have q2_1_0 : w1.heap.size < w2.heap.size := by omega); (try have q2_1_1 : w1.heap.size + 1 < w2.heap.size := by omega); (try have q2_3_0 : w3.heap.size < w2.heap.size := by omega); (try have q2_3_1 : w3.heap.size + 1 < w2.heap.size := by omega); (try have q2_4_0 : w4.heap.size < w2.heap.size := by omega); (try have q2_4_1 : w4.heap.size + 1 < w2.heap.size := by omega); (try have q2_5_0 : w5.heap.size < w2.heap.size := by omega); (try have q2_5_1 : w5.heap.size + 1 < w2.heap.size := by omega); (try have q2_6_0 : w6.heap.size < w2.heap.size := by omega); (try have q2_6_1 : w6.heap.size + 1 < w2.heap.size := by omega); (try have u2_b : b < w2.heap.size := by omega); (try have u2_q : q < w2.heap.size := by omega); (try have u2_g : g < w2.heap.size := by omega); (try have u2_g1 : g1 < w2.heap.size := by omega); (try have u2_g2 : g2 < w2.heap.size := by omega); (try have u2_g3 : g3 < w2.heap.size := by omega); (try have u2_g4 : g4 < w2.heap.size := by omega); (try have u2_g5 : g5 < w2.heap.size := by omega)) | (go_at_call 57; (with_reducible refine (within_any i 0 (n - 1) _).mono ?_); rintro e w' ⟨rfl, rfl⟩) | (go_at_call 57; (with_reducible refine (within_any j 0 (n - 1) _).mono ?_); rintro e w' ⟨rfl, rfl⟩))
              go_ret2; exact money_false (by have h := of_decide_eq_true k4; have h2 : decide (0 ≤ c) = false := (by simp; omega); simp only [moneyB, h2, Bool.and_false, Bool.false_and] ) (by first | exact O1.out | exact own_below O1.out hb2) (by first | exact HB1.out | exact HB1.out.trans (hb2.mono z1))
            · have hi : i < n := by omega
              have hj : j < n := by omega
              obtain ⟨b, off, rfl, hb, ai⟩ := HR1.out.hid hi
              have ii : (i : Int) < (n : Int) := by omega
              have jj : (j : Int) < (n : Int) := by omega
              obtain ⟨g, he, _, hg, hcell, hfz⟩ := hat (by omega)
              cases he
              have gi := hcell i hi
              have gj := hcell j hj
              have fi := hfz i
              have fj := hfz j
              have bi := inB_true.1 (allB_iff.1 k1 i hi)
              have bj := inB_true.1 (allB_iff.1 k1 j hj)
              obtain ⟨bi0, bi1⟩ := bi
              obtain ⟨bj0, bj1⟩ := bj
              clear hcell hfz hat
              rcases Bool.eq_false_or_eq_true (decide (F i < c)) with k5 | k5
              · go_wp2_with (first | (go_at_call 65; (with_reducible refine (hw.out _ HR1.out).mono ?_); rintro e w2 ⟨rfl, hb2⟩; obtain ⟨hc2, hf2⟩ := bcell hb2; (try simp only [World.size_drew] at hc2 hf2); have hz2 := hb2.size; (try simp at hz2); (try have q2_0 : w.heap.size < w2.heap.size := by omega); (try have q2_1 : w.heap.size + 1 < w2.heap.size := by omega); (try have q2_2 : w.heap.size + 2 < w2.heap.size := by omega); (try have q2_3 : w.heap.size + 3 < w2.heap.size := by omega); (try have q2_4 : w.heap.size + 4 < w2.heap.size := by omega); (try have q2_0_0 : w0.heap.size < w2.heap.size := by omega); (try have q2_0_1 : w0.heap.size + 1 < w2.heap.size := by omega); (try have q2_1_0 : w1.heap.size < w2.heap.size := by omega); (try have q2_1_1 : w1.heap.size + 1 < w2.heap.size := by omega); (try have q2_3_0 : w3.heap.size < w2.heap.size := by omega); (try have q2_3_1 : w3.heap.size + 1 < w2.heap.size := by omega); (try have q2_4_0 : w4.heap.size < w2.heap.size := by omega); (try have q2_4_1 : w4.heap.size + 1 < w2.heap.size := by omega); (try have q2_5_0 : w5.heap.size < w2.heap.size := by omega); (try have q2_5_1 : w5.heap.size + 1 < w2.heap.size := by omega); (try have q2_6_0 : w6.heap.size < w2.heap.size := by omega); (try have q2_6_1 : w6.heap.size + 1 < w2.heap.size := by omega); (try have u2_b : b < w2.heap.size := by omega); (try have u2_q : q < w2.heap.size := by omega); (try have u2_g : g < w2.heap.size := by omega); (try have u2_g1 : g1 < w2.heap.size := by omega); (try have u2_g2 : g2 < w2.heap.size := by omega); (try have u2_g3 : g3 < w2.heap.size := by omega); (try have u2_g4 : g4 < w2.heap.size := by omega); (try have u2_g5 : g5 < w2.heap.size := by omega)) | (go_at_call 57; (with_reducible refine (within_any i 0 (n - 1) _).mono ?_); rintro e w' ⟨rfl, rfl⟩) | (go_at_call 57; (with_reducible refine (within_any j 0 (n - 1) _).mono ?_); rintro e w' ⟨rfl, rfl⟩))
                go_ret2; exact money_false (by have h := of_decide_eq_true k5; have h2 : decide (c ≤ F (i : Int).toNat) = false := (by simp; omega); simp only [moneyB, h2, Bool.and_false] ) (by first | exact O1.out | exact own_below O1.out hb2) (by first | exact HB1.out | exact HB1.out.trans (hb2.mono z1))
              · have c0 : 0 ≤ c := by have := of_decide_eq_false k4; omega
                have c1' : c ≤ F i := by have := of_decide_eq_false k5; omega
                have HM := Lib.hid (show moneyB F n i j c = true by simp [moneyB, h9, k1, k2, k3, show ¬ (i : Int) = (j : Int) by omega, c0, c1'])
                go_wp2_with (first | (go_at_call 65; (with_reducible refine (hw.out _ HR1.out).mono ?_); rintro e w2 ⟨rfl, hb2⟩; obtain ⟨hc2, hf2⟩ := bcell hb2; (try simp only [World.size_drew] at hc2 hf2); have hz2 := hb2.size; (try simp at hz2); (try have q2_0 : w.heap.size < w2.heap.size := by omega); (try have q2_1 : w.heap.size + 1 < w2.heap.size := by omega); (try have q2_2 : w.heap.size + 2 < w2.heap.size := by omega); (try have q2_3 : w.heap.size + 3 < w2.heap.size := by omega); (try have q2_4 : w.heap.size + 4 < w2.heap.size := by omega); (try have q2_0_0 : w0.heap.size < w2.heap.size := by omega); (try have q2_0_1 : w0.heap.size + 1 < w2.heap.size := by omega); (try have q2_1_0 : w1.heap.size < w2.heap.size := by omega); (try have q2_1_1 : w1.heap.size + 1 < w2.heap.size := by omega); (try have q2_3_0 : w3.heap.size < w2.heap.size := by omega); (try have q2_3_1 : w3.heap.size + 1 < w2.heap.size := by omega); (try have q2_4_0 : w4.heap.size < w2.heap.size := by omega); (try have q2_4_1 : w4.heap.size + 1 < w2.heap.size := by omega); (try have q2_5_0 : w5.heap.size < w2.heap.size := by omega); (try have q2_5_1 : w5.heap.size + 1 < w2.heap.size := by omega); (try have q2_6_0 : w6.heap.size < w2.heap.size := by omega); (try have q2_6_1 : w6.heap.size + 1 < w2.heap.size := by omega); (try have u2_b : b < w2.heap.size := by omega); (try have u2_q : q < w2.heap.size := by omega); (try have u2_g : g < w2.heap.size := by omega); (try have u2_g1 : g1 < w2.heap.size := by omega); (try have u2_g2 : g2 < w2.heap.size := by omega); (try have u2_g3 : g3 < w2.heap.size := by omega); (try have u2_g4 : g4 < w2.heap.size := by omega); (try have u2_g5 : g5 < w2.heap.size := by omega)) | (go_at_call 57; (with_reducible refine (within_any i 0 (n - 1) _).mono ?_); rintro e w' ⟨rfl, rfl⟩) | (go_at_call 57; (with_reducible refine (within_any j 0 (n - 1) _).mono ?_); rintro e w' ⟨rfl, rfl⟩))
                go_ret2
                refine ⟨.slice (some ⟨g, 0, none⟩) n c1, by rw [HM.out]; rfl, own_congr (own_set (own_set (own_below O1.out hb2) hi (F i - c)) hj (F j + c)) (fun t _ => ?_), by have hbw := HB1.out.trans (hb2.mono z1); (repeat (first | with_reducible exact Below.refl _ _ | with_reducible refine Below.drew ?_ | (with_reducible refine Below.alloc ?_ ?hsz _; case hsz => ((try simp) <;> (try omega))) | (with_reducible refine Below.setCell ?_ ?hsz _; case hsz => ((try simp) <;> (try omega))) | (with_reducible refine below_step (by with_reducible assumption) ?hsz ?_; case hsz => ((try simp) <;> (try omega)))))⟩
                simp only [moneyF, HM.out, if_pos]
                by_cases t1 : t = j
                · subst t1; rw [if_pos rfl, if_pos rfl]
                · rw [if_neg t1, if_neg (show ¬ (t : Int) = (j : Int) by omega)]
                  by_cases t2 : t = i
                  · subst t2; rw [if_pos rfl, if_pos rfl]
                  · rw [if_neg t2, if_neg (show ¬ (t : Int) = (i : Int) by omega)]
        · go_wp2_with (first | (go_at_call 65; (with_reducible refine (hw.out _ HR1.out).mono ?_); rintro e w2 ⟨rfl, hb2⟩; obtain ⟨hc2, hf2⟩ := bcell hb2; (try simp only [World.size_drew] at hc2 hf2); have hz2 := hb2.size; (try simp at hz2); (try have q2_0 : w.heap.size < w2.heap.size := by omega); (try have q2_1 : w.heap.size + 1 < w2.heap.size := by omega); (try have q2_2 : w.heap.size + 2 < w2.heap.size := by omega); (try have q2_3 : w.heap.size + 3 < w2.heap.size := by omega); (try have q2_4 : w.heap.size + 4 < w2.heap.size := by omega); (try have q2_0_0 : w0.heap.size < w2.heap.size := by omega); (try have q2_0_1 : w0.heap.size + 1 < w2.heap.size := by omega); (try have q2_1_0 : w1.heap.size < w2.heap.size := by omega); (try have q2_1_1 : w1.heap.size + 1 < w2.heap.size := by omega); (try have q2_3_0 : w3.heap.size < w2.heap.size := by omega); (try have q2_3_1 : w3.heap.size + 1 < w2.heap.size := by omega); (try have q2_4_0 : w4.heap.size < w2.heap.size := by omega); (try have q2_4_1 : w4.heap.size + 1 < w2.heap.size := by omega); (try have q2_5_0 : w5.heap.size < w2.heap.size := by omega); (try have q2_5_1 : w5.heap.size + 1 < w2.heap.size := by omega); (try have q2_6_0 : w6.heap.size < w2.heap.size := by omega); (try have q2_6_1 : w6.heap.size + 1 < w2.heap.size := by omega); (try have u2_b : b < w2.heap.size := by omega); (try have u2_q : q < w2.heap.size := by omega); (try have u2_g : g < w2.heap.size := by omega); (try have u2_g1 : g1 < w2.heap.size := by omega); (try have u2_g2 : g2 < w2.heap.size := by omega); (try have u2_g3 : g3 < w2.heap.size := by omega); (try have u2_g4 : g4 < w2.heap.size := by omega); (try have u2_g5 : g5 < w2.heap.size := by omega)) | (go_at_call 57; (with_reducible refine (within_any s 0 (n - 1) _).mono ?_); rintro e w' ⟨rfl, rfl⟩) | (go_at_call 57; (with_reducible refine (within_any d 0 (n - 1) _).mono ?_); rintro e w' ⟨rfl, rfl⟩))
          go_ret2; exact money_false (by simp [moneyB, k3] ) (by first | exact O1.out | exact own_below O1.out hb2) (by first | exact HB1.out | exact HB1.out.trans (hb2.mono z1))
      · go_wp2_with (first | (go_at_call 65; (with_reducible refine (hw.out _ HR1.out).mono ?_); rintro e w2 ⟨rfl, hb2⟩; obtain ⟨hc2, hf2⟩ := bcell hb2; (try simp only [World.size_drew] at hc2 hf2); have hz2 := hb2.size; (try simp at hz2); (try have q2_0 : w.heap.size < w2.heap.size := by omega); (try have q2_1 : w.heap.size + 1 < w2.heap.size := by omega); (try have q2_2 : w.heap.size + 2 < w2.heap.size := by omega); (try have q2_3 : w.heap.size + 3 < w2.heap.size := by omega); (try have q2_4 : w.heap.size + 4 < w2.heap.size := by omega); (try have q2_0_0 : w0.heap.size < w2.heap.size := by omega); (try have q2_0_1 : w0.heap.size + 1 < w2.heap.size := by omega); (try have q2_1_0 : w1.heap.size < w2.heap.size := by omega); (try have q2_1_1 : w1.heap.size + 1 < w2.heap.size := by omega); (try have q2_3_0 : w3.heap.size < w2.heap.size := by omega); (try have q2_3_1 : w3.heap.size + 1 < w2.heap.size := by omega); (try have q2_4_0 : w4.heap.size < w2.heap.size := by omega); (try have q2_4_1 : w4.heap.size + 1 < w2.heap.size := by omega); (try have q2_5_0 : w5.heap.size < w2.heap.size := by omega); (try have q2_5_1 : w5.heap.size + 1 < w2.heap.size := by omega); (try have q2_6_0 : w6.heap.size < w2.heap.size := by omega); (try have q2_6_1 : w6.heap.size + 1 < w2.heap.size := by omega); (try have u2_b : b < w2.heap.size := by omega); (try have u2_q : q < w2.heap.size := by omega); (try have u2_g : g < w2.heap.size := by omega); (try have u2_g1 : g1 < w2.heap.size := by omega); (try have u2_g2 : g2 < w2.heap.size := by omega); (try have u2_g3 : g3 < w2.heap.size := by omega); (try have u2_g4 : g4 < w2.heap.size := by omega); (try have u2_g5 : g5 < w2.heap.size := by omega)) | (go_at_call 57; (with_reducible refine (within_any s 0 (n - 1) _).mono ?_); rintro e w' ⟨rfl, rfl⟩) | (go_at_call 57; (with_reducible refine (within_any d 0 (n - 1) _).mono ?_); rintro e w' ⟨rfl, rfl⟩))
        go_ret2; exact money_false (by simp [moneyB, k2] ) (by first | exact O1.out | exact own_below O1.out hb2) (by first | exact HB1.out | exact HB1.out.trans (hb2.mono z1))
    · go_wp2_with (first | (go_at_call 65; (with_reducible refine (hw.out _ HR1.out).mono ?_); rintro e w2 ⟨rfl, hb2⟩; obtain ⟨hc2, hf2⟩ := bcell hb2; (try simp only [World.size_drew] at hc2 hf2); have hz2 := hb2.size; (try simp at hz2); (try have q2_0 : w.heap.size < w2.heap.size := by omega); (try have q2_1 : w.heap.size + 1 < w2.heap.size := by omega); (try have q2_2 : w.heap.size + 2 < w2.heap.size := by omega); (try have q2_3 : w.heap.size + 3 < w2.heap.size := by omega); (try have q2_4 : w.heap.size + 4 < w2.heap.size := by omega); (try have q2_0_0 : w0.heap.size < w2.heap.size := by omega); (try have q2_0_1 : w0.heap.size + 1 < w2.heap.size := by omega); (try have q2_1_0 : w1.heap.size < w2.heap.size := by omega); (try have q2_1_1 : w1.heap.size + 1 < w2.heap.size := by omega); (try have q2_3_0 : w3.heap.size < w2.heap.size := by omega); (try have q2_3_1 : w3.heap.size + 1 < w2.heap.size := by omega); (try have q2_4_0 : w4.heap.size < w2.heap.size := by omega); (try have q2_4_1 : w4.heap.size + 1 < w2.heap.size := by omega); (try have q2_5_0 : w5.heap.size < w2.heap.size := by omega); (try have q2_5_1 : w5.heap.size + 1 < w2.heap.size := by omega); (try have q2_6_0 : w6.heap.size < w2.heap.size := by omega); (try have q2_6_1 : w6.heap.size + 1 < w2.heap.size := by omega); (try have u2_b : b < w2.heap.size := by omega); (try have u2_q : q < w2.heap.size := by omega); (try have u2_g : g < w2.heap.size := by omega); (try have u2_g1 : g1 < w2.heap.size := by omega); (try have u2_g2 : g2 < w2.heap.size := by omega); (try have u2_g3 : g3 < w2.heap.size := by omega); (try have u2_g4 : g4 < w2.heap.size := by omega); (try have u2_g5 : g5 < w2.heap.size := by omega)) | (go_at_call 57; (with_reducible refine (within_any s 0 (n - 1) _).mono ?_); rintro e w' ⟨rfl, rfl⟩) | (go_at_call 57; (with_reducible refine (within_any d 0 (n - 1) _).mono ?_); rintro e w' ⟨rfl, rfl⟩))
      go_ret2; exact money_false (by simp only [moneyB, k1, Bool.and_false, Bool.false_and] ) (by first | exact O1.out | exact own_below O1.out hb2) (by first | exact HB1.out | exact HB1.out.trans (hb2.mono z1))
  · go_wp2_with (first | (go_at_call 65; (with_reducible refine (hw.out _ HR1.out).mono ?_); rintro e w2 ⟨rfl, hb2⟩; obtain ⟨hc2, hf2⟩ := bcell hb2; (try simp only [World.size_drew] at hc2 hf2); have hz2 := hb2.size; (try simp at hz2); (try have q2_0 : w.heap.size < w2.heap.size := by omega); (try have q2_1 : w.heap.size + 1 < w2.heap.size := by omega); (try have q2_2 : w.heap.size + 2 < w2.heap.size := by omega); (try have q2_3 : w.heap.size + 3 < w2.heap.size := by omega); (try have q2_4 : w.heap.size + 4 < w2.heap.size := by omega); (try have q2_0_0 : w0.heap.size < w2.heap.size := by omega); (try have q2_0_1 : w0.heap.size + 1 < w2.heap.size := by omega); (try have q2_1_0 : w1.heap.size < w2.heap.size := by omega); (try have q2_1_1 : w1.heap.size + 1 < w2.heap.size := by omega); (try have q2_3_0 : w3.heap.size < w2.heap.size := by omega); (try have q2_3_1 : w3.heap.size + 1 < w2.heap.size := by omega); (try have q2_4_0 : w4.heap.size < w2.heap.size := by omega); (try have q2_4_1 : w4.heap.size + 1 < w2.heap.size := by omega); (try have q2_5_0 : w5.heap.size < w2.heap.size := by omega); (try have q2_5_1 : w5.heap.size + 1 < w2.heap.size := by omega); (try have q2_6_0 : w6.heap.size < w2.heap.size := by omega); (try have q2_6_1 : w6.heap.size + 1 < w2.heap.size := by omega); (try have u2_b : b < w2.heap.size := by omega); (try have u2_q : q < w2.heap.size := by omega); (try have u2_g : g < w2.heap.size := by omega); (try have u2_g1 : g1 < w2.heap.size := by omega); (try have u2_g2 : g2 < w2.heap.size := by omega); (try have u2_g3 : g3 < w2.heap.size := by omega); (try have u2_g4 : g4 < w2.heap.size := by omega); (try have u2_g5 : g5 < w2.heap.size := by omega)) | (go_at_call 57; (with_reducible refine (within_any s 0 (n - 1) _).mono ?_); rintro e w' ⟨rfl, rfl⟩) | (go_at_call 57; (with_reducible refine (within_any d 0 (n - 1) _).mono ?_); rintro e w' ⟨rfl, rfl⟩))
    go_ret2; exact money_false (by simp [moneyB, h9] ) (by first | exact O1.out | exact own_below O1.out hb2) (by first | exact HB1.out | exact HB1.out.trans (hb2.mono z1))
theorem allB_snoc {p : Nat → Bool} {m : Nat} : allB p (m + 1) = (allB p m && p m) := rfl
def moneyA (n : Nat) (s d c : Int) : Bool := decide (n ≤ 9) && inB s 0 (n - 1) && inB d 0 (n - 1) && !(decide (s = d)) && decide (0 ≤ c)
theorem moneyB_false {F : Nat → Int} {n : Nat} {s d c : Int} (h : (moneyA n s d c && allB (fun i => inB (F i) 0 1000000000000) n) = false) : moneyB F n s d c = false := by
  unfold moneyA at h
  unfold moneyB
  revert h
  cases decide (n ≤ 9) <;> cases inB s 0 (n - 1) <;> cases inB d 0 (n - 1) <;> cases decide (s = d) <;> cases decide (0 ≤ c) <;> cases allB (fun i => inB (F i) 0 1000000000000) n <;> simp
theorem moneyA_true {n : Nat} {s d c : Int} (h : moneyA n s d c = true) : n ≤ 9 ∧ (0 ≤ s ∧ s ≤ n - 1) ∧ (0 ≤ d ∧ d ≤ n - 1) ∧ s ≠ d ∧ 0 ≤ c := by
  simp only [moneyA, Bool.and_eq_true, decide_eq_true_eq, Bool.not_eq_true', decide_eq_false_iff_not] at h
  exact ⟨h.1.1.1.1, inB_true.1 h.1.1.1.2, inB_true.1 h.1.1.2, h.1.2, h.2⟩
set_option maxHeartbeats 4000000 in
theorem smoney_any (A : Option Addr) (n cap : Nat) (F : Nat → Int) (s d c : Int) (w : World) (hn : n ≤ 1048576) (hA : Headed A cap) (hr : Row w .i64 A n F) :
    Calls Try.prog 27 #[.slice A n cap, .int .i64 s, .int .i64 d, .int .i64 c] w (MoneyQ n (moneyF F n s d c) (moneyB F n s d c) w) := by
  have HR := Lib.hid (hr.alloc (.cells #[] 3))
  clear hr
  go_enter Try.func27, Try.ntmps27
  rcases Bool.eq_false_or_eq_true (decide (n ≤ 9)) with k1 | k1
  · have h9 : n ≤ 9 := of_decide_eq_true k1
    rcases Bool.eq_false_or_eq_true (inB s 0 (n - 1)) with k2 | k2
    · rcases Bool.eq_false_or_eq_true (inB d 0 (n - 1)) with k3 | k3
      · rcases Bool.eq_false_or_eq_true (s == d) with k4 | k4
        · have k4' : (s != d) = false := by simp [bne, k4]
          have HM := Lib.hid (show moneyA n s d c = false by have := eq_of_beq k4; simp [moneyA, this])
          go_wp2_with (first | (at_builtin; refine wpList_append_row rfl (.tmp 13) (.tmp 14) rfl w.heap.size (.slice (some ⟨w.heap.size, 0, none⟩) 0 0) (own_empty _ _ _ (Nat.le_refl _)) A n cap F hA HR.out hn (by simp) rfl rfl ?_; intro v1 w1 o1 hg1; obtain ⟨A1, c1, rfl, _, _, hat⟩ := own_row o1; have HB1 := Lib.hid (((Below.refl w.heap.size w).alloc (Nat.le_refl _) (.cells #[] 3)).grown hg1 (by simp) (by intro b hb; simp [Value.ownBlock] at hb; omega)); have O1 := Lib.hid o1; clear o1 hg1) | (go_at_call 55; (with_reducible refine (l01In_any s 0 (n - 1) _).mono ?_); rintro e w' ⟨rfl, rfl⟩) | (go_at_call 55; (with_reducible refine (l01In_any d 0 (n - 1) _).mono ?_); rintro e w' ⟨rfl, rfl⟩))
          go_loop [11, 12] (fun x i => ∃ m : Nat, m ≤ n ∧ i = .int .i64 m ∧ x = .bool false) (fun _ i => n - (intOf i).toNat)
          case atStart => exact ⟨0, Nat.zero_le _, rfl, rfl⟩
          case round =>
            obtain ⟨m, hm, rfl, rfl⟩ := hrel
            by_cases hlt : m < n
            · go_wp2
              go_round
              case rel => exact ⟨m + 1, by omega, by go_num, rfl⟩
              case measure => simp [intOf]; omega
            · go_wp2
              go_ret2
              exact money_false (moneyB_false (by rw [HM.out]; rfl)) O1.out HB1.out
        · have k4' : (s != d) = true := by simp [bne, k4]
          rcases Bool.eq_false_or_eq_true (decide (0 ≤ c)) with k5 | k5
          · have HM := Lib.hid (show moneyA n s d c = true by have := ne_of_beq_false k4; simp only [moneyA, k1, k2, k3, k5]; simpa using this)
            obtain ⟨_, ⟨s0, s1⟩, ⟨d0, d1⟩, hne, c0⟩ := moneyA_true HM.out
            obtain ⟨i, rfl⟩ := Int.eq_ofNat_of_zero_le s0
            obtain ⟨j, rfl⟩ := Int.eq_ofNat_of_zero_le d0
            have hi : i < n := by omega
            have hj : j < n := by omega
            have ii : (i : Int) < (n : Int) := by omega
            have jj : (j : Int) < (n : Int) := by omega
            go_wp2_with (first | (at_builtin; refine wpList_append_row rfl (.tmp 13) (.tmp 14) rfl w.heap.size (.slice (some ⟨w.heap.size, 0, none⟩) 0 0) (own_empty _ _ _ (Nat.le_refl _)) A n cap F hA HR.out hn (by simp) rfl rfl ?_; intro v1 w1 o1 hg1; obtain ⟨A1, c1, rfl, _, _, hat⟩ := own_row o1; have HB1 := Lib.hid (((Below.refl w.heap.size w).alloc (Nat.le_refl _) (.cells #[] 3)).grown hg1 (by simp) (by intro b hb; simp [Value.ownBlock] at hb; omega)); have O1 := Lib.hid o1; clear o1 hg1) | (go_at_call 55; (with_reducible refine (l01In_any i 0 (n - 1) _).mono ?_); rintro e w' ⟨rfl, rfl⟩) | (go_at_call 55; (with_reducible refine (l01In_any j 0 (n - 1) _).mono ?_); rintro e w' ⟨rfl, rfl⟩))
            obtain ⟨g, he, _, hg, hcell, hfz⟩ := hat (by omega)
            cases he
            have HC := Lib.hid hcell
            have HF := Lib.hid hfz
            clear hcell hfz hat
            go_loop [11, 12] (fun x i => ∃ m : Nat, m ≤ n ∧ i = .int .i64 m ∧ x = .bool (allB (fun i => inB (F i) 0 1000000000000) m)) (fun _ i => n - (intOf i).toNat)
            case atStart => exact ⟨0, Nat.zero_le _, rfl, rfl⟩
            case round =>
              obtain ⟨m, hm, rfl, rfl⟩ := hrel
              by_cases hlt : m < n
              · have hmi : (m : Int) < (n : Int) := by omega
                have gm := HC.out m hlt
                have HA := Lib.hid (allB_snoc (p := fun i => inB (F i) 0 1000000000000) (m := m))
                rcases Bool.eq_false_or_eq_true (allB (fun i => inB (F i) 0 1000000000000) m) with q | q
                · go_wp2_with (go_at_call 55; (with_reducible refine (l01In_any (F m) 0 1000000000000 _).mono ?_); rintro e w' ⟨rfl, rfl⟩)
                  go_round
                  case rel => exact ⟨m + 1, by omega, by go_num, by rw [HA.out, q]; simp⟩
                  case measure => simp [intOf]; omega
                · go_wp2_with (go_at_call 55; (with_reducible refine (l01In_any (F m) 0 1000000000000 _).mono ?_); rintro e w' ⟨rfl, rfl⟩)
                  go_round
                  case rel => exact ⟨m + 1, by omega, by go_num, by rw [HA.out, q]; simp⟩
                  case measure => simp [intOf]; omega
              · obtain rfl : m = n := by omega
                rcases Bool.eq_false_or_eq_true (allB (fun i => inB (F i) 0 1000000000000) m) with q | q
                · have gi := HC.out i hi
                  have gj := HC.out j hj
                  have fi := HF.out i
                  have fj := HF.out j
                  obtain ⟨bi0, bi1⟩ := inB_true.1 (allB_iff.1 q i hi)
                  obtain ⟨bj0, bj1⟩ := inB_true.1 (allB_iff.1 q j hj)
                  have hij : i ≠ j := by omega
                  rcases Bool.eq_false_or_eq_true (decide (F i < c)) with k6 | k6
                  · go_wp2
                    go_ret2
                    exact money_false (by have h := of_decide_eq_true k6; have h2 : decide (c ≤ F (i : Int).toNat) = false := (by simp; omega); simp only [moneyB, h2, Bool.and_false]) O1.out HB1.out
                  · have c1' : c ≤ F i := by have := of_decide_eq_false k6; omega
                    have HMB := Lib.hid (show moneyB F m i j c = true by simp [moneyB, h9, q, k2, k3, show ¬ (i : Int) = (j : Int) by omega, c0, c1'])
                    go_wp2
                    go_ret2
                    refine ⟨.slice (some ⟨g, 0, none⟩) m c1, by rw [HMB.out]; rfl, own_congr (own_set (own_set O1.out hi (F i - c)) hj (F j + c)) (fun t _ => ?_), by have hbw := HB1.out; (repeat (first | with_reducible exact Below.refl _ _ | with_reducible refine Below.drew ?_ | (with_reducible refine Below.alloc ?_ ?hsz _; case hsz => ((try simp) <;> (try omega))) | (with_reducible refine Below.setCell ?_ ?hsz _; case hsz => ((try simp) <;> (try omega))) | (with_reducible refine below_step (by with_reducible assumption) ?hsz ?_; case hsz => ((try simp) <;> (try omega)))))⟩
                    simp only [moneyF, HMB.out, if_pos]
                    by_cases t1 : t = j
                    · subst t1; rw [if_pos rfl, if_pos rfl]
                    · rw [if_neg t1, if_neg (show ¬ (t : Int) = (j : Int) by omega)]
                      by_cases t2 : t = i
                      · subst t2; rw [if_pos rfl, if_pos rfl]
                      · rw [if_neg t2, if_neg (show ¬ (t : Int) = (i : Int) by omega)]
                · go_wp2
                  go_ret2
                  exact money_false (moneyB_false (by rw [q, Bool.and_false])) O1.out HB1.out
          · skip
            have HM := Lib.hid (show moneyA n s d c = false by simp only [moneyA, k5, Bool.and_false])
            go_wp2_with (first | (at_builtin; refine wpList_append_row rfl (.tmp 13) (.tmp 14) rfl w.heap.size (.slice (some ⟨w.heap.size, 0, none⟩) 0 0) (own_empty _ _ _ (Nat.le_refl _)) A n cap F hA HR.out hn (by simp) rfl rfl ?_; intro v1 w1 o1 hg1; obtain ⟨A1, c1, rfl, _, _, hat⟩ := own_row o1; have HB1 := Lib.hid (((Below.refl w.heap.size w).alloc (Nat.le_refl _) (.cells #[] 3)).grown hg1 (by simp) (by intro b hb; simp [Value.ownBlock] at hb; omega)); have O1 := Lib.hid o1; clear o1 hg1) | (go_at_call 55; (with_reducible refine (l01In_any s 0 (n - 1) _).mono ?_); rintro e w' ⟨rfl, rfl⟩) | (go_at_call 55; (with_reducible refine (l01In_any d 0 (n - 1) _).mono ?_); rintro e w' ⟨rfl, rfl⟩))
            go_loop [11, 12] (fun x i => ∃ m : Nat, m ≤ n ∧ i = .int .i64 m ∧ x = .bool false) (fun _ i => n - (intOf i).toNat)
            case atStart => exact ⟨0, Nat.zero_le _, rfl, rfl⟩
            case round =>
              obtain ⟨m, hm, rfl, rfl⟩ := hrel
              by_cases hlt : m < n
              · go_wp2
                go_round
                case rel => exact ⟨m + 1, by omega, by go_num, rfl⟩
                case measure => simp [intOf]; omega
              · go_wp2
                go_ret2
                exact money_false (moneyB_false (by rw [HM.out]; rfl)) O1.out HB1.out
      · skip
        have HM := Lib.hid (show moneyA n s d c = false by simp [moneyA, k3])
        go_wp2_with (first | (at_builtin; refine wpList_append_row rfl (.tmp 13) (.tmp 14) rfl w.heap.size (.slice (some ⟨w.heap.size, 0, none⟩) 0 0) (own_empty _ _ _ (Nat.le_refl _)) A n cap F hA HR.out hn (by simp) rfl rfl ?_; intro v1 w1 o1 hg1; obtain ⟨A1, c1, rfl, _, _, hat⟩ := own_row o1; have HB1 := Lib.hid (((Below.refl w.heap.size w).alloc (Nat.le_refl _) (.cells #[] 3)).grown hg1 (by simp) (by intro b hb; simp [Value.ownBlock] at hb; omega)); have O1 := Lib.hid o1; clear o1 hg1) | (go_at_call 55; (with_reducible refine (l01In_any s 0 (n - 1) _).mono ?_); rintro e w' ⟨rfl, rfl⟩) | (go_at_call 55; (with_reducible refine (l01In_any d 0 (n - 1) _).mono ?_); rintro e w' ⟨rfl, rfl⟩))
        go_loop [11, 12] (fun x i => ∃ m : Nat, m ≤ n ∧ i = .int .i64 m ∧ x = .bool false) (fun _ i => n - (intOf i).toNat)
        case atStart => exact ⟨0, Nat.zero_le _, rfl, rfl⟩
        case round =>
          obtain ⟨m, hm, rfl, rfl⟩ := hrel
          by_cases hlt : m < n
          · go_wp2
            go_round
            case rel => exact ⟨m + 1, by omega, by go_num, rfl⟩
            case measure => simp [intOf]; omega
          · go_wp2
            go_ret2
            exact money_false (moneyB_false (by rw [HM.out]; rfl)) O1.out HB1.out
    · skip
      have HM := Lib.hid (show moneyA n s d c = false by simp [moneyA, k2])
      go_wp2_with (first | (at_builtin; refine wpList_append_row rfl (.tmp 13) (.tmp 14) rfl w.heap.size (.slice (some ⟨w.heap.size, 0, none⟩) 0 0) (own_empty _ _ _ (Nat.le_refl _)) A n cap F hA HR.out hn (by simp) rfl rfl ?_; intro v1 w1 o1 hg1; obtain ⟨A1, c1, rfl, _, _, hat⟩ := own_row o1; have HB1 := Lib.hid (((Below.refl w.heap.size w).alloc (Nat.le_refl _) (.cells #[] 3)).grown hg1 (by simp) (by intro b hb; simp [Value.ownBlock] at hb; omega)); have O1 := Lib.hid o1; clear o1 hg1) | (go_at_call 55; (with_reducible refine (l01In_any s 0 (n - 1) _).mono ?_); rintro e w' ⟨rfl, rfl⟩))
      go_loop [11, 12] (fun x i => ∃ m : Nat, m ≤ n ∧ i = .int .i64 m ∧ x = .bool false) (fun _ i => n - (intOf i).toNat)
      case atStart => exact ⟨0, Nat.zero_le _, rfl, rfl⟩
      case round =>
        obtain ⟨m, hm, rfl, rfl⟩ := hrel
        by_cases hlt : m < n
        · go_wp2
          go_round
          case rel => exact ⟨m + 1, by omega, by go_num, rfl⟩
          case measure => simp [intOf]; omega
        · go_wp2
          go_ret2
          exact money_false (moneyB_false (by rw [HM.out]; rfl)) O1.out HB1.out
  · have h9 : ¬ n ≤ 9 := of_decide_eq_false k1
    have HM := Lib.hid (show moneyA n s d c = false by simp [moneyA, h9])
    go_wp2_with (first | (at_builtin; refine wpList_append_row rfl (.tmp 13) (.tmp 14) rfl w.heap.size (.slice (some ⟨w.heap.size, 0, none⟩) 0 0) (own_empty _ _ _ (Nat.le_refl _)) A n cap F hA HR.out hn (by simp) rfl rfl ?_; intro v1 w1 o1 hg1; obtain ⟨A1, c1, rfl, _, _, hat⟩ := own_row o1; have HB1 := Lib.hid (((Below.refl w.heap.size w).alloc (Nat.le_refl _) (.cells #[] 3)).grown hg1 (by simp) (by intro b hb; simp [Value.ownBlock] at hb; omega)); have O1 := Lib.hid o1; clear o1 hg1))
    go_loop [11, 12] (fun x i => ∃ m : Nat, m ≤ n ∧ i = .int .i64 m ∧ x = .bool false) (fun _ i => n - (intOf i).toNat)
    case atStart => exact ⟨0, Nat.zero_le _, rfl, rfl⟩
    case round =>
      obtain ⟨m, hm, rfl, rfl⟩ := hrel
      by_cases hlt : m < n
      · go_wp2
        go_round
        case rel => exact ⟨m + 1, by omega, by go_num, rfl⟩
        case measure => simp [intOf]; omega
      · go_wp2
        go_ret2
        exact money_false (moneyB_false (by rw [HM.out]; rfl)) O1.out HB1.out
end Go.Proofs.Ytogoddbkamgndaa
