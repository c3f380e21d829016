/-
  What the test of a message, a step, a tick, a proposal give. Conditions: a node that may be, the rounds enough.
  What a step, a tick, a proposal give: of the program and of the document's own. Conditions: a node that may be, the rounds enough.
  What the document's sameness gives of what is the same; places, digits, nodes that begin. Conditions: the rounds enough.
  What the statements' own functions of nodes and messages by numbers give. Conditions: the rounds enough.
  A node by numbers. Conditions: the rounds enough.
  A message by numbers; the document's example. Conditions: the rounds enough.
  What a node is behind a step, a tick, a proposal; what the messages are. Conditions: a node that may be.
-/
import Derived.Test.YtinfpahllbhomaaM7
set_option linter.unusedVariables false
set_option linter.unusedSimpArgs false

namespace Go.Proofs.Ytinfpahllbhomaa
open Go.Ab
set_option linter.unusedSimpArgs false
set_option linter.unusedVariables false
set_option maxHeartbeats 4000000
noncomputable section
variable {n k : Nat} {B : Int} {a : Node}

theorem rt_step {t : Int} {L : List Entry} {j : Nat} (h : j < L.length) : rightTerms t (L.drop j) = (decide (0 ≤ (L.getD j ⟨0, ⟨#[]⟩⟩).term ∧ (L.getD j ⟨0, ⟨#[]⟩⟩).term ≤ t) && rightTerms t (L.drop (j + 1))) := by
  have e : L.drop j = L[j] :: L.drop (j + 1) := List.drop_eq_getElem_cons h
  have e2 : L.getD j ⟨0, ⟨#[]⟩⟩ = L[j] := by simp [List.getD, h]
  rw [e, e2]
  rfl

theorem rt_end {t : Int} {L : List Entry} {j : Nat} (h : L.length ≤ j) : rightTerms t (L.drop j) = true := by
  rw [List.drop_eq_nil_of_le h]
  rfl

theorem right_no {m : Msg} {N : Int} (h : ¬ (1 ≤ m.kind ∧ m.kind ≤ 5 ∧ m.from ≠ m.to ∧ 0 ≤ m.from ∧ 0 ≤ m.to ∧ m.from < N ∧ m.to < N ∧ 1 ≤ m.term ∧ m.term ≤ 2^40 ∧ 0 ≤ m.index ∧ m.index ≤ 2^40 ∧
    0 ≤ m.at ∧ m.at ≤ 2^40 ∧ 0 ≤ m.commit ∧ m.commit ≤ 2^40 ∧ m.entries.length ≤ 20)) : right m N = false := by
  unfold right
  rw [decide_eq_false h]
  rfl

theorem right_ok {m : Msg} {N : Int} (h : (1 ≤ m.kind ∧ m.kind ≤ 5 ∧ m.from ≠ m.to ∧ 0 ≤ m.from ∧ 0 ≤ m.to ∧ m.from < N ∧ m.to < N ∧ 1 ≤ m.term ∧ m.term ≤ 2^40 ∧ 0 ≤ m.index ∧ m.index ≤ 2^40 ∧
    0 ≤ m.at ∧ m.at ≤ 2^40 ∧ 0 ≤ m.commit ∧ m.commit ≤ 2^40 ∧ m.entries.length ≤ 20)) : right m N = rightTerms m.term m.entries := by
  unfold right
  rw [decide_eq_true h]
  rfl

theorem zb : (zeroHL tab [.bool]).fst = false := rfl

theorem s_18 (hk : 2 ≤ k) (hn : 100 ≤ n) {m : Msg} {N : Int} : C n k 18 [⟨.st 30, m⟩, ⟨.int .i64, N⟩] [.bool] = some (right m N, ()) := by
  obtain ⟨k, rfl⟩ : ∃ k1, k = k1 + 1 := ⟨k - 1, by omega⟩
  rw [C_succ, nf_18]
  have e57 := fun v x y => s_57 (n := n) (k := k) (v := v) (x := x) (y := y) (by omega)
  by_cases c0 : 1 ≤ m.kind ∧ m.kind ≤ 5
  · by_cases c1 : m.from ≠ m.to ∧ 0 ≤ m.from ∧ 0 ≤ m.to ∧ m.from < N ∧ m.to < N
    · by_cases c2 : 1 ≤ m.term ∧ m.term ≤ 1099511627776
      · by_cases c3 : 0 ≤ m.index ∧ m.index ≤ 1099511627776
        · by_cases c4 : 0 ≤ m.at ∧ m.at ≤ 1099511627776
          · by_cases c5 : 0 ≤ m.commit ∧ m.commit ≤ 1099511627776
            · by_cases c6 : (m.entries.length : Int) ≤ 20
              · rw [right_ok (by omega)]
                simp (maxSteps := 2000000) (discharger := omega) only [r_ite, r_add, r_sub, r_mul, r_quo, r_rem, r_lt, r_le, r_eq, r_bnot, r_or, r_and, r_isel, r_beq, r_band, r_bimp, r_imax, r_imin, r_call, r_gcall, r_bind, Option.bind_some, fits_ok, mfit_ok, wrap_i64, both_self, node_eta, msg_eta, entry_eta, hard_eta, decide_eq_true_eq, Bool.and_eq_true, Bool.or_eq_true, Bool.not_eq_true', decide_eq_false_iff_not, Bool.not_not, not_true_eq_false, not_false_eq_true, Bool.false_eq_true, Bool.true_eq_false, Bool.not_false, Bool.not_true, if_true, if_false, true_and, and_true, or_false, false_or, or_true, true_or, and_false, false_and, true_implies, if_pos, if_neg, len_58, get_58, app_58, set_58, cut_58, rep_58, emp_58, len_30, get_30, app_30, set_30, cut_30, rep_30, emp_30, len_27, get_27, app_27, set_27, cut_27, rep_27, emp_27, len_i, get_i, app_i, set_i, cut_i, rep_i, emp_i, len_b, get_b, app_b, set_b, cut_b, rep_b, emp_b, e57, r_loop, Bool.and_true, Bool.true_and, ← Bool.decide_and, ← Bool.decide_or, ← decide_not, decide_eq_true, decide_eq_false]
                refine (iter_rule' (fun x => m.entries.length - x.1.toNat) (fun x => 0 ≤ x.1 ∧ x.1 ≤ (m.entries.length : Int))
                  (fun x => some (rightTerms m.term (m.entries.drop x.1.toNat), ())) ?_ n _ ⟨by simp only <;> omega, by simp only <;> omega⟩ (by simp only; omega)).trans ?_
                · rintro next ⟨i, rest⟩ ⟨j0, j1⟩ ih
                  simp only at j0 j1
                  by_cases q3 : i < m.entries.length
                  · have es := rt_step (t := m.term) (L := m.entries) (j := i.toNat) (by omega)
                    have e3 : (i + 1).toNat = i.toNat + 1 := by omega
                    by_cases q4 : 0 ≤ (m.entries.getD i.toNat ⟨0, ⟨#[]⟩⟩).term ∧ (m.entries.getD i.toNat ⟨0, ⟨#[]⟩⟩).term ≤ m.term
                    · rw [decide_eq_true q4, Bool.true_and] at es
                      simp (maxSteps := 2000000) (discharger := omega) only [r_ite, r_add, r_sub, r_mul, r_quo, r_rem, r_lt, r_le, r_eq, r_bnot, r_or, r_and, r_isel, r_beq, r_band, r_bimp, r_imax, r_imin, r_call, r_gcall, r_bind, Option.bind_some, fits_ok, mfit_ok, wrap_i64, both_self, node_eta, msg_eta, entry_eta, hard_eta, decide_eq_true_eq, Bool.and_eq_true, Bool.or_eq_true, Bool.not_eq_true', decide_eq_false_iff_not, Bool.not_not, not_true_eq_false, not_false_eq_true, Bool.false_eq_true, Bool.true_eq_false, Bool.not_false, Bool.not_true, if_true, if_false, true_and, and_true, or_false, false_or, or_true, true_or, and_false, false_and, true_implies, if_pos, if_neg, len_58, get_58, app_58, set_58, cut_58, rep_58, emp_58, len_30, get_30, app_30, set_30, cut_30, rep_30, emp_30, len_27, get_27, app_27, set_27, cut_27, rep_27, emp_27, len_i, get_i, app_i, set_i, cut_i, rep_i, emp_i, len_b, get_b, app_b, set_b, cut_b, rep_b, emp_b, es, ← Bool.decide_and, ← Bool.decide_or, ← decide_not, decide_eq_true, decide_eq_false]
                      rw [ih _ ⟨by simp only; omega, by simp only; omega⟩ (by simp only; omega)]
                      simp only [e3]
                    · rw [decide_eq_false q4, Bool.false_and] at es
                      simp (maxSteps := 2000000) (discharger := omega) only [r_ite, r_add, r_sub, r_mul, r_quo, r_rem, r_lt, r_le, r_eq, r_bnot, r_or, r_and, r_isel, r_beq, r_band, r_bimp, r_imax, r_imin, r_call, r_gcall, r_bind, Option.bind_some, fits_ok, mfit_ok, wrap_i64, both_self, node_eta, msg_eta, entry_eta, hard_eta, decide_eq_true_eq, Bool.and_eq_true, Bool.or_eq_true, Bool.not_eq_true', decide_eq_false_iff_not, Bool.not_not, not_true_eq_false, not_false_eq_true, Bool.false_eq_true, Bool.true_eq_false, Bool.not_false, Bool.not_true, if_true, if_false, true_and, and_true, or_false, false_or, or_true, true_or, and_false, false_and, true_implies, if_pos, if_neg, len_58, get_58, app_58, set_58, cut_58, rep_58, emp_58, len_30, get_30, app_30, set_30, cut_30, rep_30, emp_30, len_27, get_27, app_27, set_27, cut_27, rep_27, emp_27, len_i, get_i, app_i, set_i, cut_i, rep_i, emp_i, len_b, get_b, app_b, set_b, cut_b, rep_b, emp_b, es, ← Bool.decide_and, ← Bool.decide_or, ← decide_not, decide_eq_true, decide_eq_false]
                  · have es := rt_end (t := m.term) (L := m.entries) (j := i.toNat) (by omega)
                    simp (maxSteps := 2000000) (discharger := omega) only [r_ite, r_add, r_sub, r_mul, r_quo, r_rem, r_lt, r_le, r_eq, r_bnot, r_or, r_and, r_isel, r_beq, r_band, r_bimp, r_imax, r_imin, r_call, r_gcall, r_bind, Option.bind_some, fits_ok, mfit_ok, wrap_i64, both_self, node_eta, msg_eta, entry_eta, hard_eta, decide_eq_true_eq, Bool.and_eq_true, Bool.or_eq_true, Bool.not_eq_true', decide_eq_false_iff_not, Bool.not_not, not_true_eq_false, not_false_eq_true, Bool.false_eq_true, Bool.true_eq_false, Bool.not_false, Bool.not_true, if_true, if_false, true_and, and_true, or_false, false_or, or_true, true_or, and_false, false_and, true_implies, if_pos, if_neg, len_58, get_58, app_58, set_58, cut_58, rep_58, emp_58, len_30, get_30, app_30, set_30, cut_30, rep_30, emp_30, len_27, get_27, app_27, set_27, cut_27, rep_27, emp_27, len_i, get_i, app_i, set_i, cut_i, rep_i, emp_i, len_b, get_b, app_b, set_b, cut_b, rep_b, emp_b, es, ← Bool.decide_and, ← Bool.decide_or, ← decide_not, decide_eq_true, decide_eq_false]
                · simp only [Int.toNat_zero, List.drop_zero]
              · rw [right_no (by omega)]
                simp (maxSteps := 2000000) (discharger := omega) only [r_ite, r_add, r_sub, r_mul, r_quo, r_rem, r_lt, r_le, r_eq, r_bnot, r_or, r_and, r_isel, r_beq, r_band, r_bimp, r_imax, r_imin, r_call, r_gcall, r_bind, Option.bind_some, fits_ok, mfit_ok, wrap_i64, both_self, node_eta, msg_eta, entry_eta, hard_eta, decide_eq_true_eq, Bool.and_eq_true, Bool.or_eq_true, Bool.not_eq_true', decide_eq_false_iff_not, Bool.not_not, not_true_eq_false, not_false_eq_true, Bool.false_eq_true, Bool.true_eq_false, Bool.not_false, Bool.not_true, if_true, if_false, true_and, and_true, or_false, false_or, or_true, true_or, and_false, false_and, true_implies, if_pos, if_neg, len_58, get_58, app_58, set_58, cut_58, rep_58, emp_58, len_30, get_30, app_30, set_30, cut_30, rep_30, emp_30, len_27, get_27, app_27, set_27, cut_27, rep_27, emp_27, len_i, get_i, app_i, set_i, cut_i, rep_i, emp_i, len_b, get_b, app_b, set_b, cut_b, rep_b, emp_b, e57, Bool.and_true, Bool.true_and, Bool.false_and, Bool.and_false, zb, ← Bool.decide_and, ← Bool.decide_or, ← decide_not, decide_eq_true, decide_eq_false]
            · rw [right_no (by omega)]
              simp (maxSteps := 2000000) (discharger := omega) only [r_ite, r_add, r_sub, r_mul, r_quo, r_rem, r_lt, r_le, r_eq, r_bnot, r_or, r_and, r_isel, r_beq, r_band, r_bimp, r_imax, r_imin, r_call, r_gcall, r_bind, Option.bind_some, fits_ok, mfit_ok, wrap_i64, both_self, node_eta, msg_eta, entry_eta, hard_eta, decide_eq_true_eq, Bool.and_eq_true, Bool.or_eq_true, Bool.not_eq_true', decide_eq_false_iff_not, Bool.not_not, not_true_eq_false, not_false_eq_true, Bool.false_eq_true, Bool.true_eq_false, Bool.not_false, Bool.not_true, if_true, if_false, true_and, and_true, or_false, false_or, or_true, true_or, and_false, false_and, true_implies, if_pos, if_neg, len_58, get_58, app_58, set_58, cut_58, rep_58, emp_58, len_30, get_30, app_30, set_30, cut_30, rep_30, emp_30, len_27, get_27, app_27, set_27, cut_27, rep_27, emp_27, len_i, get_i, app_i, set_i, cut_i, rep_i, emp_i, len_b, get_b, app_b, set_b, cut_b, rep_b, emp_b, e57, Bool.and_true, Bool.true_and, Bool.false_and, Bool.and_false, zb, ← Bool.decide_and, ← Bool.decide_or, ← decide_not, decide_eq_true, decide_eq_false]
          · rw [right_no (by omega)]
            simp (maxSteps := 2000000) (discharger := omega) only [r_ite, r_add, r_sub, r_mul, r_quo, r_rem, r_lt, r_le, r_eq, r_bnot, r_or, r_and, r_isel, r_beq, r_band, r_bimp, r_imax, r_imin, r_call, r_gcall, r_bind, Option.bind_some, fits_ok, mfit_ok, wrap_i64, both_self, node_eta, msg_eta, entry_eta, hard_eta, decide_eq_true_eq, Bool.and_eq_true, Bool.or_eq_true, Bool.not_eq_true', decide_eq_false_iff_not, Bool.not_not, not_true_eq_false, not_false_eq_true, Bool.false_eq_true, Bool.true_eq_false, Bool.not_false, Bool.not_true, if_true, if_false, true_and, and_true, or_false, false_or, or_true, true_or, and_false, false_and, true_implies, if_pos, if_neg, len_58, get_58, app_58, set_58, cut_58, rep_58, emp_58, len_30, get_30, app_30, set_30, cut_30, rep_30, emp_30, len_27, get_27, app_27, set_27, cut_27, rep_27, emp_27, len_i, get_i, app_i, set_i, cut_i, rep_i, emp_i, len_b, get_b, app_b, set_b, cut_b, rep_b, emp_b, e57, Bool.and_true, Bool.true_and, Bool.false_and, Bool.and_false, zb, ← Bool.decide_and, ← Bool.decide_or, ← decide_not, decide_eq_true, decide_eq_false]
        · rw [right_no (by omega)]
          simp (maxSteps := 2000000) (discharger := omega) only [r_ite, r_add, r_sub, r_mul, r_quo, r_rem, r_lt, r_le, r_eq, r_bnot, r_or, r_and, r_isel, r_beq, r_band, r_bimp, r_imax, r_imin, r_call, r_gcall, r_bind, Option.bind_some, fits_ok, mfit_ok, wrap_i64, both_self, node_eta, msg_eta, entry_eta, hard_eta, decide_eq_true_eq, Bool.and_eq_true, Bool.or_eq_true, Bool.not_eq_true', decide_eq_false_iff_not, Bool.not_not, not_true_eq_false, not_false_eq_true, Bool.false_eq_true, Bool.true_eq_false, Bool.not_false, Bool.not_true, if_true, if_false, true_and, and_true, or_false, false_or, or_true, true_or, and_false, false_and, true_implies, if_pos, if_neg, len_58, get_58, app_58, set_58, cut_58, rep_58, emp_58, len_30, get_30, app_30, set_30, cut_30, rep_30, emp_30, len_27, get_27, app_27, set_27, cut_27, rep_27, emp_27, len_i, get_i, app_i, set_i, cut_i, rep_i, emp_i, len_b, get_b, app_b, set_b, cut_b, rep_b, emp_b, e57, Bool.and_true, Bool.true_and, Bool.false_and, Bool.and_false, zb, ← Bool.decide_and, ← Bool.decide_or, ← decide_not, decide_eq_true, decide_eq_false]
      · rw [right_no (by omega)]
        simp (maxSteps := 2000000) (discharger := omega) only [r_ite, r_add, r_sub, r_mul, r_quo, r_rem, r_lt, r_le, r_eq, r_bnot, r_or, r_and, r_isel, r_beq, r_band, r_bimp, r_imax, r_imin, r_call, r_gcall, r_bind, Option.bind_some, fits_ok, mfit_ok, wrap_i64, both_self, node_eta, msg_eta, entry_eta, hard_eta, decide_eq_true_eq, Bool.and_eq_true, Bool.or_eq_true, Bool.not_eq_true', decide_eq_false_iff_not, Bool.not_not, not_true_eq_false, not_false_eq_true, Bool.false_eq_true, Bool.true_eq_false, Bool.not_false, Bool.not_true, if_true, if_false, true_and, and_true, or_false, false_or, or_true, true_or, and_false, false_and, true_implies, if_pos, if_neg, len_58, get_58, app_58, set_58, cut_58, rep_58, emp_58, len_30, get_30, app_30, set_30, cut_30, rep_30, emp_30, len_27, get_27, app_27, set_27, cut_27, rep_27, emp_27, len_i, get_i, app_i, set_i, cut_i, rep_i, emp_i, len_b, get_b, app_b, set_b, cut_b, rep_b, emp_b, e57, Bool.and_true, Bool.true_and, Bool.false_and, Bool.and_false, zb, ← Bool.decide_and, ← Bool.decide_or, ← decide_not, decide_eq_true, decide_eq_false]
    · rw [right_no (by omega)]
      simp (maxSteps := 2000000) (discharger := omega) only [r_ite, r_add, r_sub, r_mul, r_quo, r_rem, r_lt, r_le, r_eq, r_bnot, r_or, r_and, r_isel, r_beq, r_band, r_bimp, r_imax, r_imin, r_call, r_gcall, r_bind, Option.bind_some, fits_ok, mfit_ok, wrap_i64, both_self, node_eta, msg_eta, entry_eta, hard_eta, decide_eq_true_eq, Bool.and_eq_true, Bool.or_eq_true, Bool.not_eq_true', decide_eq_false_iff_not, Bool.not_not, not_true_eq_false, not_false_eq_true, Bool.false_eq_true, Bool.true_eq_false, Bool.not_false, Bool.not_true, if_true, if_false, true_and, and_true, or_false, false_or, or_true, true_or, and_false, false_and, true_implies, if_pos, if_neg, len_58, get_58, app_58, set_58, cut_58, rep_58, emp_58, len_30, get_30, app_30, set_30, cut_30, rep_30, emp_30, len_27, get_27, app_27, set_27, cut_27, rep_27, emp_27, len_i, get_i, app_i, set_i, cut_i, rep_i, emp_i, len_b, get_b, app_b, set_b, cut_b, rep_b, emp_b, e57, Bool.and_true, Bool.true_and, Bool.false_and, Bool.and_false, zb, ← Bool.decide_and, ← Bool.decide_or, ← decide_not, decide_eq_true, decide_eq_false]
  · rw [right_no (by omega)]
    simp (maxSteps := 2000000) (discharger := omega) only [r_ite, r_add, r_sub, r_mul, r_quo, r_rem, r_lt, r_le, r_eq, r_bnot, r_or, r_and, r_isel, r_beq, r_band, r_bimp, r_imax, r_imin, r_call, r_gcall, r_bind, Option.bind_some, fits_ok, mfit_ok, wrap_i64, both_self, node_eta, msg_eta, entry_eta, hard_eta, decide_eq_true_eq, Bool.and_eq_true, Bool.or_eq_true, Bool.not_eq_true', decide_eq_false_iff_not, Bool.not_not, not_true_eq_false, not_false_eq_true, Bool.false_eq_true, Bool.true_eq_false, Bool.not_false, Bool.not_true, if_true, if_false, true_and, and_true, or_false, false_or, or_true, true_or, and_false, false_and, true_implies, if_pos, if_neg, len_58, get_58, app_58, set_58, cut_58, rep_58, emp_58, len_30, get_30, app_30, set_30, cut_30, rep_30, emp_30, len_27, get_27, app_27, set_27, cut_27, rep_27, emp_27, len_i, get_i, app_i, set_i, cut_i, rep_i, emp_i, len_b, get_b, app_b, set_b, cut_b, rep_b, emp_b, e57, Bool.and_true, Bool.true_and, Bool.false_and, Bool.and_false, zb, ← Bool.decide_and, ← Bool.decide_or, ← decide_not, decide_eq_true, decide_eq_false]

theorem s_19 (hk : 2 ≤ k) (hn : 100 ≤ n) {m : Msg} {N : Int} : C n k 19 [⟨.st 30, m⟩, ⟨.int .i64, N⟩] [.bool] = some (right m N, ()) := by
  obtain ⟨k, rfl⟩ : ∃ k1, k = k1 + 1 := ⟨k - 1, by omega⟩
  rw [C_succ, nf_19]
  have e57 := fun v => s_59 (n := n) (k := k) (v := v) (by omega)
  by_cases c1 : (1 ≤ m.kind ∧ m.kind ≤ 5) ∧ m.from ≠ m.to ∧ 0 ≤ m.from ∧ 0 ≤ m.to ∧ m.from < N ∧ m.to < N ∧ 1 ≤ m.term
  · by_cases c2 : 0 ≤ m.term ∧ m.term ≤ 1099511627776
    · by_cases c3 : 0 ≤ m.index ∧ m.index ≤ 1099511627776
      · by_cases c4 : 0 ≤ m.at ∧ m.at ≤ 1099511627776
        · by_cases c5 : 0 ≤ m.commit ∧ m.commit ≤ 1099511627776
          · by_cases c6 : (m.entries.length : Int) ≤ 20
            · rw [right_ok (by omega)]
              simp (maxSteps := 2000000) (discharger := omega) only [r_ite, r_add, r_sub, r_mul, r_quo, r_rem, r_lt, r_le, r_eq, r_bnot, r_or, r_and, r_isel, r_beq, r_band, r_bimp, r_imax, r_imin, r_call, r_gcall, r_bind, Option.bind_some, fits_ok, mfit_ok, wrap_i64, both_self, node_eta, msg_eta, entry_eta, hard_eta, decide_eq_true_eq, Bool.and_eq_true, Bool.or_eq_true, Bool.not_eq_true', decide_eq_false_iff_not, Bool.not_not, not_true_eq_false, not_false_eq_true, Bool.false_eq_true, Bool.true_eq_false, Bool.not_false, Bool.not_true, if_true, if_false, true_and, and_true, or_false, false_or, or_true, true_or, and_false, false_and, true_implies, if_pos, if_neg, len_58, get_58, app_58, set_58, cut_58, rep_58, emp_58, len_30, get_30, app_30, set_30, cut_30, rep_30, emp_30, len_27, get_27, app_27, set_27, cut_27, rep_27, emp_27, len_i, get_i, app_i, set_i, cut_i, rep_i, emp_i, len_b, get_b, app_b, set_b, cut_b, rep_b, emp_b, e57, r_loop, Bool.and_true, Bool.true_and, Bool.or_false, Bool.false_or, ← Bool.decide_and, ← Bool.decide_or, ← decide_not, decide_eq_true, decide_eq_false]
              refine (iter_rule' (fun x => m.entries.length - x.1.toNat) (fun x => 0 ≤ x.1 ∧ x.1 ≤ (m.entries.length : Int))
                (fun x => some (rightTerms m.term (m.entries.drop x.1.toNat), ())) ?_ n _ ⟨by simp only <;> omega, by simp only <;> omega⟩ (by simp only; omega)).trans ?_
              · rintro next ⟨i, rest⟩ ⟨j0, j1⟩ ih
                simp only at j0 j1
                by_cases q3 : i < m.entries.length
                · have es := rt_step (t := m.term) (L := m.entries) (j := i.toNat) (by omega)
                  have e3 : (i + 1).toNat = i.toNat + 1 := by omega
                  by_cases q4 : 0 ≤ (m.entries.getD i.toNat ⟨0, ⟨#[]⟩⟩).term ∧ (m.entries.getD i.toNat ⟨0, ⟨#[]⟩⟩).term ≤ m.term
                  · rw [decide_eq_true q4, Bool.true_and] at es
                    simp (maxSteps := 2000000) (discharger := omega) only [r_ite, r_add, r_sub, r_mul, r_quo, r_rem, r_lt, r_le, r_eq, r_bnot, r_or, r_and, r_isel, r_beq, r_band, r_bimp, r_imax, r_imin, r_call, r_gcall, r_bind, Option.bind_some, fits_ok, mfit_ok, wrap_i64, both_self, node_eta, msg_eta, entry_eta, hard_eta, decide_eq_true_eq, Bool.and_eq_true, Bool.or_eq_true, Bool.not_eq_true', decide_eq_false_iff_not, Bool.not_not, not_true_eq_false, not_false_eq_true, Bool.false_eq_true, Bool.true_eq_false, Bool.not_false, Bool.not_true, if_true, if_false, true_and, and_true, or_false, false_or, or_true, true_or, and_false, false_and, true_implies, if_pos, if_neg, len_58, get_58, app_58, set_58, cut_58, rep_58, emp_58, len_30, get_30, app_30, set_30, cut_30, rep_30, emp_30, len_27, get_27, app_27, set_27, cut_27, rep_27, emp_27, len_i, get_i, app_i, set_i, cut_i, rep_i, emp_i, len_b, get_b, app_b, set_b, cut_b, rep_b, emp_b, es, ← Bool.decide_and, ← Bool.decide_or, ← decide_not, decide_eq_true, decide_eq_false]
                    rw [ih _ ⟨by simp only; omega, by simp only; omega⟩ (by simp only; omega)]
                    simp only [e3]
                  · rw [decide_eq_false q4, Bool.false_and] at es
                    simp (maxSteps := 2000000) (discharger := omega) only [r_ite, r_add, r_sub, r_mul, r_quo, r_rem, r_lt, r_le, r_eq, r_bnot, r_or, r_and, r_isel, r_beq, r_band, r_bimp, r_imax, r_imin, r_call, r_gcall, r_bind, Option.bind_some, fits_ok, mfit_ok, wrap_i64, both_self, node_eta, msg_eta, entry_eta, hard_eta, decide_eq_true_eq, Bool.and_eq_true, Bool.or_eq_true, Bool.not_eq_true', decide_eq_false_iff_not, Bool.not_not, not_true_eq_false, not_false_eq_true, Bool.false_eq_true, Bool.true_eq_false, Bool.not_false, Bool.not_true, if_true, if_false, true_and, and_true, or_false, false_or, or_true, true_or, and_false, false_and, true_implies, if_pos, if_neg, len_58, get_58, app_58, set_58, cut_58, rep_58, emp_58, len_30, get_30, app_30, set_30, cut_30, rep_30, emp_30, len_27, get_27, app_27, set_27, cut_27, rep_27, emp_27, len_i, get_i, app_i, set_i, cut_i, rep_i, emp_i, len_b, get_b, app_b, set_b, cut_b, rep_b, emp_b, es, ← Bool.decide_and, ← Bool.decide_or, ← decide_not, decide_eq_true, decide_eq_false]
                · have es := rt_end (t := m.term) (L := m.entries) (j := i.toNat) (by omega)
                  simp (maxSteps := 2000000) (discharger := omega) only [r_ite, r_add, r_sub, r_mul, r_quo, r_rem, r_lt, r_le, r_eq, r_bnot, r_or, r_and, r_isel, r_beq, r_band, r_bimp, r_imax, r_imin, r_call, r_gcall, r_bind, Option.bind_some, fits_ok, mfit_ok, wrap_i64, both_self, node_eta, msg_eta, entry_eta, hard_eta, decide_eq_true_eq, Bool.and_eq_true, Bool.or_eq_true, Bool.not_eq_true', decide_eq_false_iff_not, Bool.not_not, not_true_eq_false, not_false_eq_true, Bool.false_eq_true, Bool.true_eq_false, Bool.not_false, Bool.not_true, if_true, if_false, true_and, and_true, or_false, false_or, or_true, true_or, and_false, false_and, true_implies, if_pos, if_neg, len_58, get_58, app_58, set_58, cut_58, rep_58, emp_58, len_30, get_30, app_30, set_30, cut_30, rep_30, emp_30, len_27, get_27, app_27, set_27, cut_27, rep_27, emp_27, len_i, get_i, app_i, set_i, cut_i, rep_i, emp_i, len_b, get_b, app_b, set_b, cut_b, rep_b, emp_b, es, ← Bool.decide_and, ← Bool.decide_or, ← decide_not, decide_eq_true, decide_eq_false]
              · simp only [Int.toNat_zero, List.drop_zero]
            · rw [right_no (by omega)]
              simp (maxSteps := 2000000) (discharger := omega) only [r_ite, r_add, r_sub, r_mul, r_quo, r_rem, r_lt, r_le, r_eq, r_bnot, r_or, r_and, r_isel, r_beq, r_band, r_bimp, r_imax, r_imin, r_call, r_gcall, r_bind, Option.bind_some, fits_ok, mfit_ok, wrap_i64, both_self, node_eta, msg_eta, entry_eta, hard_eta, decide_eq_true_eq, Bool.and_eq_true, Bool.or_eq_true, Bool.not_eq_true', decide_eq_false_iff_not, Bool.not_not, not_true_eq_false, not_false_eq_true, Bool.false_eq_true, Bool.true_eq_false, Bool.not_false, Bool.not_true, if_true, if_false, true_and, and_true, or_false, false_or, or_true, true_or, and_false, false_and, true_implies, if_pos, if_neg, len_58, get_58, app_58, set_58, cut_58, rep_58, emp_58, len_30, get_30, app_30, set_30, cut_30, rep_30, emp_30, len_27, get_27, app_27, set_27, cut_27, rep_27, emp_27, len_i, get_i, app_i, set_i, cut_i, rep_i, emp_i, len_b, get_b, app_b, set_b, cut_b, rep_b, emp_b, e57, Bool.or_true, Bool.true_or, Bool.false_or, Bool.or_false, Bool.and_true, Bool.true_and, Bool.false_and, Bool.and_false, zb, ← Bool.decide_and, ← Bool.decide_or, ← decide_not, decide_eq_true, decide_eq_false]
          · rw [right_no (by omega)]
            simp (maxSteps := 2000000) (discharger := omega) only [r_ite, r_add, r_sub, r_mul, r_quo, r_rem, r_lt, r_le, r_eq, r_bnot, r_or, r_and, r_isel, r_beq, r_band, r_bimp, r_imax, r_imin, r_call, r_gcall, r_bind, Option.bind_some, fits_ok, mfit_ok, wrap_i64, both_self, node_eta, msg_eta, entry_eta, hard_eta, decide_eq_true_eq, Bool.and_eq_true, Bool.or_eq_true, Bool.not_eq_true', decide_eq_false_iff_not, Bool.not_not, not_true_eq_false, not_false_eq_true, Bool.false_eq_true, Bool.true_eq_false, Bool.not_false, Bool.not_true, if_true, if_false, true_and, and_true, or_false, false_or, or_true, true_or, and_false, false_and, true_implies, if_pos, if_neg, len_58, get_58, app_58, set_58, cut_58, rep_58, emp_58, len_30, get_30, app_30, set_30, cut_30, rep_30, emp_30, len_27, get_27, app_27, set_27, cut_27, rep_27, emp_27, len_i, get_i, app_i, set_i, cut_i, rep_i, emp_i, len_b, get_b, app_b, set_b, cut_b, rep_b, emp_b, e57, Bool.or_true, Bool.true_or, Bool.false_or, Bool.or_false, Bool.and_true, Bool.true_and, Bool.false_and, Bool.and_false, zb, ← Bool.decide_and, ← Bool.decide_or, ← decide_not, decide_eq_true, decide_eq_false]
        · rw [right_no (by omega)]
          simp (maxSteps := 2000000) (discharger := omega) only [r_ite, r_add, r_sub, r_mul, r_quo, r_rem, r_lt, r_le, r_eq, r_bnot, r_or, r_and, r_isel, r_beq, r_band, r_bimp, r_imax, r_imin, r_call, r_gcall, r_bind, Option.bind_some, fits_ok, mfit_ok, wrap_i64, both_self, node_eta, msg_eta, entry_eta, hard_eta, decide_eq_true_eq, Bool.and_eq_true, Bool.or_eq_true, Bool.not_eq_true', decide_eq_false_iff_not, Bool.not_not, not_true_eq_false, not_false_eq_true, Bool.false_eq_true, Bool.true_eq_false, Bool.not_false, Bool.not_true, if_true, if_false, true_and, and_true, or_false, false_or, or_true, true_or, and_false, false_and, true_implies, if_pos, if_neg, len_58, get_58, app_58, set_58, cut_58, rep_58, emp_58, len_30, get_30, app_30, set_30, cut_30, rep_30, emp_30, len_27, get_27, app_27, set_27, cut_27, rep_27, emp_27, len_i, get_i, app_i, set_i, cut_i, rep_i, emp_i, len_b, get_b, app_b, set_b, cut_b, rep_b, emp_b, e57, Bool.or_true, Bool.true_or, Bool.false_or, Bool.or_false, Bool.and_true, Bool.true_and, Bool.false_and, Bool.and_false, zb, ← Bool.decide_and, ← Bool.decide_or, ← decide_not, decide_eq_true, decide_eq_false]
      · rw [right_no (by omega)]
        simp (maxSteps := 2000000) (discharger := omega) only [r_ite, r_add, r_sub, r_mul, r_quo, r_rem, r_lt, r_le, r_eq, r_bnot, r_or, r_and, r_isel, r_beq, r_band, r_bimp, r_imax, r_imin, r_call, r_gcall, r_bind, Option.bind_some, fits_ok, mfit_ok, wrap_i64, both_self, node_eta, msg_eta, entry_eta, hard_eta, decide_eq_true_eq, Bool.and_eq_true, Bool.or_eq_true, Bool.not_eq_true', decide_eq_false_iff_not, Bool.not_not, not_true_eq_false, not_false_eq_true, Bool.false_eq_true, Bool.true_eq_false, Bool.not_false, Bool.not_true, if_true, if_false, true_and, and_true, or_false, false_or, or_true, true_or, and_false, false_and, true_implies, if_pos, if_neg, len_58, get_58, app_58, set_58, cut_58, rep_58, emp_58, len_30, get_30, app_30, set_30, cut_30, rep_30, emp_30, len_27, get_27, app_27, set_27, cut_27, rep_27, emp_27, len_i, get_i, app_i, set_i, cut_i, rep_i, emp_i, len_b, get_b, app_b, set_b, cut_b, rep_b, emp_b, e57, Bool.or_true, Bool.true_or, Bool.false_or, Bool.or_false, Bool.and_true, Bool.true_and, Bool.false_and, Bool.and_false, zb, ← Bool.decide_and, ← Bool.decide_or, ← decide_not, decide_eq_true, decide_eq_false]
    · rw [right_no (by omega)]
      simp (maxSteps := 2000000) (discharger := omega) only [r_ite, r_add, r_sub, r_mul, r_quo, r_rem, r_lt, r_le, r_eq, r_bnot, r_or, r_and, r_isel, r_beq, r_band, r_bimp, r_imax, r_imin, r_call, r_gcall, r_bind, Option.bind_some, fits_ok, mfit_ok, wrap_i64, both_self, node_eta, msg_eta, entry_eta, hard_eta, decide_eq_true_eq, Bool.and_eq_true, Bool.or_eq_true, Bool.not_eq_true', decide_eq_false_iff_not, Bool.not_not, not_true_eq_false, not_false_eq_true, Bool.false_eq_true, Bool.true_eq_false, Bool.not_false, Bool.not_true, if_true, if_false, true_and, and_true, or_false, false_or, or_true, true_or, and_false, false_and, true_implies, if_pos, if_neg, len_58, get_58, app_58, set_58, cut_58, rep_58, emp_58, len_30, get_30, app_30, set_30, cut_30, rep_30, emp_30, len_27, get_27, app_27, set_27, cut_27, rep_27, emp_27, len_i, get_i, app_i, set_i, cut_i, rep_i, emp_i, len_b, get_b, app_b, set_b, cut_b, rep_b, emp_b, e57, Bool.or_true, Bool.true_or, Bool.false_or, Bool.or_false, Bool.and_true, Bool.true_and, Bool.false_and, Bool.and_false, zb, ← Bool.decide_and, ← Bool.decide_or, ← decide_not, decide_eq_true, decide_eq_false]
  · rw [right_no (by omega)]
    simp (maxSteps := 2000000) (discharger := omega) only [r_ite, r_add, r_sub, r_mul, r_quo, r_rem, r_lt, r_le, r_eq, r_bnot, r_or, r_and, r_isel, r_beq, r_band, r_bimp, r_imax, r_imin, r_call, r_gcall, r_bind, Option.bind_some, fits_ok, mfit_ok, wrap_i64, both_self, node_eta, msg_eta, entry_eta, hard_eta, decide_eq_true_eq, Bool.and_eq_true, Bool.or_eq_true, Bool.not_eq_true', decide_eq_false_iff_not, Bool.not_not, not_true_eq_false, not_false_eq_true, Bool.false_eq_true, Bool.true_eq_false, Bool.not_false, Bool.not_true, if_true, if_false, true_and, and_true, or_false, false_or, or_true, true_or, and_false, false_and, true_implies, if_pos, if_neg, len_58, get_58, app_58, set_58, cut_58, rep_58, emp_58, len_30, get_30, app_30, set_30, cut_30, rep_30, emp_30, len_27, get_27, app_27, set_27, cut_27, rep_27, emp_27, len_i, get_i, app_i, set_i, cut_i, rep_i, emp_i, len_b, get_b, app_b, set_b, cut_b, rep_b, emp_b, e57, Bool.or_true, Bool.true_or, Bool.false_or, Bool.or_false, Bool.and_true, Bool.true_and, Bool.false_and, Bool.and_false, zb, ← Bool.decide_and, ← Bool.decide_or, ← decide_not, decide_eq_true, decide_eq_false]

end
end Go.Proofs.Ytinfpahllbhomaa

namespace Go.Proofs.Ytinfpahllbhomaa
open Go.Ab
set_option linter.unusedSimpArgs false
set_option linter.unusedVariables false
set_option maxHeartbeats 4000000
noncomputable section
variable {n k : Nat} {B : Int} {a : Node}

theorem right_mi {m : Msg} {N : Int} (h : right m N = true) (hB : 2^40 ≤ B) : MI B N m ∧ 1 ≤ m.kind ∧ m.kind ≤ 5 := by
  unfold right at h
  rw [Bool.and_eq_true, decide_eq_true_eq] at h
  obtain ⟨⟨k0, k1, ne, f0, f1, f2, f3, t0, t1, x0, x1, at0, at1, c0, c1, el⟩, _⟩ := h
  exact ⟨⟨f0, f2, by omega, x0, by omega, c0, by omega, el⟩, k0, k1⟩

theorem NI.given {m : Msg} (h : NI B a) (ht : m.term ≤ B) : NI B (given a m) := by
  have hb := h.down ht
  unfold Ytinfpahllbhomaa.given
  generalize Ytinfpahllbhomaa.down a m.term = b at hb ⊢
  have hb' := hb
  have q := hb; obtain ⟨n1, n5, i0, i1, lv, lx, lm, t0, t1, b0, b1, c0, c1, k0, k1, ll, la, nx, mx⟩ := q
  dsimp only
  split
  · exact ⟨n1, n5, i0, i1, by simp only [List.length_set]; exact lv, lx, lm, t0, t1, b0, b1, c0, c1, k0, k1, ll, la, nx, mx⟩
  · exact hb'

theorem won_role {m : Msg} (h : won a m = true) : (given a m).role = 1 := by
  unfold won at h
  unfold given
  generalize down a m.term = b at h ⊢
  simp only [Bool.and_eq_true] at h
  simp only [h.1, if_true]
  have := h.1
  unfold hears at this
  simp only [Bool.and_eq_true, decide_eq_true_eq] at this
  exact this.2.2

theorem given_log {m : Msg} : (given a m).log = a.log := by
  unfold given down
  simp only
  split <;> split <;> rfl

theorem s_41 (hk : 6 ≤ k) (h : NI B a) (hB : B ≤ 2^41 - 4) (hn : (a.log.length : Int) + 101 ≤ n) {m : Msg} (mt : m.term ≤ B) (f0 : 0 ≤ m.from) (f1 : m.from < a.nodes) :
    C n k 41 [⟨.st 27, a⟩, ⟨.st 30, m⟩] [.st 27, .sl (.st 30)] = some (if won a m = true then (lead (given a m), (sends (lead (given a m)), ())) else (given a m, ([], ()))) := by
  obtain ⟨k, rfl⟩ : ∃ k1, k = k1 + 1 := ⟨k - 1, by omega⟩
  rw [C_succ, nf_41]
  have e72 := s_72 (n := n) (k := k) (by omega) (by omega) h mt f0 f1
  have e35 := s_35 (n := n) (k := k) (by omega) (h.given mt) hB (by rw [given_log]; omega)
  by_cases p : won a m = true
  · have hr := won_role p
    simp only [r_bind, r_call, node_eta, msg_eta, e72, Option.bind_some, r_ite, r_or, r_bnot, r_eq, p, hr, decide_true, Bool.not_true, Bool.or_false, Bool.false_eq_true, if_false, e35, if_true]
  · have p' : won a m = false := by simpa using p
    simp only [r_bind, r_call, node_eta, msg_eta, e72, Option.bind_some, r_ite, r_or, r_bnot, r_eq, p', Bool.not_false, Bool.true_or, if_true, Bool.false_eq_true, if_false]

theorem s_12 (hk : 7 ≤ k) (h : NI B a) (hB0 : 2^40 ≤ B) (hB : B ≤ 2^41 - 4) (hn : (a.log.length : Int) + 101 ≤ n) {m : Msg} :
    C n k 12 [⟨.st 27, a⟩, ⟨.st 30, m⟩] [.st 27, .sl (.st 30)] = some ((step a m).1, ((step a m).2, ())) := by
  obtain ⟨k, rfl⟩ : ∃ k1, k = k1 + 1 := ⟨k - 1, by omega⟩
  rw [C_succ, nf_12]
  have e18 := s_18 (n := n) (k := k) (m := m) (N := a.nodes) (by omega) (by omega)
  unfold step
  by_cases p : right m a.nodes = true
  · obtain ⟨hm, q0, q1⟩ := right_mi p hB0
    by_cases p1 : m.to = a.id
    · have e42 := s_42 (n := n) (k := k) (by omega) (by omega) h (by omega) hm
      have e43 := s_43 (n := n) (k := k) (by omega) h hB hn hm
      have e41 := s_41 (n := n) (k := k) (by omega) h hB hn hm.mt hm.f0 hm.f1
      have e40 := s_40 (n := n) (k := k) (by omega) h (by omega) hm.mt
      by_cases c1 : m.kind = 1
      · simp (maxSteps := 2000000) (discharger := omega) only [r_ite, r_add, r_sub, r_mul, r_quo, r_rem, r_lt, r_le, r_eq, r_bnot, r_or, r_and, r_isel, r_beq, r_band, r_bimp, r_imax, r_imin, r_call, r_gcall, r_bind, Option.bind_some, fits_ok, mfit_ok, wrap_i64, both_self, node_eta, msg_eta, entry_eta, hard_eta, decide_eq_true_eq, Bool.and_eq_true, Bool.or_eq_true, Bool.not_eq_true', decide_eq_false_iff_not, Bool.not_not, eq_self, not_true_eq_false, not_false_eq_true, Bool.false_eq_true, Bool.true_eq_false, Bool.not_false, Bool.not_true, if_true, if_false, true_and, and_true, or_false, false_or, or_true, true_or, and_false, false_and, true_implies, if_pos, if_neg, len_58, get_58, app_58, set_58, cut_58, rep_58, emp_58, len_30, get_30, app_30, set_30, cut_30, rep_30, emp_30, len_27, get_27, app_27, set_27, cut_27, rep_27, emp_27, len_i, get_i, app_i, set_i, cut_i, rep_i, emp_i, len_b, get_b, app_b, set_b, cut_b, rep_b, emp_b, e18, p, e40]
      by_cases c2 : m.kind = 2
      · by_cases w : won a m = true
        · rw [if_pos w] at e41
          simp (maxSteps := 2000000) (discharger := omega) only [r_ite, r_add, r_sub, r_mul, r_quo, r_rem, r_lt, r_le, r_eq, r_bnot, r_or, r_and, r_isel, r_beq, r_band, r_bimp, r_imax, r_imin, r_call, r_gcall, r_bind, Option.bind_some, fits_ok, mfit_ok, wrap_i64, both_self, node_eta, msg_eta, entry_eta, hard_eta, decide_eq_true_eq, Bool.and_eq_true, Bool.or_eq_true, Bool.not_eq_true', decide_eq_false_iff_not, Bool.not_not, eq_self, not_true_eq_false, not_false_eq_true, Bool.false_eq_true, Bool.true_eq_false, Bool.not_false, Bool.not_true, if_true, if_false, true_and, and_true, or_false, false_or, or_true, true_or, and_false, false_and, true_implies, if_pos, if_neg, len_58, get_58, app_58, set_58, cut_58, rep_58, emp_58, len_30, get_30, app_30, set_30, cut_30, rep_30, emp_30, len_27, get_27, app_27, set_27, cut_27, rep_27, emp_27, len_i, get_i, app_i, set_i, cut_i, rep_i, emp_i, len_b, get_b, app_b, set_b, cut_b, rep_b, emp_b, e18, p, e41, w]
        · rw [if_neg w] at e41
          have w' : won a m = false := by simpa using w
          simp (maxSteps := 2000000) (discharger := omega) only [r_ite, r_add, r_sub, r_mul, r_quo, r_rem, r_lt, r_le, r_eq, r_bnot, r_or, r_and, r_isel, r_beq, r_band, r_bimp, r_imax, r_imin, r_call, r_gcall, r_bind, Option.bind_some, fits_ok, mfit_ok, wrap_i64, both_self, node_eta, msg_eta, entry_eta, hard_eta, decide_eq_true_eq, Bool.and_eq_true, Bool.or_eq_true, Bool.not_eq_true', decide_eq_false_iff_not, Bool.not_not, eq_self, not_true_eq_false, not_false_eq_true, Bool.false_eq_true, Bool.true_eq_false, Bool.not_false, Bool.not_true, if_true, if_false, true_and, and_true, or_false, false_or, or_true, true_or, and_false, false_and, true_implies, if_pos, if_neg, len_58, get_58, app_58, set_58, cut_58, rep_58, emp_58, len_30, get_30, app_30, set_30, cut_30, rep_30, emp_30, len_27, get_27, app_27, set_27, cut_27, rep_27, emp_27, len_i, get_i, app_i, set_i, cut_i, rep_i, emp_i, len_b, get_b, app_b, set_b, cut_b, rep_b, emp_b, e18, p, e41, w']
      by_cases c4 : m.kind = 4
      · simp (maxSteps := 2000000) (discharger := omega) only [r_ite, r_add, r_sub, r_mul, r_quo, r_rem, r_lt, r_le, r_eq, r_bnot, r_or, r_and, r_isel, r_beq, r_band, r_bimp, r_imax, r_imin, r_call, r_gcall, r_bind, Option.bind_some, fits_ok, mfit_ok, wrap_i64, both_self, node_eta, msg_eta, entry_eta, hard_eta, decide_eq_true_eq, Bool.and_eq_true, Bool.or_eq_true, Bool.not_eq_true', decide_eq_false_iff_not, Bool.not_not, eq_self, not_true_eq_false, not_false_eq_true, Bool.false_eq_true, Bool.true_eq_false, Bool.not_false, Bool.not_true, if_true, if_false, true_and, and_true, or_false, false_or, or_true, true_or, and_false, false_and, true_implies, if_pos, if_neg, len_58, get_58, app_58, set_58, cut_58, rep_58, emp_58, len_30, get_30, app_30, set_30, cut_30, rep_30, emp_30, len_27, get_27, app_27, set_27, cut_27, rep_27, emp_27, len_i, get_i, app_i, set_i, cut_i, rep_i, emp_i, len_b, get_b, app_b, set_b, cut_b, rep_b, emp_b, e18, p, e43]
      by_cases c5 : m.kind = 5
      · simp (maxSteps := 2000000) (discharger := omega) only [r_ite, r_add, r_sub, r_mul, r_quo, r_rem, r_lt, r_le, r_eq, r_bnot, r_or, r_and, r_isel, r_beq, r_band, r_bimp, r_imax, r_imin, r_call, r_gcall, r_bind, Option.bind_some, fits_ok, mfit_ok, wrap_i64, both_self, node_eta, msg_eta, entry_eta, hard_eta, decide_eq_true_eq, Bool.and_eq_true, Bool.or_eq_true, Bool.not_eq_true', decide_eq_false_iff_not, Bool.not_not, eq_self, not_true_eq_false, not_false_eq_true, Bool.false_eq_true, Bool.true_eq_false, Bool.not_false, Bool.not_true, if_true, if_false, true_and, and_true, or_false, false_or, or_true, true_or, and_false, false_and, true_implies, if_pos, if_neg, len_58, get_58, app_58, set_58, cut_58, rep_58, emp_58, len_30, get_30, app_30, set_30, cut_30, rep_30, emp_30, len_27, get_27, app_27, set_27, cut_27, rep_27, emp_27, len_i, get_i, app_i, set_i, cut_i, rep_i, emp_i, len_b, get_b, app_b, set_b, cut_b, rep_b, emp_b, e18, p, e42]
      · simp (maxSteps := 2000000) (discharger := omega) only [r_ite, r_add, r_sub, r_mul, r_quo, r_rem, r_lt, r_le, r_eq, r_bnot, r_or, r_and, r_isel, r_beq, r_band, r_bimp, r_imax, r_imin, r_call, r_gcall, r_bind, Option.bind_some, fits_ok, mfit_ok, wrap_i64, both_self, node_eta, msg_eta, entry_eta, hard_eta, decide_eq_true_eq, Bool.and_eq_true, Bool.or_eq_true, Bool.not_eq_true', decide_eq_false_iff_not, Bool.not_not, eq_self, not_true_eq_false, not_false_eq_true, Bool.false_eq_true, Bool.true_eq_false, Bool.not_false, Bool.not_true, if_true, if_false, true_and, and_true, or_false, false_or, or_true, true_or, and_false, false_and, true_implies, if_pos, if_neg, len_58, get_58, app_58, set_58, cut_58, rep_58, emp_58, len_30, get_30, app_30, set_30, cut_30, rep_30, emp_30, len_27, get_27, app_27, set_27, cut_27, rep_27, emp_27, len_i, get_i, app_i, set_i, cut_i, rep_i, emp_i, len_b, get_b, app_b, set_b, cut_b, rep_b, emp_b, e18, p, e42]
    · simp (maxSteps := 2000000) (discharger := omega) only [r_ite, r_add, r_sub, r_mul, r_quo, r_rem, r_lt, r_le, r_eq, r_bnot, r_or, r_and, r_isel, r_beq, r_band, r_bimp, r_imax, r_imin, r_call, r_gcall, r_bind, Option.bind_some, fits_ok, mfit_ok, wrap_i64, both_self, node_eta, msg_eta, entry_eta, hard_eta, decide_eq_true_eq, Bool.and_eq_true, Bool.or_eq_true, Bool.not_eq_true', decide_eq_false_iff_not, Bool.not_not, eq_self, not_true_eq_false, not_false_eq_true, Bool.false_eq_true, Bool.true_eq_false, Bool.not_false, Bool.not_true, if_true, if_false, true_and, and_true, or_false, false_or, or_true, true_or, and_false, false_and, true_implies, if_pos, if_neg, len_58, get_58, app_58, set_58, cut_58, rep_58, emp_58, len_30, get_30, app_30, set_30, cut_30, rep_30, emp_30, len_27, get_27, app_27, set_27, cut_27, rep_27, emp_27, len_i, get_i, app_i, set_i, cut_i, rep_i, emp_i, len_b, get_b, app_b, set_b, cut_b, rep_b, emp_b, e18, p]
  · have p' : right m a.nodes = false := by simpa using p
    simp (maxSteps := 2000000) (discharger := omega) only [r_ite, r_add, r_sub, r_mul, r_quo, r_rem, r_lt, r_le, r_eq, r_bnot, r_or, r_and, r_isel, r_beq, r_band, r_bimp, r_imax, r_imin, r_call, r_gcall, r_bind, Option.bind_some, fits_ok, mfit_ok, wrap_i64, both_self, node_eta, msg_eta, entry_eta, hard_eta, decide_eq_true_eq, Bool.and_eq_true, Bool.or_eq_true, Bool.not_eq_true', decide_eq_false_iff_not, Bool.not_not, eq_self, not_true_eq_false, not_false_eq_true, Bool.false_eq_true, Bool.true_eq_false, Bool.not_false, Bool.not_true, if_true, if_false, true_and, and_true, or_false, false_or, or_true, true_or, and_false, false_and, true_implies, if_pos, if_neg, len_58, get_58, app_58, set_58, cut_58, rep_58, emp_58, len_30, get_30, app_30, set_30, cut_30, rep_30, emp_30, len_27, get_27, app_27, set_27, cut_27, rep_27, emp_27, len_i, get_i, app_i, set_i, cut_i, rep_i, emp_i, len_b, get_b, app_b, set_b, cut_b, rep_b, emp_b, e18, p']

theorem s_13 (hk : 7 ≤ k) (h : NI B a) (hB0 : 2^40 ≤ B) (hB : B ≤ 2^41 - 4) (hn : (a.log.length : Int) + 101 ≤ n) {m : Msg} :
    C n k 13 [⟨.st 27, a⟩, ⟨.st 30, m⟩] [.st 27, .sl (.st 30)] = some ((step a m).1, ((step a m).2, ())) := by
  obtain ⟨k, rfl⟩ : ∃ k1, k = k1 + 1 := ⟨k - 1, by omega⟩
  rw [C_succ, nf_13]
  have e18 := s_19 (n := n) (k := k) (m := m) (N := a.nodes) (by omega) (by omega)
  unfold step
  by_cases p : right m a.nodes = true
  · obtain ⟨hm, q0, q1⟩ := right_mi p hB0
    by_cases p1 : m.to = a.id
    · have e42 := s_47 (n := n) (k := k) (by omega) (by omega) h (by omega) hm
      have e43 := s_46 (n := n) (k := k) (by omega) h hB hn hm
      have e45 := s_45 (n := n) (k := k) (by omega) (by omega) h hm.mt hm.f0 hm.f1
      have e39 := s_39 (n := n) (k := k) (by omega) (h.given hm.mt) hB (by rw [given_log]; omega)
      have e40 := s_44 (n := n) (k := k) (by omega) h (by omega) hm.mt
      by_cases c1 : m.kind = 1
      · simp (maxSteps := 2000000) (discharger := omega) only [r_ite, r_add, r_sub, r_mul, r_quo, r_rem, r_lt, r_le, r_eq, r_bnot, r_or, r_and, r_isel, r_beq, r_band, r_bimp, r_imax, r_imin, r_call, r_gcall, r_bind, Option.bind_some, fits_ok, mfit_ok, wrap_i64, both_self, node_eta, msg_eta, entry_eta, hard_eta, decide_eq_true_eq, Bool.and_eq_true, Bool.or_eq_true, Bool.not_eq_true', decide_eq_false_iff_not, Bool.not_not, eq_self, not_true_eq_false, not_false_eq_true, Bool.false_eq_true, Bool.true_eq_false, Bool.not_false, Bool.not_true, if_true, if_false, true_and, and_true, or_false, false_or, or_true, true_or, and_false, false_and, true_implies, if_pos, if_neg, len_58, get_58, app_58, set_58, cut_58, rep_58, emp_58, len_30, get_30, app_30, set_30, cut_30, rep_30, emp_30, len_27, get_27, app_27, set_27, cut_27, rep_27, emp_27, len_i, get_i, app_i, set_i, cut_i, rep_i, emp_i, len_b, get_b, app_b, set_b, cut_b, rep_b, emp_b, e18, p, e40]
      by_cases c2 : m.kind = 2
      · by_cases w : won a m = true
        · simp (maxSteps := 2000000) (discharger := omega) only [r_ite, r_add, r_sub, r_mul, r_quo, r_rem, r_lt, r_le, r_eq, r_bnot, r_or, r_and, r_isel, r_beq, r_band, r_bimp, r_imax, r_imin, r_call, r_gcall, r_bind, Option.bind_some, fits_ok, mfit_ok, wrap_i64, both_self, node_eta, msg_eta, entry_eta, hard_eta, decide_eq_true_eq, Bool.and_eq_true, Bool.or_eq_true, Bool.not_eq_true', decide_eq_false_iff_not, Bool.not_not, eq_self, not_true_eq_false, not_false_eq_true, Bool.false_eq_true, Bool.true_eq_false, Bool.not_false, Bool.not_true, if_true, if_false, true_and, and_true, or_false, false_or, or_true, true_or, and_false, false_and, true_implies, if_pos, if_neg, len_58, get_58, app_58, set_58, cut_58, rep_58, emp_58, len_30, get_30, app_30, set_30, cut_30, rep_30, emp_30, len_27, get_27, app_27, set_27, cut_27, rep_27, emp_27, len_i, get_i, app_i, set_i, cut_i, rep_i, emp_i, len_b, get_b, app_b, set_b, cut_b, rep_b, emp_b, e18, p, e45, e39, w]
        · have w' : won a m = false := by simpa using w
          simp (maxSteps := 2000000) (discharger := omega) only [r_ite, r_add, r_sub, r_mul, r_quo, r_rem, r_lt, r_le, r_eq, r_bnot, r_or, r_and, r_isel, r_beq, r_band, r_bimp, r_imax, r_imin, r_call, r_gcall, r_bind, Option.bind_some, fits_ok, mfit_ok, wrap_i64, both_self, node_eta, msg_eta, entry_eta, hard_eta, decide_eq_true_eq, Bool.and_eq_true, Bool.or_eq_true, Bool.not_eq_true', decide_eq_false_iff_not, Bool.not_not, eq_self, not_true_eq_false, not_false_eq_true, Bool.false_eq_true, Bool.true_eq_false, Bool.not_false, Bool.not_true, if_true, if_false, true_and, and_true, or_false, false_or, or_true, true_or, and_false, false_and, true_implies, if_pos, if_neg, len_58, get_58, app_58, set_58, cut_58, rep_58, emp_58, len_30, get_30, app_30, set_30, cut_30, rep_30, emp_30, len_27, get_27, app_27, set_27, cut_27, rep_27, emp_27, len_i, get_i, app_i, set_i, cut_i, rep_i, emp_i, len_b, get_b, app_b, set_b, cut_b, rep_b, emp_b, e18, p, e45, w']
      by_cases c4 : m.kind = 4
      · simp (maxSteps := 2000000) (discharger := omega) only [r_ite, r_add, r_sub, r_mul, r_quo, r_rem, r_lt, r_le, r_eq, r_bnot, r_or, r_and, r_isel, r_beq, r_band, r_bimp, r_imax, r_imin, r_call, r_gcall, r_bind, Option.bind_some, fits_ok, mfit_ok, wrap_i64, both_self, node_eta, msg_eta, entry_eta, hard_eta, decide_eq_true_eq, Bool.and_eq_true, Bool.or_eq_true, Bool.not_eq_true', decide_eq_false_iff_not, Bool.not_not, eq_self, not_true_eq_false, not_false_eq_true, Bool.false_eq_true, Bool.true_eq_false, Bool.not_false, Bool.not_true, if_true, if_false, true_and, and_true, or_false, false_or, or_true, true_or, and_false, false_and, true_implies, if_pos, if_neg, len_58, get_58, app_58, set_58, cut_58, rep_58, emp_58, len_30, get_30, app_30, set_30, cut_30, rep_30, emp_30, len_27, get_27, app_27, set_27, cut_27, rep_27, emp_27, len_i, get_i, app_i, set_i, cut_i, rep_i, emp_i, len_b, get_b, app_b, set_b, cut_b, rep_b, emp_b, e18, p, e43]
      · simp (maxSteps := 2000000) (discharger := omega) only [r_ite, r_add, r_sub, r_mul, r_quo, r_rem, r_lt, r_le, r_eq, r_bnot, r_or, r_and, r_isel, r_beq, r_band, r_bimp, r_imax, r_imin, r_call, r_gcall, r_bind, Option.bind_some, fits_ok, mfit_ok, wrap_i64, both_self, node_eta, msg_eta, entry_eta, hard_eta, decide_eq_true_eq, Bool.and_eq_true, Bool.or_eq_true, Bool.not_eq_true', decide_eq_false_iff_not, Bool.not_not, eq_self, not_true_eq_false, not_false_eq_true, Bool.false_eq_true, Bool.true_eq_false, Bool.not_false, Bool.not_true, if_true, if_false, true_and, and_true, or_false, false_or, or_true, true_or, and_false, false_and, true_implies, if_pos, if_neg, len_58, get_58, app_58, set_58, cut_58, rep_58, emp_58, len_30, get_30, app_30, set_30, cut_30, rep_30, emp_30, len_27, get_27, app_27, set_27, cut_27, rep_27, emp_27, len_i, get_i, app_i, set_i, cut_i, rep_i, emp_i, len_b, get_b, app_b, set_b, cut_b, rep_b, emp_b, e18, p, e42]
    · simp (maxSteps := 2000000) (discharger := omega) only [r_ite, r_add, r_sub, r_mul, r_quo, r_rem, r_lt, r_le, r_eq, r_bnot, r_or, r_and, r_isel, r_beq, r_band, r_bimp, r_imax, r_imin, r_call, r_gcall, r_bind, Option.bind_some, fits_ok, mfit_ok, wrap_i64, both_self, node_eta, msg_eta, entry_eta, hard_eta, decide_eq_true_eq, Bool.and_eq_true, Bool.or_eq_true, Bool.not_eq_true', decide_eq_false_iff_not, Bool.not_not, eq_self, not_true_eq_false, not_false_eq_true, Bool.false_eq_true, Bool.true_eq_false, Bool.not_false, Bool.not_true, if_true, if_false, true_and, and_true, or_false, false_or, or_true, true_or, and_false, false_and, true_implies, if_pos, if_neg, len_58, get_58, app_58, set_58, cut_58, rep_58, emp_58, len_30, get_30, app_30, set_30, cut_30, rep_30, emp_30, len_27, get_27, app_27, set_27, cut_27, rep_27, emp_27, len_i, get_i, app_i, set_i, cut_i, rep_i, emp_i, len_b, get_b, app_b, set_b, cut_b, rep_b, emp_b, e18, p]
  · have p' : right m a.nodes = false := by simpa using p
    simp (maxSteps := 2000000) (discharger := omega) only [r_ite, r_add, r_sub, r_mul, r_quo, r_rem, r_lt, r_le, r_eq, r_bnot, r_or, r_and, r_isel, r_beq, r_band, r_bimp, r_imax, r_imin, r_call, r_gcall, r_bind, Option.bind_some, fits_ok, mfit_ok, wrap_i64, both_self, node_eta, msg_eta, entry_eta, hard_eta, decide_eq_true_eq, Bool.and_eq_true, Bool.or_eq_true, Bool.not_eq_true', decide_eq_false_iff_not, Bool.not_not, eq_self, not_true_eq_false, not_false_eq_true, Bool.false_eq_true, Bool.true_eq_false, Bool.not_false, Bool.not_true, if_true, if_false, true_and, and_true, or_false, false_or, or_true, true_or, and_false, false_and, true_implies, if_pos, if_neg, len_58, get_58, app_58, set_58, cut_58, rep_58, emp_58, len_30, get_30, app_30, set_30, cut_30, rep_30, emp_30, len_27, get_27, app_27, set_27, cut_27, rep_27, emp_27, len_i, get_i, app_i, set_i, cut_i, rep_i, emp_i, len_b, get_b, app_b, set_b, cut_b, rep_b, emp_b, e18, p']

theorem oth_len {f : Int → Msg} {id : Int} : ∀ (m : Nat) (i : Int), (oth f id m i).length ≤ m
  | 0, _ => Nat.le_refl _
  | m + 1, i => by
    have := oth_len (f := f) (id := id) m (i + 1)
    unfold oth
    split
    · omega
    · simp only [List.length_cons]; omega

theorem NI.clock {c : Int} (h : NI B a) (h0 : 0 ≤ c) (h1 : c ≤ B) : NI B { a with clock := c } := by
  have q := h; obtain ⟨n1, n5, i0, i1, lv, lx, lm, t0, t1, b0, b1, c0, c1, k0, k1, ll, la, nx, mx⟩ := q
  exact ⟨n1, n5, i0, i1, lv, lx, lm, t0, t1, b0, b1, c0, c1, h0, h1, ll, la, nx, mx⟩

theorem s_10 (hk : 6 ≤ k) (h : NI B a) (hB : B ≤ 2^41 - 8) (hn : (a.log.length : Int) + 101 ≤ n) :
    C n k 10 [⟨.st 27, a⟩] [.st 27, .sl (.st 30)] = some ((tick a).1, ((tick a).2, ())) := by
  obtain ⟨k, rfl⟩ : ∃ k1, k = k1 + 1 := ⟨k - 1, by omega⟩
  rw [C_succ, nf_10]
  have hS := h.start
  have hL := hS.lead
  have h' := h
  have q := h'; obtain ⟨n1, n5, i0, i1, lv, lx, lm, t0, t1, b0, b1, c0, c1, k0, k1, ll, la, nx, mx⟩ := q
  have hl : last a = a.base + a.log.length := rfl
  have e32 := s_32 (n := n) (k := k) (by omega) (by omega) (h.clock (c := 0) (by omega) (by omega)) (by omega)
  unfold tick
  by_cases p : a.role = 2
  · by_cases p1 : a.clock + 1 < 3
    · simp (maxSteps := 2000000) (discharger := omega) only [r_ite, r_add, r_sub, r_mul, r_quo, r_rem, r_lt, r_le, r_eq, r_bnot, r_or, r_and, r_isel, r_beq, r_band, r_bimp, r_imax, r_imin, r_call, r_gcall, r_bind, Option.bind_some, fits_ok, mfit_ok, wrap_i64, both_self, node_eta, msg_eta, entry_eta, hard_eta, decide_eq_true_eq, Bool.and_eq_true, Bool.or_eq_true, Bool.not_eq_true', decide_eq_false_iff_not, Bool.not_not, eq_self, not_true_eq_false, not_false_eq_true, Bool.false_eq_true, Bool.true_eq_false, Bool.not_false, Bool.not_true, if_true, if_false, true_and, and_true, or_false, false_or, or_true, true_or, and_false, false_and, true_implies, if_pos, if_neg, len_58, get_58, app_58, set_58, cut_58, rep_58, emp_58, len_30, get_30, app_30, set_30, cut_30, rep_30, emp_30, len_27, get_27, app_27, set_27, cut_27, rep_27, emp_27, len_i, get_i, app_i, set_i, cut_i, rep_i, emp_i, len_b, get_b, app_b, set_b, cut_b, rep_b, emp_b]
    · simp (maxSteps := 2000000) (discharger := omega) only [r_ite, r_add, r_sub, r_mul, r_quo, r_rem, r_lt, r_le, r_eq, r_bnot, r_or, r_and, r_isel, r_beq, r_band, r_bimp, r_imax, r_imin, r_call, r_gcall, r_bind, Option.bind_some, fits_ok, mfit_ok, wrap_i64, both_self, node_eta, msg_eta, entry_eta, hard_eta, decide_eq_true_eq, Bool.and_eq_true, Bool.or_eq_true, Bool.not_eq_true', decide_eq_false_iff_not, Bool.not_not, eq_self, not_true_eq_false, not_false_eq_true, Bool.false_eq_true, Bool.true_eq_false, Bool.not_false, Bool.not_true, if_true, if_false, true_and, and_true, or_false, false_or, or_true, true_or, and_false, false_and, true_implies, if_pos, if_neg, len_58, get_58, app_58, set_58, cut_58, rep_58, emp_58, len_30, get_30, app_30, set_30, cut_30, rep_30, emp_30, len_27, get_27, app_27, set_27, cut_27, rep_27, emp_27, len_i, get_i, app_i, set_i, cut_i, rep_i, emp_i, len_b, get_b, app_b, set_b, cut_b, rep_b, emp_b, e32]
  by_cases p2 : a.clock + 1 < 10 + 5 * a.id
  · simp (maxSteps := 2000000) (discharger := omega) only [r_ite, r_add, r_sub, r_mul, r_quo, r_rem, r_lt, r_le, r_eq, r_bnot, r_or, r_and, r_isel, r_beq, r_band, r_bimp, r_imax, r_imin, r_call, r_gcall, r_bind, Option.bind_some, fits_ok, mfit_ok, wrap_i64, both_self, node_eta, msg_eta, entry_eta, hard_eta, decide_eq_true_eq, Bool.and_eq_true, Bool.or_eq_true, Bool.not_eq_true', decide_eq_false_iff_not, Bool.not_not, eq_self, not_true_eq_false, not_false_eq_true, Bool.false_eq_true, Bool.true_eq_false, Bool.not_false, Bool.not_true, if_true, if_false, true_and, and_true, or_false, false_or, or_true, true_or, and_false, false_and, true_implies, if_pos, if_neg, len_58, get_58, app_58, set_58, cut_58, rep_58, emp_58, len_30, get_30, app_30, set_30, cut_30, rep_30, emp_30, len_27, get_27, app_27, set_27, cut_27, rep_27, emp_27, len_i, get_i, app_i, set_i, cut_i, rep_i, emp_i, len_b, get_b, app_b, set_b, cut_b, rep_b, emp_b]
  have e64 : C n k 64 [⟨.st 27, (⟨a.id, a.nodes, a.term + 1, a.id, a.base, a.baseTerm, a.snap, a.log, 1, -1, a.commit, a.votes, a.next, a.match, 0⟩ : Node)⟩] [.st 27] = some (start a, ()) :=
    s_64 (a := (⟨a.id, a.nodes, a.term + 1, a.id, a.base, a.baseTerm, a.snap, a.log, 1, -1, a.commit, a.votes, a.next, a.match, 0⟩ : Node)) (by omega) n1 n5 i0 i1
  have e50 : C n k 50 [⟨.st 27, start a⟩] [.int .i64] = some (last a, ()) := s_50 (a := start a) (by omega) (by show _ ≤ a.base; omega) (by show a.base ≤ _; omega) (by show (a.log.length : Int) ≤ _; omega)
  have e65 : C n k 65 [⟨.st 27, start a⟩, ⟨.int .i64, last a⟩] [.int .i64, .bool] = some (termAt a (last a), (termOk a (last a), ())) :=
    s_65 (a := start a) (i := last a) (by omega) (by show 0 ≤ a.base; omega) (by show a.base ≤ _; omega) (by show (a.log.length : Int) ≤ _; omega) (by omega) (by omega)
  have e34 := s_34 (n := n) (k := k) (a := start a) (by omega) hS.n1 hS.n5
  have e35 := s_35 (n := n) (k := k) (by omega) hS (by omega) hn
  have v1 : ((start a).votes.length : Int) = a.nodes := by unfold start; simp only [List.length_set, List.length_replicate]; omega
  have v2 : (start a).id = a.id := rfl
  have v3 : (start a).term = a.term + 1 := rfl
  have hs : ((sends (lead (start a))).length : Int) ≤ 5 := by
    have := oth_len (f := send (lead (start a))) (id := (lead (start a)).id) (lead (start a)).nodes.toNat 0
    have := hL.n5
    unfold sends
    omega
  simp (maxSteps := 2000000) (discharger := omega) only [r_ite, r_add, r_sub, r_mul, r_quo, r_rem, r_lt, r_le, r_eq, r_bnot, r_or, r_and, r_isel, r_beq, r_band, r_bimp, r_imax, r_imin, r_call, r_gcall, r_bind, Option.bind_some, fits_ok, mfit_ok, wrap_i64, both_self, node_eta, msg_eta, entry_eta, hard_eta, decide_eq_true_eq, Bool.and_eq_true, Bool.or_eq_true, Bool.not_eq_true', decide_eq_false_iff_not, Bool.not_not, eq_self, not_true_eq_false, not_false_eq_true, Bool.false_eq_true, Bool.true_eq_false, Bool.not_false, Bool.not_true, if_true, if_false, true_and, and_true, or_false, false_or, or_true, true_or, and_false, false_and, true_implies, if_pos, if_neg, len_58, get_58, app_58, set_58, cut_58, rep_58, emp_58, len_30, get_30, app_30, set_30, cut_30, rep_30, emp_30, len_27, get_27, app_27, set_27, cut_27, rep_27, emp_27, len_i, get_i, app_i, set_i, cut_i, rep_i, emp_i, len_b, get_b, app_b, set_b, cut_b, rep_b, emp_b, e64, e50, e65, r_loop]
  refine (iter_rule' (fun x => (a.nodes - x.2.1).toNat) (fun x => 0 ≤ x.2.1 ∧ x.2.1 ≤ a.nodes ∧ (x.1.length : Int) ≤ x.2.1)
    (fun x => if most (start a) = 1 then some (lead (start a), ((x.1 ++ oth (fun i => ⟨1, a.id, i, a.term + 1, last a, termAt a (last a), false, 0, [], ⟨#[]⟩⟩) a.id (a.nodes - x.2.1).toNat x.2.1) ++ sends (lead (start a)), ()))
      else some (start a, (x.1 ++ oth (fun i => ⟨1, a.id, i, a.term + 1, last a, termAt a (last a), false, 0, [], ⟨#[]⟩⟩) a.id (a.nodes - x.2.1).toNat x.2.1, ()))) ?_ n _ ⟨by simp only <;> omega, by simp only <;> omega, by simp⟩ (by simp only; omega)).trans ?_
  · rintro next ⟨acc, i, rest⟩ ⟨j0, j1, j2⟩ ih
    simp only at j0 j1 j2
    by_cases q3 : i < a.nodes
    · simp only [oth_step q3]
      by_cases q4 : i = a.id
      · simp only [if_pos q4]
        simp (maxSteps := 2000000) (discharger := omega) only [r_ite, r_add, r_sub, r_mul, r_quo, r_rem, r_lt, r_le, r_eq, r_bnot, r_or, r_and, r_isel, r_beq, r_band, r_bimp, r_imax, r_imin, r_call, r_gcall, r_bind, Option.bind_some, fits_ok, mfit_ok, wrap_i64, both_self, node_eta, msg_eta, entry_eta, hard_eta, decide_eq_true_eq, Bool.and_eq_true, Bool.or_eq_true, Bool.not_eq_true', decide_eq_false_iff_not, Bool.not_not, eq_self, not_true_eq_false, not_false_eq_true, Bool.false_eq_true, Bool.true_eq_false, Bool.not_false, Bool.not_true, if_true, if_false, true_and, and_true, or_false, false_or, or_true, true_or, and_false, false_and, true_implies, if_pos, if_neg, len_58, get_58, app_58, set_58, cut_58, rep_58, emp_58, len_30, get_30, app_30, set_30, cut_30, rep_30, emp_30, len_27, get_27, app_27, set_27, cut_27, rep_27, emp_27, len_i, get_i, app_i, set_i, cut_i, rep_i, emp_i, len_b, get_b, app_b, set_b, cut_b, rep_b, emp_b, v1, v2, v3]
        rw [ih _ ⟨by simp only; omega, by simp only; omega, by simp only; omega⟩ (by simp only; omega)]
      · simp only [if_neg q4]
        simp (maxSteps := 2000000) (discharger := omega) only [r_ite, r_add, r_sub, r_mul, r_quo, r_rem, r_lt, r_le, r_eq, r_bnot, r_or, r_and, r_isel, r_beq, r_band, r_bimp, r_imax, r_imin, r_call, r_gcall, r_bind, Option.bind_some, fits_ok, mfit_ok, wrap_i64, both_self, node_eta, msg_eta, entry_eta, hard_eta, decide_eq_true_eq, Bool.and_eq_true, Bool.or_eq_true, Bool.not_eq_true', decide_eq_false_iff_not, Bool.not_not, eq_self, not_true_eq_false, not_false_eq_true, Bool.false_eq_true, Bool.true_eq_false, Bool.not_false, Bool.not_true, if_true, if_false, true_and, and_true, or_false, false_or, or_true, true_or, and_false, false_and, true_implies, if_pos, if_neg, len_58, get_58, app_58, set_58, cut_58, rep_58, emp_58, len_30, get_30, app_30, set_30, cut_30, rep_30, emp_30, len_27, get_27, app_27, set_27, cut_27, rep_27, emp_27, len_i, get_i, app_i, set_i, cut_i, rep_i, emp_i, len_b, get_b, app_b, set_b, cut_b, rep_b, emp_b, v1, v2, v3, List.length_singleton]
        rw [ih _ ⟨by simp only; omega, by simp only; omega, by simp only [List.length_append, List.length_singleton]; omega⟩ (by simp only; omega)]
        simp only [List.append_assoc, List.singleton_append, List.cons_append, List.nil_append]
    · simp only [oth_end (show a.nodes ≤ i by omega), List.append_nil]
      by_cases q5 : most (start a) = 1
      · simp (maxSteps := 2000000) (discharger := omega) only [r_ite, r_add, r_sub, r_mul, r_quo, r_rem, r_lt, r_le, r_eq, r_bnot, r_or, r_and, r_isel, r_beq, r_band, r_bimp, r_imax, r_imin, r_call, r_gcall, r_bind, Option.bind_some, fits_ok, mfit_ok, wrap_i64, both_self, node_eta, msg_eta, entry_eta, hard_eta, decide_eq_true_eq, Bool.and_eq_true, Bool.or_eq_true, Bool.not_eq_true', decide_eq_false_iff_not, Bool.not_not, eq_self, not_true_eq_false, not_false_eq_true, Bool.false_eq_true, Bool.true_eq_false, Bool.not_false, Bool.not_true, if_true, if_false, true_and, and_true, or_false, false_or, or_true, true_or, and_false, false_and, true_implies, if_pos, if_neg, len_58, get_58, app_58, set_58, cut_58, rep_58, emp_58, len_30, get_30, app_30, set_30, cut_30, rep_30, emp_30, len_27, get_27, app_27, set_27, cut_27, rep_27, emp_27, len_i, get_i, app_i, set_i, cut_i, rep_i, emp_i, len_b, get_b, app_b, set_b, cut_b, rep_b, emp_b, v1, e34, e35]
      · simp (maxSteps := 2000000) (discharger := omega) only [r_ite, r_add, r_sub, r_mul, r_quo, r_rem, r_lt, r_le, r_eq, r_bnot, r_or, r_and, r_isel, r_beq, r_band, r_bimp, r_imax, r_imin, r_call, r_gcall, r_bind, Option.bind_some, fits_ok, mfit_ok, wrap_i64, both_self, node_eta, msg_eta, entry_eta, hard_eta, decide_eq_true_eq, Bool.and_eq_true, Bool.or_eq_true, Bool.not_eq_true', decide_eq_false_iff_not, Bool.not_not, eq_self, not_true_eq_false, not_false_eq_true, Bool.false_eq_true, Bool.true_eq_false, Bool.not_false, Bool.not_true, if_true, if_false, true_and, and_true, or_false, false_or, or_true, true_or, and_false, false_and, true_implies, if_pos, if_neg, len_58, get_58, app_58, set_58, cut_58, rep_58, emp_58, len_30, get_30, app_30, set_30, cut_30, rep_30, emp_30, len_27, get_27, app_27, set_27, cut_27, rep_27, emp_27, len_i, get_i, app_i, set_i, cut_i, rep_i, emp_i, len_b, get_b, app_b, set_b, cut_b, rep_b, emp_b, v1, e34]
  · unfold startMsgs
    simp only [List.nil_append, Int.sub_zero]
    by_cases q5 : most (start a) = 1
    · simp only [if_pos q5]
    · simp only [if_neg q5]

theorem s_11 (hk : 7 ≤ k) (h : NI B a) (hB : B ≤ 2^41 - 8) (hn : (a.log.length : Int) + 101 ≤ n) :
    C n k 11 [⟨.st 27, a⟩] [.st 27, .sl (.st 30)] = some ((tick a).1, ((tick a).2, ())) := by
  obtain ⟨k, rfl⟩ : ∃ k1, k = k1 + 1 := ⟨k - 1, by omega⟩
  rw [C_succ, nf_11]
  have hS := h.start
  have hL := hS.lead
  have h' := h
  have q := h'; obtain ⟨n1, n5, i0, i1, lv, lx, lm, t0, t1, b0, b1, c0, c1, k0, k1, ll, la, nx, mx⟩ := q
  have hl : last a = a.base + a.log.length := rfl
  have e32 := s_36 (n := n) (k := k) (by omega) (by omega) (h.clock (c := 0) (by omega) (by omega)) (by omega)
  unfold tick
  by_cases p : a.role = 2
  · by_cases p1 : a.clock + 1 < 3
    · simp (maxSteps := 2000000) (discharger := omega) only [r_ite, r_add, r_sub, r_mul, r_quo, r_rem, r_lt, r_le, r_eq, r_bnot, r_or, r_and, r_isel, r_beq, r_band, r_bimp, r_imax, r_imin, r_call, r_gcall, r_bind, Option.bind_some, fits_ok, mfit_ok, wrap_i64, both_self, node_eta, msg_eta, entry_eta, hard_eta, decide_eq_true_eq, Bool.and_eq_true, Bool.or_eq_true, Bool.not_eq_true', decide_eq_false_iff_not, Bool.not_not, eq_self, not_true_eq_false, not_false_eq_true, Bool.false_eq_true, Bool.true_eq_false, Bool.not_false, Bool.not_true, if_true, if_false, true_and, and_true, or_false, false_or, or_true, true_or, and_false, false_and, true_implies, if_pos, if_neg, len_58, get_58, app_58, set_58, cut_58, rep_58, emp_58, len_30, get_30, app_30, set_30, cut_30, rep_30, emp_30, len_27, get_27, app_27, set_27, cut_27, rep_27, emp_27, len_i, get_i, app_i, set_i, cut_i, rep_i, emp_i, len_b, get_b, app_b, set_b, cut_b, rep_b, emp_b]
    · simp (maxSteps := 2000000) (discharger := omega) only [r_ite, r_add, r_sub, r_mul, r_quo, r_rem, r_lt, r_le, r_eq, r_bnot, r_or, r_and, r_isel, r_beq, r_band, r_bimp, r_imax, r_imin, r_call, r_gcall, r_bind, Option.bind_some, fits_ok, mfit_ok, wrap_i64, both_self, node_eta, msg_eta, entry_eta, hard_eta, decide_eq_true_eq, Bool.and_eq_true, Bool.or_eq_true, Bool.not_eq_true', decide_eq_false_iff_not, Bool.not_not, eq_self, not_true_eq_false, not_false_eq_true, Bool.false_eq_true, Bool.true_eq_false, Bool.not_false, Bool.not_true, if_true, if_false, true_and, and_true, or_false, false_or, or_true, true_or, and_false, false_and, true_implies, if_pos, if_neg, len_58, get_58, app_58, set_58, cut_58, rep_58, emp_58, len_30, get_30, app_30, set_30, cut_30, rep_30, emp_30, len_27, get_27, app_27, set_27, cut_27, rep_27, emp_27, len_i, get_i, app_i, set_i, cut_i, rep_i, emp_i, len_b, get_b, app_b, set_b, cut_b, rep_b, emp_b, e32]
  by_cases p2 : a.clock + 1 < 10 + 5 * a.id
  · simp (maxSteps := 2000000) (discharger := omega) only [r_ite, r_add, r_sub, r_mul, r_quo, r_rem, r_lt, r_le, r_eq, r_bnot, r_or, r_and, r_isel, r_beq, r_band, r_bimp, r_imax, r_imin, r_call, r_gcall, r_bind, Option.bind_some, fits_ok, mfit_ok, wrap_i64, both_self, node_eta, msg_eta, entry_eta, hard_eta, decide_eq_true_eq, Bool.and_eq_true, Bool.or_eq_true, Bool.not_eq_true', decide_eq_false_iff_not, Bool.not_not, eq_self, not_true_eq_false, not_false_eq_true, Bool.false_eq_true, Bool.true_eq_false, Bool.not_false, Bool.not_true, if_true, if_false, true_and, and_true, or_false, false_or, or_true, true_or, and_false, false_and, true_implies, if_pos, if_neg, len_58, get_58, app_58, set_58, cut_58, rep_58, emp_58, len_30, get_30, app_30, set_30, cut_30, rep_30, emp_30, len_27, get_27, app_27, set_27, cut_27, rep_27, emp_27, len_i, get_i, app_i, set_i, cut_i, rep_i, emp_i, len_b, get_b, app_b, set_b, cut_b, rep_b, emp_b]
  have e28 : C n k 28 [⟨.st 27, (⟨a.id, a.nodes, a.term + 1, a.id, a.base, a.baseTerm, a.snap, a.log, 1, -1, a.commit, (List.replicate a.nodes.toNat false).set a.id.toNat true, a.next, a.match, 0⟩ : Node)⟩] [.int .i64] = some (last a, ()) :=
    s_28 (a := start a) (by omega) (by show _ ≤ a.base; omega) (by show a.base ≤ _; omega) (by show (a.log.length : Int) ≤ _; omega)
  have e70 : C n k 70 [⟨.st 27, (⟨a.id, a.nodes, a.term + 1, a.id, a.base, a.baseTerm, a.snap, a.log, 1, -1, a.commit, (List.replicate a.nodes.toNat false).set a.id.toNat true, a.next, a.match, 0⟩ : Node)⟩] [.int .i64] = some (termAt a (last a), ()) :=
    s_70 (a := start a) (by omega) (by show 0 ≤ a.base; omega) (by show a.base ≤ _; omega) (by show (a.log.length : Int) ≤ _; omega)
  have e34 : C n k 38 [⟨.st 27, (⟨a.id, a.nodes, a.term + 1, a.id, a.base, a.baseTerm, a.snap, a.log, 1, -1, a.commit, (List.replicate a.nodes.toNat false).set a.id.toNat true, a.next, a.match, 0⟩ : Node)⟩] [.int .i64] = some (most (start a), ()) :=
    s_38 (n := n) (k := k) (a := start a) (by omega) hS.n1 hS.n5
  have e35 : C n k 39 [⟨.st 27, (⟨a.id, a.nodes, a.term + 1, a.id, a.base, a.baseTerm, a.snap, a.log, 1, -1, a.commit, (List.replicate a.nodes.toNat false).set a.id.toNat true, a.next, a.match, 0⟩ : Node)⟩] [.st 27, .sl (.st 30)] = some (lead (start a), (sends (lead (start a)), ())) :=
    s_39 (n := n) (k := k) (by omega) hS (by omega) hn
  have hs : ((sends (lead (start a))).length : Int) ≤ 5 := by
    have := oth_len (f := send (lead (start a))) (id := (lead (start a)).id) (lead (start a)).nodes.toNat 0
    have := hL.n5
    unfold sends
    omega
  simp (maxSteps := 2000000) (discharger := omega) only [r_ite, r_add, r_sub, r_mul, r_quo, r_rem, r_lt, r_le, r_eq, r_bnot, r_or, r_and, r_isel, r_beq, r_band, r_bimp, r_imax, r_imin, r_call, r_gcall, r_bind, Option.bind_some, fits_ok, mfit_ok, wrap_i64, both_self, node_eta, msg_eta, entry_eta, hard_eta, decide_eq_true_eq, Bool.and_eq_true, Bool.or_eq_true, Bool.not_eq_true', decide_eq_false_iff_not, Bool.not_not, eq_self, not_true_eq_false, not_false_eq_true, Bool.false_eq_true, Bool.true_eq_false, Bool.not_false, Bool.not_true, if_true, if_false, true_and, and_true, or_false, false_or, or_true, true_or, and_false, false_and, true_implies, if_pos, if_neg, len_58, get_58, app_58, set_58, cut_58, rep_58, emp_58, len_30, get_30, app_30, set_30, cut_30, rep_30, emp_30, len_27, get_27, app_27, set_27, cut_27, rep_27, emp_27, len_i, get_i, app_i, set_i, cut_i, rep_i, emp_i, len_b, get_b, app_b, set_b, cut_b, rep_b, emp_b, List.length_replicate, r_loop]
  refine (iter_rule' (fun x => (a.nodes - x.2.1).toNat) (fun x => 0 ≤ x.2.1 ∧ x.2.1 ≤ a.nodes ∧ (x.1.length : Int) ≤ x.2.1)
    (fun x => if most (start a) = 1 then some (lead (start a), ((x.1 ++ oth (fun i => ⟨1, a.id, i, a.term + 1, last a, termAt a (last a), false, 0, [], ⟨#[]⟩⟩) a.id (a.nodes - x.2.1).toNat x.2.1) ++ sends (lead (start a)), ()))
      else some (start a, (x.1 ++ oth (fun i => ⟨1, a.id, i, a.term + 1, last a, termAt a (last a), false, 0, [], ⟨#[]⟩⟩) a.id (a.nodes - x.2.1).toNat x.2.1, ()))) ?_ n _ ⟨by simp only <;> omega, by simp only <;> omega, by simp⟩ (by simp only; omega)).trans ?_
  · rintro next ⟨acc, i, rest⟩ ⟨j0, j1, j2⟩ ih
    simp only at j0 j1 j2
    by_cases q3 : i < a.nodes
    · simp only [oth_step q3]
      by_cases q4 : i = a.id
      · simp only [if_pos q4]
        simp (maxSteps := 2000000) (discharger := omega) only [r_ite, r_add, r_sub, r_mul, r_quo, r_rem, r_lt, r_le, r_eq, r_bnot, r_or, r_and, r_isel, r_beq, r_band, r_bimp, r_imax, r_imin, r_call, r_gcall, r_bind, Option.bind_some, fits_ok, mfit_ok, wrap_i64, both_self, node_eta, msg_eta, entry_eta, hard_eta, decide_eq_true_eq, Bool.and_eq_true, Bool.or_eq_true, Bool.not_eq_true', decide_eq_false_iff_not, Bool.not_not, eq_self, not_true_eq_false, not_false_eq_true, Bool.false_eq_true, Bool.true_eq_false, Bool.not_false, Bool.not_true, if_true, if_false, true_and, and_true, or_false, false_or, or_true, true_or, and_false, false_and, true_implies, if_pos, if_neg, len_58, get_58, app_58, set_58, cut_58, rep_58, emp_58, len_30, get_30, app_30, set_30, cut_30, rep_30, emp_30, len_27, get_27, app_27, set_27, cut_27, rep_27, emp_27, len_i, get_i, app_i, set_i, cut_i, rep_i, emp_i, len_b, get_b, app_b, set_b, cut_b, rep_b, emp_b]
        rw [ih _ ⟨by simp only; omega, by simp only; omega, by simp only; omega⟩ (by simp only; omega)]
      · simp only [if_neg q4]
        simp (maxSteps := 2000000) (discharger := omega) only [r_ite, r_add, r_sub, r_mul, r_quo, r_rem, r_lt, r_le, r_eq, r_bnot, r_or, r_and, r_isel, r_beq, r_band, r_bimp, r_imax, r_imin, r_call, r_gcall, r_bind, Option.bind_some, fits_ok, mfit_ok, wrap_i64, both_self, node_eta, msg_eta, entry_eta, hard_eta, decide_eq_true_eq, Bool.and_eq_true, Bool.or_eq_true, Bool.not_eq_true', decide_eq_false_iff_not, Bool.not_not, eq_self, not_true_eq_false, not_false_eq_true, Bool.false_eq_true, Bool.true_eq_false, Bool.not_false, Bool.not_true, if_true, if_false, true_and, and_true, or_false, false_or, or_true, true_or, and_false, false_and, true_implies, if_pos, if_neg, len_58, get_58, app_58, set_58, cut_58, rep_58, emp_58, len_30, get_30, app_30, set_30, cut_30, rep_30, emp_30, len_27, get_27, app_27, set_27, cut_27, rep_27, emp_27, len_i, get_i, app_i, set_i, cut_i, rep_i, emp_i, len_b, get_b, app_b, set_b, cut_b, rep_b, emp_b, e28, e70, List.length_singleton]
        rw [ih _ ⟨by simp only; omega, by simp only; omega, by simp only [List.length_append, List.length_singleton]; omega⟩ (by simp only; omega)]
        simp only [List.append_assoc, List.singleton_append, List.cons_append, List.nil_append]
    · simp only [oth_end (show a.nodes ≤ i by omega), List.append_nil]
      by_cases q5 : most (start a) = 1
      · simp only [if_pos q5]
        simp (maxSteps := 2000000) (discharger := omega) only [r_ite, r_add, r_sub, r_mul, r_quo, r_rem, r_lt, r_le, r_eq, r_bnot, r_or, r_and, r_isel, r_beq, r_band, r_bimp, r_imax, r_imin, r_call, r_gcall, r_bind, Option.bind_some, fits_ok, mfit_ok, wrap_i64, both_self, node_eta, msg_eta, entry_eta, hard_eta, decide_eq_true_eq, Bool.and_eq_true, Bool.or_eq_true, Bool.not_eq_true', decide_eq_false_iff_not, Bool.not_not, eq_self, not_true_eq_false, not_false_eq_true, Bool.false_eq_true, Bool.true_eq_false, Bool.not_false, Bool.not_true, if_true, if_false, true_and, and_true, or_false, false_or, or_true, true_or, and_false, false_and, true_implies, if_pos, if_neg, len_58, get_58, app_58, set_58, cut_58, rep_58, emp_58, len_30, get_30, app_30, set_30, cut_30, rep_30, emp_30, len_27, get_27, app_27, set_27, cut_27, rep_27, emp_27, len_i, get_i, app_i, set_i, cut_i, rep_i, emp_i, len_b, get_b, app_b, set_b, cut_b, rep_b, emp_b, e34, e35]
      · simp only [if_neg q5]
        simp (maxSteps := 2000000) (discharger := omega) only [r_ite, r_add, r_sub, r_mul, r_quo, r_rem, r_lt, r_le, r_eq, r_bnot, r_or, r_and, r_isel, r_beq, r_band, r_bimp, r_imax, r_imin, r_call, r_gcall, r_bind, Option.bind_some, fits_ok, mfit_ok, wrap_i64, both_self, node_eta, msg_eta, entry_eta, hard_eta, decide_eq_true_eq, Bool.and_eq_true, Bool.or_eq_true, Bool.not_eq_true', decide_eq_false_iff_not, Bool.not_not, eq_self, not_true_eq_false, not_false_eq_true, Bool.false_eq_true, Bool.true_eq_false, Bool.not_false, Bool.not_true, if_true, if_false, true_and, and_true, or_false, false_or, or_true, true_or, and_false, false_and, true_implies, if_pos, if_neg, len_58, get_58, app_58, set_58, cut_58, rep_58, emp_58, len_30, get_30, app_30, set_30, cut_30, rep_30, emp_30, len_27, get_27, app_27, set_27, cut_27, rep_27, emp_27, len_i, get_i, app_i, set_i, cut_i, rep_i, emp_i, len_b, get_b, app_b, set_b, cut_b, rep_b, emp_b, e34]
        rfl
  · unfold startMsgs
    simp only [List.nil_append, Int.sub_zero]
    by_cases q5 : most (start a) = 1
    · simp only [if_pos q5]
    · simp only [if_neg q5]

theorem s_15 (hk : 6 ≤ k) (h : NI B a) (hB : B ≤ 2^41 - 8) (hn : (a.log.length : Int) + 101 ≤ n) {cmd : ByteArray} :
    C n k 15 [⟨.st 27, a⟩, ⟨.str, cmd⟩] [.st 27, .sl (.st 30), .int .i64] = some ((propose a cmd).1, ((propose a cmd).2.1, ((propose a cmd).2.2, ()))) := by
  obtain ⟨k, rfl⟩ : ∃ k1, k = k1 + 1 := ⟨k - 1, by omega⟩
  rw [C_succ, nf_15]
  have e52 := s_52 (n := n) (k := k) (cmd := cmd) (by omega) h (by omega) hn
  unfold propose
  by_cases p : a.role = 2
  · by_cases p1 : 200 ≤ a.log.length
    · simp (maxSteps := 2000000) (discharger := omega) only [r_ite, r_add, r_sub, r_mul, r_quo, r_rem, r_lt, r_le, r_eq, r_bnot, r_or, r_and, r_isel, r_beq, r_band, r_bimp, r_imax, r_imin, r_call, r_gcall, r_bind, Option.bind_some, fits_ok, mfit_ok, wrap_i64, both_self, node_eta, msg_eta, entry_eta, hard_eta, decide_eq_true_eq, Bool.and_eq_true, Bool.or_eq_true, Bool.not_eq_true', decide_eq_false_iff_not, Bool.not_not, eq_self, not_true_eq_false, not_false_eq_true, Bool.false_eq_true, Bool.true_eq_false, Bool.not_false, Bool.not_true, if_true, if_false, true_and, and_true, or_false, false_or, or_true, true_or, and_false, false_and, true_implies, if_pos, if_neg, len_58, get_58, app_58, set_58, cut_58, rep_58, emp_58, len_30, get_30, app_30, set_30, cut_30, rep_30, emp_30, len_27, get_27, app_27, set_27, cut_27, rep_27, emp_27, len_i, get_i, app_i, set_i, cut_i, rep_i, emp_i, len_b, get_b, app_b, set_b, cut_b, rep_b, emp_b]
    · simp (maxSteps := 2000000) (discharger := omega) only [r_ite, r_add, r_sub, r_mul, r_quo, r_rem, r_lt, r_le, r_eq, r_bnot, r_or, r_and, r_isel, r_beq, r_band, r_bimp, r_imax, r_imin, r_call, r_gcall, r_bind, Option.bind_some, fits_ok, mfit_ok, wrap_i64, both_self, node_eta, msg_eta, entry_eta, hard_eta, decide_eq_true_eq, Bool.and_eq_true, Bool.or_eq_true, Bool.not_eq_true', decide_eq_false_iff_not, Bool.not_not, eq_self, not_true_eq_false, not_false_eq_true, Bool.false_eq_true, Bool.true_eq_false, Bool.not_false, Bool.not_true, if_true, if_false, true_and, and_true, or_false, false_or, or_true, true_or, and_false, false_and, true_implies, if_pos, if_neg, len_58, get_58, app_58, set_58, cut_58, rep_58, emp_58, len_30, get_30, app_30, set_30, cut_30, rep_30, emp_30, len_27, get_27, app_27, set_27, cut_27, rep_27, emp_27, len_i, get_i, app_i, set_i, cut_i, rep_i, emp_i, len_b, get_b, app_b, set_b, cut_b, rep_b, emp_b, e52]
  · simp (maxSteps := 2000000) (discharger := omega) only [r_ite, r_add, r_sub, r_mul, r_quo, r_rem, r_lt, r_le, r_eq, r_bnot, r_or, r_and, r_isel, r_beq, r_band, r_bimp, r_imax, r_imin, r_call, r_gcall, r_bind, Option.bind_some, fits_ok, mfit_ok, wrap_i64, both_self, node_eta, msg_eta, entry_eta, hard_eta, decide_eq_true_eq, Bool.and_eq_true, Bool.or_eq_true, Bool.not_eq_true', decide_eq_false_iff_not, Bool.not_not, eq_self, not_true_eq_false, not_false_eq_true, Bool.false_eq_true, Bool.true_eq_false, Bool.not_false, Bool.not_true, if_true, if_false, true_and, and_true, or_false, false_or, or_true, true_or, and_false, false_and, true_implies, if_pos, if_neg, len_58, get_58, app_58, set_58, cut_58, rep_58, emp_58, len_30, get_30, app_30, set_30, cut_30, rep_30, emp_30, len_27, get_27, app_27, set_27, cut_27, rep_27, emp_27, len_i, get_i, app_i, set_i, cut_i, rep_i, emp_i, len_b, get_b, app_b, set_b, cut_b, rep_b, emp_b]

theorem s_14 (hk : 5 ≤ k) (h : NI B a) (hB : B ≤ 2^41 - 8) (hn : (a.log.length : Int) + 101 ≤ n) {cmd : ByteArray} :
    C n k 14 [⟨.st 27, a⟩, ⟨.str, cmd⟩] [.st 27, .sl (.st 30), .int .i64] = some ((propose a cmd).1, ((propose a cmd).2.1, ((propose a cmd).2.2, ()))) := by
  obtain ⟨k, rfl⟩ : ∃ k1, k = k1 + 1 := ⟨k - 1, by omega⟩
  rw [C_succ, nf_14]
  have hM := h.more (cmd := cmd)
  have h2 := h.app (e := ⟨a.term, cmd⟩)
  have h' := h
  have q := h'; obtain ⟨n1, n5, i0, i1, lv, lx, lm, t0, t1, b0, b1, c0, c1, k0, k1, ll, la, nx, mx⟩ := q
  have hl : last a = a.base + a.log.length := rfl
  have e48 := s_48 (n := n) (k := k) (L := a.log) (by omega) (by omega)
  have em : a.match.isEmpty = false := by cases hx : a.match with | nil => rw [hx] at lm; simp at lm; omega | cons => rfl
  have e50 : C n k 50 [⟨.st 27, (⟨a.id, a.nodes, a.term, a.vote, a.base, a.baseTerm, a.snap, a.log ++ [⟨a.term, cmd⟩], a.role, a.lead, a.commit, a.votes, a.next, a.match, a.clock⟩ : Node)⟩] [.int .i64] = some (last a + 1, ()) := by
    have := s_50 (n := n) (k := k) (a := (⟨a.id, a.nodes, a.term, a.vote, a.base, a.baseTerm, a.snap, a.log ++ [⟨a.term, cmd⟩], a.role, a.lead, a.commit, a.votes, a.next, a.match, a.clock⟩ : Node)) (by omega) (by simp only; omega) (by simp only; omega) (by simp only [List.length_append, List.length_singleton]; omega)
    rw [this]
    simp only [last, List.length_append, List.length_singleton]
    congr 2
    omega
  have e51 : C n k 51 [⟨.st 27, (⟨a.id, a.nodes, a.term, a.vote, a.base, a.baseTerm, a.snap, a.log ++ [⟨a.term, cmd⟩], a.role, a.lead, a.commit, a.votes, a.next, a.match.set a.id.toNat (last a + 1), a.clock⟩ : Node)⟩] [.st 27] = some (more a cmd, ()) :=
    s_51 (n := n) (k := k) (by omega) h2 (by omega) (by simp only [List.length_append, List.length_singleton]; omega)
  have e32 := s_32 (n := n) (k := k) (by omega) (by omega) hM (by omega)
  unfold propose
  by_cases p : a.role = 2
  · by_cases p1 : 200 ≤ a.log.length
    · simp (maxSteps := 2000000) (discharger := omega) only [r_ite, r_add, r_sub, r_mul, r_quo, r_rem, r_lt, r_le, r_eq, r_bnot, r_or, r_and, r_isel, r_beq, r_band, r_bimp, r_imax, r_imin, r_call, r_gcall, r_bind, Option.bind_some, fits_ok, mfit_ok, wrap_i64, both_self, node_eta, msg_eta, entry_eta, hard_eta, decide_eq_true_eq, Bool.and_eq_true, Bool.or_eq_true, Bool.not_eq_true', decide_eq_false_iff_not, Bool.not_not, eq_self, not_true_eq_false, not_false_eq_true, Bool.false_eq_true, Bool.true_eq_false, Bool.not_false, Bool.not_true, if_true, if_false, true_and, and_true, or_false, false_or, or_true, true_or, and_false, false_and, true_implies, if_pos, if_neg, len_58, get_58, app_58, set_58, cut_58, rep_58, emp_58, len_30, get_30, app_30, set_30, cut_30, rep_30, emp_30, len_27, get_27, app_27, set_27, cut_27, rep_27, emp_27, len_i, get_i, app_i, set_i, cut_i, rep_i, emp_i, len_b, get_b, app_b, set_b, cut_b, rep_b, emp_b]
    · simp only [r_ite, r_bnot, r_eq, r_le, len_58, decide_eq_true p, Bool.not_true, Bool.false_eq_true, if_false, decide_eq_false (show ¬ (200 : Int) ≤ a.log.length by omega)]
      rw [r_bind, r_call, e48]
      refine Eq.trans (Option.bind_some _ _) ?_
      simp (maxSteps := 2000000) (discharger := omega) only [r_ite, r_add, r_sub, r_mul, r_quo, r_rem, r_lt, r_le, r_eq, r_bnot, r_or, r_and, r_isel, r_beq, r_band, r_bimp, r_imax, r_imin, r_call, r_gcall, r_bind, Option.bind_some, fits_ok, mfit_ok, wrap_i64, both_self, node_eta, msg_eta, entry_eta, hard_eta, decide_eq_true_eq, Bool.and_eq_true, Bool.or_eq_true, Bool.not_eq_true', decide_eq_false_iff_not, Bool.not_not, eq_self, not_true_eq_false, not_false_eq_true, Bool.false_eq_true, Bool.true_eq_false, Bool.not_false, Bool.not_true, if_true, if_false, true_and, and_true, or_false, false_or, or_true, true_or, and_false, false_and, true_implies, if_pos, if_neg, len_58, get_58, app_58, set_58, cut_58, rep_58, emp_58, len_30, get_30, app_30, set_30, cut_30, rep_30, emp_30, len_27, get_27, app_27, set_27, cut_27, rep_27, emp_27, len_i, get_i, app_i, set_i, cut_i, rep_i, emp_i, len_b, get_b, app_b, set_b, cut_b, rep_b, emp_b, em, List.length_singleton, List.nil_append, e50, e51, e32]
  · simp (maxSteps := 2000000) (discharger := omega) only [r_ite, r_add, r_sub, r_mul, r_quo, r_rem, r_lt, r_le, r_eq, r_bnot, r_or, r_and, r_isel, r_beq, r_band, r_bimp, r_imax, r_imin, r_call, r_gcall, r_bind, Option.bind_some, fits_ok, mfit_ok, wrap_i64, both_self, node_eta, msg_eta, entry_eta, hard_eta, decide_eq_true_eq, Bool.and_eq_true, Bool.or_eq_true, Bool.not_eq_true', decide_eq_false_iff_not, Bool.not_not, eq_self, not_true_eq_false, not_false_eq_true, Bool.false_eq_true, Bool.true_eq_false, Bool.not_false, Bool.not_true, if_true, if_false, true_and, and_true, or_false, false_or, or_true, true_or, and_false, false_and, true_implies, if_pos, if_neg, len_58, get_58, app_58, set_58, cut_58, rep_58, emp_58, len_30, get_30, app_30, set_30, cut_30, rep_30, emp_30, len_27, get_27, app_27, set_27, cut_27, rep_27, emp_27, len_i, get_i, app_i, set_i, cut_i, rep_i, emp_i, len_b, get_b, app_b, set_b, cut_b, rep_b, emp_b]

end
end Go.Proofs.Ytinfpahllbhomaa

namespace Go.Proofs.Ytinfpahllbhomaa
open Go.Ab
set_option linter.unusedSimpArgs false
set_option linter.unusedVariables false
set_option maxHeartbeats 4000000
noncomputable section
variable {n k : Nat} {B : Int} {a : Node}

theorem r_seq_self {T : Tab U} {D : Go.Ab.Callee U} {n : Nat} (x : ByteArray) : (real T D n).seq x x = true := by
  show (x.toList == x.toList) = true
  simp

theorem s_85 (hk : 1 ≤ k) {L : List Entry} (hn : L.length + 2 ≤ n) (h : L.length ≤ 2^42) : C n k 85 [⟨.sl (.st 58), L⟩, ⟨.sl (.st 58), L⟩] [.int .i64] = some ((L.length : Int), ()) := by
  obtain ⟨k, rfl⟩ : ∃ k1, k = k1 + 1 := ⟨k - 1, by omega⟩
  rw [C_succ, nf_85]
  rw [r_loop]
  refine (iter_rule' (fun x => L.length - x.1.toNat) (fun x => 0 ≤ x.1 ∧ x.1 ≤ (L.length : Int)) (fun x => some ((L.length : Int), ())) ?_ n _ ⟨by simp only <;> omega, by simp only <;> omega⟩ (by simp only; omega))
  rintro next ⟨i, rest⟩ ⟨j0, j1⟩ ih
  simp only at j0 j1
  by_cases q3 : i < L.length
  · simp (maxSteps := 2000000) (discharger := omega) only [r_ite, r_add, r_sub, r_mul, r_quo, r_rem, r_lt, r_le, r_eq, r_bnot, r_or, r_and, r_isel, r_beq, r_band, r_bimp, r_imax, r_imin, r_call, r_gcall, r_bind, Option.bind_some, fits_ok, mfit_ok, wrap_i64, both_self, node_eta, msg_eta, entry_eta, hard_eta, decide_eq_true_eq, Bool.and_eq_true, Bool.or_eq_true, Bool.not_eq_true', decide_eq_false_iff_not, Bool.not_not, eq_self, not_true_eq_false, not_false_eq_true, Bool.false_eq_true, Bool.true_eq_false, Bool.not_false, Bool.not_true, if_true, if_false, true_and, and_true, or_false, false_or, or_true, true_or, and_false, false_and, true_implies, if_pos, if_neg, len_58, get_58, app_58, set_58, cut_58, rep_58, emp_58, len_30, get_30, app_30, set_30, cut_30, rep_30, emp_30, len_27, get_27, app_27, set_27, cut_27, rep_27, emp_27, len_i, get_i, app_i, set_i, cut_i, rep_i, emp_i, len_b, get_b, app_b, set_b, cut_b, rep_b, emp_b, r_seq_self, Bool.and_true, Bool.true_and, Bool.not_true, Bool.false_or, Bool.or_true, ← Bool.decide_and, ← Bool.decide_or, ← decide_not, decide_eq_true, decide_eq_false]
    rw [ih _ ⟨by simp only; omega, by simp only; omega⟩ (by simp only; omega)]
  · have : i = L.length := by omega
    subst this
    simp (maxSteps := 2000000) (discharger := omega) only [r_ite, r_add, r_sub, r_mul, r_quo, r_rem, r_lt, r_le, r_eq, r_bnot, r_or, r_and, r_isel, r_beq, r_band, r_bimp, r_imax, r_imin, r_call, r_gcall, r_bind, Option.bind_some, fits_ok, mfit_ok, wrap_i64, both_self, node_eta, msg_eta, entry_eta, hard_eta, decide_eq_true_eq, Bool.and_eq_true, Bool.or_eq_true, Bool.not_eq_true', decide_eq_false_iff_not, Bool.not_not, eq_self, not_true_eq_false, not_false_eq_true, Bool.false_eq_true, Bool.true_eq_false, Bool.not_false, Bool.not_true, if_true, if_false, true_and, and_true, or_false, false_or, or_true, true_or, and_false, false_and, true_implies, if_pos, if_neg, len_58, get_58, app_58, set_58, cut_58, rep_58, emp_58, len_30, get_30, app_30, set_30, cut_30, rep_30, emp_30, len_27, get_27, app_27, set_27, cut_27, rep_27, emp_27, len_i, get_i, app_i, set_i, cut_i, rep_i, emp_i, len_b, get_b, app_b, set_b, cut_b, rep_b, emp_b, Bool.false_and, Bool.not_false, Bool.true_or, ← Bool.decide_and, ← Bool.decide_or, ← decide_not, decide_eq_true, decide_eq_false]

theorem s_61 (hk : 2 ≤ k) {L : List Entry} (hn : L.length + 2 ≤ n) (h : L.length ≤ 2^42) : C n k 61 [⟨.sl (.st 58), L⟩, ⟨.sl (.st 58), L⟩] [.bool] = some (true, ()) := by
  obtain ⟨k, rfl⟩ : ∃ k1, k = k1 + 1 := ⟨k - 1, by omega⟩
  rw [C_succ, nf_61]
  have e85 := s_85 (n := n) (k := k) (by omega) hn h
  simp (maxSteps := 2000000) (discharger := omega) only [r_ite, r_add, r_sub, r_mul, r_quo, r_rem, r_lt, r_le, r_eq, r_bnot, r_or, r_and, r_isel, r_beq, r_band, r_bimp, r_imax, r_imin, r_call, r_gcall, r_bind, Option.bind_some, fits_ok, mfit_ok, wrap_i64, both_self, node_eta, msg_eta, entry_eta, hard_eta, decide_eq_true_eq, Bool.and_eq_true, Bool.or_eq_true, Bool.not_eq_true', decide_eq_false_iff_not, Bool.not_not, eq_self, not_true_eq_false, not_false_eq_true, Bool.false_eq_true, Bool.true_eq_false, Bool.not_false, Bool.not_true, if_true, if_false, true_and, and_true, or_false, false_or, or_true, true_or, and_false, false_and, true_implies, if_pos, if_neg, len_58, get_58, app_58, set_58, cut_58, rep_58, emp_58, len_30, get_30, app_30, set_30, cut_30, rep_30, emp_30, len_27, get_27, app_27, set_27, cut_27, rep_27, emp_27, len_i, get_i, app_i, set_i, cut_i, rep_i, emp_i, len_b, get_b, app_b, set_b, cut_b, rep_b, emp_b, e85, Bool.and_true, ← Bool.decide_and, ← Bool.decide_or, ← decide_not, decide_eq_true, decide_eq_false]
  rfl

theorem s_54 (hk : 1 ≤ k) : C n k 54 [⟨.st 27, a⟩] [.st 75] = some ((⟨a.term, a.vote, a.base, a.baseTerm, a.snap, a.log⟩ : Hard), ()) := by
  obtain ⟨k, rfl⟩ : ∃ k1, k = k1 + 1 := ⟨k - 1, by omega⟩
  rw [C_succ, nf_54]

theorem s_53 (hk : 3 ≤ k) {x : Hard} (hn : x.log.length + 2 ≤ n) (h : x.log.length ≤ 2^42) : C n k 53 [⟨.st 75, x⟩, ⟨.st 75, x⟩] [.bool] = some (true, ()) := by
  obtain ⟨k, rfl⟩ : ∃ k1, k = k1 + 1 := ⟨k - 1, by omega⟩
  rw [C_succ, nf_53]
  have e61 := s_61 (n := n) (k := k) (by omega) hn h
  simp (maxSteps := 2000000) (discharger := omega) only [r_ite, r_add, r_sub, r_mul, r_quo, r_rem, r_lt, r_le, r_eq, r_bnot, r_or, r_and, r_isel, r_beq, r_band, r_bimp, r_imax, r_imin, r_call, r_gcall, r_bind, Option.bind_some, fits_ok, mfit_ok, wrap_i64, both_self, node_eta, msg_eta, entry_eta, hard_eta, decide_eq_true_eq, Bool.and_eq_true, Bool.or_eq_true, Bool.not_eq_true', decide_eq_false_iff_not, Bool.not_not, eq_self, not_true_eq_false, not_false_eq_true, Bool.false_eq_true, Bool.true_eq_false, Bool.not_false, Bool.not_true, if_true, if_false, true_and, and_true, or_false, false_or, or_true, true_or, and_false, false_and, true_implies, if_pos, if_neg, len_58, get_58, app_58, set_58, cut_58, rep_58, emp_58, len_30, get_30, app_30, set_30, cut_30, rep_30, emp_30, len_27, get_27, app_27, set_27, cut_27, rep_27, emp_27, len_i, get_i, app_i, set_i, cut_i, rep_i, emp_i, len_b, get_b, app_b, set_b, cut_b, rep_b, emp_b, e61, r_seq_self, Bool.and_true, ← Bool.decide_and, ← Bool.decide_or, ← decide_not, decide_eq_true, decide_eq_false]
  rfl

theorem s_55 (hk : 3 ≤ k) {x : Msg} (hn : x.entries.length + 2 ≤ n) (h : x.entries.length ≤ 2^42) : C n k 55 [⟨.st 30, x⟩, ⟨.st 30, x⟩] [.bool] = some (true, ()) := by
  obtain ⟨k, rfl⟩ : ∃ k1, k = k1 + 1 := ⟨k - 1, by omega⟩
  rw [C_succ, nf_55]
  have e61 := s_61 (n := n) (k := k) (by omega) hn h
  have eb : (x.yes == x.yes) = true := by simp
  simp (maxSteps := 2000000) (discharger := omega) only [r_ite, r_add, r_sub, r_mul, r_quo, r_rem, r_lt, r_le, r_eq, r_bnot, r_or, r_and, r_isel, r_beq, r_band, r_bimp, r_imax, r_imin, r_call, r_gcall, r_bind, Option.bind_some, fits_ok, mfit_ok, wrap_i64, both_self, node_eta, msg_eta, entry_eta, hard_eta, decide_eq_true_eq, Bool.and_eq_true, Bool.or_eq_true, Bool.not_eq_true', decide_eq_false_iff_not, Bool.not_not, eq_self, not_true_eq_false, not_false_eq_true, Bool.false_eq_true, Bool.true_eq_false, Bool.not_false, Bool.not_true, if_true, if_false, true_and, and_true, or_false, false_or, or_true, true_or, and_false, false_and, true_implies, if_pos, if_neg, len_58, get_58, app_58, set_58, cut_58, rep_58, emp_58, len_30, get_30, app_30, set_30, cut_30, rep_30, emp_30, len_27, get_27, app_27, set_27, cut_27, rep_27, emp_27, len_i, get_i, app_i, set_i, cut_i, rep_i, emp_i, len_b, get_b, app_b, set_b, cut_b, rep_b, emp_b, e61, r_seq_self, Bool.and_true, eb, ← Bool.decide_and, ← Bool.decide_or, ← decide_not, decide_eq_true, decide_eq_false]
  rfl

theorem s_17 (hk : 4 ≤ k) {L : List Msg} (hn : L.length + 2 ≤ n) (h : L.length ≤ 2^42) (he : ∀ x ∈ L, x.entries.length + 2 ≤ n ∧ x.entries.length ≤ 2^42) : C n k 17 [⟨.sl (.st 30), L⟩, ⟨.sl (.st 30), L⟩] [.bool] = some (true, ()) := by
  obtain ⟨k, rfl⟩ : ∃ k1, k = k1 + 1 := ⟨k - 1, by omega⟩
  rw [C_succ, nf_17]
  simp (maxSteps := 2000000) (discharger := omega) only [r_ite, r_add, r_sub, r_mul, r_quo, r_rem, r_lt, r_le, r_eq, r_bnot, r_or, r_and, r_isel, r_beq, r_band, r_bimp, r_imax, r_imin, r_call, r_gcall, r_bind, Option.bind_some, fits_ok, mfit_ok, wrap_i64, both_self, node_eta, msg_eta, entry_eta, hard_eta, decide_eq_true_eq, Bool.and_eq_true, Bool.or_eq_true, Bool.not_eq_true', decide_eq_false_iff_not, Bool.not_not, eq_self, not_true_eq_false, not_false_eq_true, Bool.false_eq_true, Bool.true_eq_false, Bool.not_false, Bool.not_true, if_true, if_false, true_and, and_true, or_false, false_or, or_true, true_or, and_false, false_and, true_implies, if_pos, if_neg, len_58, get_58, app_58, set_58, cut_58, rep_58, emp_58, len_30, get_30, app_30, set_30, cut_30, rep_30, emp_30, len_27, get_27, app_27, set_27, cut_27, rep_27, emp_27, len_i, get_i, app_i, set_i, cut_i, rep_i, emp_i, len_b, get_b, app_b, set_b, cut_b, rep_b, emp_b, r_loop]
  refine (iter_rule' (fun x => L.length - x.1.toNat) (fun x => 0 ≤ x.1 ∧ x.1 ≤ (L.length : Int)) (fun x => some (true, ())) ?_ n _ ⟨by simp only <;> omega, by simp only <;> omega⟩ (by simp only; omega))
  rintro next ⟨i, rest⟩ ⟨j0, j1⟩ ih
  simp only at j0 j1
  by_cases q3 : i < L.length
  · have hm : L.getD i.toNat ⟨0, 0, 0, 0, 0, 0, false, 0, [], ⟨#[]⟩⟩ ∈ L := by
      have hlt : i.toNat < L.length := by omega
      have : L.getD i.toNat ⟨0, 0, 0, 0, 0, 0, false, 0, [], ⟨#[]⟩⟩ = L[i.toNat] := by simp [List.getD, hlt]
      rw [this]; exact List.getElem_mem hlt
    have e55 := s_55 (n := n) (k := k) (x := L.getD i.toNat ⟨0, 0, 0, 0, 0, 0, false, 0, [], ⟨#[]⟩⟩) (by omega) (he _ hm).1 (he _ hm).2
    generalize L.getD i.toNat ⟨0, 0, 0, 0, 0, 0, false, 0, [], ⟨#[]⟩⟩ = y at e55 ⊢
    simp (maxSteps := 2000000) (discharger := omega) only [r_ite, r_add, r_sub, r_mul, r_quo, r_rem, r_lt, r_le, r_eq, r_bnot, r_or, r_and, r_isel, r_beq, r_band, r_bimp, r_imax, r_imin, r_call, r_gcall, r_bind, Option.bind_some, fits_ok, mfit_ok, wrap_i64, both_self, node_eta, msg_eta, entry_eta, hard_eta, decide_eq_true_eq, Bool.and_eq_true, Bool.or_eq_true, Bool.not_eq_true', decide_eq_false_iff_not, Bool.not_not, eq_self, not_true_eq_false, not_false_eq_true, Bool.false_eq_true, Bool.true_eq_false, Bool.not_false, Bool.not_true, if_true, if_false, true_and, and_true, or_false, false_or, or_true, true_or, and_false, false_and, true_implies, if_pos, if_neg, len_58, get_58, app_58, set_58, cut_58, rep_58, emp_58, len_30, get_30, app_30, set_30, cut_30, rep_30, emp_30, len_27, get_27, app_27, set_27, cut_27, rep_27, emp_27, len_i, get_i, app_i, set_i, cut_i, rep_i, emp_i, len_b, get_b, app_b, set_b, cut_b, rep_b, emp_b]
    generalize L.getD i.toNat ⟨0, 0, 0, 0, 0, 0, false, 0, [], ⟨#[]⟩⟩ = y at e55 ⊢
    simp (maxSteps := 2000000) (discharger := omega) only [r_ite, r_add, r_sub, r_mul, r_quo, r_rem, r_lt, r_le, r_eq, r_bnot, r_or, r_and, r_isel, r_beq, r_band, r_bimp, r_imax, r_imin, r_call, r_gcall, r_bind, Option.bind_some, fits_ok, mfit_ok, wrap_i64, both_self, node_eta, msg_eta, entry_eta, hard_eta, decide_eq_true_eq, Bool.and_eq_true, Bool.or_eq_true, Bool.not_eq_true', decide_eq_false_iff_not, Bool.not_not, eq_self, not_true_eq_false, not_false_eq_true, Bool.false_eq_true, Bool.true_eq_false, Bool.not_false, Bool.not_true, if_true, if_false, true_and, and_true, or_false, false_or, or_true, true_or, and_false, false_and, true_implies, if_pos, if_neg, len_58, get_58, app_58, set_58, cut_58, rep_58, emp_58, len_30, get_30, app_30, set_30, cut_30, rep_30, emp_30, len_27, get_27, app_27, set_27, cut_27, rep_27, emp_27, len_i, get_i, app_i, set_i, cut_i, rep_i, emp_i, len_b, get_b, app_b, set_b, cut_b, rep_b, emp_b, e55]
    rw [ih _ ⟨by simp only; omega, by simp only; omega⟩ (by simp only; omega)]
  · simp (maxSteps := 2000000) (discharger := omega) only [r_ite, r_add, r_sub, r_mul, r_quo, r_rem, r_lt, r_le, r_eq, r_bnot, r_or, r_and, r_isel, r_beq, r_band, r_bimp, r_imax, r_imin, r_call, r_gcall, r_bind, Option.bind_some, fits_ok, mfit_ok, wrap_i64, both_self, node_eta, msg_eta, entry_eta, hard_eta, decide_eq_true_eq, Bool.and_eq_true, Bool.or_eq_true, Bool.not_eq_true', decide_eq_false_iff_not, Bool.not_not, eq_self, not_true_eq_false, not_false_eq_true, Bool.false_eq_true, Bool.true_eq_false, Bool.not_false, Bool.not_true, if_true, if_false, true_and, and_true, or_false, false_or, or_true, true_or, and_false, false_and, true_implies, if_pos, if_neg, len_58, get_58, app_58, set_58, cut_58, rep_58, emp_58, len_30, get_30, app_30, set_30, cut_30, rep_30, emp_30, len_27, get_27, app_27, set_27, cut_27, rep_27, emp_27, len_i, get_i, app_i, set_i, cut_i, rep_i, emp_i, len_b, get_b, app_b, set_b, cut_b, rep_b, emp_b]

theorem s_16 (hk : 4 ≤ k) (hn : 100 ≤ n) (hn2 : a.log.length + 2 ≤ n) (hl : a.log.length ≤ 2^42) (h1 : a.votes.length ≤ 50) (h2 : a.next.length ≤ 50) (h3 : a.match.length ≤ 50) :
    C n k 16 [⟨.st 27, a⟩, ⟨.st 27, a⟩] [.bool] = some (true, ()) := by
  obtain ⟨k, rfl⟩ : ∃ k1, k = k1 + 1 := ⟨k - 1, by omega⟩
  rw [C_succ, nf_16]
  have e54 := s_54 (n := n) (k := k) (a := a) (by omega)
  have e53 := s_53 (n := n) (k := k) (x := ⟨a.term, a.vote, a.base, a.baseTerm, a.snap, a.log⟩) (by omega) hn2 hl
  simp (maxSteps := 2000000) (discharger := omega) only [r_ite, r_add, r_sub, r_mul, r_quo, r_rem, r_lt, r_le, r_eq, r_bnot, r_or, r_and, r_isel, r_beq, r_band, r_bimp, r_imax, r_imin, r_call, r_gcall, r_bind, Option.bind_some, fits_ok, mfit_ok, wrap_i64, both_self, node_eta, msg_eta, entry_eta, hard_eta, decide_eq_true_eq, Bool.and_eq_true, Bool.or_eq_true, Bool.not_eq_true', decide_eq_false_iff_not, Bool.not_not, eq_self, not_true_eq_false, not_false_eq_true, Bool.false_eq_true, Bool.true_eq_false, Bool.not_false, Bool.not_true, if_true, if_false, true_and, and_true, or_false, false_or, or_true, true_or, and_false, false_and, true_implies, if_pos, if_neg, len_58, get_58, app_58, set_58, cut_58, rep_58, emp_58, len_30, get_30, app_30, set_30, cut_30, rep_30, emp_30, len_27, get_27, app_27, set_27, cut_27, rep_27, emp_27, len_i, get_i, app_i, set_i, cut_i, rep_i, emp_i, len_b, get_b, app_b, set_b, cut_b, rep_b, emp_b, e54, e53, r_loop, decide_true, decide_false, Bool.or_eq_false_iff, Bool.and_eq_false_iff, Bool.or_false, Bool.false_or, Bool.or_true, Bool.true_or, Bool.and_true, Bool.true_and, Bool.and_false, Bool.false_and]
  refine (iter_rule' (fun x => a.votes.length - x.1.toNat) (fun x => 0 ≤ x.1 ∧ x.1 ≤ (a.votes.length : Int)) (fun x => some (true, ())) ?_ n _ ⟨by simp only <;> omega, by simp only <;> omega⟩ (by simp only; omega))
  rintro next ⟨i, rest⟩ ⟨j0, j1⟩ ih
  simp only at j0 j1
  by_cases q3 : i < a.votes.length
  · have eb : (a.votes.getD i.toNat false == a.votes.getD i.toNat false) = true := by simp
    simp (maxSteps := 2000000) (discharger := omega) only [r_ite, r_add, r_sub, r_mul, r_quo, r_rem, r_lt, r_le, r_eq, r_bnot, r_or, r_and, r_isel, r_beq, r_band, r_bimp, r_imax, r_imin, r_call, r_gcall, r_bind, Option.bind_some, fits_ok, mfit_ok, wrap_i64, both_self, node_eta, msg_eta, entry_eta, hard_eta, decide_eq_true_eq, Bool.and_eq_true, Bool.or_eq_true, Bool.not_eq_true', decide_eq_false_iff_not, Bool.not_not, eq_self, not_true_eq_false, not_false_eq_true, Bool.false_eq_true, Bool.true_eq_false, Bool.not_false, Bool.not_true, if_true, if_false, true_and, and_true, or_false, false_or, or_true, true_or, and_false, false_and, true_implies, if_pos, if_neg, len_58, get_58, app_58, set_58, cut_58, rep_58, emp_58, len_30, get_30, app_30, set_30, cut_30, rep_30, emp_30, len_27, get_27, app_27, set_27, cut_27, rep_27, emp_27, len_i, get_i, app_i, set_i, cut_i, rep_i, emp_i, len_b, get_b, app_b, set_b, cut_b, rep_b, emp_b, eb]
    rw [ih _ ⟨by simp only; omega, by simp only; omega⟩ (by simp only; omega)]
  · simp (maxSteps := 2000000) (discharger := omega) only [r_ite, r_add, r_sub, r_mul, r_quo, r_rem, r_lt, r_le, r_eq, r_bnot, r_or, r_and, r_isel, r_beq, r_band, r_bimp, r_imax, r_imin, r_call, r_gcall, r_bind, Option.bind_some, fits_ok, mfit_ok, wrap_i64, both_self, node_eta, msg_eta, entry_eta, hard_eta, decide_eq_true_eq, Bool.and_eq_true, Bool.or_eq_true, Bool.not_eq_true', decide_eq_false_iff_not, Bool.not_not, eq_self, not_true_eq_false, not_false_eq_true, Bool.false_eq_true, Bool.true_eq_false, Bool.not_false, Bool.not_true, if_true, if_false, true_and, and_true, or_false, false_or, or_true, true_or, and_false, false_and, true_implies, if_pos, if_neg, len_58, get_58, app_58, set_58, cut_58, rep_58, emp_58, len_30, get_30, app_30, set_30, cut_30, rep_30, emp_30, len_27, get_27, app_27, set_27, cut_27, rep_27, emp_27, len_i, get_i, app_i, set_i, cut_i, rep_i, emp_i, len_b, get_b, app_b, set_b, cut_b, rep_b, emp_b, r_loop]
    clear ih
    refine (iter_rule' (fun x => a.next.length - x.1.toNat) (fun x => 0 ≤ x.1 ∧ x.1 ≤ (a.next.length : Int)) (fun x => some (true, ())) ?_ n _ ⟨by simp only <;> omega, by simp only <;> omega⟩ (by simp only; omega))
    rintro next2 ⟨i2, rest2⟩ ⟨j2, j3⟩ ih
    simp only at j2 j3
    by_cases q4 : i2 < a.next.length
    · simp (maxSteps := 2000000) (discharger := omega) only [r_ite, r_add, r_sub, r_mul, r_quo, r_rem, r_lt, r_le, r_eq, r_bnot, r_or, r_and, r_isel, r_beq, r_band, r_bimp, r_imax, r_imin, r_call, r_gcall, r_bind, Option.bind_some, fits_ok, mfit_ok, wrap_i64, both_self, node_eta, msg_eta, entry_eta, hard_eta, decide_eq_true_eq, Bool.and_eq_true, Bool.or_eq_true, Bool.not_eq_true', decide_eq_false_iff_not, Bool.not_not, eq_self, not_true_eq_false, not_false_eq_true, Bool.false_eq_true, Bool.true_eq_false, Bool.not_false, Bool.not_true, if_true, if_false, true_and, and_true, or_false, false_or, or_true, true_or, and_false, false_and, true_implies, if_pos, if_neg, len_58, get_58, app_58, set_58, cut_58, rep_58, emp_58, len_30, get_30, app_30, set_30, cut_30, rep_30, emp_30, len_27, get_27, app_27, set_27, cut_27, rep_27, emp_27, len_i, get_i, app_i, set_i, cut_i, rep_i, emp_i, len_b, get_b, app_b, set_b, cut_b, rep_b, emp_b]
      rw [ih _ ⟨by simp only; omega, by simp only; omega⟩ (by simp only; omega)]
    · simp (maxSteps := 2000000) (discharger := omega) only [r_ite, r_add, r_sub, r_mul, r_quo, r_rem, r_lt, r_le, r_eq, r_bnot, r_or, r_and, r_isel, r_beq, r_band, r_bimp, r_imax, r_imin, r_call, r_gcall, r_bind, Option.bind_some, fits_ok, mfit_ok, wrap_i64, both_self, node_eta, msg_eta, entry_eta, hard_eta, decide_eq_true_eq, Bool.and_eq_true, Bool.or_eq_true, Bool.not_eq_true', decide_eq_false_iff_not, Bool.not_not, eq_self, not_true_eq_false, not_false_eq_true, Bool.false_eq_true, Bool.true_eq_false, Bool.not_false, Bool.not_true, if_true, if_false, true_and, and_true, or_false, false_or, or_true, true_or, and_false, false_and, true_implies, if_pos, if_neg, len_58, get_58, app_58, set_58, cut_58, rep_58, emp_58, len_30, get_30, app_30, set_30, cut_30, rep_30, emp_30, len_27, get_27, app_27, set_27, cut_27, rep_27, emp_27, len_i, get_i, app_i, set_i, cut_i, rep_i, emp_i, len_b, get_b, app_b, set_b, cut_b, rep_b, emp_b, r_loop]
      clear ih
      refine (iter_rule' (fun x => a.match.length - x.1.toNat) (fun x => 0 ≤ x.1 ∧ x.1 ≤ (a.match.length : Int)) (fun x => some (true, ())) ?_ n _ ⟨by simp only <;> omega, by simp only <;> omega⟩ (by simp only; omega))
      rintro next3 ⟨i3, rest3⟩ ⟨j4, j5⟩ ih
      simp only at j4 j5
      by_cases q5 : i3 < a.match.length
      · simp (maxSteps := 2000000) (discharger := omega) only [r_ite, r_add, r_sub, r_mul, r_quo, r_rem, r_lt, r_le, r_eq, r_bnot, r_or, r_and, r_isel, r_beq, r_band, r_bimp, r_imax, r_imin, r_call, r_gcall, r_bind, Option.bind_some, fits_ok, mfit_ok, wrap_i64, both_self, node_eta, msg_eta, entry_eta, hard_eta, decide_eq_true_eq, Bool.and_eq_true, Bool.or_eq_true, Bool.not_eq_true', decide_eq_false_iff_not, Bool.not_not, eq_self, not_true_eq_false, not_false_eq_true, Bool.false_eq_true, Bool.true_eq_false, Bool.not_false, Bool.not_true, if_true, if_false, true_and, and_true, or_false, false_or, or_true, true_or, and_false, false_and, true_implies, if_pos, if_neg, len_58, get_58, app_58, set_58, cut_58, rep_58, emp_58, len_30, get_30, app_30, set_30, cut_30, rep_30, emp_30, len_27, get_27, app_27, set_27, cut_27, rep_27, emp_27, len_i, get_i, app_i, set_i, cut_i, rep_i, emp_i, len_b, get_b, app_b, set_b, cut_b, rep_b, emp_b]
        rw [ih _ ⟨by simp only; omega, by simp only; omega⟩ (by simp only; omega)]
      · simp (maxSteps := 2000000) (discharger := omega) only [r_ite, r_add, r_sub, r_mul, r_quo, r_rem, r_lt, r_le, r_eq, r_bnot, r_or, r_and, r_isel, r_beq, r_band, r_bimp, r_imax, r_imin, r_call, r_gcall, r_bind, Option.bind_some, fits_ok, mfit_ok, wrap_i64, both_self, node_eta, msg_eta, entry_eta, hard_eta, decide_eq_true_eq, Bool.and_eq_true, Bool.or_eq_true, Bool.not_eq_true', decide_eq_false_iff_not, Bool.not_not, eq_self, not_true_eq_false, not_false_eq_true, Bool.false_eq_true, Bool.true_eq_false, Bool.not_false, Bool.not_true, if_true, if_false, true_and, and_true, or_false, false_or, or_true, true_or, and_false, false_and, true_implies, if_pos, if_neg, len_58, get_58, app_58, set_58, cut_58, rep_58, emp_58, len_30, get_30, app_30, set_30, cut_30, rep_30, emp_30, len_27, get_27, app_27, set_27, cut_27, rep_27, emp_27, len_i, get_i, app_i, set_i, cut_i, rep_i, emp_i, len_b, get_b, app_b, set_b, cut_b, rep_b, emp_b]

theorem s_20 (hk : 1 ≤ k) {v N : Int} (h0 : 0 < N) (h1 : N ≤ 2^40) : ∃ r : Int, C n k 20 [⟨.int .i64, v⟩, ⟨.int .i64, N⟩] [.int .i64] = some (r, ()) ∧ 0 ≤ r ∧ r < N := by
  have b1 : v.tmod N < N := by have := Int.tmod_lt_of_pos v h0; exact this
  have b2 : -N < v.tmod N := by
    have := Int.tmod_lt_of_pos (-v) h0
    rw [Int.neg_tmod] at this
    omega
  obtain ⟨k, rfl⟩ : ∃ k1, k = k1 + 1 := ⟨k - 1, by omega⟩
  rw [C_succ, nf_20]
  by_cases q : v.tmod N < 0
  · refine ⟨v.tmod N + N, ?_, by omega, by omega⟩
    simp (maxSteps := 2000000) (discharger := omega) only [r_ite, r_add, r_sub, r_mul, r_quo, r_rem, r_lt, r_le, r_eq, r_bnot, r_or, r_and, r_isel, r_beq, r_band, r_bimp, r_imax, r_imin, r_call, r_gcall, r_bind, Option.bind_some, fits_ok, mfit_ok, wrap_i64, both_self, node_eta, msg_eta, entry_eta, hard_eta, decide_eq_true_eq, Bool.and_eq_true, Bool.or_eq_true, Bool.not_eq_true', decide_eq_false_iff_not, Bool.not_not, eq_self, not_true_eq_false, not_false_eq_true, Bool.false_eq_true, Bool.true_eq_false, Bool.not_false, Bool.not_true, if_true, if_false, true_and, and_true, or_false, false_or, or_true, true_or, and_false, false_and, true_implies, if_pos, if_neg, len_58, get_58, app_58, set_58, cut_58, rep_58, emp_58, len_30, get_30, app_30, set_30, cut_30, rep_30, emp_30, len_27, get_27, app_27, set_27, cut_27, rep_27, emp_27, len_i, get_i, app_i, set_i, cut_i, rep_i, emp_i, len_b, get_b, app_b, set_b, cut_b, rep_b, emp_b]
  · refine ⟨v.tmod N, ?_, by omega, by omega⟩
    simp (maxSteps := 2000000) (discharger := omega) only [r_ite, r_add, r_sub, r_mul, r_quo, r_rem, r_lt, r_le, r_eq, r_bnot, r_or, r_and, r_isel, r_beq, r_band, r_bimp, r_imax, r_imin, r_call, r_gcall, r_bind, Option.bind_some, fits_ok, mfit_ok, wrap_i64, both_self, node_eta, msg_eta, entry_eta, hard_eta, decide_eq_true_eq, Bool.and_eq_true, Bool.or_eq_true, Bool.not_eq_true', decide_eq_false_iff_not, Bool.not_not, eq_self, not_true_eq_false, not_false_eq_true, Bool.false_eq_true, Bool.true_eq_false, Bool.not_false, Bool.not_true, if_true, if_false, true_and, and_true, or_false, false_or, or_true, true_or, and_false, false_and, true_implies, if_pos, if_neg, len_58, get_58, app_58, set_58, cut_58, rep_58, emp_58, len_30, get_30, app_30, set_30, cut_30, rep_30, emp_30, len_27, get_27, app_27, set_27, cut_27, rep_27, emp_27, len_i, get_i, app_i, set_i, cut_i, rep_i, emp_i, len_b, get_b, app_b, set_b, cut_b, rep_b, emp_b]

/-- A node that begins. -/
def newN (id K : Int) : Node := ⟨min (max id 0) (K - 1), K, 0, -1, 0, 0, ⟨#[]⟩, [], 0, -1, 0, List.replicate K.toNat false, List.replicate K.toNat 1, List.replicate K.toNat 0, 0⟩

theorem s_21 (hk : 1 ≤ k) (hn : 100 ≤ n) {id nodes : Int} : C n k 21 [⟨.int .i64, id⟩, ⟨.int .i64, nodes⟩] [.st 27] = some (newN id (min (max nodes 1) 5), ()) := by
  obtain ⟨k, rfl⟩ : ∃ k1, k = k1 + 1 := ⟨k - 1, by omega⟩
  rw [C_succ, nf_21]
  have hK0 : 1 ≤ min (max nodes 1) 5 := by omega
  have hK1 : min (max nodes 1) 5 ≤ 5 := by omega
  simp only [r_imin, r_imax]
  generalize min (max nodes 1) 5 = K at hK0 hK1 ⊢
  simp (maxSteps := 2000000) (discharger := omega) only [r_ite, r_add, r_sub, r_mul, r_quo, r_rem, r_lt, r_le, r_eq, r_bnot, r_or, r_and, r_isel, r_beq, r_band, r_bimp, r_imax, r_imin, r_call, r_gcall, r_bind, Option.bind_some, fits_ok, mfit_ok, wrap_i64, both_self, node_eta, msg_eta, entry_eta, hard_eta, decide_eq_true_eq, Bool.and_eq_true, Bool.or_eq_true, Bool.not_eq_true', decide_eq_false_iff_not, Bool.not_not, eq_self, not_true_eq_false, not_false_eq_true, Bool.false_eq_true, Bool.true_eq_false, Bool.not_false, Bool.not_true, if_true, if_false, true_and, and_true, or_false, false_or, or_true, true_or, and_false, false_and, true_implies, if_pos, if_neg, len_58, get_58, app_58, set_58, cut_58, rep_58, emp_58, len_30, get_30, app_30, set_30, cut_30, rep_30, emp_30, len_27, get_27, app_27, set_27, cut_27, rep_27, emp_27, len_i, get_i, app_i, set_i, cut_i, rep_i, emp_i, len_b, get_b, app_b, set_b, cut_b, rep_b, emp_b, r_loop]
  refine (iter_rule' (fun x => (K - x.1).toNat) (fun x => 0 ≤ x.1 ∧ x.1 ≤ K ∧ x.2.1 = List.replicate x.1.toNat 1 ++ List.replicate (K.toNat - x.1.toNat) 0)
    (fun x => some (newN id K, ())) ?_ n _ ⟨by simp only <;> omega, by simp only <;> omega, by simp⟩ (by simp only; omega))
  rintro next ⟨i, X, rest⟩ ⟨j0, j1, j2⟩ ih
  simp only at j0 j1 j2
  subst j2
  by_cases q3 : i < K
  · have es := rep_set (v := 1) (i := i.toNat) (N := K.toNat) (by omega)
    have e3 : (i + 1).toNat = i.toNat + 1 := by omega
    simp (maxSteps := 2000000) (discharger := omega) only [r_ite, r_add, r_sub, r_mul, r_quo, r_rem, r_lt, r_le, r_eq, r_bnot, r_or, r_and, r_isel, r_beq, r_band, r_bimp, r_imax, r_imin, r_call, r_gcall, r_bind, Option.bind_some, fits_ok, mfit_ok, wrap_i64, both_self, node_eta, msg_eta, entry_eta, hard_eta, decide_eq_true_eq, Bool.and_eq_true, Bool.or_eq_true, Bool.not_eq_true', decide_eq_false_iff_not, Bool.not_not, eq_self, not_true_eq_false, not_false_eq_true, Bool.false_eq_true, Bool.true_eq_false, Bool.not_false, Bool.not_true, if_true, if_false, true_and, and_true, or_false, false_or, or_true, true_or, and_false, false_and, true_implies, if_pos, if_neg, len_58, get_58, app_58, set_58, cut_58, rep_58, emp_58, len_30, get_30, app_30, set_30, cut_30, rep_30, emp_30, len_27, get_27, app_27, set_27, cut_27, rep_27, emp_27, len_i, get_i, app_i, set_i, cut_i, rep_i, emp_i, len_b, get_b, app_b, set_b, cut_b, rep_b, emp_b, List.length_append, List.length_replicate, es]
    rw [ih _ ⟨by simp only; omega, by simp only; omega, by simp only [e3]⟩ (by simp only; omega)]
  · have e3 : i.toNat = K.toNat := by omega
    have e4 : List.replicate i.toNat (1 : Int) ++ List.replicate (K.toNat - i.toNat) 0 = List.replicate K.toNat 1 := by rw [e3, Nat.sub_self]; simp
    simp (maxSteps := 2000000) (discharger := omega) only [r_ite, r_add, r_sub, r_mul, r_quo, r_rem, r_lt, r_le, r_eq, r_bnot, r_or, r_and, r_isel, r_beq, r_band, r_bimp, r_imax, r_imin, r_call, r_gcall, r_bind, Option.bind_some, fits_ok, mfit_ok, wrap_i64, both_self, node_eta, msg_eta, entry_eta, hard_eta, decide_eq_true_eq, Bool.and_eq_true, Bool.or_eq_true, Bool.not_eq_true', decide_eq_false_iff_not, Bool.not_not, eq_self, not_true_eq_false, not_false_eq_true, Bool.false_eq_true, Bool.true_eq_false, Bool.not_false, Bool.not_true, if_true, if_false, true_and, and_true, or_false, false_or, or_true, true_or, and_false, false_and, true_implies, if_pos, if_neg, len_58, get_58, app_58, set_58, cut_58, rep_58, emp_58, len_30, get_30, app_30, set_30, cut_30, rep_30, emp_30, len_27, get_27, app_27, set_27, cut_27, rep_27, emp_27, len_i, get_i, app_i, set_i, cut_i, rep_i, emp_i, len_b, get_b, app_b, set_b, cut_b, rep_b, emp_b, e4]
    rfl

theorem NI.new {id K : Int} (h1 : 1 ≤ K) (h5 : K ≤ 5) (hB : 1 ≤ B) : NI B (newN id K) := by
  unfold newN
  exact ⟨h1, h5, by simp only; omega, by simp only; omega, by simp only [List.length_replicate]; omega, by simp only [List.length_replicate]; omega, by simp only [List.length_replicate]; omega, by simp only <;> omega, by simp only; omega, by simp only <;> omega, by simp only; omega, by simp only <;> omega, by simp only; omega,
    by simp only <;> omega, by simp only; omega, by simp only [List.length_nil]; omega, by simp only [List.length_nil]; omega, rep_bd (by omega) (by omega), rep_bd (by omega) (by omega)⟩

end
end Go.Proofs.Ytinfpahllbhomaa

namespace Go.Proofs.Ytinfpahllbhomaa
open Go.Ab
set_option linter.unusedSimpArgs false
set_option linter.unusedVariables false
set_option maxHeartbeats 4000000
noncomputable section
variable {n k : Nat} {B : Int} {a : Node}

theorem iter_prop {S R : Type} {F : (S → Option R) → S → Option R} (μ : S → Nat) (I : S → Prop) (Q : Option R → Prop)
    (h : ∀ next x, I x → (∀ y, I y → μ y < μ x → Q (next y)) → Q (F next x)) :
    ∀ (n : Nat) (x : S), I x → μ x < n → Q (iter F n x)
  | 0, x, _, hm => absurd hm (Nat.not_lt_zero _)
  | n + 1, x, hI, hm => h (iter F n) x hI fun y hy hlt => iter_prop μ I Q h n y hy (by omega)

/-- The node of which the first entries have gone. -/
def cutN (a : Node) (u : Int) (s : ByteArray) : Node :=
  if u ≤ a.base ∨ a.commit < u ∨ last a < u then a else { a with base := u, baseTerm := termAt a u, snap := s, log := behind a u }

theorem s_29 (hk : 3 ≤ k) (h : NI B a) (hB : B ≤ 2^41) {u : Int} {s : ByteArray} (h0 : 0 ≤ u) (h1 : u ≤ 2^50) : C n k 29 [⟨.st 27, a⟩, ⟨.int .i64, u⟩, ⟨.str, s⟩] [.st 27] = some (cutN a u s, ()) := by
  obtain ⟨k, rfl⟩ : ∃ k1, k = k1 + 1 := ⟨k - 1, by omega⟩
  rw [C_succ, nf_29]
  have q := h; obtain ⟨n1, n5, i0, i1, lv, lx, lm, t0, t1, b0, b1, c0, c1, k0, k1, ll, la, nx, mx⟩ := q
  have hl : last a = a.base + a.log.length := rfl
  have e28 := s_28 (n := n) (k := k) (a := a) (by omega) (by omega) (by omega) (by omega)
  have e30 := s_30 (n := n) (k := k) (a := a) (i := u) (by omega) (by omega) (by omega) (by omega) (by omega) (by omega)
  have e62 := s_62 (n := n) (k := k) (a := a) (i := u) (by omega) (by omega) (by omega) (by omega) (by omega) (by omega)
  unfold cutN
  by_cases p1 : u ≤ a.base
  · simp (maxSteps := 2000000) (discharger := omega) only [r_ite, r_add, r_sub, r_mul, r_quo, r_rem, r_lt, r_le, r_eq, r_bnot, r_or, r_and, r_isel, r_beq, r_band, r_bimp, r_imax, r_imin, r_call, r_gcall, r_bind, Option.bind_some, fits_ok, mfit_ok, wrap_i64, both_self, node_eta, msg_eta, entry_eta, hard_eta, decide_eq_true_eq, Bool.and_eq_true, Bool.or_eq_true, Bool.not_eq_true', decide_eq_false_iff_not, Bool.not_not, eq_self, not_true_eq_false, not_false_eq_true, Bool.false_eq_true, Bool.true_eq_false, Bool.not_false, Bool.not_true, if_true, if_false, true_and, and_true, or_false, false_or, or_true, true_or, and_false, false_and, true_implies, if_pos, if_neg, len_58, get_58, app_58, set_58, cut_58, rep_58, emp_58, len_30, get_30, app_30, set_30, cut_30, rep_30, emp_30, len_27, get_27, app_27, set_27, cut_27, rep_27, emp_27, len_i, get_i, app_i, set_i, cut_i, rep_i, emp_i, len_b, get_b, app_b, set_b, cut_b, rep_b, emp_b, decide_true, decide_false, Bool.or_eq_false_iff, Bool.and_eq_false_iff, Bool.or_false, Bool.false_or, Bool.or_true, Bool.true_or, Bool.and_true, Bool.true_and, Bool.and_false, Bool.false_and]
  by_cases p2 : a.commit < u
  · simp (maxSteps := 2000000) (discharger := omega) only [r_ite, r_add, r_sub, r_mul, r_quo, r_rem, r_lt, r_le, r_eq, r_bnot, r_or, r_and, r_isel, r_beq, r_band, r_bimp, r_imax, r_imin, r_call, r_gcall, r_bind, Option.bind_some, fits_ok, mfit_ok, wrap_i64, both_self, node_eta, msg_eta, entry_eta, hard_eta, decide_eq_true_eq, Bool.and_eq_true, Bool.or_eq_true, Bool.not_eq_true', decide_eq_false_iff_not, Bool.not_not, eq_self, not_true_eq_false, not_false_eq_true, Bool.false_eq_true, Bool.true_eq_false, Bool.not_false, Bool.not_true, if_true, if_false, true_and, and_true, or_false, false_or, or_true, true_or, and_false, false_and, true_implies, if_pos, if_neg, len_58, get_58, app_58, set_58, cut_58, rep_58, emp_58, len_30, get_30, app_30, set_30, cut_30, rep_30, emp_30, len_27, get_27, app_27, set_27, cut_27, rep_27, emp_27, len_i, get_i, app_i, set_i, cut_i, rep_i, emp_i, len_b, get_b, app_b, set_b, cut_b, rep_b, emp_b, decide_true, decide_false, Bool.or_eq_false_iff, Bool.and_eq_false_iff, Bool.or_false, Bool.false_or, Bool.or_true, Bool.true_or, Bool.and_true, Bool.true_and, Bool.and_false, Bool.false_and]
  by_cases p3 : last a < u
  · simp (maxSteps := 2000000) (discharger := omega) only [r_ite, r_add, r_sub, r_mul, r_quo, r_rem, r_lt, r_le, r_eq, r_bnot, r_or, r_and, r_isel, r_beq, r_band, r_bimp, r_imax, r_imin, r_call, r_gcall, r_bind, Option.bind_some, fits_ok, mfit_ok, wrap_i64, both_self, node_eta, msg_eta, entry_eta, hard_eta, decide_eq_true_eq, Bool.and_eq_true, Bool.or_eq_true, Bool.not_eq_true', decide_eq_false_iff_not, Bool.not_not, eq_self, not_true_eq_false, not_false_eq_true, Bool.false_eq_true, Bool.true_eq_false, Bool.not_false, Bool.not_true, if_true, if_false, true_and, and_true, or_false, false_or, or_true, true_or, and_false, false_and, true_implies, if_pos, if_neg, len_58, get_58, app_58, set_58, cut_58, rep_58, emp_58, len_30, get_30, app_30, set_30, cut_30, rep_30, emp_30, len_27, get_27, app_27, set_27, cut_27, rep_27, emp_27, len_i, get_i, app_i, set_i, cut_i, rep_i, emp_i, len_b, get_b, app_b, set_b, cut_b, rep_b, emp_b, e28, decide_true, decide_false, Bool.or_eq_false_iff, Bool.and_eq_false_iff, Bool.or_false, Bool.false_or, Bool.or_true, Bool.true_or, Bool.and_true, Bool.true_and, Bool.and_false, Bool.false_and]
  · simp (maxSteps := 2000000) (discharger := omega) only [r_ite, r_add, r_sub, r_mul, r_quo, r_rem, r_lt, r_le, r_eq, r_bnot, r_or, r_and, r_isel, r_beq, r_band, r_bimp, r_imax, r_imin, r_call, r_gcall, r_bind, Option.bind_some, fits_ok, mfit_ok, wrap_i64, both_self, node_eta, msg_eta, entry_eta, hard_eta, decide_eq_true_eq, Bool.and_eq_true, Bool.or_eq_true, Bool.not_eq_true', decide_eq_false_iff_not, Bool.not_not, eq_self, not_true_eq_false, not_false_eq_true, Bool.false_eq_true, Bool.true_eq_false, Bool.not_false, Bool.not_true, if_true, if_false, true_and, and_true, or_false, false_or, or_true, true_or, and_false, false_and, true_implies, if_pos, if_neg, len_58, get_58, app_58, set_58, cut_58, rep_58, emp_58, len_30, get_30, app_30, set_30, cut_30, rep_30, emp_30, len_27, get_27, app_27, set_27, cut_27, rep_27, emp_27, len_i, get_i, app_i, set_i, cut_i, rep_i, emp_i, len_b, get_b, app_b, set_b, cut_b, rep_b, emp_b, e28, e30, e62, decide_true, decide_false, Bool.or_eq_false_iff, Bool.and_eq_false_iff, Bool.or_false, Bool.false_or, Bool.or_true, Bool.true_or, Bool.and_true, Bool.true_and, Bool.and_false, Bool.false_and]

theorem NI.cut {u : Int} {s : ByteArray} (h : NI B a) : NI B (cutN a u s) := by
  have h' := h
  have q := h; obtain ⟨n1, n5, i0, i1, lv, lx, lm, t0, t1, b0, b1, c0, c1, k0, k1, ll, la, nx, mx⟩ := q
  have hl : last a = a.base + a.log.length := rfl
  unfold cutN
  split
  · exact h'
  · have hb : ((behind a u).length : Int) = a.log.length - (u - a.base) := by unfold behind; rw [List.length_drop]; omega
    exact ⟨n1, n5, i0, i1, lv, lx, lm, t0, t1, by simp only; omega, by simp only; omega, by simp only; omega, c1, k0, k1, by simp only; omega, by simp only; omega, nx, mx⟩

theorem cut_last {u : Int} {s : ByteArray} : last (cutN a u s) = last a := by
  unfold cutN
  split
  · rfl
  · have hl : last a = a.base + a.log.length := rfl
    unfold behind last
    simp only [List.length_drop]
    omega

theorem r_slen10 {T : Tab U} {D : Go.Ab.Callee U} {n : Nat} : (real T D n).slen (⟨#[48, 49, 50, 51, 52, 53, 54, 55, 56, 57]⟩ : ByteArray) = 10 := rfl

theorem sub_small {T : Tab U} {D : Go.Ab.Callee U} {n : Nat} (l h : Int) : ((real T D n).ssub (⟨#[48, 49, 50, 51, 52, 53, 54, 55, 56, 57]⟩ : ByteArray) l h).size ≤ 10 := by
  show (ByteArray.extract (⟨#[48, 49, 50, 51, 52, 53, 54, 55, 56, 57]⟩ : ByteArray) l.toNat h.toNat).size ≤ 10
  rw [ByteArray.size_extract]
  have : (⟨#[48, 49, 50, 51, 52, 53, 54, 55, 56, 57]⟩ : ByteArray).size = 10 := rfl
  omega

theorem r_sfit {T : Tab U} {D : Go.Ab.Callee U} {n : Nat} {x y : ByteArray} (h : x.size + y.size ≤ 2^62) : (real T D n).sfit x y = true := decide_eq_true h
theorem r_scat_size {T : Tab U} {D : Go.Ab.Callee U} {n : Nat} {x y : ByteArray} : ((real T D n).scat x y).size = x.size + y.size := by
  show (x ++ y).size = _
  exact ByteArray.size_append

theorem s_25 : ∀ (d : Nat) {n k : Nat} {v : Int}, d ≤ 100 → d + 1 ≤ k → 0 ≤ v → v < 10 ^ (d + 1) → v ≤ 2^60 → ∃ s : ByteArray, C n k 25 [⟨.int .i64, v⟩] [.str] = some (s, ()) ∧ s.size ≤ 10 * (d + 1)
  | d, n, k, v, hd, hk, h0, h1, h2 => by
    obtain ⟨k, rfl⟩ : ∃ k1, k = k1 + 1 := ⟨k - 1, by omega⟩
    rw [C_succ, nf_25]
    by_cases q : v < 10
    · refine ⟨(real tab (C n k) n).ssub (⟨#[48, 49, 50, 51, 52, 53, 54, 55, 56, 57]⟩ : ByteArray) v (v + 1), ?_, by have := sub_small (T := tab) (D := C n k) (n := n) v (v + 1); omega⟩
      simp (maxSteps := 2000000) (discharger := omega) only [r_ite, r_add, r_sub, r_mul, r_quo, r_rem, r_lt, r_le, r_eq, r_bnot, r_or, r_and, r_isel, r_beq, r_band, r_bimp, r_imax, r_imin, r_call, r_gcall, r_bind, Option.bind_some, fits_ok, mfit_ok, wrap_i64, both_self, node_eta, msg_eta, entry_eta, hard_eta, decide_eq_true_eq, Bool.and_eq_true, Bool.or_eq_true, Bool.not_eq_true', decide_eq_false_iff_not, Bool.not_not, eq_self, not_true_eq_false, not_false_eq_true, Bool.false_eq_true, Bool.true_eq_false, Bool.not_false, Bool.not_true, if_true, if_false, true_and, and_true, or_false, false_or, or_true, true_or, and_false, false_and, true_implies, if_pos, if_neg, len_58, get_58, app_58, set_58, cut_58, rep_58, emp_58, len_30, get_30, app_30, set_30, cut_30, rep_30, emp_30, len_27, get_27, app_27, set_27, cut_27, rep_27, emp_27, len_i, get_i, app_i, set_i, cut_i, rep_i, emp_i, len_b, get_b, app_b, set_b, cut_b, rep_b, emp_b, r_slen10, decide_true, decide_false, Bool.or_eq_false_iff, Bool.and_eq_false_iff, Bool.or_false, Bool.false_or, Bool.or_true, Bool.true_or, Bool.and_true, Bool.true_and, Bool.and_false, Bool.false_and]
    · cases d with
      | zero => simp at h1; omega
      | succ d =>
        have e1 : v.tdiv 10 = v / 10 := Int.tdiv_eq_ediv_of_nonneg h0
        have e2 : v.tmod 10 = v % 10 := Int.tmod_eq_emod_of_nonneg h0
        have h3 : v < 10 ^ (d + 1) * 10 := h1
        obtain ⟨s, hs, hl⟩ := s_25 d (n := n) (k := k) (v := v / 10) (by omega) (by omega) (by omega) (by omega) (by omega)
        have hsub := sub_small (T := tab) (D := C n k) (n := n) (v % 10) (v % 10 + 1)
        refine ⟨(real tab (C n k) n).scat s ((real tab (C n k) n).ssub (⟨#[48, 49, 50, 51, 52, 53, 54, 55, 56, 57]⟩ : ByteArray) (v % 10) (v % 10 + 1)), ?_, by rw [r_scat_size]; omega⟩
        simp (maxSteps := 2000000) (discharger := omega) only [r_ite, r_add, r_sub, r_mul, r_quo, r_rem, r_lt, r_le, r_eq, r_bnot, r_or, r_and, r_isel, r_beq, r_band, r_bimp, r_imax, r_imin, r_call, r_gcall, r_bind, Option.bind_some, fits_ok, mfit_ok, wrap_i64, both_self, node_eta, msg_eta, entry_eta, hard_eta, decide_eq_true_eq, Bool.and_eq_true, Bool.or_eq_true, Bool.not_eq_true', decide_eq_false_iff_not, Bool.not_not, eq_self, not_true_eq_false, not_false_eq_true, Bool.false_eq_true, Bool.true_eq_false, Bool.not_false, Bool.not_true, if_true, if_false, true_and, and_true, or_false, false_or, or_true, true_or, and_false, false_and, true_implies, if_pos, if_neg, len_58, get_58, app_58, set_58, cut_58, rep_58, emp_58, len_30, get_30, app_30, set_30, cut_30, rep_30, emp_30, len_27, get_27, app_27, set_27, cut_27, rep_27, emp_27, len_i, get_i, app_i, set_i, cut_i, rep_i, emp_i, len_b, get_b, app_b, set_b, cut_b, rep_b, emp_b, r_slen10, e1, e2, hs, r_sfit, decide_true, decide_false, Bool.or_eq_false_iff, Bool.and_eq_false_iff, Bool.or_false, Bool.false_or, Bool.or_true, Bool.true_or, Bool.and_true, Bool.true_and, Bool.and_false, Bool.false_and]

theorem s_31 (hk : 13 ≤ k) (hn : 100 ≤ n) {L : List Int} {t : Int} (h0 : 0 ≤ t) (h1 : t ≤ 2^40) : ∃ l : List Entry, C n k 31 [⟨.sl (.int .i64), L⟩, ⟨.int .i64, t⟩] [.sl (.st 58)] = some (l, ()) := by
  obtain ⟨k, rfl⟩ : ∃ k1, k = k1 + 1 := ⟨k - 1, by omega⟩
  rw [C_succ, nf_31, r_loop]
  refine iter_prop (fun x => (20 - x.2.1).toNat) (fun x => 0 ≤ x.2.1 ∧ x.2.1 ≤ 20 ∧ (x.1.length : Int) ≤ x.2.1) (fun o => ∃ l : List Entry, o = some (l, ())) ?_ n _ ⟨by simp only <;> omega, by simp only <;> omega, by simp⟩ (by simp only; omega)
  rintro next ⟨acc, i, rest⟩ ⟨j0, j1, j2⟩ ih
  simp only at j0 j1 j2
  by_cases q : i < (L.length : Int) ∧ i < 20
  · obtain ⟨x, hx, x0, x1⟩ := s_20 (n := n) (k := k) (v := L.getD i.toNat 0) (N := 1073741824) (by omega) (by omega) (by omega)
    have e1 : x.tdiv 100 = x / 100 := Int.tdiv_eq_ediv_of_nonneg x0
    have e2 : (x / 100).tmod 1000 = x / 100 % 1000 := Int.tmod_eq_emod_of_nonneg (by omega)
    obtain ⟨s, hs, hl⟩ := s_25 11 (n := n) (k := k) (v := x / 100 % 1000) (by omega) (by omega) (by omega) (by omega) (by omega)
    obtain ⟨r, hr⟩ := ih (acc ++ [⟨x.tmod (t + 1), s⟩], (i + 1, ())) ⟨by simp only; omega, by simp only; omega, by simp only [List.length_append, List.length_singleton]; omega⟩ (by simp only; omega)
    refine ⟨r, ?_⟩
    simp (maxSteps := 2000000) (discharger := omega) only [r_ite, r_add, r_sub, r_mul, r_quo, r_rem, r_lt, r_le, r_eq, r_bnot, r_or, r_and, r_isel, r_beq, r_band, r_bimp, r_imax, r_imin, r_call, r_gcall, r_bind, Option.bind_some, fits_ok, mfit_ok, wrap_i64, both_self, node_eta, msg_eta, entry_eta, hard_eta, decide_eq_true_eq, Bool.and_eq_true, Bool.or_eq_true, Bool.not_eq_true', decide_eq_false_iff_not, Bool.not_not, eq_self, not_true_eq_false, not_false_eq_true, Bool.false_eq_true, Bool.true_eq_false, Bool.not_false, Bool.not_true, if_true, if_false, true_and, and_true, or_false, false_or, or_true, true_or, and_false, false_and, true_implies, if_pos, if_neg, len_58, get_58, app_58, set_58, cut_58, rep_58, emp_58, len_30, get_30, app_30, set_30, cut_30, rep_30, emp_30, len_27, get_27, app_27, set_27, cut_27, rep_27, emp_27, len_i, get_i, app_i, set_i, cut_i, rep_i, emp_i, len_b, get_b, app_b, set_b, cut_b, rep_b, emp_b, hx, e1, e2, hs, hr, List.length_singleton, decide_true, decide_false, Bool.or_eq_false_iff, Bool.and_eq_false_iff, Bool.or_false, Bool.false_or, Bool.or_true, Bool.true_or, Bool.and_true, Bool.true_and, Bool.and_false, Bool.false_and]
  · refine ⟨acc, ?_⟩
    simp (maxSteps := 2000000) (discharger := omega) only [r_ite, r_add, r_sub, r_mul, r_quo, r_rem, r_lt, r_le, r_eq, r_bnot, r_or, r_and, r_isel, r_beq, r_band, r_bimp, r_imax, r_imin, r_call, r_gcall, r_bind, Option.bind_some, fits_ok, mfit_ok, wrap_i64, both_self, node_eta, msg_eta, entry_eta, hard_eta, decide_eq_true_eq, Bool.and_eq_true, Bool.or_eq_true, Bool.not_eq_true', decide_eq_false_iff_not, Bool.not_not, eq_self, not_true_eq_false, not_false_eq_true, Bool.false_eq_true, Bool.true_eq_false, Bool.not_false, Bool.not_true, if_true, if_false, true_and, and_true, or_false, false_or, or_true, true_or, and_false, false_and, true_implies, if_pos, if_neg, len_58, get_58, app_58, set_58, cut_58, rep_58, emp_58, len_30, get_30, app_30, set_30, cut_30, rep_30, emp_30, len_27, get_27, app_27, set_27, cut_27, rep_27, emp_27, len_i, get_i, app_i, set_i, cut_i, rep_i, emp_i, len_b, get_b, app_b, set_b, cut_b, rep_b, emp_b, decide_true, decide_false, Bool.or_eq_false_iff, Bool.and_eq_false_iff, Bool.or_false, Bool.false_or, Bool.or_true, Bool.true_or, Bool.and_true, Bool.true_and, Bool.and_false, Bool.false_and]

end
end Go.Proofs.Ytinfpahllbhomaa

namespace Go.Proofs.Ytinfpahllbhomaa
open Go.Ab
set_option linter.unusedSimpArgs false
set_option linter.unusedVariables false
set_option maxHeartbeats 8000000
noncomputable section
variable {n k : Nat} {B : Int} {a : Node}

theorem tmod_bd {x m : Int} (hx : 0 ≤ x) (hm : 0 < m) : 0 ≤ x.tmod m ∧ x.tmod m < m := by
  rw [Int.tmod_eq_emod_of_nonneg hx]
  exact ⟨Int.emod_nonneg _ (by omega), Int.emod_lt_of_pos _ hm⟩

theorem bd_le {L : List Int} {b c : Int} (h : ∀ x ∈ L, 0 ≤ x ∧ x ≤ b) (hb : b ≤ c) : ∀ x ∈ L, 0 ≤ x ∧ x ≤ c := fun x hx => ⟨(h x hx).1, by have := (h x hx).2; omega⟩

section
variable {T : Tab U} {D : Go.Ab.Callee U} {m : Nat} {R A S : Type}
theorem q_yes (Q : Option R → Prop) {c : Bool} {x y : Option R} (h : c = true) (hx : Q x) : Q ((real T D m).ite c x y) := by rw [h]; exact hx
theorem q_no (Q : Option R → Prop) {c : Bool} {x y : Option R} (h : ¬ c = true) (hx : Q y) : Q ((real T D m).ite c x y) := by rw [Bool.not_eq_true] at h; rw [h]; exact hx
theorem q_bind (Q : Option R → Prop) {o : Option A} {f : A → Option R} (v : A) (h : o = some v) (hx : Q (f v)) : Q ((real T D m).bind o f) := by rw [h]; exact hx
theorem q_eq (Q : Option R → Prop) {next : S → Option R} {y z : S} (e : y = z) (h : Q (next z)) : Q (next y) := by rw [e]; exact h
end

def MadeQ (o : Option (HL U [.st 27])) : Prop := ∃ b : Node, o = some (b, ()) ∧ NI 200 b ∧ last b ≤ 40

theorem s_8 (hk : 14 ≤ k) (hn : 100 ≤ n) {L : List Int} {id0 nodes0 : Int} :
    ∃ b : Node, C n k 8 [⟨.sl (.int .i64), L⟩, ⟨.int .i64, id0⟩, ⟨.int .i64, nodes0⟩] [.st 27] = some (b, ()) ∧ NI 200 b ∧ last b ≤ 40 := by
  obtain ⟨k, rfl⟩ : ∃ k1, k = k1 + 1 := ⟨k - 1, by omega⟩
  rw [C_succ, nf_8]
  show MadeQ _
  have e21 := s_21 (n := n) (k := k) (id := id0) (nodes := nodes0) (by omega) hn
  have hN0 := NI.new (B := 100) (id := id0) (K := min (max nodes0 1) 5) (by omega) (by omega) (by omega)
  have hl0 : last (newN id0 (min (max nodes0 1) 5)) ≤ 0 := by unfold newN last; simp
  generalize newN id0 (min (max nodes0 1) 5) = a0 at e21 hN0 hl0
  refine q_bind MadeQ (a0, ()) e21 ?_
  rw [r_loop]
  refine iter_prop (fun x => (40 - x.1).toNat) (fun x => 0 ≤ x.1 ∧ x.1 ≤ 40 ∧ NI (100 + x.1) (⟨x.2.1, x.2.2.1, x.2.2.2.1, x.2.2.2.2.1, x.2.2.2.2.2.1, x.2.2.2.2.2.2.1, x.2.2.2.2.2.2.2.1, x.2.2.2.2.2.2.2.2.1, x.2.2.2.2.2.2.2.2.2.1, x.2.2.2.2.2.2.2.2.2.2.1, x.2.2.2.2.2.2.2.2.2.2.2.1, x.2.2.2.2.2.2.2.2.2.2.2.2.1, x.2.2.2.2.2.2.2.2.2.2.2.2.2.1, x.2.2.2.2.2.2.2.2.2.2.2.2.2.2.1, x.2.2.2.2.2.2.2.2.2.2.2.2.2.2.2.1⟩ : Node) ∧ last (⟨x.2.1, x.2.2.1, x.2.2.2.1, x.2.2.2.2.1, x.2.2.2.2.2.1, x.2.2.2.2.2.2.1, x.2.2.2.2.2.2.2.1, x.2.2.2.2.2.2.2.2.1, x.2.2.2.2.2.2.2.2.2.1, x.2.2.2.2.2.2.2.2.2.2.1, x.2.2.2.2.2.2.2.2.2.2.2.1, x.2.2.2.2.2.2.2.2.2.2.2.2.1, x.2.2.2.2.2.2.2.2.2.2.2.2.2.1, x.2.2.2.2.2.2.2.2.2.2.2.2.2.2.1, x.2.2.2.2.2.2.2.2.2.2.2.2.2.2.2.1⟩ : Node) ≤ x.1)
    MadeQ ?_ n _ ⟨by dsimp only; omega, by dsimp only; omega, hN0, hl0⟩ (by dsimp only; omega)
  rintro next ⟨i, id, nodes, term, vote, base, bt, snap, log, role, lead, commit, votes, nxt, mtc, clock, rest⟩ ⟨j0, j1, hN, hl⟩ ih
  dsimp only at j0 j1 hN hl
  have hN1 := hN.le (show 100 + i ≤ 100 + (i + 1) by omega)
  by_cases q : i < (L.length : Int) ∧ i < 40
  · obtain ⟨x, hx, x0, x1⟩ := s_20 (n := n) (k := k) (v := L.getD i.toNat 0) (N := 1073741824) (by omega) (by omega) (by omega)
    have hb := hN.b0
    have hb1 := hN.b1
    have hll := hN.ll
    dsimp only at hb hb1 hll
    have e28 := s_28 (n := n) (k := k) (a := (⟨id, nodes, term, vote, base, bt, snap, log, role, lead, commit, votes, nxt, mtc, clock⟩ : Node)) (by omega) (by dsimp only; omega) (by dsimp only; omega) (by dsimp only; omega)
    have e1 : x.tdiv 12 = x / 12 := Int.tdiv_eq_ediv_of_nonneg x0
    have e2 : x.tmod 12 = x % 12 := Int.tmod_eq_emod_of_nonneg x0
    have hld : last (⟨id, nodes, term, vote, base, bt, snap, log, role, lead, commit, votes, nxt, mtc, clock⟩ : Node) = base + log.length := rfl
    rw [hld] at e28 hl
    obtain ⟨n1, n5, i0, i1, lv, lx, lm, t0, t1, b0, b1, c0, c1, k0, k1, ll, la, nx, mx⟩ := hN
    dsimp only at n1 n5 i0 i1 lv lx lm t0 t1 b0 b1 c0 c1 k0 k1 ll la nx mx
    have nx' := bd_le nx (show 100 + i ≤ 100 + (i + 1) by omega)
    have mx' := bd_le mx (show 100 + i ≤ 100 + (i + 1) by omega)
    refine q_yes MadeQ (by simp (maxSteps := 2000000) (discharger := omega) only [r_ite, r_add, r_sub, r_mul, r_quo, r_rem, r_lt, r_le, r_eq, r_bnot, r_or, r_and, r_isel, r_beq, r_band, r_bimp, r_imax, r_imin, r_call, r_gcall, r_bind, Option.bind_some, fits_ok, mfit_ok, wrap_i64, both_self, node_eta, msg_eta, entry_eta, hard_eta, decide_eq_true_eq, Bool.and_eq_true, Bool.or_eq_true, Bool.not_eq_true', decide_eq_false_iff_not, Bool.not_not, eq_self, not_true_eq_false, not_false_eq_true, Bool.false_eq_true, Bool.true_eq_false, Bool.not_false, Bool.not_true, if_true, if_false, true_and, and_true, or_false, false_or, or_true, true_or, and_false, false_and, true_implies, if_pos, if_neg, len_58, get_58, app_58, set_58, cut_58, rep_58, emp_58, len_30, get_30, app_30, set_30, cut_30, rep_30, emp_30, len_27, get_27, app_27, set_27, cut_27, rep_27, emp_27, len_i, get_i, app_i, set_i, cut_i, rep_i, emp_i, len_b, get_b, app_b, set_b, cut_b, rep_b, emp_b] <;> omega) ?_
    refine q_yes MadeQ (by simp (maxSteps := 2000000) (discharger := omega) only [r_ite, r_add, r_sub, r_mul, r_quo, r_rem, r_lt, r_le, r_eq, r_bnot, r_or, r_and, r_isel, r_beq, r_band, r_bimp, r_imax, r_imin, r_call, r_gcall, r_bind, Option.bind_some, fits_ok, mfit_ok, wrap_i64, both_self, node_eta, msg_eta, entry_eta, hard_eta, decide_eq_true_eq, Bool.and_eq_true, Bool.or_eq_true, Bool.not_eq_true', decide_eq_false_iff_not, Bool.not_not, eq_self, not_true_eq_false, not_false_eq_true, Bool.false_eq_true, Bool.true_eq_false, Bool.not_false, Bool.not_true, if_true, if_false, true_and, and_true, or_false, false_or, or_true, true_or, and_false, false_and, true_implies, if_pos, if_neg, len_58, get_58, app_58, set_58, cut_58, rep_58, emp_58, len_30, get_30, app_30, set_30, cut_30, rep_30, emp_30, len_27, get_27, app_27, set_27, cut_27, rep_27, emp_27, len_i, get_i, app_i, set_i, cut_i, rep_i, emp_i, len_b, get_b, app_b, set_b, cut_b, rep_b, emp_b] <;> omega) ?_
    refine q_bind MadeQ (x, ()) hx ?_
    refine q_bind MadeQ (base + (log.length : Int), ()) e28 ?_
    by_cases d0 : x % 12 = 0 ∨ x % 12 = 1
    · obtain ⟨g0, g1⟩ := tmod_bd (x := x / 12) (m := nodes + 1) (by omega) (by omega)
      have key := ih (i + 1, id, nodes, term + 1, (x / 12).tmod (nodes + 1) - 1, base, bt, snap, log, role, lead, commit, votes, nxt, mtc, clock, ()) ⟨by dsimp only; omega, by dsimp only; omega,
        ⟨n1, n5, i0, i1, lv, lx, lm, by dsimp only; omega, by dsimp only; omega, b0, by dsimp only; omega, c0, by dsimp only; omega, k0, by dsimp only; omega, by dsimp only; omega, by dsimp only; omega, nx', mx'⟩, by show base + (log.length : Int) ≤ i + 1; omega⟩ (by dsimp only; omega)
      rcases d0 with d0 | d0
      · repeat (first | (apply q_yes MadeQ; (focus ((try simp (maxSteps := 2000000) (discharger := omega) only [r_ite, r_add, r_sub, r_mul, r_quo, r_rem, r_lt, r_le, r_eq, r_bnot, r_or, r_and, r_isel, r_beq, r_band, r_bimp, r_imax, r_imin, r_call, r_gcall, r_bind, Option.bind_some, fits_ok, mfit_ok, wrap_i64, both_self, node_eta, msg_eta, entry_eta, hard_eta, decide_eq_true_eq, Bool.and_eq_true, Bool.or_eq_true, Bool.not_eq_true', decide_eq_false_iff_not, Bool.not_not, eq_self, not_true_eq_false, not_false_eq_true, Bool.false_eq_true, Bool.true_eq_false, Bool.not_false, Bool.not_true, if_true, if_false, true_and, and_true, or_false, false_or, or_true, true_or, and_false, false_and, true_implies, if_pos, if_neg, len_58, get_58, app_58, set_58, cut_58, rep_58, emp_58, len_30, get_30, app_30, set_30, cut_30, rep_30, emp_30, len_27, get_27, app_27, set_27, cut_27, rep_27, emp_27, len_i, get_i, app_i, set_i, cut_i, rep_i, emp_i, len_b, get_b, app_b, set_b, cut_b, rep_b, emp_b, e1, e2]) <;> omega))) | (apply q_no MadeQ; (focus ((try simp (maxSteps := 2000000) (discharger := omega) only [r_ite, r_add, r_sub, r_mul, r_quo, r_rem, r_lt, r_le, r_eq, r_bnot, r_or, r_and, r_isel, r_beq, r_band, r_bimp, r_imax, r_imin, r_call, r_gcall, r_bind, Option.bind_some, fits_ok, mfit_ok, wrap_i64, both_self, node_eta, msg_eta, entry_eta, hard_eta, decide_eq_true_eq, Bool.and_eq_true, Bool.or_eq_true, Bool.not_eq_true', decide_eq_false_iff_not, Bool.not_not, eq_self, not_true_eq_false, not_false_eq_true, Bool.false_eq_true, Bool.true_eq_false, Bool.not_false, Bool.not_true, if_true, if_false, true_and, and_true, or_false, false_or, or_true, true_or, and_false, false_and, true_implies, if_pos, if_neg, len_58, get_58, app_58, set_58, cut_58, rep_58, emp_58, len_30, get_30, app_30, set_30, cut_30, rep_30, emp_30, len_27, get_27, app_27, set_27, cut_27, rep_27, emp_27, len_i, get_i, app_i, set_i, cut_i, rep_i, emp_i, len_b, get_b, app_b, set_b, cut_b, rep_b, emp_b, e1, e2]) <;> omega))))
        exact q_eq MadeQ (by simp (maxSteps := 2000000) (discharger := omega) only [r_ite, r_add, r_sub, r_mul, r_quo, r_rem, r_lt, r_le, r_eq, r_bnot, r_or, r_and, r_isel, r_beq, r_band, r_bimp, r_imax, r_imin, r_call, r_gcall, r_bind, Option.bind_some, fits_ok, mfit_ok, wrap_i64, both_self, node_eta, msg_eta, entry_eta, hard_eta, decide_eq_true_eq, Bool.and_eq_true, Bool.or_eq_true, Bool.not_eq_true', decide_eq_false_iff_not, Bool.not_not, eq_self, not_true_eq_false, not_false_eq_true, Bool.false_eq_true, Bool.true_eq_false, Bool.not_false, Bool.not_true, if_true, if_false, true_and, and_true, or_false, false_or, or_true, true_or, and_false, false_and, true_implies, if_pos, if_neg, len_58, get_58, app_58, set_58, cut_58, rep_58, emp_58, len_30, get_30, app_30, set_30, cut_30, rep_30, emp_30, len_27, get_27, app_27, set_27, cut_27, rep_27, emp_27, len_i, get_i, app_i, set_i, cut_i, rep_i, emp_i, len_b, get_b, app_b, set_b, cut_b, rep_b, emp_b, e1, e2]) key
      · repeat (first | (apply q_yes MadeQ; (focus ((try simp (maxSteps := 2000000) (discharger := omega) only [r_ite, r_add, r_sub, r_mul, r_quo, r_rem, r_lt, r_le, r_eq, r_bnot, r_or, r_and, r_isel, r_beq, r_band, r_bimp, r_imax, r_imin, r_call, r_gcall, r_bind, Option.bind_some, fits_ok, mfit_ok, wrap_i64, both_self, node_eta, msg_eta, entry_eta, hard_eta, decide_eq_true_eq, Bool.and_eq_true, Bool.or_eq_true, Bool.not_eq_true', decide_eq_false_iff_not, Bool.not_not, eq_self, not_true_eq_false, not_false_eq_true, Bool.false_eq_true, Bool.true_eq_false, Bool.not_false, Bool.not_true, if_true, if_false, true_and, and_true, or_false, false_or, or_true, true_or, and_false, false_and, true_implies, if_pos, if_neg, len_58, get_58, app_58, set_58, cut_58, rep_58, emp_58, len_30, get_30, app_30, set_30, cut_30, rep_30, emp_30, len_27, get_27, app_27, set_27, cut_27, rep_27, emp_27, len_i, get_i, app_i, set_i, cut_i, rep_i, emp_i, len_b, get_b, app_b, set_b, cut_b, rep_b, emp_b, e1, e2]) <;> omega))) | (apply q_no MadeQ; (focus ((try simp (maxSteps := 2000000) (discharger := omega) only [r_ite, r_add, r_sub, r_mul, r_quo, r_rem, r_lt, r_le, r_eq, r_bnot, r_or, r_and, r_isel, r_beq, r_band, r_bimp, r_imax, r_imin, r_call, r_gcall, r_bind, Option.bind_some, fits_ok, mfit_ok, wrap_i64, both_self, node_eta, msg_eta, entry_eta, hard_eta, decide_eq_true_eq, Bool.and_eq_true, Bool.or_eq_true, Bool.not_eq_true', decide_eq_false_iff_not, Bool.not_not, eq_self, not_true_eq_false, not_false_eq_true, Bool.false_eq_true, Bool.true_eq_false, Bool.not_false, Bool.not_true, if_true, if_false, true_and, and_true, or_false, false_or, or_true, true_or, and_false, false_and, true_implies, if_pos, if_neg, len_58, get_58, app_58, set_58, cut_58, rep_58, emp_58, len_30, get_30, app_30, set_30, cut_30, rep_30, emp_30, len_27, get_27, app_27, set_27, cut_27, rep_27, emp_27, len_i, get_i, app_i, set_i, cut_i, rep_i, emp_i, len_b, get_b, app_b, set_b, cut_b, rep_b, emp_b, e1, e2]) <;> omega))))
        exact q_eq MadeQ (by simp (maxSteps := 2000000) (discharger := omega) only [r_ite, r_add, r_sub, r_mul, r_quo, r_rem, r_lt, r_le, r_eq, r_bnot, r_or, r_and, r_isel, r_beq, r_band, r_bimp, r_imax, r_imin, r_call, r_gcall, r_bind, Option.bind_some, fits_ok, mfit_ok, wrap_i64, both_self, node_eta, msg_eta, entry_eta, hard_eta, decide_eq_true_eq, Bool.and_eq_true, Bool.or_eq_true, Bool.not_eq_true', decide_eq_false_iff_not, Bool.not_not, eq_self, not_true_eq_false, not_false_eq_true, Bool.false_eq_true, Bool.true_eq_false, Bool.not_false, Bool.not_true, if_true, if_false, true_and, and_true, or_false, false_or, or_true, true_or, and_false, false_and, true_implies, if_pos, if_neg, len_58, get_58, app_58, set_58, cut_58, rep_58, emp_58, len_30, get_30, app_30, set_30, cut_30, rep_30, emp_30, len_27, get_27, app_27, set_27, cut_27, rep_27, emp_27, len_i, get_i, app_i, set_i, cut_i, rep_i, emp_i, len_b, get_b, app_b, set_b, cut_b, rep_b, emp_b, e1, e2]) key
    by_cases d2 : x % 12 = 2
    · have e3 : (x / 12).tmod 5 = x / 12 % 5 := Int.tmod_eq_emod_of_nonneg (by omega)
      have key := ih (i + 1, id, nodes, term, vote, base, bt, snap, log, role, lead, min (commit + x / 12 % 5) (base + log.length), votes, nxt, mtc, clock, ()) ⟨by dsimp only; omega, by dsimp only; omega,
        ⟨n1, n5, i0, i1, lv, lx, lm, t0, by dsimp only; omega, b0, by dsimp only; omega, by dsimp only; omega, by dsimp only; omega, k0, by dsimp only; omega, by dsimp only; omega, by dsimp only; omega, nx', mx'⟩, by show base + (log.length : Int) ≤ i + 1; omega⟩ (by dsimp only; omega)
      repeat (first | (apply q_yes MadeQ; (focus ((try simp (maxSteps := 2000000) (discharger := omega) only [r_ite, r_add, r_sub, r_mul, r_quo, r_rem, r_lt, r_le, r_eq, r_bnot, r_or, r_and, r_isel, r_beq, r_band, r_bimp, r_imax, r_imin, r_call, r_gcall, r_bind, Option.bind_some, fits_ok, mfit_ok, wrap_i64, both_self, node_eta, msg_eta, entry_eta, hard_eta, decide_eq_true_eq, Bool.and_eq_true, Bool.or_eq_true, Bool.not_eq_true', decide_eq_false_iff_not, Bool.not_not, eq_self, not_true_eq_false, not_false_eq_true, Bool.false_eq_true, Bool.true_eq_false, Bool.not_false, Bool.not_true, if_true, if_false, true_and, and_true, or_false, false_or, or_true, true_or, and_false, false_and, true_implies, if_pos, if_neg, len_58, get_58, app_58, set_58, cut_58, rep_58, emp_58, len_30, get_30, app_30, set_30, cut_30, rep_30, emp_30, len_27, get_27, app_27, set_27, cut_27, rep_27, emp_27, len_i, get_i, app_i, set_i, cut_i, rep_i, emp_i, len_b, get_b, app_b, set_b, cut_b, rep_b, emp_b, e1, e2, e3]) <;> omega))) | (apply q_no MadeQ; (focus ((try simp (maxSteps := 2000000) (discharger := omega) only [r_ite, r_add, r_sub, r_mul, r_quo, r_rem, r_lt, r_le, r_eq, r_bnot, r_or, r_and, r_isel, r_beq, r_band, r_bimp, r_imax, r_imin, r_call, r_gcall, r_bind, Option.bind_some, fits_ok, mfit_ok, wrap_i64, both_self, node_eta, msg_eta, entry_eta, hard_eta, decide_eq_true_eq, Bool.and_eq_true, Bool.or_eq_true, Bool.not_eq_true', decide_eq_false_iff_not, Bool.not_not, eq_self, not_true_eq_false, not_false_eq_true, Bool.false_eq_true, Bool.true_eq_false, Bool.not_false, Bool.not_true, if_true, if_false, true_and, and_true, or_false, false_or, or_true, true_or, and_false, false_and, true_implies, if_pos, if_neg, len_58, get_58, app_58, set_58, cut_58, rep_58, emp_58, len_30, get_30, app_30, set_30, cut_30, rep_30, emp_30, len_27, get_27, app_27, set_27, cut_27, rep_27, emp_27, len_i, get_i, app_i, set_i, cut_i, rep_i, emp_i, len_b, get_b, app_b, set_b, cut_b, rep_b, emp_b, e1, e2, e3]) <;> omega))))
      exact q_eq MadeQ (by simp (maxSteps := 2000000) (discharger := omega) only [r_ite, r_add, r_sub, r_mul, r_quo, r_rem, r_lt, r_le, r_eq, r_bnot, r_or, r_and, r_isel, r_beq, r_band, r_bimp, r_imax, r_imin, r_call, r_gcall, r_bind, Option.bind_some, fits_ok, mfit_ok, wrap_i64, both_self, node_eta, msg_eta, entry_eta, hard_eta, decide_eq_true_eq, Bool.and_eq_true, Bool.or_eq_true, Bool.not_eq_true', decide_eq_false_iff_not, Bool.not_not, eq_self, not_true_eq_false, not_false_eq_true, Bool.false_eq_true, Bool.true_eq_false, Bool.not_false, Bool.not_true, if_true, if_false, true_and, and_true, or_false, false_or, or_true, true_or, and_false, false_and, true_implies, if_pos, if_neg, len_58, get_58, app_58, set_58, cut_58, rep_58, emp_58, len_30, get_30, app_30, set_30, cut_30, rep_30, emp_30, len_27, get_27, app_27, set_27, cut_27, rep_27, emp_27, len_i, get_i, app_i, set_i, cut_i, rep_i, emp_i, len_b, get_b, app_b, set_b, cut_b, rep_b, emp_b, e1, e2, e3]) key
    by_cases d3 : x % 12 = 3
    · have e3 : (x / 12).tmod 4 = x / 12 % 4 := Int.tmod_eq_emod_of_nonneg (by omega)
      obtain ⟨s, hs, _⟩ := s_25 11 (n := n) (k := k) (v := x / 12) (by omega) (by omega) (by omega) (by omega) (by omega)
      have e29 := s_29 (n := n) (k := k) (u := base + x / 12 % 4) (s := s) (by omega) hN1 (by omega) (by omega) (by omega)
      have hC := hN1.cut (u := base + x / 12 % 4) (s := s)
      have hcl := cut_last (a := (⟨id, nodes, term, vote, base, bt, snap, log, role, lead, commit, votes, nxt, mtc, clock⟩ : Node)) (u := base + x / 12 % 4) (s := s)
      rw [hld] at hcl
      generalize cutN (⟨id, nodes, term, vote, base, bt, snap, log, role, lead, commit, votes, nxt, mtc, clock⟩ : Node) (base + x / 12 % 4) s = c at e29 hC hcl
      have key := ih (i + 1, c.id, c.nodes, c.term, c.vote, c.base, c.baseTerm, c.snap, c.log, c.role, c.lead, c.commit, c.votes, c.next, c.match, c.clock, ()) ⟨by dsimp only; omega, by dsimp only; omega, hC, by show last c ≤ i + 1; omega⟩ (by dsimp only; omega)
      repeat (first | (apply q_yes MadeQ; (focus ((try simp (maxSteps := 2000000) (discharger := omega) only [r_ite, r_add, r_sub, r_mul, r_quo, r_rem, r_lt, r_le, r_eq, r_bnot, r_or, r_and, r_isel, r_beq, r_band, r_bimp, r_imax, r_imin, r_call, r_gcall, r_bind, Option.bind_some, fits_ok, mfit_ok, wrap_i64, both_self, node_eta, msg_eta, entry_eta, hard_eta, decide_eq_true_eq, Bool.and_eq_true, Bool.or_eq_true, Bool.not_eq_true', decide_eq_false_iff_not, Bool.not_not, eq_self, not_true_eq_false, not_false_eq_true, Bool.false_eq_true, Bool.true_eq_false, Bool.not_false, Bool.not_true, if_true, if_false, true_and, and_true, or_false, false_or, or_true, true_or, and_false, false_and, true_implies, if_pos, if_neg, len_58, get_58, app_58, set_58, cut_58, rep_58, emp_58, len_30, get_30, app_30, set_30, cut_30, rep_30, emp_30, len_27, get_27, app_27, set_27, cut_27, rep_27, emp_27, len_i, get_i, app_i, set_i, cut_i, rep_i, emp_i, len_b, get_b, app_b, set_b, cut_b, rep_b, emp_b, e1, e2, e3]) <;> omega))) | (apply q_no MadeQ; (focus ((try simp (maxSteps := 2000000) (discharger := omega) only [r_ite, r_add, r_sub, r_mul, r_quo, r_rem, r_lt, r_le, r_eq, r_bnot, r_or, r_and, r_isel, r_beq, r_band, r_bimp, r_imax, r_imin, r_call, r_gcall, r_bind, Option.bind_some, fits_ok, mfit_ok, wrap_i64, both_self, node_eta, msg_eta, entry_eta, hard_eta, decide_eq_true_eq, Bool.and_eq_true, Bool.or_eq_true, Bool.not_eq_true', decide_eq_false_iff_not, Bool.not_not, eq_self, not_true_eq_false, not_false_eq_true, Bool.false_eq_true, Bool.true_eq_false, Bool.not_false, Bool.not_true, if_true, if_false, true_and, and_true, or_false, false_or, or_true, true_or, and_false, false_and, true_implies, if_pos, if_neg, len_58, get_58, app_58, set_58, cut_58, rep_58, emp_58, len_30, get_30, app_30, set_30, cut_30, rep_30, emp_30, len_27, get_27, app_27, set_27, cut_27, rep_27, emp_27, len_i, get_i, app_i, set_i, cut_i, rep_i, emp_i, len_b, get_b, app_b, set_b, cut_b, rep_b, emp_b, e1, e2, e3]) <;> omega))))
      refine q_bind MadeQ (s, ()) (by simp (maxSteps := 2000000) (discharger := omega) only [r_ite, r_add, r_sub, r_mul, r_quo, r_rem, r_lt, r_le, r_eq, r_bnot, r_or, r_and, r_isel, r_beq, r_band, r_bimp, r_imax, r_imin, r_call, r_gcall, r_bind, Option.bind_some, fits_ok, mfit_ok, wrap_i64, both_self, node_eta, msg_eta, entry_eta, hard_eta, decide_eq_true_eq, Bool.and_eq_true, Bool.or_eq_true, Bool.not_eq_true', decide_eq_false_iff_not, Bool.not_not, eq_self, not_true_eq_false, not_false_eq_true, Bool.false_eq_true, Bool.true_eq_false, Bool.not_false, Bool.not_true, if_true, if_false, true_and, and_true, or_false, false_or, or_true, true_or, and_false, false_and, true_implies, if_pos, if_neg, len_58, get_58, app_58, set_58, cut_58, rep_58, emp_58, len_30, get_30, app_30, set_30, cut_30, rep_30, emp_30, len_27, get_27, app_27, set_27, cut_27, rep_27, emp_27, len_i, get_i, app_i, set_i, cut_i, rep_i, emp_i, len_b, get_b, app_b, set_b, cut_b, rep_b, emp_b, e1, e2, e3, hs]) ?_
      refine q_bind MadeQ (c, ()) (by simp (maxSteps := 2000000) (discharger := omega) only [r_ite, r_add, r_sub, r_mul, r_quo, r_rem, r_lt, r_le, r_eq, r_bnot, r_or, r_and, r_isel, r_beq, r_band, r_bimp, r_imax, r_imin, r_call, r_gcall, r_bind, Option.bind_some, fits_ok, mfit_ok, wrap_i64, both_self, node_eta, msg_eta, entry_eta, hard_eta, decide_eq_true_eq, Bool.and_eq_true, Bool.or_eq_true, Bool.not_eq_true', decide_eq_false_iff_not, Bool.not_not, eq_self, not_true_eq_false, not_false_eq_true, Bool.false_eq_true, Bool.true_eq_false, Bool.not_false, Bool.not_true, if_true, if_false, true_and, and_true, or_false, false_or, or_true, true_or, and_false, false_and, true_implies, if_pos, if_neg, len_58, get_58, app_58, set_58, cut_58, rep_58, emp_58, len_30, get_30, app_30, set_30, cut_30, rep_30, emp_30, len_27, get_27, app_27, set_27, cut_27, rep_27, emp_27, len_i, get_i, app_i, set_i, cut_i, rep_i, emp_i, len_b, get_b, app_b, set_b, cut_b, rep_b, emp_b, e1, e2, e3, e29]) ?_
      exact q_eq MadeQ (by simp (maxSteps := 2000000) (discharger := omega) only [r_ite, r_add, r_sub, r_mul, r_quo, r_rem, r_lt, r_le, r_eq, r_bnot, r_or, r_and, r_isel, r_beq, r_band, r_bimp, r_imax, r_imin, r_call, r_gcall, r_bind, Option.bind_some, fits_ok, mfit_ok, wrap_i64, both_self, node_eta, msg_eta, entry_eta, hard_eta, decide_eq_true_eq, Bool.and_eq_true, Bool.or_eq_true, Bool.not_eq_true', decide_eq_false_iff_not, Bool.not_not, eq_self, not_true_eq_false, not_false_eq_true, Bool.false_eq_true, Bool.true_eq_false, Bool.not_false, Bool.not_true, if_true, if_false, true_and, and_true, or_false, false_or, or_true, true_or, and_false, false_and, true_implies, if_pos, if_neg, len_58, get_58, app_58, set_58, cut_58, rep_58, emp_58, len_30, get_30, app_30, set_30, cut_30, rep_30, emp_30, len_27, get_27, app_27, set_27, cut_27, rep_27, emp_27, len_i, get_i, app_i, set_i, cut_i, rep_i, emp_i, len_b, get_b, app_b, set_b, cut_b, rep_b, emp_b, e1, e2, e3]) key
    by_cases d4 : x % 12 = 4
    · have e3 : (x / 12).tmod 3 = x / 12 % 3 := Int.tmod_eq_emod_of_nonneg (by omega)
      have e4 : x.tdiv 36 = x / 36 := Int.tdiv_eq_ediv_of_nonneg x0
      have e5 : x.tdiv 200 = x / 200 := Int.tdiv_eq_ediv_of_nonneg x0
      obtain ⟨g0, g1⟩ := tmod_bd (x := x / 36) (m := nodes + 1) (by omega) (by omega)
      obtain ⟨g2, g3⟩ := tmod_bd (x := x / 200) (m := nodes) (by omega) (by omega)
      have key := ih (i + 1, id, nodes, term, vote, base, bt, snap, log, x / 12 % 3, (x / 36).tmod (nodes + 1) - 1, commit, votes.set ((x / 200).tmod nodes).toNat true, nxt, mtc, clock, ()) ⟨by dsimp only; omega, by dsimp only; omega,
        ⟨n1, n5, i0, i1, by dsimp only; rw [List.length_set]; omega, lx, lm, t0, by dsimp only; omega, b0, by dsimp only; omega, c0, by dsimp only; omega, k0, by dsimp only; omega, by dsimp only; omega, by dsimp only; omega, nx', mx'⟩, by show base + (log.length : Int) ≤ i + 1; omega⟩ (by dsimp only; omega)
      repeat (first | (apply q_yes MadeQ; (focus ((try simp (maxSteps := 2000000) (discharger := omega) only [r_ite, r_add, r_sub, r_mul, r_quo, r_rem, r_lt, r_le, r_eq, r_bnot, r_or, r_and, r_isel, r_beq, r_band, r_bimp, r_imax, r_imin, r_call, r_gcall, r_bind, Option.bind_some, fits_ok, mfit_ok, wrap_i64, both_self, node_eta, msg_eta, entry_eta, hard_eta, decide_eq_true_eq, Bool.and_eq_true, Bool.or_eq_true, Bool.not_eq_true', decide_eq_false_iff_not, Bool.not_not, eq_self, not_true_eq_false, not_false_eq_true, Bool.false_eq_true, Bool.true_eq_false, Bool.not_false, Bool.not_true, if_true, if_false, true_and, and_true, or_false, false_or, or_true, true_or, and_false, false_and, true_implies, if_pos, if_neg, len_58, get_58, app_58, set_58, cut_58, rep_58, emp_58, len_30, get_30, app_30, set_30, cut_30, rep_30, emp_30, len_27, get_27, app_27, set_27, cut_27, rep_27, emp_27, len_i, get_i, app_i, set_i, cut_i, rep_i, emp_i, len_b, get_b, app_b, set_b, cut_b, rep_b, emp_b, e1, e2, e3, e4, e5]) <;> omega))) | (apply q_no MadeQ; (focus ((try simp (maxSteps := 2000000) (discharger := omega) only [r_ite, r_add, r_sub, r_mul, r_quo, r_rem, r_lt, r_le, r_eq, r_bnot, r_or, r_and, r_isel, r_beq, r_band, r_bimp, r_imax, r_imin, r_call, r_gcall, r_bind, Option.bind_some, fits_ok, mfit_ok, wrap_i64, both_self, node_eta, msg_eta, entry_eta, hard_eta, decide_eq_true_eq, Bool.and_eq_true, Bool.or_eq_true, Bool.not_eq_true', decide_eq_false_iff_not, Bool.not_not, eq_self, not_true_eq_false, not_false_eq_true, Bool.false_eq_true, Bool.true_eq_false, Bool.not_false, Bool.not_true, if_true, if_false, true_and, and_true, or_false, false_or, or_true, true_or, and_false, false_and, true_implies, if_pos, if_neg, len_58, get_58, app_58, set_58, cut_58, rep_58, emp_58, len_30, get_30, app_30, set_30, cut_30, rep_30, emp_30, len_27, get_27, app_27, set_27, cut_27, rep_27, emp_27, len_i, get_i, app_i, set_i, cut_i, rep_i, emp_i, len_b, get_b, app_b, set_b, cut_b, rep_b, emp_b, e1, e2, e3, e4, e5]) <;> omega))))
      exact q_eq MadeQ (by simp (maxSteps := 2000000) (discharger := omega) only [r_ite, r_add, r_sub, r_mul, r_quo, r_rem, r_lt, r_le, r_eq, r_bnot, r_or, r_and, r_isel, r_beq, r_band, r_bimp, r_imax, r_imin, r_call, r_gcall, r_bind, Option.bind_some, fits_ok, mfit_ok, wrap_i64, both_self, node_eta, msg_eta, entry_eta, hard_eta, decide_eq_true_eq, Bool.and_eq_true, Bool.or_eq_true, Bool.not_eq_true', decide_eq_false_iff_not, Bool.not_not, eq_self, not_true_eq_false, not_false_eq_true, Bool.false_eq_true, Bool.true_eq_false, Bool.not_false, Bool.not_true, if_true, if_false, true_and, and_true, or_false, false_or, or_true, true_or, and_false, false_and, true_implies, if_pos, if_neg, len_58, get_58, app_58, set_58, cut_58, rep_58, emp_58, len_30, get_30, app_30, set_30, cut_30, rep_30, emp_30, len_27, get_27, app_27, set_27, cut_27, rep_27, emp_27, len_i, get_i, app_i, set_i, cut_i, rep_i, emp_i, len_b, get_b, app_b, set_b, cut_b, rep_b, emp_b, e1, e2, e3, e4, e5]) key
    by_cases d5 : x % 12 = 5
    · have e4 : x.tdiv 60 = x / 60 := Int.tdiv_eq_ediv_of_nonneg x0
      have e5 : x.tdiv 600 = x / 600 := Int.tdiv_eq_ediv_of_nonneg x0
      obtain ⟨g0, g1⟩ := tmod_bd (x := x / 60) (m := base + log.length + 2) (by omega) (by omega)
      obtain ⟨g2, g3⟩ := tmod_bd (x := x / 600) (m := base + log.length + 1) (by omega) (by omega)
      obtain ⟨g4, g5⟩ := tmod_bd (x := x / 12) (m := nodes) (by omega) (by omega)
      have key := ih (i + 1, id, nodes, term, vote, base, bt, snap, log, role, lead, commit, votes, nxt.set ((x / 12).tmod nodes).toNat (1 + (x / 60).tmod (base + log.length + 2)), mtc.set ((x / 12).tmod nodes).toNat ((x / 600).tmod (base + log.length + 1)), clock, ()) ⟨by dsimp only; omega, by dsimp only; omega,
        ⟨n1, n5, i0, i1, lv, by dsimp only; rw [List.length_set]; omega, by dsimp only; rw [List.length_set]; omega, t0, by dsimp only; omega, b0, by dsimp only; omega, c0, by dsimp only; omega, k0, by dsimp only; omega, by dsimp only; omega, by dsimp only; omega, set_bd nx' (by omega) (by omega), set_bd mx' (by omega) (by omega)⟩, by show base + (log.length : Int) ≤ i + 1; omega⟩ (by dsimp only; omega)
      repeat (first | (apply q_yes MadeQ; (focus ((try simp (maxSteps := 2000000) (discharger := omega) only [r_ite, r_add, r_sub, r_mul, r_quo, r_rem, r_lt, r_le, r_eq, r_bnot, r_or, r_and, r_isel, r_beq, r_band, r_bimp, r_imax, r_imin, r_call, r_gcall, r_bind, Option.bind_some, fits_ok, mfit_ok, wrap_i64, both_self, node_eta, msg_eta, entry_eta, hard_eta, decide_eq_true_eq, Bool.and_eq_true, Bool.or_eq_true, Bool.not_eq_true', decide_eq_false_iff_not, Bool.not_not, eq_self, not_true_eq_false, not_false_eq_true, Bool.false_eq_true, Bool.true_eq_false, Bool.not_false, Bool.not_true, if_true, if_false, true_and, and_true, or_false, false_or, or_true, true_or, and_false, false_and, true_implies, if_pos, if_neg, len_58, get_58, app_58, set_58, cut_58, rep_58, emp_58, len_30, get_30, app_30, set_30, cut_30, rep_30, emp_30, len_27, get_27, app_27, set_27, cut_27, rep_27, emp_27, len_i, get_i, app_i, set_i, cut_i, rep_i, emp_i, len_b, get_b, app_b, set_b, cut_b, rep_b, emp_b, e1, e2, e4, e5]) <;> omega))) | (apply q_no MadeQ; (focus ((try simp (maxSteps := 2000000) (discharger := omega) only [r_ite, r_add, r_sub, r_mul, r_quo, r_rem, r_lt, r_le, r_eq, r_bnot, r_or, r_and, r_isel, r_beq, r_band, r_bimp, r_imax, r_imin, r_call, r_gcall, r_bind, Option.bind_some, fits_ok, mfit_ok, wrap_i64, both_self, node_eta, msg_eta, entry_eta, hard_eta, decide_eq_true_eq, Bool.and_eq_true, Bool.or_eq_true, Bool.not_eq_true', decide_eq_false_iff_not, Bool.not_not, eq_self, not_true_eq_false, not_false_eq_true, Bool.false_eq_true, Bool.true_eq_false, Bool.not_false, Bool.not_true, if_true, if_false, true_and, and_true, or_false, false_or, or_true, true_or, and_false, false_and, true_implies, if_pos, if_neg, len_58, get_58, app_58, set_58, cut_58, rep_58, emp_58, len_30, get_30, app_30, set_30, cut_30, rep_30, emp_30, len_27, get_27, app_27, set_27, cut_27, rep_27, emp_27, len_i, get_i, app_i, set_i, cut_i, rep_i, emp_i, len_b, get_b, app_b, set_b, cut_b, rep_b, emp_b, e1, e2, e4, e5]) <;> omega))))
      exact q_eq MadeQ (by simp (maxSteps := 2000000) (discharger := omega) only [r_ite, r_add, r_sub, r_mul, r_quo, r_rem, r_lt, r_le, r_eq, r_bnot, r_or, r_and, r_isel, r_beq, r_band, r_bimp, r_imax, r_imin, r_call, r_gcall, r_bind, Option.bind_some, fits_ok, mfit_ok, wrap_i64, both_self, node_eta, msg_eta, entry_eta, hard_eta, decide_eq_true_eq, Bool.and_eq_true, Bool.or_eq_true, Bool.not_eq_true', decide_eq_false_iff_not, Bool.not_not, eq_self, not_true_eq_false, not_false_eq_true, Bool.false_eq_true, Bool.true_eq_false, Bool.not_false, Bool.not_true, if_true, if_false, true_and, and_true, or_false, false_or, or_true, true_or, and_false, false_and, true_implies, if_pos, if_neg, len_58, get_58, app_58, set_58, cut_58, rep_58, emp_58, len_30, get_30, app_30, set_30, cut_30, rep_30, emp_30, len_27, get_27, app_27, set_27, cut_27, rep_27, emp_27, len_i, get_i, app_i, set_i, cut_i, rep_i, emp_i, len_b, get_b, app_b, set_b, cut_b, rep_b, emp_b, e1, e2, e4, e5]) key
    by_cases d6 : x % 12 = 6
    · have e3 : (x / 12).tmod 30 = x / 12 % 30 := Int.tmod_eq_emod_of_nonneg (by omega)
      have key := ih (i + 1, id, nodes, term, vote, base, bt, snap, log, role, lead, commit, votes, nxt, mtc, x / 12 % 30, ()) ⟨by dsimp only; omega, by dsimp only; omega,
        ⟨n1, n5, i0, i1, lv, lx, lm, t0, by dsimp only; omega, b0, by dsimp only; omega, c0, by dsimp only; omega, by dsimp only; omega, by dsimp only; omega, by dsimp only; omega, by dsimp only; omega, nx', mx'⟩, by show base + (log.length : Int) ≤ i + 1; omega⟩ (by dsimp only; omega)
      repeat (first | (apply q_yes MadeQ; (focus ((try simp (maxSteps := 2000000) (discharger := omega) only [r_ite, r_add, r_sub, r_mul, r_quo, r_rem, r_lt, r_le, r_eq, r_bnot, r_or, r_and, r_isel, r_beq, r_band, r_bimp, r_imax, r_imin, r_call, r_gcall, r_bind, Option.bind_some, fits_ok, mfit_ok, wrap_i64, both_self, node_eta, msg_eta, entry_eta, hard_eta, decide_eq_true_eq, Bool.and_eq_true, Bool.or_eq_true, Bool.not_eq_true', decide_eq_false_iff_not, Bool.not_not, eq_self, not_true_eq_false, not_false_eq_true, Bool.false_eq_true, Bool.true_eq_false, Bool.not_false, Bool.not_true, if_true, if_false, true_and, and_true, or_false, false_or, or_true, true_or, and_false, false_and, true_implies, if_pos, if_neg, len_58, get_58, app_58, set_58, cut_58, rep_58, emp_58, len_30, get_30, app_30, set_30, cut_30, rep_30, emp_30, len_27, get_27, app_27, set_27, cut_27, rep_27, emp_27, len_i, get_i, app_i, set_i, cut_i, rep_i, emp_i, len_b, get_b, app_b, set_b, cut_b, rep_b, emp_b, e1, e2, e3]) <;> omega))) | (apply q_no MadeQ; (focus ((try simp (maxSteps := 2000000) (discharger := omega) only [r_ite, r_add, r_sub, r_mul, r_quo, r_rem, r_lt, r_le, r_eq, r_bnot, r_or, r_and, r_isel, r_beq, r_band, r_bimp, r_imax, r_imin, r_call, r_gcall, r_bind, Option.bind_some, fits_ok, mfit_ok, wrap_i64, both_self, node_eta, msg_eta, entry_eta, hard_eta, decide_eq_true_eq, Bool.and_eq_true, Bool.or_eq_true, Bool.not_eq_true', decide_eq_false_iff_not, Bool.not_not, eq_self, not_true_eq_false, not_false_eq_true, Bool.false_eq_true, Bool.true_eq_false, Bool.not_false, Bool.not_true, if_true, if_false, true_and, and_true, or_false, false_or, or_true, true_or, and_false, false_and, true_implies, if_pos, if_neg, len_58, get_58, app_58, set_58, cut_58, rep_58, emp_58, len_30, get_30, app_30, set_30, cut_30, rep_30, emp_30, len_27, get_27, app_27, set_27, cut_27, rep_27, emp_27, len_i, get_i, app_i, set_i, cut_i, rep_i, emp_i, len_b, get_b, app_b, set_b, cut_b, rep_b, emp_b, e1, e2, e3]) <;> omega))))
      exact q_eq MadeQ (by simp (maxSteps := 2000000) (discharger := omega) only [r_ite, r_add, r_sub, r_mul, r_quo, r_rem, r_lt, r_le, r_eq, r_bnot, r_or, r_and, r_isel, r_beq, r_band, r_bimp, r_imax, r_imin, r_call, r_gcall, r_bind, Option.bind_some, fits_ok, mfit_ok, wrap_i64, both_self, node_eta, msg_eta, entry_eta, hard_eta, decide_eq_true_eq, Bool.and_eq_true, Bool.or_eq_true, Bool.not_eq_true', decide_eq_false_iff_not, Bool.not_not, eq_self, not_true_eq_false, not_false_eq_true, Bool.false_eq_true, Bool.true_eq_false, Bool.not_false, Bool.not_true, if_true, if_false, true_and, and_true, or_false, false_or, or_true, true_or, and_false, false_and, true_implies, if_pos, if_neg, len_58, get_58, app_58, set_58, cut_58, rep_58, emp_58, len_30, get_30, app_30, set_30, cut_30, rep_30, emp_30, len_27, get_27, app_27, set_27, cut_27, rep_27, emp_27, len_i, get_i, app_i, set_i, cut_i, rep_i, emp_i, len_b, get_b, app_b, set_b, cut_b, rep_b, emp_b, e1, e2, e3]) key
    · have e3 : (x / 12).tmod 1000 = x / 12 % 1000 := Int.tmod_eq_emod_of_nonneg (by omega)
      obtain ⟨s, hs, _⟩ := s_25 11 (n := n) (k := k) (v := x / 12 % 1000) (by omega) (by omega) (by omega) (by omega) (by omega)
      have key := ih (i + 1, id, nodes, term, vote, base, bt, snap, log ++ [⟨term, s⟩], role, lead, commit, votes, nxt, mtc, clock, ()) ⟨by dsimp only; omega, by dsimp only; omega,
        ⟨n1, n5, i0, i1, lv, lx, lm, t0, by dsimp only; omega, b0, by dsimp only; omega, c0, by dsimp only; omega, k0, by dsimp only; omega, by dsimp only; simp only [List.length_append, List.length_singleton]; omega, by dsimp only; simp only [List.length_append, List.length_singleton]; omega, nx', mx'⟩, by show base + ((log ++ [(⟨term, s⟩ : Entry)]).length : Int) ≤ i + 1; simp only [List.length_append, List.length_singleton]; omega⟩ (by dsimp only; omega)
      repeat (first | (apply q_yes MadeQ; (focus ((try simp (maxSteps := 2000000) (discharger := omega) only [r_ite, r_add, r_sub, r_mul, r_quo, r_rem, r_lt, r_le, r_eq, r_bnot, r_or, r_and, r_isel, r_beq, r_band, r_bimp, r_imax, r_imin, r_call, r_gcall, r_bind, Option.bind_some, fits_ok, mfit_ok, wrap_i64, both_self, node_eta, msg_eta, entry_eta, hard_eta, decide_eq_true_eq, Bool.and_eq_true, Bool.or_eq_true, Bool.not_eq_true', decide_eq_false_iff_not, Bool.not_not, eq_self, not_true_eq_false, not_false_eq_true, Bool.false_eq_true, Bool.true_eq_false, Bool.not_false, Bool.not_true, if_true, if_false, true_and, and_true, or_false, false_or, or_true, true_or, and_false, false_and, true_implies, if_pos, if_neg, len_58, get_58, app_58, set_58, cut_58, rep_58, emp_58, len_30, get_30, app_30, set_30, cut_30, rep_30, emp_30, len_27, get_27, app_27, set_27, cut_27, rep_27, emp_27, len_i, get_i, app_i, set_i, cut_i, rep_i, emp_i, len_b, get_b, app_b, set_b, cut_b, rep_b, emp_b, e1, e2, e3]) <;> omega))) | (apply q_no MadeQ; (focus ((try simp (maxSteps := 2000000) (discharger := omega) only [r_ite, r_add, r_sub, r_mul, r_quo, r_rem, r_lt, r_le, r_eq, r_bnot, r_or, r_and, r_isel, r_beq, r_band, r_bimp, r_imax, r_imin, r_call, r_gcall, r_bind, Option.bind_some, fits_ok, mfit_ok, wrap_i64, both_self, node_eta, msg_eta, entry_eta, hard_eta, decide_eq_true_eq, Bool.and_eq_true, Bool.or_eq_true, Bool.not_eq_true', decide_eq_false_iff_not, Bool.not_not, eq_self, not_true_eq_false, not_false_eq_true, Bool.false_eq_true, Bool.true_eq_false, Bool.not_false, Bool.not_true, if_true, if_false, true_and, and_true, or_false, false_or, or_true, true_or, and_false, false_and, true_implies, if_pos, if_neg, len_58, get_58, app_58, set_58, cut_58, rep_58, emp_58, len_30, get_30, app_30, set_30, cut_30, rep_30, emp_30, len_27, get_27, app_27, set_27, cut_27, rep_27, emp_27, len_i, get_i, app_i, set_i, cut_i, rep_i, emp_i, len_b, get_b, app_b, set_b, cut_b, rep_b, emp_b, e1, e2, e3]) <;> omega))))
      refine q_bind MadeQ (s, ()) (by simp (maxSteps := 2000000) (discharger := omega) only [r_ite, r_add, r_sub, r_mul, r_quo, r_rem, r_lt, r_le, r_eq, r_bnot, r_or, r_and, r_isel, r_beq, r_band, r_bimp, r_imax, r_imin, r_call, r_gcall, r_bind, Option.bind_some, fits_ok, mfit_ok, wrap_i64, both_self, node_eta, msg_eta, entry_eta, hard_eta, decide_eq_true_eq, Bool.and_eq_true, Bool.or_eq_true, Bool.not_eq_true', decide_eq_false_iff_not, Bool.not_not, eq_self, not_true_eq_false, not_false_eq_true, Bool.false_eq_true, Bool.true_eq_false, Bool.not_false, Bool.not_true, if_true, if_false, true_and, and_true, or_false, false_or, or_true, true_or, and_false, false_and, true_implies, if_pos, if_neg, len_58, get_58, app_58, set_58, cut_58, rep_58, emp_58, len_30, get_30, app_30, set_30, cut_30, rep_30, emp_30, len_27, get_27, app_27, set_27, cut_27, rep_27, emp_27, len_i, get_i, app_i, set_i, cut_i, rep_i, emp_i, len_b, get_b, app_b, set_b, cut_b, rep_b, emp_b, e1, e2, e3, hs]) ?_
      repeat (first | (apply q_yes MadeQ; (focus ((try simp (maxSteps := 2000000) (discharger := omega) only [r_ite, r_add, r_sub, r_mul, r_quo, r_rem, r_lt, r_le, r_eq, r_bnot, r_or, r_and, r_isel, r_beq, r_band, r_bimp, r_imax, r_imin, r_call, r_gcall, r_bind, Option.bind_some, fits_ok, mfit_ok, wrap_i64, both_self, node_eta, msg_eta, entry_eta, hard_eta, decide_eq_true_eq, Bool.and_eq_true, Bool.or_eq_true, Bool.not_eq_true', decide_eq_false_iff_not, Bool.not_not, eq_self, not_true_eq_false, not_false_eq_true, Bool.false_eq_true, Bool.true_eq_false, Bool.not_false, Bool.not_true, if_true, if_false, true_and, and_true, or_false, false_or, or_true, true_or, and_false, false_and, true_implies, if_pos, if_neg, len_58, get_58, app_58, set_58, cut_58, rep_58, emp_58, len_30, get_30, app_30, set_30, cut_30, rep_30, emp_30, len_27, get_27, app_27, set_27, cut_27, rep_27, emp_27, len_i, get_i, app_i, set_i, cut_i, rep_i, emp_i, len_b, get_b, app_b, set_b, cut_b, rep_b, emp_b, e1, e2, e3, List.length_singleton]) <;> omega))) | (apply q_no MadeQ; (focus ((try simp (maxSteps := 2000000) (discharger := omega) only [r_ite, r_add, r_sub, r_mul, r_quo, r_rem, r_lt, r_le, r_eq, r_bnot, r_or, r_and, r_isel, r_beq, r_band, r_bimp, r_imax, r_imin, r_call, r_gcall, r_bind, Option.bind_some, fits_ok, mfit_ok, wrap_i64, both_self, node_eta, msg_eta, entry_eta, hard_eta, decide_eq_true_eq, Bool.and_eq_true, Bool.or_eq_true, Bool.not_eq_true', decide_eq_false_iff_not, Bool.not_not, eq_self, not_true_eq_false, not_false_eq_true, Bool.false_eq_true, Bool.true_eq_false, Bool.not_false, Bool.not_true, if_true, if_false, true_and, and_true, or_false, false_or, or_true, true_or, and_false, false_and, true_implies, if_pos, if_neg, len_58, get_58, app_58, set_58, cut_58, rep_58, emp_58, len_30, get_30, app_30, set_30, cut_30, rep_30, emp_30, len_27, get_27, app_27, set_27, cut_27, rep_27, emp_27, len_i, get_i, app_i, set_i, cut_i, rep_i, emp_i, len_b, get_b, app_b, set_b, cut_b, rep_b, emp_b, e1, e2, e3, List.length_singleton]) <;> omega))))
      exact q_eq MadeQ (by simp (maxSteps := 2000000) (discharger := omega) only [r_ite, r_add, r_sub, r_mul, r_quo, r_rem, r_lt, r_le, r_eq, r_bnot, r_or, r_and, r_isel, r_beq, r_band, r_bimp, r_imax, r_imin, r_call, r_gcall, r_bind, Option.bind_some, fits_ok, mfit_ok, wrap_i64, both_self, node_eta, msg_eta, entry_eta, hard_eta, decide_eq_true_eq, Bool.and_eq_true, Bool.or_eq_true, Bool.not_eq_true', decide_eq_false_iff_not, Bool.not_not, eq_self, not_true_eq_false, not_false_eq_true, Bool.false_eq_true, Bool.true_eq_false, Bool.not_false, Bool.not_true, if_true, if_false, true_and, and_true, or_false, false_or, or_true, true_or, and_false, false_and, true_implies, if_pos, if_neg, len_58, get_58, app_58, set_58, cut_58, rep_58, emp_58, len_30, get_30, app_30, set_30, cut_30, rep_30, emp_30, len_27, get_27, app_27, set_27, cut_27, rep_27, emp_27, len_i, get_i, app_i, set_i, cut_i, rep_i, emp_i, len_b, get_b, app_b, set_b, cut_b, rep_b, emp_b, e1, e2, e3]) key
  · have hF := hN.le (show 100 + i ≤ 200 by omega)
    refine q_no MadeQ (by simp (maxSteps := 2000000) (discharger := omega) only [r_ite, r_add, r_sub, r_mul, r_quo, r_rem, r_lt, r_le, r_eq, r_bnot, r_or, r_and, r_isel, r_beq, r_band, r_bimp, r_imax, r_imin, r_call, r_gcall, r_bind, Option.bind_some, fits_ok, mfit_ok, wrap_i64, both_self, node_eta, msg_eta, entry_eta, hard_eta, decide_eq_true_eq, Bool.and_eq_true, Bool.or_eq_true, Bool.not_eq_true', decide_eq_false_iff_not, Bool.not_not, eq_self, not_true_eq_false, not_false_eq_true, Bool.false_eq_true, Bool.true_eq_false, Bool.not_false, Bool.not_true, if_true, if_false, true_and, and_true, or_false, false_or, or_true, true_or, and_false, false_and, true_implies, if_pos, if_neg, len_58, get_58, app_58, set_58, cut_58, rep_58, emp_58, len_30, get_30, app_30, set_30, cut_30, rep_30, emp_30, len_27, get_27, app_27, set_27, cut_27, rep_27, emp_27, len_i, get_i, app_i, set_i, cut_i, rep_i, emp_i, len_b, get_b, app_b, set_b, cut_b, rep_b, emp_b] <;> omega) ?_
    exact ⟨(⟨id, nodes, term, vote, base, bt, snap, log, role, lead, commit, votes, nxt, mtc, clock⟩ : Node), rfl, hF, by omega⟩

end
end Go.Proofs.Ytinfpahllbhomaa

namespace Go.Proofs.Ytinfpahllbhomaa
open Go.Ab
set_option linter.unusedSimpArgs false
set_option linter.unusedVariables false
set_option maxHeartbeats 8000000
noncomputable section
variable {n k : Nat} {B : Int} {a : Node}

theorem q_any {T : Tab U} {D : Go.Ab.Callee U} {m : Nat} {R : Type} (Q : Option R → Prop) {c : Bool} {x y : Option R} (hx : Q x) (hy : Q y) : Q ((real T D m).ite c x y) := by cases c <;> assumption

def MsgQ (o : Option (HL U [.st 30])) : Prop := ∃ m : Msg, o = some (m, ())

theorem s_9 (hk : 14 ≤ k) (hn : 100 ≤ n) {v w : Int} {L : List Int} (h : NI 200 a) : ∃ m : Msg, C n k 9 [⟨.int .i64, v⟩, ⟨.int .i64, w⟩, ⟨.st 27, a⟩, ⟨.sl (.int .i64), L⟩] [.st 30] = some (m, ()) := by
  obtain ⟨k, rfl⟩ : ∃ k1, k = k1 + 1 := ⟨k - 1, by omega⟩
  rw [C_succ, nf_9]
  show MsgQ _
  have q := h; obtain ⟨n1, n5, i0, i1, lv, lx, lm, t0, t1, b0, b1, c0, c1, k0, k1, ll, la, nx, mx⟩ := q
  obtain ⟨x, hx, x0, x1⟩ := s_20 (n := n) (k := k) (v := v) (N := 1073741824) (by omega) (by omega) (by omega)
  obtain ⟨y, hy, y0, y1⟩ := s_20 (n := n) (k := k) (v := w) (N := 1073741824) (by omega) (by omega) (by omega)
  have e1 : y.tmod 6 = y % 6 := Int.tmod_eq_emod_of_nonneg y0
  have e2 : x.tdiv 25 = x / 25 := Int.tdiv_eq_ediv_of_nonneg x0
  have e3 : (x / 25).tmod 3 = x / 25 % 3 := Int.tmod_eq_emod_of_nonneg (by omega)
  have e4 : y.tmod 100 = y % 100 := Int.tmod_eq_emod_of_nonneg y0
  have e5 : x.tmod 5 = x % 5 := Int.tmod_eq_emod_of_nonneg x0
  have e30 := s_30 (n := n) (k := k) (a := a) (i := max (a.base + a.log.length - 3 + y % 6) 0) (by omega) (by omega) (by omega) (by omega) (by omega) (by omega)
  obtain ⟨l, e31⟩ := s_31 (n := n) (k := k) (L := L) (t := max (a.term - 1 + x / 25 % 3) 1) (by omega) hn (by omega) (by omega)
  obtain ⟨s, e25, hs⟩ := s_25 11 (n := n) (k := k) (v := y % 100) (by omega) (by omega) (by omega) (by omega) (by omega)
  have esf : (real tab (C n k) n).sfit (⟨#[115, 110, 97, 112]⟩ : ByteArray) s = true := r_sfit (by show 4 + s.size ≤ _; omega)
  refine q_bind MsgQ (x, ()) hx ?_
  refine q_bind MsgQ (y, ()) hy ?_
  repeat (apply q_yes MsgQ; (focus ((try simp (maxSteps := 2000000) (discharger := omega) only [r_ite, r_add, r_sub, r_mul, r_quo, r_rem, r_lt, r_le, r_eq, r_bnot, r_or, r_and, r_isel, r_beq, r_band, r_bimp, r_imax, r_imin, r_call, r_gcall, r_bind, Option.bind_some, fits_ok, mfit_ok, wrap_i64, both_self, node_eta, msg_eta, entry_eta, hard_eta, decide_eq_true_eq, Bool.and_eq_true, Bool.or_eq_true, Bool.not_eq_true', decide_eq_false_iff_not, Bool.not_not, eq_self, not_true_eq_false, not_false_eq_true, Bool.false_eq_true, Bool.true_eq_false, Bool.not_false, Bool.not_true, if_true, if_false, true_and, and_true, or_false, false_or, or_true, true_or, and_false, false_and, true_implies, if_pos, if_neg, len_58, get_58, app_58, set_58, cut_58, rep_58, emp_58, len_30, get_30, app_30, set_30, cut_30, rep_30, emp_30, len_27, get_27, app_27, set_27, cut_27, rep_27, emp_27, len_i, get_i, app_i, set_i, cut_i, rep_i, emp_i, len_b, get_b, app_b, set_b, cut_b, rep_b, emp_b, e1, e2, e3, e4, e5]) <;> omega)))
  refine q_bind MsgQ (termAt a (max (a.base + a.log.length - 3 + y % 6) 0), (termOk a (max (a.base + a.log.length - 3 + y % 6) 0), ())) (by simp (maxSteps := 2000000) (discharger := omega) only [r_ite, r_add, r_sub, r_mul, r_quo, r_rem, r_lt, r_le, r_eq, r_bnot, r_or, r_and, r_isel, r_beq, r_band, r_bimp, r_imax, r_imin, r_call, r_gcall, r_bind, Option.bind_some, fits_ok, mfit_ok, wrap_i64, both_self, node_eta, msg_eta, entry_eta, hard_eta, decide_eq_true_eq, Bool.and_eq_true, Bool.or_eq_true, Bool.not_eq_true', decide_eq_false_iff_not, Bool.not_not, eq_self, not_true_eq_false, not_false_eq_true, Bool.false_eq_true, Bool.true_eq_false, Bool.not_false, Bool.not_true, if_true, if_false, true_and, and_true, or_false, false_or, or_true, true_or, and_false, false_and, true_implies, if_pos, if_neg, len_58, get_58, app_58, set_58, cut_58, rep_58, emp_58, len_30, get_30, app_30, set_30, cut_30, rep_30, emp_30, len_27, get_27, app_27, set_27, cut_27, rep_27, emp_27, len_i, get_i, app_i, set_i, cut_i, rep_i, emp_i, len_b, get_b, app_b, set_b, cut_b, rep_b, emp_b, e1, e30]) ?_
  apply q_yes MsgQ; (focus ((try simp (maxSteps := 2000000) (discharger := omega) only [r_ite, r_add, r_sub, r_mul, r_quo, r_rem, r_lt, r_le, r_eq, r_bnot, r_or, r_and, r_isel, r_beq, r_band, r_bimp, r_imax, r_imin, r_call, r_gcall, r_bind, Option.bind_some, fits_ok, mfit_ok, wrap_i64, both_self, node_eta, msg_eta, entry_eta, hard_eta, decide_eq_true_eq, Bool.and_eq_true, Bool.or_eq_true, Bool.not_eq_true', decide_eq_false_iff_not, Bool.not_not, eq_self, not_true_eq_false, not_false_eq_true, Bool.false_eq_true, Bool.true_eq_false, Bool.not_false, Bool.not_true, if_true, if_false, true_and, and_true, or_false, false_or, or_true, true_or, and_false, false_and, true_implies, if_pos, if_neg, len_58, get_58, app_58, set_58, cut_58, rep_58, emp_58, len_30, get_30, app_30, set_30, cut_30, rep_30, emp_30, len_27, get_27, app_27, set_27, cut_27, rep_27, emp_27, len_i, get_i, app_i, set_i, cut_i, rep_i, emp_i, len_b, get_b, app_b, set_b, cut_b, rep_b, emp_b, e1, e2, e3, e4, e5, decide_true, decide_false, Bool.or_eq_false_iff, Bool.and_eq_false_iff, Bool.or_false, Bool.false_or, Bool.or_true, Bool.true_or, Bool.and_true, Bool.true_and, Bool.and_false, Bool.false_and]) <;> omega))
  apply q_yes MsgQ; (focus ((try simp (maxSteps := 2000000) (discharger := omega) only [r_ite, r_add, r_sub, r_mul, r_quo, r_rem, r_lt, r_le, r_eq, r_bnot, r_or, r_and, r_isel, r_beq, r_band, r_bimp, r_imax, r_imin, r_call, r_gcall, r_bind, Option.bind_some, fits_ok, mfit_ok, wrap_i64, both_self, node_eta, msg_eta, entry_eta, hard_eta, decide_eq_true_eq, Bool.and_eq_true, Bool.or_eq_true, Bool.not_eq_true', decide_eq_false_iff_not, Bool.not_not, eq_self, not_true_eq_false, not_false_eq_true, Bool.false_eq_true, Bool.true_eq_false, Bool.not_false, Bool.not_true, if_true, if_false, true_and, and_true, or_false, false_or, or_true, true_or, and_false, false_and, true_implies, if_pos, if_neg, len_58, get_58, app_58, set_58, cut_58, rep_58, emp_58, len_30, get_30, app_30, set_30, cut_30, rep_30, emp_30, len_27, get_27, app_27, set_27, cut_27, rep_27, emp_27, len_i, get_i, app_i, set_i, cut_i, rep_i, emp_i, len_b, get_b, app_b, set_b, cut_b, rep_b, emp_b, e1, e2, e3, e4, e5, decide_true, decide_false, Bool.or_eq_false_iff, Bool.and_eq_false_iff, Bool.or_false, Bool.false_or, Bool.or_true, Bool.true_or, Bool.and_true, Bool.true_and, Bool.and_false, Bool.false_and]) <;> omega))
  repeat' (first
    | exact ⟨_, rfl⟩
    | (refine q_bind MsgQ (l, ()) ?_ ?_; (focus (simp (maxSteps := 2000000) (discharger := omega) only [r_ite, r_add, r_sub, r_mul, r_quo, r_rem, r_lt, r_le, r_eq, r_bnot, r_or, r_and, r_isel, r_beq, r_band, r_bimp, r_imax, r_imin, r_call, r_gcall, r_bind, Option.bind_some, fits_ok, mfit_ok, wrap_i64, both_self, node_eta, msg_eta, entry_eta, hard_eta, decide_eq_true_eq, Bool.and_eq_true, Bool.or_eq_true, Bool.not_eq_true', decide_eq_false_iff_not, Bool.not_not, eq_self, not_true_eq_false, not_false_eq_true, Bool.false_eq_true, Bool.true_eq_false, Bool.not_false, Bool.not_true, if_true, if_false, true_and, and_true, or_false, false_or, or_true, true_or, and_false, false_and, true_implies, if_pos, if_neg, len_58, get_58, app_58, set_58, cut_58, rep_58, emp_58, len_30, get_30, app_30, set_30, cut_30, rep_30, emp_30, len_27, get_27, app_27, set_27, cut_27, rep_27, emp_27, len_i, get_i, app_i, set_i, cut_i, rep_i, emp_i, len_b, get_b, app_b, set_b, cut_b, rep_b, emp_b, e2, e3, e31]; done)))
    | (refine q_bind MsgQ (s, ()) ?_ ?_; (focus (simp (maxSteps := 2000000) (discharger := omega) only [r_ite, r_add, r_sub, r_mul, r_quo, r_rem, r_lt, r_le, r_eq, r_bnot, r_or, r_and, r_isel, r_beq, r_band, r_bimp, r_imax, r_imin, r_call, r_gcall, r_bind, Option.bind_some, fits_ok, mfit_ok, wrap_i64, both_self, node_eta, msg_eta, entry_eta, hard_eta, decide_eq_true_eq, Bool.and_eq_true, Bool.or_eq_true, Bool.not_eq_true', decide_eq_false_iff_not, Bool.not_not, eq_self, not_true_eq_false, not_false_eq_true, Bool.false_eq_true, Bool.true_eq_false, Bool.not_false, Bool.not_true, if_true, if_false, true_and, and_true, or_false, false_or, or_true, true_or, and_false, false_and, true_implies, if_pos, if_neg, len_58, get_58, app_58, set_58, cut_58, rep_58, emp_58, len_30, get_30, app_30, set_30, cut_30, rep_30, emp_30, len_27, get_27, app_27, set_27, cut_27, rep_27, emp_27, len_i, get_i, app_i, set_i, cut_i, rep_i, emp_i, len_b, get_b, app_b, set_b, cut_b, rep_b, emp_b, e4, e25]; done)))
    | (apply q_yes MsgQ; (focus ((try simp (maxSteps := 2000000) (discharger := omega) only [r_ite, r_add, r_sub, r_mul, r_quo, r_rem, r_lt, r_le, r_eq, r_bnot, r_or, r_and, r_isel, r_beq, r_band, r_bimp, r_imax, r_imin, r_call, r_gcall, r_bind, Option.bind_some, fits_ok, mfit_ok, wrap_i64, both_self, node_eta, msg_eta, entry_eta, hard_eta, decide_eq_true_eq, Bool.and_eq_true, Bool.or_eq_true, Bool.not_eq_true', decide_eq_false_iff_not, Bool.not_not, eq_self, not_true_eq_false, not_false_eq_true, Bool.false_eq_true, Bool.true_eq_false, Bool.not_false, Bool.not_true, if_true, if_false, true_and, and_true, or_false, false_or, or_true, true_or, and_false, false_and, true_implies, if_pos, if_neg, len_58, get_58, app_58, set_58, cut_58, rep_58, emp_58, len_30, get_30, app_30, set_30, cut_30, rep_30, emp_30, len_27, get_27, app_27, set_27, cut_27, rep_27, emp_27, len_i, get_i, app_i, set_i, cut_i, rep_i, emp_i, len_b, get_b, app_b, set_b, cut_b, rep_b, emp_b, esf, e5]) <;> omega)))
    | (apply q_any MsgQ))

/-- The one node ahead of its ticks. -/
def one (j : Int) : Node := ⟨0, 1, 0, -1, 0, 0, ⟨#[]⟩, [], 0, -1, 0, [false], [1], [0], j⟩
/-- The one node that leads. -/
def oneL : Node := ⟨0, 1, 1, 0, 0, 0, ⟨#[]⟩, [⟨1, ⟨#[]⟩⟩], 2, 0, 1, [true], [1], [1], 0⟩

theorem new_one : newN 0 1 = one 0 := by kernel_rfl
theorem tick_nine : (tick (one 9)).1 = oneL := by kernel_rfl
theorem tick_one {j : Int} (h : j < 9) : (tick (one j)).1 = one (j + 1) := by
  unfold tick
  have h1 : ¬ (one j).role = 2 := by show ¬ (0 : Int) = 2; omega
  have h2 : (one j).clock + 1 < 10 + 5 * (one j).id := by show j + 1 < 10 + 5 * 0; omega
  rw [if_neg h1, if_pos h2]
  rfl
theorem prop_one : (propose oneL ⟨#[120]⟩).2.2 = 0 ∧ (propose oneL ⟨#[120]⟩).1.commit = 2 := ⟨by kernel_rfl, by kernel_rfl⟩
theorem prop_new : (propose (newN 0 3) ⟨#[120]⟩).2.2 = 13 := by kernel_rfl

theorem one_ni {j : Int} (h0 : 0 ≤ j) (h1 : j ≤ 100) : NI 100 (one j) := by
  unfold one
  refine ⟨by dsimp only; omega, by dsimp only; omega, by dsimp only; omega, by dsimp only; omega, rfl, rfl, rfl, by dsimp only; omega, by dsimp only; omega, by dsimp only; omega, by dsimp only; omega, by dsimp only; omega, by dsimp only; omega, h0, h1, by dsimp only [List.length_nil]; omega, by dsimp only [List.length_nil]; omega, ?_, ?_⟩
  · intro x hx
    simp at hx; omega
  · intro x hx
    simp at hx; omega

theorem oneL_ni : NI 100 oneL := by
  unfold oneL
  refine ⟨by dsimp only; omega, by dsimp only; omega, by dsimp only; omega, by dsimp only; omega, rfl, rfl, rfl, by dsimp only; omega, by dsimp only; omega, by dsimp only; omega, by dsimp only; omega, by dsimp only; omega, by dsimp only; omega, by dsimp only; omega, by dsimp only; omega, by dsimp only [List.length_cons, List.length_nil]; omega, by dsimp only [List.length_cons, List.length_nil]; omega, ?_, ?_⟩
  · intro x hx
    simp at hx; omega
  · intro x hx
    simp at hx; omega

def AwakeQ (o : Option (HL U [.bool])) : Prop := o = some (true, ())

theorem s_7 (hk : 8 ≤ k) (hn : 300 ≤ n) : C n k 7 [] [.bool] = some (true, ()) := by
  obtain ⟨k, rfl⟩ : ∃ k1, k = k1 + 1 := ⟨k - 1, by omega⟩
  rw [C_succ, nf_7]
  show AwakeQ _
  have e21 := s_21 (n := n) (k := k) (id := 0) (nodes := 1) (by omega) (by omega)
  have e21' := s_21 (n := n) (k := k) (id := 0) (nodes := 3) (by omega) (by omega)
  have g1 : min (max (1 : Int) 1) 5 = 1 := by omega
  have g3 : min (max (3 : Int) 1) 5 = 3 := by omega
  rw [g1, new_one] at e21
  rw [g3] at e21'
  have h3 := NI.new (B := 100) (id := 0) (K := 3) (by omega) (by omega) (by omega)
  refine q_bind AwakeQ (one 0, ()) e21 ?_
  rw [r_loop]
  refine iter_prop (fun x => (10 - x.1).toNat) (fun x => 0 ≤ x.1 ∧ x.1 ≤ 10 ∧ ((x.1 < 10 ∧ (⟨x.2.1, x.2.2.1, x.2.2.2.1, x.2.2.2.2.1, x.2.2.2.2.2.1, x.2.2.2.2.2.2.1, x.2.2.2.2.2.2.2.1, x.2.2.2.2.2.2.2.2.1, x.2.2.2.2.2.2.2.2.2.1, x.2.2.2.2.2.2.2.2.2.2.1, x.2.2.2.2.2.2.2.2.2.2.2.1, x.2.2.2.2.2.2.2.2.2.2.2.2.1, x.2.2.2.2.2.2.2.2.2.2.2.2.2.1, x.2.2.2.2.2.2.2.2.2.2.2.2.2.2.1, x.2.2.2.2.2.2.2.2.2.2.2.2.2.2.2.1⟩ : Node) = one x.1) ∨ (x.1 = 10 ∧ (⟨x.2.1, x.2.2.1, x.2.2.2.1, x.2.2.2.2.1, x.2.2.2.2.2.1, x.2.2.2.2.2.2.1, x.2.2.2.2.2.2.2.1, x.2.2.2.2.2.2.2.2.1, x.2.2.2.2.2.2.2.2.2.1, x.2.2.2.2.2.2.2.2.2.2.1, x.2.2.2.2.2.2.2.2.2.2.2.1, x.2.2.2.2.2.2.2.2.2.2.2.2.1, x.2.2.2.2.2.2.2.2.2.2.2.2.2.1, x.2.2.2.2.2.2.2.2.2.2.2.2.2.2.1, x.2.2.2.2.2.2.2.2.2.2.2.2.2.2.2.1⟩ : Node) = oneL))) AwakeQ ?_ n _
    ⟨by dsimp only; omega, by dsimp only; omega, .inl ⟨by dsimp only; omega, rfl⟩⟩ (by dsimp only; omega)
  rintro next ⟨i, id, nodes, term, vote, base, bt, snap, log, role, lead, commit, votes, nxt, mtc, clock, rest⟩ ⟨j0, j1, hN⟩ ih
  dsimp only at j0 j1 hN
  rcases hN with ⟨q, hN⟩ | ⟨q, hN⟩
  · have e10 := s_10 (n := n) (k := k) (by omega) (one_ni (j := i) (by omega) (by omega)) (by omega) (by show (0 : Int) + 101 ≤ n; omega)
    apply q_yes AwakeQ
    · (try simp (maxSteps := 2000000) (discharger := omega) only [r_ite, r_add, r_sub, r_mul, r_quo, r_rem, r_lt, r_le, r_eq, r_bnot, r_or, r_and, r_isel, r_beq, r_band, r_bimp, r_imax, r_imin, r_call, r_gcall, r_bind, Option.bind_some, fits_ok, mfit_ok, wrap_i64, both_self, node_eta, msg_eta, entry_eta, hard_eta, decide_eq_true_eq, Bool.and_eq_true, Bool.or_eq_true, Bool.not_eq_true', decide_eq_false_iff_not, Bool.not_not, eq_self, not_true_eq_false, not_false_eq_true, Bool.false_eq_true, Bool.true_eq_false, Bool.not_false, Bool.not_true, if_true, if_false, true_and, and_true, or_false, false_or, or_true, true_or, and_false, false_and, true_implies, if_pos, if_neg, len_58, get_58, app_58, set_58, cut_58, rep_58, emp_58, len_30, get_30, app_30, set_30, cut_30, rep_30, emp_30, len_27, get_27, app_27, set_27, cut_27, rep_27, emp_27, len_i, get_i, app_i, set_i, cut_i, rep_i, emp_i, len_b, get_b, app_b, set_b, cut_b, rep_b, emp_b]) <;> omega
    by_cases q9 : i < 9
    · rw [tick_one q9] at e10
      refine q_bind AwakeQ (one (i + 1), (tick (one i)).2, ()) (by rw [r_call, hN]; exact e10) ?_
      refine q_eq AwakeQ (z := (i + 1, (one (i + 1)).id, (one (i + 1)).nodes, (one (i + 1)).term, (one (i + 1)).vote, (one (i + 1)).base, (one (i + 1)).baseTerm, (one (i + 1)).snap, (one (i + 1)).log, (one (i + 1)).role, (one (i + 1)).lead, (one (i + 1)).commit, (one (i + 1)).votes, (one (i + 1)).next, (one (i + 1)).match, (one (i + 1)).clock, ())) (by simp (maxSteps := 2000000) (discharger := omega) only [r_ite, r_add, r_sub, r_mul, r_quo, r_rem, r_lt, r_le, r_eq, r_bnot, r_or, r_and, r_isel, r_beq, r_band, r_bimp, r_imax, r_imin, r_call, r_gcall, r_bind, Option.bind_some, fits_ok, mfit_ok, wrap_i64, both_self, node_eta, msg_eta, entry_eta, hard_eta, decide_eq_true_eq, Bool.and_eq_true, Bool.or_eq_true, Bool.not_eq_true', decide_eq_false_iff_not, Bool.not_not, eq_self, not_true_eq_false, not_false_eq_true, Bool.false_eq_true, Bool.true_eq_false, Bool.not_false, Bool.not_true, if_true, if_false, true_and, and_true, or_false, false_or, or_true, true_or, and_false, false_and, true_implies, if_pos, if_neg, len_58, get_58, app_58, set_58, cut_58, rep_58, emp_58, len_30, get_30, app_30, set_30, cut_30, rep_30, emp_30, len_27, get_27, app_27, set_27, cut_27, rep_27, emp_27, len_i, get_i, app_i, set_i, cut_i, rep_i, emp_i, len_b, get_b, app_b, set_b, cut_b, rep_b, emp_b]) ?_
      exact ih _ ⟨by dsimp only; omega, by dsimp only; omega, .inl ⟨by dsimp only; omega, rfl⟩⟩ (by dsimp only; omega)
    · have q9 : i = 9 := by omega
      subst q9
      rw [tick_nine] at e10
      refine q_bind AwakeQ (oneL, (tick (one 9)).2, ()) (by rw [r_call, hN]; exact e10) ?_
      refine q_eq AwakeQ (z := (9 + 1, oneL.id, oneL.nodes, oneL.term, oneL.vote, oneL.base, oneL.baseTerm, oneL.snap, oneL.log, oneL.role, oneL.lead, oneL.commit, oneL.votes, oneL.next, oneL.match, oneL.clock, ())) (by simp (maxSteps := 2000000) (discharger := omega) only [r_ite, r_add, r_sub, r_mul, r_quo, r_rem, r_lt, r_le, r_eq, r_bnot, r_or, r_and, r_isel, r_beq, r_band, r_bimp, r_imax, r_imin, r_call, r_gcall, r_bind, Option.bind_some, fits_ok, mfit_ok, wrap_i64, both_self, node_eta, msg_eta, entry_eta, hard_eta, decide_eq_true_eq, Bool.and_eq_true, Bool.or_eq_true, Bool.not_eq_true', decide_eq_false_iff_not, Bool.not_not, eq_self, not_true_eq_false, not_false_eq_true, Bool.false_eq_true, Bool.true_eq_false, Bool.not_false, Bool.not_true, if_true, if_false, true_and, and_true, or_false, false_or, or_true, true_or, and_false, false_and, true_implies, if_pos, if_neg, len_58, get_58, app_58, set_58, cut_58, rep_58, emp_58, len_30, get_30, app_30, set_30, cut_30, rep_30, emp_30, len_27, get_27, app_27, set_27, cut_27, rep_27, emp_27, len_i, get_i, app_i, set_i, cut_i, rep_i, emp_i, len_b, get_b, app_b, set_b, cut_b, rep_b, emp_b]) ?_
      exact ih _ ⟨by dsimp only; omega, by dsimp only; omega, .inr ⟨by dsimp only; omega, rfl⟩⟩ (by dsimp only; omega)
  · subst q
    have e14 := s_14 (n := n) (k := k) (cmd := ⟨#[120]⟩) (by omega) oneL_ni (by omega) (by show ((1 : Nat) : Int) + 101 ≤ n; omega)
    have e14' := s_14 (n := n) (k := k) (cmd := ⟨#[120]⟩) (by omega) h3 (by omega) (by show (0 : Int) + 101 ≤ n; omega)
    have hr : role = 2 := congrArg Node.role hN
    rw [prop_one.1] at e14
    rw [prop_new] at e14'
    apply q_no AwakeQ
    · (try simp (maxSteps := 2000000) (discharger := omega) only [r_ite, r_add, r_sub, r_mul, r_quo, r_rem, r_lt, r_le, r_eq, r_bnot, r_or, r_and, r_isel, r_beq, r_band, r_bimp, r_imax, r_imin, r_call, r_gcall, r_bind, Option.bind_some, fits_ok, mfit_ok, wrap_i64, both_self, node_eta, msg_eta, entry_eta, hard_eta, decide_eq_true_eq, Bool.and_eq_true, Bool.or_eq_true, Bool.not_eq_true', decide_eq_false_iff_not, Bool.not_not, eq_self, not_true_eq_false, not_false_eq_true, Bool.false_eq_true, Bool.true_eq_false, Bool.not_false, Bool.not_true, if_true, if_false, true_and, and_true, or_false, false_or, or_true, true_or, and_false, false_and, true_implies, if_pos, if_neg, len_58, get_58, app_58, set_58, cut_58, rep_58, emp_58, len_30, get_30, app_30, set_30, cut_30, rep_30, emp_30, len_27, get_27, app_27, set_27, cut_27, rep_27, emp_27, len_i, get_i, app_i, set_i, cut_i, rep_i, emp_i, len_b, get_b, app_b, set_b, cut_b, rep_b, emp_b]) <;> omega
    refine q_bind AwakeQ ((propose oneL ⟨#[120]⟩).1, (propose oneL ⟨#[120]⟩).2.1, 0, ()) (by rw [r_call, hN]; exact e14) ?_
    refine q_bind AwakeQ (newN 0 3, ()) e21' ?_
    refine q_bind AwakeQ ((propose (newN 0 3) ⟨#[120]⟩).1, (propose (newN 0 3) ⟨#[120]⟩).2.1, 13, ()) (by rw [r_call]; exact e14') ?_
    show some _ = some _
    have hc := prop_one.2
    simp (maxSteps := 2000000) (discharger := omega) only [r_ite, r_add, r_sub, r_mul, r_quo, r_rem, r_lt, r_le, r_eq, r_bnot, r_or, r_and, r_isel, r_beq, r_band, r_bimp, r_imax, r_imin, r_call, r_gcall, r_bind, Option.bind_some, fits_ok, mfit_ok, wrap_i64, both_self, node_eta, msg_eta, entry_eta, hard_eta, decide_eq_true_eq, Bool.and_eq_true, Bool.or_eq_true, Bool.not_eq_true', decide_eq_false_iff_not, Bool.not_not, eq_self, not_true_eq_false, not_false_eq_true, Bool.false_eq_true, Bool.true_eq_false, Bool.not_false, Bool.not_true, if_true, if_false, true_and, and_true, or_false, false_or, or_true, true_or, and_false, false_and, true_implies, if_pos, if_neg, len_58, get_58, app_58, set_58, cut_58, rep_58, emp_58, len_30, get_30, app_30, set_30, cut_30, rep_30, emp_30, len_27, get_27, app_27, set_27, cut_27, rep_27, emp_27, len_i, get_i, app_i, set_i, cut_i, rep_i, emp_i, len_b, get_b, app_b, set_b, cut_b, rep_b, emp_b, hr, hc, decide_true, decide_false, Bool.or_eq_false_iff, Bool.and_eq_false_iff, Bool.or_false, Bool.false_or, Bool.or_true, Bool.true_or, Bool.and_true, Bool.true_and, Bool.and_false, Bool.false_and]

end
end Go.Proofs.Ytinfpahllbhomaa

namespace Go.Proofs.Ytinfpahllbhomaa
open Go.Ab
set_option linter.unusedSimpArgs false
set_option linter.unusedVariables false
set_option maxHeartbeats 8000000
noncomputable section
variable {n k : Nat} {B : Int} {a : Node}

theorem oth_all {P : Msg → Prop} {f : Int → Msg} {id : Int} (h : ∀ i, P (f i)) : ∀ (m : Nat) (i : Int), ∀ x ∈ oth f id m i, P x
  | 0, _, x, hx => by cases hx
  | m + 1, i, x, hx => by
    unfold oth at hx
    split at hx
    · exact oth_all h m (i + 1) x hx
    · rcases List.mem_cons.1 hx with rfl | hx
      · exact h i
      · exact oth_all h m (i + 1) x hx

def Few (l : List Msg) : Prop := l.length ≤ 10 ∧ ∀ x ∈ l, x.entries.length ≤ 20

theorem send_el (to : Int) : (send a to).entries.length ≤ 20 := by
  unfold send
  dsimp only
  split
  · simp
  · simp only [List.length_take]; omega

theorem few_nil : Few [] := ⟨by simp, by simp⟩
theorem few_one {m : Msg} (h : m.entries.length ≤ 20) : Few [m] := ⟨by simp, by simpa using h⟩

theorem few_sends (h : NI B a) : (sends a).length ≤ 5 ∧ Few (sends a) := by
  have h1 : (sends a).length ≤ 5 := by
    have := oth_len (f := send a) (id := a.id) a.nodes.toNat 0
    have := h.n5
    unfold sends
    omega
  exact ⟨h1, by omega, oth_all (fun i => send_el i) _ _⟩

theorem few_start (h : NI B a) : (startMsgs a).length ≤ 5 ∧ Few (startMsgs a) := by
  have h1 : (startMsgs a).length ≤ 5 := by
    have := h.n5
    unfold startMsgs
    refine Nat.le_trans (oth_len _ _) ?_
    omega
  exact ⟨h1, by omega, oth_all (P := fun x => x.entries.length ≤ 20) (fun i => by simp) _ _⟩

theorem few_app {l r : List Msg} (h : l.length ≤ 5 ∧ Few l) (q : r.length ≤ 5 ∧ Few r) : Few (l ++ r) := by
  refine ⟨by rw [List.length_append]; omega, fun x hx => ?_⟩
  rcases List.mem_append.1 hx with hx | hx
  · exact h.2.2 x hx
  · exact q.2.2 x hx

theorem putL_len {L : List Entry} : ∀ (l : List Entry) (p : Nat), (putL L p l).length ≤ max L.length (p + l.length)
  | [], p => by unfold putL; omega
  | e :: l, p => by
    have := putL_len (L := L) l (p + 1)
    unfold putL
    split
    · simp only [List.length_cons]; omega
    · simp only [List.length_append, List.length_take, List.length_cons]; omega

theorem NI.put {i : Int} {l : List Entry} (h : NI B a) (h0 : 0 ≤ i) (h1 : i ≤ B) (hl : l.length ≤ 20) : NI (B + 20) (putN a i l) := by
  have h2 := h.le (show B ≤ B + 20 by omega)
  unfold putN
  split
  · exact h2
  · rename_i hq
    have q := h; obtain ⟨n1, n5, i0, i1, lv, lx, lm, t0, t1, b0, b1, c0, c1, k0, k1, ll, la, nx, mx⟩ := q
    have hp := putL_len (L := a.log) l (i - a.base).toNat
    have hl : last a = a.base + a.log.length := rfl
    obtain ⟨n1, n5, i0, i1, lv, lx, lm, t0, t1, b0, b1, c0, c1, k0, k1, _, _, nx, mx⟩ := h2
    exact ⟨n1, n5, i0, i1, lv, lx, lm, t0, t1, b0, b1, c0, c1, k0, k1, by dsimp only; omega, by dsimp only; omega, nx, mx⟩

theorem NI.step {m : Msg} (h : NI B a) (hB : 2^40 ≤ B) : NI (B + 20) (step a m).1 ∧ Few (step a m).2 := by
  have h20 := h.le (show B ≤ B + 20 by omega)
  unfold Ytinfpahllbhomaa.step
  split
  · rename_i hq
    rw [Bool.and_eq_true] at hq
    obtain ⟨hm, _, _⟩ := right_mi hq.1 hB
    obtain ⟨f0, f1, mt, x0, x1, y0, y1, el⟩ := hm
    have hd := h.down mt
    have hd20 := hd.le (show B ≤ B + 20 by omega)
    have hdn : (Ytinfpahllbhomaa.down a m.term).nodes = a.nodes := by unfold Ytinfpahllbhomaa.down; split <;> rfl
    split
    · refine ⟨?_, few_one (by simp)⟩
      unfold asked
      dsimp only
      split
      · have q := hd20; obtain ⟨n1, n5, i0, i1, lv, lx, lm, t0, t1, b0, b1, c0, c1, k0, k1, ll, la, nx, mx⟩ := q
        exact ⟨n1, n5, i0, i1, lv, lx, lm, t0, t1, b0, b1, c0, c1, by dsimp only; omega, by dsimp only; omega, ll, la, nx, mx⟩
      · exact hd20
    split
    · split
      · have hg := (h.given mt).lead
        exact ⟨hg.le (by omega), (few_sends hg).2⟩
      · exact ⟨(h.given mt).le (by omega), few_nil⟩
    split
    · unfold heard
      generalize Ytinfpahllbhomaa.down a m.term = b at hd hd20 hdn ⊢
      have hb1 := hd.le (show B ≤ B + 20 by omega)
      have hb' := hd
      have q := hb'; obtain ⟨n1, n5, i0, i1, lv, lx, lm, t0, t1, b0, b1, c0, c1, k0, k1, ll, la, nx, mx⟩ := q
      have hl : last b = b.base + b.log.length := rfl
      obtain ⟨g0, g1⟩ := getD_bd nx (by omega) m.from.toNat
      obtain ⟨g2, g3⟩ := getD_bd mx (by omega) m.from.toNat
      dsimp only
      split
      · split
        · refine ⟨((hb1.setNext (j := m.from.toNat) (v := min (max (b.match.getD m.from.toNat 0) m.index) (last b) + 1) (by omega) (by omega)).setMatch (j := m.from.toNat) (v := min (max (b.match.getD m.from.toNat 0) m.index) (last b)) (by omega) (by omega)).advance, ?_⟩
          dsimp only
          split
          · exact few_one (send_el _)
          · exact few_nil
        · exact ⟨hb1.setNext (j := m.from.toNat) (v := max (max 1 (b.match.getD m.from.toNat 0 + 1)) (min (b.next.getD m.from.toNat 0 - 1) (m.index + 1))) (by omega) (by omega), few_one (send_el _)⟩
      · exact ⟨hd20, few_nil⟩
    · unfold take
      generalize Ytinfpahllbhomaa.down a m.term = b at hd hd20 hdn ⊢
      have hc : NI B { b with role := 0, lead := m.from, clock := 0 } := by
        have q := hd; obtain ⟨n1, n5, i0, i1, lv, lx, lm, t0, t1, b0, b1, c0, c1, k0, k1, ll, la, nx, mx⟩ := q
        exact ⟨n1, n5, i0, i1, lv, lx, lm, t0, t1, b0, b1, c0, c1, by dsimp only; omega, by dsimp only; omega, ll, la, nx, mx⟩
      have hft : ∀ (c : Node) (y : Bool) (i : Int), Few (taken c m y i) := fun c y i => few_one (by simp)
      dsimp only
      split
      · exact ⟨hd20, hft _ _ _⟩
      generalize ({ b with role := 0, lead := m.from, clock := 0 } : Node) = c at hc ⊢
      have hc20 := hc.le (show B ≤ B + 20 by omega)
      unfold takeC
      split
      · refine ⟨?_, hft _ _ _⟩
        unfold installN
        split
        · exact hc20
        · have q := hc; obtain ⟨n1, n5, i0, i1, lv, lx, lm, t0, t1, b0, b1, c0, c1, k0, k1, ll, la, nx, mx⟩ := q
          have hl : last c = c.base + c.log.length := rfl
          obtain ⟨n1, n5, i0, i1, lv, lx, lm, t0, t1, _, _, _, _, k0, k1, _, _, nx, mx⟩ := hc20
          have hlen : (m.index + ((if (termOk c m.index && decide (termAt c m.index = m.at)) = true then behind c m.index else []).length : Int) ≤ B) ∧ (((if (termOk c m.index && decide (termAt c m.index = m.at)) = true then behind c m.index else []).length : Int) ≤ B) := by
            split
            · rename_i ho
              rw [Bool.and_eq_true] at ho
              have ho1 : c.base ≤ m.index ∧ m.index ≤ last c := of_decide_eq_true ho.1
              unfold behind
              rw [List.length_drop]
              omega
            · simp only [List.length_nil]; omega
          exact ⟨n1, n5, i0, i1, lv, lx, lm, t0, t1, x0, by dsimp only; omega, by dsimp only; omega, by dsimp only; omega, k0, k1, by dsimp only; omega, by dsimp only; omega, nx, mx⟩
      split
      · exact ⟨hc20, hft _ _ _⟩
      split
      · refine ⟨?_, hft _ _ _⟩
        have hp := hc.put (i := m.index) (l := m.entries) x0 x1 el
        have q := hp; obtain ⟨n1, n5, i0, i1, lv, lx, lm, t0, t1, b0, b1, c0, c1, k0, k1, ll, la, nx, mx⟩ := q
        exact ⟨n1, n5, i0, i1, lv, lx, lm, t0, t1, b0, b1, by dsimp only; omega, by dsimp only; omega, k0, k1, ll, la, nx, mx⟩
      · exact ⟨hc20, hft _ _ _⟩
  · exact ⟨h20, few_nil⟩

theorem NI.tick (h : NI B a) : NI (B + 20) (tick a).1 ∧ Few (tick a).2 := by
  unfold Ytinfpahllbhomaa.tick
  have h20 := h.le (show B ≤ B + 20 by omega)
  have hk0 := h.k0
  have hk1 := h.k1
  split
  · split
    · exact ⟨h20.clock (by omega) (by omega), few_nil⟩
    · have h0 := h20.clock (c := 0) (by omega) (by omega)
      exact ⟨h0, (few_sends h0).2⟩
  split
  · exact ⟨h20.clock (by omega) (by omega), few_nil⟩
  · have hs := h.start
    have hl := hs.lead
    dsimp only
    split
    · exact ⟨hl.le (by omega), few_app (few_start h) (few_sends hl)⟩
    · exact ⟨hs.le (by omega), (few_start h).2⟩

theorem NI.propose {cmd : ByteArray} (h : NI B a) : NI (B + 20) (propose a cmd).1 ∧ Few (propose a cmd).2.1 := by
  unfold Ytinfpahllbhomaa.propose
  have h20 := h.le (show B ≤ B + 20 by omega)
  have hm := h.more (cmd := cmd)
  split
  · split
    · exact ⟨h20, few_nil⟩
    · exact ⟨hm.le (by omega), (few_sends hm).2⟩
  · exact ⟨h20, few_nil⟩

theorem same_self (hk : 4 ≤ k) (h : NI (2^40 + 20) a) (hn : 2^43 ≤ n) : C n k 16 [⟨.st 27, a⟩, ⟨.st 27, a⟩] [.bool] = some (true, ()) := by
  have q := h; obtain ⟨n1, n5, i0, i1, lv, lx, lm, t0, t1, b0, b1, c0, c1, k0, k1, ll, la, nx, mx⟩ := q
  exact s_16 hk (by omega) (by omega) (by omega) (by omega) (by omega) (by omega)

theorem same_few (hk : 4 ≤ k) {l : List Msg} (h : Few l) (hn : 2^43 ≤ n) : C n k 17 [⟨.sl (.st 30), l⟩, ⟨.sl (.st 30), l⟩] [.bool] = some (true, ()) := by
  obtain ⟨h1, h2⟩ := h
  exact s_17 hk (by omega) (by omega) fun x hx => by have := h2 x hx; omega

end
end Go.Proofs.Ytinfpahllbhomaa
