/-
  Nodes in a list. No condition.
  Nodes that tick in turn, all messages in order: in plain words. No condition.
  The rounds of RaftElects are those of the plain words. Conditions: nodes that may be; the rounds enough.
  The statement 'the first one leads, all follow; what is proposed is committed by all in a few ticks; if it falls silent the next one leads, with all of that': it answers true. Condition: the rounds enough.
-/
import Derived.Test.YtinfpahllbhomaaM8
import Derived.KernelRfl
import Derived.Test.YtinfpahllbhomaaM6
set_option linter.unusedVariables false
set_option linter.unusedSimpArgs false

namespace Go.Proofs.Ytinfpahllbhomaa
noncomputable section

abbrev dn : Node := ⟨0, 0, 0, 0, 0, 0, ⟨#[]⟩, [], 0, 0, 0, [], [], [], 0⟩
abbrev nd (L : List Node) : Nat → Node := fun x => L.getD x dn

theorem nd_set_if {L : List Node} {j x : Nat} {a : Node} (h : j < L.length) : nd (L.set j a) x = if x = j then a else nd L x := by
  show (L.set j a).getD x dn = if x = j then a else L.getD x dn
  rw [List.getD_eq_getElem?_getD, List.getElem?_set]
  by_cases e : x = j
  · subst e; rw [if_pos rfl, if_pos h, if_pos rfl]; rfl
  · rw [if_neg (fun h => e h.symm), if_neg e, List.getD_eq_getElem?_getD]

theorem nd_init {K x : Nat} (hx : x < K) : nd ((List.range K).map fun (y : Nat) => newN y K) x = newN x K := by
  show ((List.range K).map fun (y : Nat) => newN y K).getD x dn = newN x K
  rw [List.getD_eq_getElem?_getD, List.getElem?_map, List.getElem?_range hx]; rfl

end
end Go.Proofs.Ytinfpahllbhomaa

namespace Go.Proofs.Ytinfpahllbhomaa
namespace El
noncomputable section

/-- Ticks in turn, from one node on. -/
def tk : Nat → Nat → List Node → List Msg → List Node × List Msg
  | 0, _, ns, l => (ns, l)
  | f + 1, i, ns, l => let r := tick (ns.getD i dn); tk f (i + 1) (ns.set i r.1) (l ++ r.2)

/-- All messages in order, to nodes from one on. -/
def dl (lo : Int) : Nat → Nat → List Node → List Msg → List Node
  | 0, _, ns, _ => ns
  | f + 1, i, ns, l =>
    if i < l.length then
      (if lo ≤ (l.getD i ⟨0, 0, 0, 0, 0, 0, false, 0, [], ⟨#[]⟩⟩).to ∧ (l.getD i ⟨0, 0, 0, 0, 0, 0, false, 0, [], ⟨#[]⟩⟩).to < ns.length then
        let m := l.getD i ⟨0, 0, 0, 0, 0, 0, false, 0, [], ⟨#[]⟩⟩
        let r := step (ns.getD m.to.toNat dn) m
        dl lo f (i + 1) (ns.set m.to.toNat r.1) (l ++ r.2)
      else dl lo f (i + 1) ns l)
    else ns

def turn (lo : Nat) (ns : List Node) : List Node :=
  let r := tk (ns.length - lo) lo ns []
  dl lo 500 0 r.1 r.2

def run (lo : Nat) : Nat → List Node → List Node
  | 0, ns => ns
  | t + 1, ns => run lo t (turn lo ns)

def init (k : Nat) : List Node := (List.range k).map fun (y : Nat) => newN y k

def nxt (c : Nat → ByteArray) (i : Nat) (ns : List Node) : List Node :=
  let r := propose (ns.getD 0 dn) (c i)
  dl 0 500 0 (ns.set 0 r.1) r.2.1

def props (c : Nat → ByteArray) : Nat → Nat → List Node → List Node
  | 0, _, ns => ns
  | m + 1, i, ns => props c m (i + 1) (nxt c i ns)

def ok1 (m : Nat) (ns : List Node) (i : Nat) : Bool :=
  decide ((ns.getD i dn).lead = 0) && decide (decide ((ns.getD i dn).role = 2) = decide (i = 0)) && decide ((ns.getD i dn).commit = 1 + (m : Int)) && decide (((ns.getD i dn).log.length : Int) = 1 + (m : Int)) && decide ((ns.getD i dn).term = 1)

def ok2 (m : Nat) (ns : List Node) : Bool :=
  decide ((ns.getD 1 dn).role = 2) && decide ((ns.getD 1 dn).commit = 2 + (m : Int)) && decide ((ns.getD 2 dn).lead = 1) && decide (((ns.getD 2 dn).log.length : Int) = 2 + (m : Int))

def fin (k m : Nat) (ns : List Node) : Bool :=
  (List.range k).all (ok1 m (run 0 4 ns)) && (decide (k < 3) || ok2 m (run 1 25 (run 0 4 ns)))

def lds (ns : List Node) : Bool := decide ((ns.getD 0 dn).role = 2) && decide ((ns.getD 0 dn).log.length < 200)

/-- All is well behind so many proposals, and behind each of some more. -/
def all (c : Nat → ByteArray) (k : Nat) : Nat → Nat → List Node → Bool
  | 0, _, _ => true
  | f + 1, i, ns => fin k i ns && lds ns && all c k f (i + 1) (nxt c i ns)

theorem all_5 (c : Nat → ByteArray) : all c 5 30 0 (run 0 12 (init 5)) = true := by kernel_rfl
theorem all_4 (c : Nat → ByteArray) : all c 4 30 0 (run 0 12 (init 4)) = true := by kernel_rfl
theorem all_3 (c : Nat → ByteArray) : all c 3 30 0 (run 0 12 (init 3)) = true := by kernel_rfl
theorem all_2 (c : Nat → ByteArray) : all c 2 30 0 (run 0 12 (init 2)) = true := by kernel_rfl
theorem all_1 (c : Nat → ByteArray) : all c 1 30 0 (run 0 12 (init 1)) = true := by kernel_rfl
end
end El
end Go.Proofs.Ytinfpahllbhomaa

namespace Go.Proofs.Ytinfpahllbhomaa
open Go.Ab
set_option linter.unusedSimpArgs false
set_option linter.unusedVariables false
set_option maxHeartbeats 8000000
noncomputable section
variable {n k : Nat} {B : Int} {a : Node}

def tickF (o : Ops U) (bnd : List Node → Int) (lo : Int) (L : List Node) (fin : List Node → List Msg → Option (HL U [.bool])) : Option (HL U [.bool]) :=
  (o.loop (fun x6 => (fun x7 => (o.ite (o.lt x7.fst (bnd x7.snd.fst)) (o.ite (o.band (o.le (0 : Int) x7.fst) (o.lt x7.fst (o.len (.st 27) x7.snd.fst))) (o.bind (o.call 10 (⟨(.st 27), (o.get (.st 27) x7.snd.fst x7.fst)⟩ :: []) ((.st 27) :: ((.sl (.st 30)) :: []))) (fun x8 => (o.ite (o.fits 104 (o.len (.st 30) x7.snd.snd.fst) (o.len (.st 30) x8.snd.fst)) (o.ite (o.band (o.le (0 : Int) x7.fst) (o.lt x7.fst (o.len (.st 27) x7.snd.fst))) (x6 ((o.add .i64 x7.fst (1 : Int)), ((o.set (.st 27) x7.snd.fst x7.fst x8.fst), ((o.app (.st 30) x7.snd.snd.fst x8.snd.fst), ())))) none) none))) none) (fin x7.snd.fst x7.snd.snd.fst)))) (lo, (L, (([] : List Msg), ()))))

def dlvF (o : Ops U) (cnd : Int → List Node → Bool) (L : List Node) (l : List Msg) (fin : List Node → Option (HL U [.bool])) : Option (HL U [.bool]) :=
  (o.loop (fun x9 => (fun x10 => (o.ite (o.bsel (o.lt x10.fst (o.len (.st 30) x10.snd.snd.fst)) (o.lt x10.fst (500 : Int)) false) (o.ite (o.band (o.le (0 : Int) x10.fst) (o.lt x10.fst (o.len (.st 30) x10.snd.snd.fst))) (o.ite (cnd (o.get (.st 30) x10.snd.snd.fst x10.fst).to x10.snd.fst) (o.ite (o.band (o.le (0 : Int) (o.get (.st 30) x10.snd.snd.fst x10.fst).to) (o.lt (o.get (.st 30) x10.snd.snd.fst x10.fst).to (o.len (.st 27) x10.snd.fst))) (o.ite (o.band (o.le (0 : Int) x10.fst) (o.lt x10.fst (o.len (.st 30) x10.snd.snd.fst))) (o.bind (o.call 12 (⟨(.st 27), (o.get (.st 27) x10.snd.fst (o.get (.st 30) x10.snd.snd.fst x10.fst).to)⟩ :: (⟨(.st 30), (o.get (.st 30) x10.snd.snd.fst x10.fst)⟩ :: [])) ((.st 27) :: ((.sl (.st 30)) :: []))) (fun x11 => (o.ite (o.fits 104 (o.len (.st 30) x10.snd.snd.fst) (o.len (.st 30) x11.snd.fst)) (o.ite (o.band (o.le (0 : Int) (o.get (.st 30) x10.snd.snd.fst x10.fst).to) (o.lt (o.get (.st 30) x10.snd.snd.fst x10.fst).to (o.len (.st 27) x10.snd.fst))) (x9 ((o.add .i64 x10.fst (1 : Int)), ((o.set (.st 27) x10.snd.fst (o.get (.st 30) x10.snd.snd.fst x10.fst).to x11.fst), ((o.app (.st 30) x10.snd.snd.fst x11.snd.fst), ())))) none) none))) none) none) (x9 ((o.add .i64 x10.fst (1 : Int)), (x10.snd.fst, (x10.snd.snd.fst, ()))))) none) (fin x10.snd.fst)))) ((0 : Int), (L, (l, ()))))

structure NIs (B : Int) (K : Nat) (L : List Node) : Prop where
  len : L.length = K
  ni : ∀ x, x < K → NI B (nd L x)

theorem NIs.le {B' : Int} {K : Nat} {L : List Node} (h : NIs B K L) (hB : B ≤ B') : NIs B' K L := ⟨h.len, fun x hx => (h.ni x hx).le hB⟩

theorem NIs.set {B' : Int} {K : Nat} {L : List Node} {j : Nat} (h : NIs B K L) (hB : B ≤ B') (ha : NI B' a) (hj : j < K) : NIs B' K (L.set j a) := by
  have hl := h.len
  refine ⟨by rw [List.length_set]; exact h.len, fun x hx => ?_⟩
  rw [nd_set_if (by omega)]
  split
  · exact ha
  · exact (h.ni x hx).le hB

theorem tick_loop {K lo : Nat} {L : List Node} (hk : 7 ≤ k) (hn : 2^43 ≤ n) (h : NIs B K L) (hK : K ≤ 5) (hB : B ≤ 2^41 - 200) (hlo : lo ≤ K) {bnd : List Node → Int} (hb : ∀ L' : List Node, L'.length = K → bnd L' = K)
    {fin : List Node → List Msg → Option (HL U [.bool])}
    (hfin : NIs (B + 100) K (El.tk (K - lo) lo L []).1 → (El.tk (K - lo) lo L []).2.length ≤ 50 → AwakeQ (fin (El.tk (K - lo) lo L []).1 (El.tk (K - lo) lo L []).2)) :
    AwakeQ (tickF (real tab (C n k) n) bnd lo L fin) := by
  unfold tickF
  rw [r_loop]
  refine iter_prop (fun x => ((K : Int) - x.1).toNat) (fun x => (lo : Int) ≤ x.1 ∧ x.1 ≤ (K : Int) ∧ NIs (B + 20 * (x.1 - lo)) K x.2.1 ∧ (x.2.2.1.length : Int) ≤ 10 * (x.1 - lo) ∧ El.tk (K - x.1.toNat) x.1.toNat x.2.1 x.2.2.1 = El.tk (K - lo) lo L []) AwakeQ ?_ n _
    ⟨by dsimp only; omega, by dsimp only; omega, by dsimp only; exact h.le (by omega), by dsimp only [List.length_nil]; omega, by dsimp only; rw [Int.toNat_natCast]⟩ (by dsimp only; omega)
  rintro next ⟨i, L', l, u⟩ ⟨i0, i1, hN, hl, ht⟩ ih
  dsimp only at i0 i1 hN hl ht
  have hlen := hN.len
  have hbd := hb L' hlen
  by_cases hi : i < K
  · have hiK : i.toNat < K := by omega
    have hNi := hN.ni i.toNat hiK
    have hll := hNi.ll
    have e10 := s_10 (n := n) (k := k) (by omega) hNi (by omega) (by omega)
    have hT := hNi.tick
    have e1 : K - i.toNat = (K - (i + 1).toNat) + 1 := by omega
    rw [e1, El.tk] at ht
    have e2 : i.toNat + 1 = (i + 1).toNat := by omega
    have e3 : L'.getD i.toNat dn = nd L' i.toNat := rfl
    rw [e2, e3] at ht
    try dsimp only at ht
    generalize tick (nd L' i.toNat) = r at *
    refine q_yes AwakeQ (by simp (maxSteps := 2000000) (discharger := omega) only [r_ite, r_add, r_sub, r_mul, r_quo, r_rem, r_lt, r_le, r_eq, r_bnot, r_or, r_and, r_isel, r_beq, r_band, r_bimp, r_imax, r_imin, r_call, r_gcall, r_bind, Option.bind_some, fits_ok, mfit_ok, wrap_i64, both_self, node_eta, msg_eta, entry_eta, hard_eta, decide_eq_true_eq, Bool.and_eq_true, Bool.or_eq_true, Bool.not_eq_true', decide_eq_false_iff_not, Bool.not_not, eq_self, not_true_eq_false, not_false_eq_true, Bool.false_eq_true, Bool.true_eq_false, Bool.not_false, Bool.not_true, if_true, if_false, true_and, and_true, or_false, false_or, or_true, true_or, and_false, false_and, true_implies, if_pos, if_neg, len_58, get_58, app_58, set_58, cut_58, rep_58, emp_58, len_30, get_30, app_30, set_30, cut_30, rep_30, emp_30, len_27, get_27, app_27, set_27, cut_27, rep_27, emp_27, len_i, get_i, app_i, set_i, cut_i, rep_i, emp_i, len_b, get_b, app_b, set_b, cut_b, rep_b, emp_b, hbd] <;> omega) ?_
    refine q_yes AwakeQ (by simp (maxSteps := 2000000) (discharger := omega) only [r_ite, r_add, r_sub, r_mul, r_quo, r_rem, r_lt, r_le, r_eq, r_bnot, r_or, r_and, r_isel, r_beq, r_band, r_bimp, r_imax, r_imin, r_call, r_gcall, r_bind, Option.bind_some, fits_ok, mfit_ok, wrap_i64, both_self, node_eta, msg_eta, entry_eta, hard_eta, decide_eq_true_eq, Bool.and_eq_true, Bool.or_eq_true, Bool.not_eq_true', decide_eq_false_iff_not, Bool.not_not, eq_self, not_true_eq_false, not_false_eq_true, Bool.false_eq_true, Bool.true_eq_false, Bool.not_false, Bool.not_true, if_true, if_false, true_and, and_true, or_false, false_or, or_true, true_or, and_false, false_and, true_implies, if_pos, if_neg, len_58, get_58, app_58, set_58, cut_58, rep_58, emp_58, len_30, get_30, app_30, set_30, cut_30, rep_30, emp_30, len_27, get_27, app_27, set_27, cut_27, rep_27, emp_27, len_i, get_i, app_i, set_i, cut_i, rep_i, emp_i, len_b, get_b, app_b, set_b, cut_b, rep_b, emp_b] <;> omega) ?_
    refine q_bind AwakeQ (r.1, (r.2, ())) (by simp (maxSteps := 2000000) (discharger := omega) only [r_ite, r_add, r_sub, r_mul, r_quo, r_rem, r_lt, r_le, r_eq, r_bnot, r_or, r_and, r_isel, r_beq, r_band, r_bimp, r_imax, r_imin, r_call, r_gcall, r_bind, Option.bind_some, fits_ok, mfit_ok, wrap_i64, both_self, node_eta, msg_eta, entry_eta, hard_eta, decide_eq_true_eq, Bool.and_eq_true, Bool.or_eq_true, Bool.not_eq_true', decide_eq_false_iff_not, Bool.not_not, eq_self, not_true_eq_false, not_false_eq_true, Bool.false_eq_true, Bool.true_eq_false, Bool.not_false, Bool.not_true, if_true, if_false, true_and, and_true, or_false, false_or, or_true, true_or, and_false, false_and, true_implies, if_pos, if_neg, len_58, get_58, app_58, set_58, cut_58, rep_58, emp_58, len_30, get_30, app_30, set_30, cut_30, rep_30, emp_30, len_27, get_27, app_27, set_27, cut_27, rep_27, emp_27, len_i, get_i, app_i, set_i, cut_i, rep_i, emp_i, len_b, get_b, app_b, set_b, cut_b, rep_b, emp_b]; exact e10) ?_
    have hrl := hT.2.1
    refine q_yes AwakeQ (by simp (maxSteps := 2000000) (discharger := omega) only [r_ite, r_add, r_sub, r_mul, r_quo, r_rem, r_lt, r_le, r_eq, r_bnot, r_or, r_and, r_isel, r_beq, r_band, r_bimp, r_imax, r_imin, r_call, r_gcall, r_bind, Option.bind_some, fits_ok, mfit_ok, wrap_i64, both_self, node_eta, msg_eta, entry_eta, hard_eta, decide_eq_true_eq, Bool.and_eq_true, Bool.or_eq_true, Bool.not_eq_true', decide_eq_false_iff_not, Bool.not_not, eq_self, not_true_eq_false, not_false_eq_true, Bool.false_eq_true, Bool.true_eq_false, Bool.not_false, Bool.not_true, if_true, if_false, true_and, and_true, or_false, false_or, or_true, true_or, and_false, false_and, true_implies, if_pos, if_neg, len_58, get_58, app_58, set_58, cut_58, rep_58, emp_58, len_30, get_30, app_30, set_30, cut_30, rep_30, emp_30, len_27, get_27, app_27, set_27, cut_27, rep_27, emp_27, len_i, get_i, app_i, set_i, cut_i, rep_i, emp_i, len_b, get_b, app_b, set_b, cut_b, rep_b, emp_b] <;> omega) ?_
    refine q_yes AwakeQ (by simp (maxSteps := 2000000) (discharger := omega) only [r_ite, r_add, r_sub, r_mul, r_quo, r_rem, r_lt, r_le, r_eq, r_bnot, r_or, r_and, r_isel, r_beq, r_band, r_bimp, r_imax, r_imin, r_call, r_gcall, r_bind, Option.bind_some, fits_ok, mfit_ok, wrap_i64, both_self, node_eta, msg_eta, entry_eta, hard_eta, decide_eq_true_eq, Bool.and_eq_true, Bool.or_eq_true, Bool.not_eq_true', decide_eq_false_iff_not, Bool.not_not, eq_self, not_true_eq_false, not_false_eq_true, Bool.false_eq_true, Bool.true_eq_false, Bool.not_false, Bool.not_true, if_true, if_false, true_and, and_true, or_false, false_or, or_true, true_or, and_false, false_and, true_implies, if_pos, if_neg, len_58, get_58, app_58, set_58, cut_58, rep_58, emp_58, len_30, get_30, app_30, set_30, cut_30, rep_30, emp_30, len_27, get_27, app_27, set_27, cut_27, rep_27, emp_27, len_i, get_i, app_i, set_i, cut_i, rep_i, emp_i, len_b, get_b, app_b, set_b, cut_b, rep_b, emp_b] <;> omega) ?_
    refine q_eq AwakeQ (z := (i + 1, (L'.set i.toNat r.1, (l ++ r.2, ())))) ?_ (ih _ ⟨by dsimp only; omega, by dsimp only; omega, ?_, ?_, ht⟩ (by dsimp only; omega))
    · simp (maxSteps := 2000000) (discharger := omega) only [r_ite, r_add, r_sub, r_mul, r_quo, r_rem, r_lt, r_le, r_eq, r_bnot, r_or, r_and, r_isel, r_beq, r_band, r_bimp, r_imax, r_imin, r_call, r_gcall, r_bind, Option.bind_some, fits_ok, mfit_ok, wrap_i64, both_self, node_eta, msg_eta, entry_eta, hard_eta, decide_eq_true_eq, Bool.and_eq_true, Bool.or_eq_true, Bool.not_eq_true', decide_eq_false_iff_not, Bool.not_not, eq_self, not_true_eq_false, not_false_eq_true, Bool.false_eq_true, Bool.true_eq_false, Bool.not_false, Bool.not_true, if_true, if_false, true_and, and_true, or_false, false_or, or_true, true_or, and_false, false_and, true_implies, if_pos, if_neg, len_58, get_58, app_58, set_58, cut_58, rep_58, emp_58, len_30, get_30, app_30, set_30, cut_30, rep_30, emp_30, len_27, get_27, app_27, set_27, cut_27, rep_27, emp_27, len_i, get_i, app_i, set_i, cut_i, rep_i, emp_i, len_b, get_b, app_b, set_b, cut_b, rep_b, emp_b]
    · try dsimp only
      have e4 : B + 20 * (i - lo) + 20 = B + 20 * (i + 1 - lo) := by omega
      rw [← e4]
      exact hN.set (by omega) hT.1 hiK
    · try dsimp only
      rw [List.length_append]; omega
  · have hiK : i.toNat = K := by omega
    rw [hiK, Nat.sub_self, El.tk] at ht
    refine q_no AwakeQ (by simp (maxSteps := 2000000) (discharger := omega) only [r_ite, r_add, r_sub, r_mul, r_quo, r_rem, r_lt, r_le, r_eq, r_bnot, r_or, r_and, r_isel, r_beq, r_band, r_bimp, r_imax, r_imin, r_call, r_gcall, r_bind, Option.bind_some, fits_ok, mfit_ok, wrap_i64, both_self, node_eta, msg_eta, entry_eta, hard_eta, decide_eq_true_eq, Bool.and_eq_true, Bool.or_eq_true, Bool.not_eq_true', decide_eq_false_iff_not, Bool.not_not, eq_self, not_true_eq_false, not_false_eq_true, Bool.false_eq_true, Bool.true_eq_false, Bool.not_false, Bool.not_true, if_true, if_false, true_and, and_true, or_false, false_or, or_true, true_or, and_false, false_and, true_implies, if_pos, if_neg, len_58, get_58, app_58, set_58, cut_58, rep_58, emp_58, len_30, get_30, app_30, set_30, cut_30, rep_30, emp_30, len_27, get_27, app_27, set_27, cut_27, rep_27, emp_27, len_i, get_i, app_i, set_i, cut_i, rep_i, emp_i, len_b, get_b, app_b, set_b, cut_b, rep_b, emp_b, hbd] <;> omega) ?_
    rw [← ht] at hfin
    exact hfin (hN.le (by omega)) (by dsimp only; omega)

theorem dlv_loop {K : Nat} {lo : Int} {L : List Node} {l : List Msg} (hk : 8 ≤ k) (hn : 2^43 ≤ n) (h : NIs B K L) (hK : K ≤ 5) (hB0 : 2^40 ≤ B) (hB : B ≤ 2^41 - 20000) (hlo : 0 ≤ lo) (hl : l.length ≤ 50) {cnd : Int → List Node → Bool} (hc : ∀ (t : Int) (L' : List Node), L'.length = K → cnd t L' = decide (lo ≤ t ∧ t < (L'.length : Int)))
    {fin : List Node → Option (HL U [.bool])} (hfin : NIs (B + 10000) K (El.dl lo 500 0 L l) → AwakeQ (fin (El.dl lo 500 0 L l))) :
    AwakeQ (dlvF (real tab (C n k) n) cnd L l fin) := by
  unfold dlvF
  rw [r_loop]
  refine iter_prop (fun x => (500 - x.1).toNat) (fun x => 0 ≤ x.1 ∧ x.1 ≤ 500 ∧ NIs (B + 20 * x.1) K x.2.1 ∧ (x.2.2.1.length : Int) ≤ 50 + 10 * x.1 ∧ El.dl lo (500 - x.1.toNat) x.1.toNat x.2.1 x.2.2.1 = El.dl lo 500 0 L l) AwakeQ ?_ n _
    ⟨by dsimp only; omega, by dsimp only; omega, by dsimp only; exact h.le (by omega), by dsimp only; omega, rfl⟩ (by dsimp only; omega)
  rintro next ⟨i, L', l', u⟩ ⟨i0, i1, hN, hl', ht⟩ ih
  dsimp only at i0 i1 hN hl' ht
  have hlen := hN.len
  by_cases hi : i < (l'.length : Int) ∧ i < 500
  · have e1 : 500 - i.toNat = (500 - (i + 1).toNat) + 1 := by omega
    have e2 : i.toNat + 1 = (i + 1).toNat := by omega
    rw [e1, El.dl, if_pos (show i.toNat < l'.length by omega), e2] at ht
    try dsimp only at ht
    obtain ⟨m, hm⟩ : ∃ m : Msg, l'.getD i.toNat ⟨0, 0, 0, 0, 0, 0, false, 0, [], ⟨#[]⟩⟩ = m := ⟨_, rfl⟩
    rw [hm] at ht
    refine q_yes AwakeQ (by simp (maxSteps := 2000000) (discharger := omega) only [r_ite, r_add, r_sub, r_mul, r_quo, r_rem, r_lt, r_le, r_eq, r_bnot, r_or, r_and, r_isel, r_beq, r_band, r_bimp, r_imax, r_imin, r_call, r_gcall, r_bind, Option.bind_some, fits_ok, mfit_ok, wrap_i64, both_self, node_eta, msg_eta, entry_eta, hard_eta, decide_eq_true_eq, Bool.and_eq_true, Bool.or_eq_true, Bool.not_eq_true', decide_eq_false_iff_not, Bool.not_not, eq_self, not_true_eq_false, not_false_eq_true, Bool.false_eq_true, Bool.true_eq_false, Bool.not_false, Bool.not_true, if_true, if_false, true_and, and_true, or_false, false_or, or_true, true_or, and_false, false_and, true_implies, if_pos, if_neg, len_58, get_58, app_58, set_58, cut_58, rep_58, emp_58, len_30, get_30, app_30, set_30, cut_30, rep_30, emp_30, len_27, get_27, app_27, set_27, cut_27, rep_27, emp_27, len_i, get_i, app_i, set_i, cut_i, rep_i, emp_i, len_b, get_b, app_b, set_b, cut_b, rep_b, emp_b] <;> omega) ?_
    refine q_yes AwakeQ (by simp (maxSteps := 2000000) (discharger := omega) only [r_ite, r_add, r_sub, r_mul, r_quo, r_rem, r_lt, r_le, r_eq, r_bnot, r_or, r_and, r_isel, r_beq, r_band, r_bimp, r_imax, r_imin, r_call, r_gcall, r_bind, Option.bind_some, fits_ok, mfit_ok, wrap_i64, both_self, node_eta, msg_eta, entry_eta, hard_eta, decide_eq_true_eq, Bool.and_eq_true, Bool.or_eq_true, Bool.not_eq_true', decide_eq_false_iff_not, Bool.not_not, eq_self, not_true_eq_false, not_false_eq_true, Bool.false_eq_true, Bool.true_eq_false, Bool.not_false, Bool.not_true, if_true, if_false, true_and, and_true, or_false, false_or, or_true, true_or, and_false, false_and, true_implies, if_pos, if_neg, len_58, get_58, app_58, set_58, cut_58, rep_58, emp_58, len_30, get_30, app_30, set_30, cut_30, rep_30, emp_30, len_27, get_27, app_27, set_27, cut_27, rep_27, emp_27, len_i, get_i, app_i, set_i, cut_i, rep_i, emp_i, len_b, get_b, app_b, set_b, cut_b, rep_b, emp_b] <;> omega) ?_
    have hcd := hc m.to L' hlen
    by_cases hto : lo ≤ m.to ∧ m.to < (L'.length : Int)
    · rw [if_pos hto] at ht
      have htK : m.to.toNat < K := by omega
      have hNi := hN.ni m.to.toNat htK
      have hll := hNi.ll
      have e12 := s_12 (n := n) (k := k) (m := m) (by omega) hNi (by omega) (by omega) (by omega)
      have hT := hNi.step (m := m) (by omega)
      have e3 : L'.getD m.to.toNat dn = nd L' m.to.toNat := rfl
      rw [e3] at ht
      generalize step (nd L' m.to.toNat) m = r at *
      refine q_yes AwakeQ (by simp (maxSteps := 2000000) (discharger := omega) only [r_ite, r_add, r_sub, r_mul, r_quo, r_rem, r_lt, r_le, r_eq, r_bnot, r_or, r_and, r_isel, r_beq, r_band, r_bimp, r_imax, r_imin, r_call, r_gcall, r_bind, Option.bind_some, fits_ok, mfit_ok, wrap_i64, both_self, node_eta, msg_eta, entry_eta, hard_eta, decide_eq_true_eq, Bool.and_eq_true, Bool.or_eq_true, Bool.not_eq_true', decide_eq_false_iff_not, Bool.not_not, eq_self, not_true_eq_false, not_false_eq_true, Bool.false_eq_true, Bool.true_eq_false, Bool.not_false, Bool.not_true, if_true, if_false, true_and, and_true, or_false, false_or, or_true, true_or, and_false, false_and, true_implies, if_pos, if_neg, len_58, get_58, app_58, set_58, cut_58, rep_58, emp_58, len_30, get_30, app_30, set_30, cut_30, rep_30, emp_30, len_27, get_27, app_27, set_27, cut_27, rep_27, emp_27, len_i, get_i, app_i, set_i, cut_i, rep_i, emp_i, len_b, get_b, app_b, set_b, cut_b, rep_b, emp_b, hm, hcd] <;> omega) ?_
      refine q_yes AwakeQ (by simp (maxSteps := 2000000) (discharger := omega) only [r_ite, r_add, r_sub, r_mul, r_quo, r_rem, r_lt, r_le, r_eq, r_bnot, r_or, r_and, r_isel, r_beq, r_band, r_bimp, r_imax, r_imin, r_call, r_gcall, r_bind, Option.bind_some, fits_ok, mfit_ok, wrap_i64, both_self, node_eta, msg_eta, entry_eta, hard_eta, decide_eq_true_eq, Bool.and_eq_true, Bool.or_eq_true, Bool.not_eq_true', decide_eq_false_iff_not, Bool.not_not, eq_self, not_true_eq_false, not_false_eq_true, Bool.false_eq_true, Bool.true_eq_false, Bool.not_false, Bool.not_true, if_true, if_false, true_and, and_true, or_false, false_or, or_true, true_or, and_false, false_and, true_implies, if_pos, if_neg, len_58, get_58, app_58, set_58, cut_58, rep_58, emp_58, len_30, get_30, app_30, set_30, cut_30, rep_30, emp_30, len_27, get_27, app_27, set_27, cut_27, rep_27, emp_27, len_i, get_i, app_i, set_i, cut_i, rep_i, emp_i, len_b, get_b, app_b, set_b, cut_b, rep_b, emp_b, hm] <;> omega) ?_
      refine q_yes AwakeQ (by simp (maxSteps := 2000000) (discharger := omega) only [r_ite, r_add, r_sub, r_mul, r_quo, r_rem, r_lt, r_le, r_eq, r_bnot, r_or, r_and, r_isel, r_beq, r_band, r_bimp, r_imax, r_imin, r_call, r_gcall, r_bind, Option.bind_some, fits_ok, mfit_ok, wrap_i64, both_self, node_eta, msg_eta, entry_eta, hard_eta, decide_eq_true_eq, Bool.and_eq_true, Bool.or_eq_true, Bool.not_eq_true', decide_eq_false_iff_not, Bool.not_not, eq_self, not_true_eq_false, not_false_eq_true, Bool.false_eq_true, Bool.true_eq_false, Bool.not_false, Bool.not_true, if_true, if_false, true_and, and_true, or_false, false_or, or_true, true_or, and_false, false_and, true_implies, if_pos, if_neg, len_58, get_58, app_58, set_58, cut_58, rep_58, emp_58, len_30, get_30, app_30, set_30, cut_30, rep_30, emp_30, len_27, get_27, app_27, set_27, cut_27, rep_27, emp_27, len_i, get_i, app_i, set_i, cut_i, rep_i, emp_i, len_b, get_b, app_b, set_b, cut_b, rep_b, emp_b, hm] <;> omega) ?_
      refine q_bind AwakeQ (r.1, (r.2, ())) (by simp (maxSteps := 2000000) (discharger := omega) only [r_ite, r_add, r_sub, r_mul, r_quo, r_rem, r_lt, r_le, r_eq, r_bnot, r_or, r_and, r_isel, r_beq, r_band, r_bimp, r_imax, r_imin, r_call, r_gcall, r_bind, Option.bind_some, fits_ok, mfit_ok, wrap_i64, both_self, node_eta, msg_eta, entry_eta, hard_eta, decide_eq_true_eq, Bool.and_eq_true, Bool.or_eq_true, Bool.not_eq_true', decide_eq_false_iff_not, Bool.not_not, eq_self, not_true_eq_false, not_false_eq_true, Bool.false_eq_true, Bool.true_eq_false, Bool.not_false, Bool.not_true, if_true, if_false, true_and, and_true, or_false, false_or, or_true, true_or, and_false, false_and, true_implies, if_pos, if_neg, len_58, get_58, app_58, set_58, cut_58, rep_58, emp_58, len_30, get_30, app_30, set_30, cut_30, rep_30, emp_30, len_27, get_27, app_27, set_27, cut_27, rep_27, emp_27, len_i, get_i, app_i, set_i, cut_i, rep_i, emp_i, len_b, get_b, app_b, set_b, cut_b, rep_b, emp_b, hm]; exact e12) ?_
      have hrl := hT.2.1
      refine q_yes AwakeQ (by simp (maxSteps := 2000000) (discharger := omega) only [r_ite, r_add, r_sub, r_mul, r_quo, r_rem, r_lt, r_le, r_eq, r_bnot, r_or, r_and, r_isel, r_beq, r_band, r_bimp, r_imax, r_imin, r_call, r_gcall, r_bind, Option.bind_some, fits_ok, mfit_ok, wrap_i64, both_self, node_eta, msg_eta, entry_eta, hard_eta, decide_eq_true_eq, Bool.and_eq_true, Bool.or_eq_true, Bool.not_eq_true', decide_eq_false_iff_not, Bool.not_not, eq_self, not_true_eq_false, not_false_eq_true, Bool.false_eq_true, Bool.true_eq_false, Bool.not_false, Bool.not_true, if_true, if_false, true_and, and_true, or_false, false_or, or_true, true_or, and_false, false_and, true_implies, if_pos, if_neg, len_58, get_58, app_58, set_58, cut_58, rep_58, emp_58, len_30, get_30, app_30, set_30, cut_30, rep_30, emp_30, len_27, get_27, app_27, set_27, cut_27, rep_27, emp_27, len_i, get_i, app_i, set_i, cut_i, rep_i, emp_i, len_b, get_b, app_b, set_b, cut_b, rep_b, emp_b] <;> omega) ?_
      refine q_yes AwakeQ (by simp (maxSteps := 2000000) (discharger := omega) only [r_ite, r_add, r_sub, r_mul, r_quo, r_rem, r_lt, r_le, r_eq, r_bnot, r_or, r_and, r_isel, r_beq, r_band, r_bimp, r_imax, r_imin, r_call, r_gcall, r_bind, Option.bind_some, fits_ok, mfit_ok, wrap_i64, both_self, node_eta, msg_eta, entry_eta, hard_eta, decide_eq_true_eq, Bool.and_eq_true, Bool.or_eq_true, Bool.not_eq_true', decide_eq_false_iff_not, Bool.not_not, eq_self, not_true_eq_false, not_false_eq_true, Bool.false_eq_true, Bool.true_eq_false, Bool.not_false, Bool.not_true, if_true, if_false, true_and, and_true, or_false, false_or, or_true, true_or, and_false, false_and, true_implies, if_pos, if_neg, len_58, get_58, app_58, set_58, cut_58, rep_58, emp_58, len_30, get_30, app_30, set_30, cut_30, rep_30, emp_30, len_27, get_27, app_27, set_27, cut_27, rep_27, emp_27, len_i, get_i, app_i, set_i, cut_i, rep_i, emp_i, len_b, get_b, app_b, set_b, cut_b, rep_b, emp_b, hm] <;> omega) ?_
      refine q_eq AwakeQ (z := (i + 1, (L'.set m.to.toNat r.1, (l' ++ r.2, ())))) ?_ (ih _ ⟨by dsimp only; omega, by dsimp only; omega, ?_, ?_, ht⟩ (by dsimp only; omega))
      · simp (maxSteps := 2000000) (discharger := omega) only [r_ite, r_add, r_sub, r_mul, r_quo, r_rem, r_lt, r_le, r_eq, r_bnot, r_or, r_and, r_isel, r_beq, r_band, r_bimp, r_imax, r_imin, r_call, r_gcall, r_bind, Option.bind_some, fits_ok, mfit_ok, wrap_i64, both_self, node_eta, msg_eta, entry_eta, hard_eta, decide_eq_true_eq, Bool.and_eq_true, Bool.or_eq_true, Bool.not_eq_true', decide_eq_false_iff_not, Bool.not_not, eq_self, not_true_eq_false, not_false_eq_true, Bool.false_eq_true, Bool.true_eq_false, Bool.not_false, Bool.not_true, if_true, if_false, true_and, and_true, or_false, false_or, or_true, true_or, and_false, false_and, true_implies, if_pos, if_neg, len_58, get_58, app_58, set_58, cut_58, rep_58, emp_58, len_30, get_30, app_30, set_30, cut_30, rep_30, emp_30, len_27, get_27, app_27, set_27, cut_27, rep_27, emp_27, len_i, get_i, app_i, set_i, cut_i, rep_i, emp_i, len_b, get_b, app_b, set_b, cut_b, rep_b, emp_b, hm]
      · try dsimp only
        have e4 : B + 20 * i + 20 = B + 20 * (i + 1) := by omega
        rw [← e4]
        exact hN.set (by omega) hT.1 htK
      · try dsimp only
        rw [List.length_append]; omega
    · rw [if_neg hto] at ht
      refine q_no AwakeQ (by simp (maxSteps := 2000000) (discharger := omega) only [r_ite, r_add, r_sub, r_mul, r_quo, r_rem, r_lt, r_le, r_eq, r_bnot, r_or, r_and, r_isel, r_beq, r_band, r_bimp, r_imax, r_imin, r_call, r_gcall, r_bind, Option.bind_some, fits_ok, mfit_ok, wrap_i64, both_self, node_eta, msg_eta, entry_eta, hard_eta, decide_eq_true_eq, Bool.and_eq_true, Bool.or_eq_true, Bool.not_eq_true', decide_eq_false_iff_not, Bool.not_not, eq_self, not_true_eq_false, not_false_eq_true, Bool.false_eq_true, Bool.true_eq_false, Bool.not_false, Bool.not_true, if_true, if_false, true_and, and_true, or_false, false_or, or_true, true_or, and_false, false_and, true_implies, if_pos, if_neg, len_58, get_58, app_58, set_58, cut_58, rep_58, emp_58, len_30, get_30, app_30, set_30, cut_30, rep_30, emp_30, len_27, get_27, app_27, set_27, cut_27, rep_27, emp_27, len_i, get_i, app_i, set_i, cut_i, rep_i, emp_i, len_b, get_b, app_b, set_b, cut_b, rep_b, emp_b, hm, hcd] <;> omega) ?_
      refine q_eq AwakeQ (z := (i + 1, (L', (l', ())))) ?_ (ih _ ⟨by dsimp only; omega, by dsimp only; omega, hN.le (by dsimp only; omega), by dsimp only; omega, ht⟩ (by dsimp only; omega))
      simp (maxSteps := 2000000) (discharger := omega) only [r_ite, r_add, r_sub, r_mul, r_quo, r_rem, r_lt, r_le, r_eq, r_bnot, r_or, r_and, r_isel, r_beq, r_band, r_bimp, r_imax, r_imin, r_call, r_gcall, r_bind, Option.bind_some, fits_ok, mfit_ok, wrap_i64, both_self, node_eta, msg_eta, entry_eta, hard_eta, decide_eq_true_eq, Bool.and_eq_true, Bool.or_eq_true, Bool.not_eq_true', decide_eq_false_iff_not, Bool.not_not, eq_self, not_true_eq_false, not_false_eq_true, Bool.false_eq_true, Bool.true_eq_false, Bool.not_false, Bool.not_true, if_true, if_false, true_and, and_true, or_false, false_or, or_true, true_or, and_false, false_and, true_implies, if_pos, if_neg, len_58, get_58, app_58, set_58, cut_58, rep_58, emp_58, len_30, get_30, app_30, set_30, cut_30, rep_30, emp_30, len_27, get_27, app_27, set_27, cut_27, rep_27, emp_27, len_i, get_i, app_i, set_i, cut_i, rep_i, emp_i, len_b, get_b, app_b, set_b, cut_b, rep_b, emp_b]
  · refine q_no AwakeQ (by simp (maxSteps := 2000000) (discharger := omega) only [r_ite, r_add, r_sub, r_mul, r_quo, r_rem, r_lt, r_le, r_eq, r_bnot, r_or, r_and, r_isel, r_beq, r_band, r_bimp, r_imax, r_imin, r_call, r_gcall, r_bind, Option.bind_some, fits_ok, mfit_ok, wrap_i64, both_self, node_eta, msg_eta, entry_eta, hard_eta, decide_eq_true_eq, Bool.and_eq_true, Bool.or_eq_true, Bool.not_eq_true', decide_eq_false_iff_not, Bool.not_not, eq_self, not_true_eq_false, not_false_eq_true, Bool.false_eq_true, Bool.true_eq_false, Bool.not_false, Bool.not_true, if_true, if_false, true_and, and_true, or_false, false_or, or_true, true_or, and_false, false_and, true_implies, if_pos, if_neg, len_58, get_58, app_58, set_58, cut_58, rep_58, emp_58, len_30, get_30, app_30, set_30, cut_30, rep_30, emp_30, len_27, get_27, app_27, set_27, cut_27, rep_27, emp_27, len_i, get_i, app_i, set_i, cut_i, rep_i, emp_i, len_b, get_b, app_b, set_b, cut_b, rep_b, emp_b] <;> omega) ?_
    have hd : El.dl lo (500 - i.toNat) i.toNat L' l' = L' := by
      by_cases h5 : i = 500
      · subst h5; rfl
      · have e1 : 500 - i.toNat = (500 - (i + 1).toNat) + 1 := by omega
        rw [e1, El.dl, if_neg (by omega)]
    rw [hd] at ht
    rw [← ht] at hfin
    exact hfin (hN.le (by omega))

end
end Go.Proofs.Ytinfpahllbhomaa

namespace Go.Proofs.Ytinfpahllbhomaa
open Go.Ab
set_option linter.unusedSimpArgs false
set_option linter.unusedVariables false
set_option maxHeartbeats 8000000
noncomputable section
variable {n k : Nat} {B : Int} {a : Node}

namespace El
theorem props_succ (c : Nat → ByteArray) : ∀ (m i : Nat) (ns : List Node), props c (m + 1) i ns = nxt c (i + m) (props c m i ns)
  | 0, i, ns => rfl
  | m + 1, i, ns => by
    rw [props, props_succ c m (i + 1) (nxt c i ns)]
    rw [show i + 1 + m = i + (m + 1) from by omega]
    rfl

theorem all_get (c : Nat → ByteArray) (k : Nat) : ∀ (f i : Nat) (ns : List Node), all c k f i ns = true → ∀ j, j < f → fin k (i + j) (props c j i ns) = true ∧ lds (props c j i ns) = true
  | 0, i, ns, h, j, hj => by omega
  | f + 1, i, ns, h, j, hj => by
    rw [all, Bool.and_eq_true, Bool.and_eq_true] at h
    cases j with
    | zero => exact h.1
    | succ j =>
      have := all_get c k f (i + 1) (nxt c i ns) h.2 j (by omega)
      rw [show i + (j + 1) = i + 1 + j from by omega]
      exact this

theorem all_all (c : Nat → ByteArray) {K : Nat} (h1 : 1 ≤ K) (h5 : K ≤ 5) : all c K 30 0 (run 0 12 (init K)) = true := by
  have : K = 1 ∨ K = 2 ∨ K = 3 ∨ K = 4 ∨ K = 5 := by omega
  rcases this with rfl | rfl | rfl | rfl | rfl
  · exact all_1 c
  · exact all_2 c
  · exact all_3 c
  · exact all_4 c
  · exact all_5 c
end El

theorem init_nis {K : Nat} (h1 : 1 ≤ K) (h5 : K ≤ 5) : NIs (2^40) K (El.init K) := by
  refine ⟨by unfold El.init; rw [List.length_map, List.length_range], fun x hx => ?_⟩
  unfold El.init
  rw [nd_init hx]
  exact NI.new (by omega) (by omega) (by omega)

/-- The condition of a message's way. -/
theorem cnd_run {T : Tab U} {D : Go.Ab.Callee U} {m : Nat} (K : Nat) (t : Int) (L' : List Node) (h : L'.length = K) : (real T D m).bsel ((real T D m).le 0 t) ((real T D m).lt t ((real T D m).len (.st 27) L')) false = decide (0 ≤ t ∧ t < (L'.length : Int)) := by
  rw [r_and, r_le, r_lt, r_len, Bool.decide_and]

theorem cnd_rest {T : Tab U} {D : Go.Ab.Callee U} {m : Nat} {K : Nat} {K0 : Int} (hK : (K : Int) = 1 + K0) (h5 : K ≤ 5) (t : Int) (L' : List Node) (h : L'.length = K) : (real T D m).bsel ((real T D m).lt 0 t) ((real T D m).lt t ((real T D m).add .i64 1 K0)) false = decide (1 ≤ t ∧ t < (L'.length : Int)) := by
  rw [r_and, r_lt, r_lt, r_add, wrap_i64 (by omega) (by omega), ← Bool.decide_and]
  rw [decide_eq_decide]
  omega

theorem turn_loop {K lo : Nat} {L : List Node} (hk : 8 ≤ k) (hn : 2^43 ≤ n) (h : NIs B K L) (hK : K ≤ 5) (hB0 : 2^40 ≤ B) (hB : B ≤ 2^41 - 30000) (hlo : lo ≤ K) {bnd : List Node → Int} (hb : ∀ L' : List Node, L'.length = K → bnd L' = K)
    {cnd : Int → List Node → Bool} (hc : ∀ (t : Int) (L' : List Node), L'.length = K → cnd t L' = decide ((lo : Int) ≤ t ∧ t < (L'.length : Int)))
    {fin : List Node → Option (HL U [.bool])} (hfin : NIs (B + 10200) K (El.turn lo L) → AwakeQ (fin (El.turn lo L))) :
    AwakeQ (tickF (real tab (C n k) n) bnd lo L fun L' l' => dlvF (real tab (C n k) n) cnd L' l' fin) := by
  refine tick_loop (by omega) hn h hK (by omega) hlo hb fun h1 h2 => ?_
  refine dlv_loop hk hn h1 hK (by omega) (by omega) (by omega) h2 hc fun h3 => ?_
  have e : El.turn lo L = El.dl lo 500 0 (El.tk (K - lo) lo L []).1 (El.tk (K - lo) lo L []).2 := by
    unfold El.turn
    rw [h.len]
  rw [← e] at h3 ⊢
  exact hfin (h3.le (by omega))

theorem s_5 (hk : 20 ≤ k) (hn : 2^43 ≤ n) {nodes cmds : Int} : C n k 5 [⟨.int .i64, nodes⟩, ⟨.int .i64, cmds⟩] [.bool] = some (true, ()) := by
  obtain ⟨k, rfl⟩ : ∃ k1, k = k1 + 1 := ⟨k - 1, by omega⟩
  rw [C_succ, nf_5]
  show AwakeQ _
  have e7 := s_7 (n := n) (k := k) (by omega) (by omega)
  obtain ⟨K0, hK0, K0a, K0b⟩ := s_20 (n := n) (k := k) (v := nodes) (N := 5) (by omega) (by omega) (by omega)
  refine q_bind AwakeQ (K0, ()) hK0 ?_
  dsimp only
  obtain ⟨K, hK⟩ : ∃ K : Nat, (K : Int) = 1 + K0 := ⟨(1 + K0).toNat, by omega⟩
  rw [r_loop]
  refine iter_prop (fun x => ((K : Int) - x.1).toNat) (fun x => 0 ≤ x.1 ∧ x.1 ≤ (K : Int) ∧ x.2.1 = (List.range x.1.toNat).map fun (y : Nat) => newN y K) AwakeQ ?_ n _ ⟨by dsimp only; omega, by dsimp only; omega, rfl⟩ (by dsimp only; omega)
  rintro next0 ⟨i, L0, u0⟩ ⟨i0, i1, hL0⟩ ih0
  dsimp only at i0 i1 hL0
  by_cases hi : i < K
  · refine q_yes AwakeQ (by simp (maxSteps := 2000000) (discharger := omega) only [r_ite, r_add, r_sub, r_mul, r_quo, r_rem, r_lt, r_le, r_eq, r_bnot, r_or, r_and, r_isel, r_beq, r_band, r_bimp, r_imax, r_imin, r_call, r_gcall, r_bind, Option.bind_some, fits_ok, mfit_ok, wrap_i64, both_self, node_eta, msg_eta, entry_eta, hard_eta, decide_eq_true_eq, Bool.and_eq_true, Bool.or_eq_true, Bool.not_eq_true', decide_eq_false_iff_not, Bool.not_not, eq_self, not_true_eq_false, not_false_eq_true, Bool.false_eq_true, Bool.true_eq_false, Bool.not_false, Bool.not_true, if_true, if_false, true_and, and_true, or_false, false_or, or_true, true_or, and_false, false_and, true_implies, if_pos, if_neg, len_58, get_58, app_58, set_58, cut_58, rep_58, emp_58, len_30, get_30, app_30, set_30, cut_30, rep_30, emp_30, len_27, get_27, app_27, set_27, cut_27, rep_27, emp_27, len_i, get_i, app_i, set_i, cut_i, rep_i, emp_i, len_b, get_b, app_b, set_b, cut_b, rep_b, emp_b] <;> omega) ?_
    have e21 := s_21 (n := n) (k := k) (id := i) (nodes := 1 + K0) (by omega) (by omega)
    rw [show min (max (1 + K0) 1) 5 = (K : Int) from by omega] at e21
    refine q_bind AwakeQ (newN i K, ()) (by simp (maxSteps := 2000000) (discharger := omega) only [r_ite, r_add, r_sub, r_mul, r_quo, r_rem, r_lt, r_le, r_eq, r_bnot, r_or, r_and, r_isel, r_beq, r_band, r_bimp, r_imax, r_imin, r_call, r_gcall, r_bind, Option.bind_some, fits_ok, mfit_ok, wrap_i64, both_self, node_eta, msg_eta, entry_eta, hard_eta, decide_eq_true_eq, Bool.and_eq_true, Bool.or_eq_true, Bool.not_eq_true', decide_eq_false_iff_not, Bool.not_not, eq_self, not_true_eq_false, not_false_eq_true, Bool.false_eq_true, Bool.true_eq_false, Bool.not_false, Bool.not_true, if_true, if_false, true_and, and_true, or_false, false_or, or_true, true_or, and_false, false_and, true_implies, if_pos, if_neg, len_58, get_58, app_58, set_58, cut_58, rep_58, emp_58, len_30, get_30, app_30, set_30, cut_30, rep_30, emp_30, len_27, get_27, app_27, set_27, cut_27, rep_27, emp_27, len_i, get_i, app_i, set_i, cut_i, rep_i, emp_i, len_b, get_b, app_b, set_b, cut_b, rep_b, emp_b, e21]) ?_
    have hl : L0.length ≤ 5 := by rw [hL0, List.length_map, List.length_range]; omega
    refine q_yes AwakeQ (by simp (maxSteps := 2000000) (discharger := omega) only [r_ite, r_add, r_sub, r_mul, r_quo, r_rem, r_lt, r_le, r_eq, r_bnot, r_or, r_and, r_isel, r_beq, r_band, r_bimp, r_imax, r_imin, r_call, r_gcall, r_bind, Option.bind_some, fits_ok, mfit_ok, wrap_i64, both_self, node_eta, msg_eta, entry_eta, hard_eta, decide_eq_true_eq, Bool.and_eq_true, Bool.or_eq_true, Bool.not_eq_true', decide_eq_false_iff_not, Bool.not_not, eq_self, not_true_eq_false, not_false_eq_true, Bool.false_eq_true, Bool.true_eq_false, Bool.not_false, Bool.not_true, if_true, if_false, true_and, and_true, or_false, false_or, or_true, true_or, and_false, false_and, true_implies, if_pos, if_neg, len_58, get_58, app_58, set_58, cut_58, rep_58, emp_58, len_30, get_30, app_30, set_30, cut_30, rep_30, emp_30, len_27, get_27, app_27, set_27, cut_27, rep_27, emp_27, len_i, get_i, app_i, set_i, cut_i, rep_i, emp_i, len_b, get_b, app_b, set_b, cut_b, rep_b, emp_b, List.length_singleton]) ?_
    refine q_eq AwakeQ (z := (i + 1, (L0 ++ [newN i K], ()))) ?_ (ih0 _ ⟨by dsimp only; omega, by dsimp only; omega, ?_⟩ (by dsimp only; omega))
    · simp (maxSteps := 2000000) (discharger := omega) only [r_ite, r_add, r_sub, r_mul, r_quo, r_rem, r_lt, r_le, r_eq, r_bnot, r_or, r_and, r_isel, r_beq, r_band, r_bimp, r_imax, r_imin, r_call, r_gcall, r_bind, Option.bind_some, fits_ok, mfit_ok, wrap_i64, both_self, node_eta, msg_eta, entry_eta, hard_eta, decide_eq_true_eq, Bool.and_eq_true, Bool.or_eq_true, Bool.not_eq_true', decide_eq_false_iff_not, Bool.not_not, eq_self, not_true_eq_false, not_false_eq_true, Bool.false_eq_true, Bool.true_eq_false, Bool.not_false, Bool.not_true, if_true, if_false, true_and, and_true, or_false, false_or, or_true, true_or, and_false, false_and, true_implies, if_pos, if_neg, len_58, get_58, app_58, set_58, cut_58, rep_58, emp_58, len_30, get_30, app_30, set_30, cut_30, rep_30, emp_30, len_27, get_27, app_27, set_27, cut_27, rep_27, emp_27, len_i, get_i, app_i, set_i, cut_i, rep_i, emp_i, len_b, get_b, app_b, set_b, cut_b, rep_b, emp_b]
    · dsimp only
      rw [hL0, show (i + 1).toNat = i.toNat + 1 from by omega, List.range_succ, List.map_append]
      show _ = _ ++ [newN ((i.toNat : Nat) : Int) K]
      rw [show ((i.toNat : Nat) : Int) = i from by omega]
  refine q_no AwakeQ (by simp (maxSteps := 2000000) (discharger := omega) only [r_ite, r_add, r_sub, r_mul, r_quo, r_rem, r_lt, r_le, r_eq, r_bnot, r_or, r_and, r_isel, r_beq, r_band, r_bimp, r_imax, r_imin, r_call, r_gcall, r_bind, Option.bind_some, fits_ok, mfit_ok, wrap_i64, both_self, node_eta, msg_eta, entry_eta, hard_eta, decide_eq_true_eq, Bool.and_eq_true, Bool.or_eq_true, Bool.not_eq_true', decide_eq_false_iff_not, Bool.not_not, eq_self, not_true_eq_false, not_false_eq_true, Bool.false_eq_true, Bool.true_eq_false, Bool.not_false, Bool.not_true, if_true, if_false, true_and, and_true, or_false, false_or, or_true, true_or, and_false, false_and, true_implies, if_pos, if_neg, len_58, get_58, app_58, set_58, cut_58, rep_58, emp_58, len_30, get_30, app_30, set_30, cut_30, rep_30, emp_30, len_27, get_27, app_27, set_27, cut_27, rep_27, emp_27, len_i, get_i, app_i, set_i, cut_i, rep_i, emp_i, len_b, get_b, app_b, set_b, cut_b, rep_b, emp_b] <;> omega) ?_
  have hiK : i.toNat = K := by omega
  rw [hiK] at hL0
  have hL0 : L0 = El.init K := hL0
  have hK1 : 1 ≤ K := by omega
  have hK5 : K ≤ 5 := by omega
  have hF := init_nis hK1 hK5
  subst hL0
  clear ih0 hi i0 i1
  obtain ⟨m, hm, m0, m1⟩ := s_20 (n := n) (k := k) (v := cmds) (N := 30) (by omega) (by omega) (by omega)
  have hdig : ∀ i : Nat, ∃ s : ByteArray, i < 30 → C n k 25 [⟨.int .i64, (i : Int)⟩] [.str] = some (s, ()) := by
    intro i
    by_cases h : i < 30
    · obtain ⟨s, hs, _⟩ := s_25 11 (n := n) (k := k) (v := (i : Int)) (by omega) (by omega) (by omega) (by omega) (by omega)
      exact ⟨s, fun _ => hs⟩
    · exact ⟨⟨#[]⟩, fun q => absurd q h⟩
  obtain ⟨c, hc⟩ := Classical.axiomOfChoice hdig
  have hall := El.all_all c hK1 hK5
  obtain ⟨T1, hT1⟩ : ∃ T, El.run 0 12 (El.init K) = T := ⟨_, rfl⟩
  rw [hT1] at hall
  obtain ⟨N1, hN1⟩ : ∃ q : Nat, q = 12 := ⟨_, rfl⟩
  have hst : El.run 0 (N1 - (0 : Int).toNat) (El.init K) = T1 := by rw [show N1 - (0 : Int).toNat = 12 from by omega, hT1]
  -- twelve turns
  rw [r_loop]
  refine iter_prop (fun x => (12 - x.1).toNat) (fun x => 0 ≤ x.1 ∧ x.1 ≤ 12 ∧ NIs (2^40 + 10200 * x.1) K x.2.1 ∧ El.run 0 (N1 - x.1.toNat) x.2.1 = T1) AwakeQ ?_ n _
    ⟨by dsimp only; omega, by dsimp only; omega, hF.le (by dsimp only; omega), hst⟩ (by dsimp only; omega)
  rintro next1 ⟨t, L, u1⟩ ⟨t0, t1, hN, hrun⟩ ih1
  dsimp only at t0 t1 hN hrun
  by_cases ht : t < 12
  · refine q_yes AwakeQ (by simp (maxSteps := 2000000) (discharger := omega) only [r_ite, r_add, r_sub, r_mul, r_quo, r_rem, r_lt, r_le, r_eq, r_bnot, r_or, r_and, r_isel, r_beq, r_band, r_bimp, r_imax, r_imin, r_call, r_gcall, r_bind, Option.bind_some, fits_ok, mfit_ok, wrap_i64, both_self, node_eta, msg_eta, entry_eta, hard_eta, decide_eq_true_eq, Bool.and_eq_true, Bool.or_eq_true, Bool.not_eq_true', decide_eq_false_iff_not, Bool.not_not, eq_self, not_true_eq_false, not_false_eq_true, Bool.false_eq_true, Bool.true_eq_false, Bool.not_false, Bool.not_true, if_true, if_false, true_and, and_true, or_false, false_or, or_true, true_or, and_false, false_and, true_implies, if_pos, if_neg, len_58, get_58, app_58, set_58, cut_58, rep_58, emp_58, len_30, get_30, app_30, set_30, cut_30, rep_30, emp_30, len_27, get_27, app_27, set_27, cut_27, rep_27, emp_27, len_i, get_i, app_i, set_i, cut_i, rep_i, emp_i, len_b, get_b, app_b, set_b, cut_b, rep_b, emp_b] <;> omega) ?_
    refine turn_loop (lo := 0) (bnd := fun L' => (real tab (C n k) n).len (.st 27) L') (cnd := fun t L' => (real tab (C n k) n).bsel ((real tab (C n k) n).le 0 t) ((real tab (C n k) n).lt t ((real tab (C n k) n).len (.st 27) L')) false)
      (fin := fun L' => next1 ((real tab (C n k) n).add .i64 t 1, (L', ()))) (by omega) hn hN hK5 (by omega) (by omega) (by omega) (fun L' h => by show (L'.length : Int) = K; rw [h]) (cnd_run K) ?_
    intro h3
    have e1 : N1 - t.toNat = (N1 - (t + 1).toNat) + 1 := by omega
    rw [e1, El.run] at hrun
    refine q_eq AwakeQ (z := (t + 1, (El.turn 0 L, ()))) (by simp (maxSteps := 2000000) (discharger := omega) only [r_ite, r_add, r_sub, r_mul, r_quo, r_rem, r_lt, r_le, r_eq, r_bnot, r_or, r_and, r_isel, r_beq, r_band, r_bimp, r_imax, r_imin, r_call, r_gcall, r_bind, Option.bind_some, fits_ok, mfit_ok, wrap_i64, both_self, node_eta, msg_eta, entry_eta, hard_eta, decide_eq_true_eq, Bool.and_eq_true, Bool.or_eq_true, Bool.not_eq_true', decide_eq_false_iff_not, Bool.not_not, eq_self, not_true_eq_false, not_false_eq_true, Bool.false_eq_true, Bool.true_eq_false, Bool.not_false, Bool.not_true, if_true, if_false, true_and, and_true, or_false, false_or, or_true, true_or, and_false, false_and, true_implies, if_pos, if_neg, len_58, get_58, app_58, set_58, cut_58, rep_58, emp_58, len_30, get_30, app_30, set_30, cut_30, rep_30, emp_30, len_27, get_27, app_27, set_27, cut_27, rep_27, emp_27, len_i, get_i, app_i, set_i, cut_i, rep_i, emp_i, len_b, get_b, app_b, set_b, cut_b, rep_b, emp_b]) (ih1 _ ⟨by dsimp only; omega, by dsimp only; omega, h3.le (by dsimp only; omega), hrun⟩ (by dsimp only; omega))
  refine q_no AwakeQ (by simp (maxSteps := 2000000) (discharger := omega) only [r_ite, r_add, r_sub, r_mul, r_quo, r_rem, r_lt, r_le, r_eq, r_bnot, r_or, r_and, r_isel, r_beq, r_band, r_bimp, r_imax, r_imin, r_call, r_gcall, r_bind, Option.bind_some, fits_ok, mfit_ok, wrap_i64, both_self, node_eta, msg_eta, entry_eta, hard_eta, decide_eq_true_eq, Bool.and_eq_true, Bool.or_eq_true, Bool.not_eq_true', decide_eq_false_iff_not, Bool.not_not, eq_self, not_true_eq_false, not_false_eq_true, Bool.false_eq_true, Bool.true_eq_false, Bool.not_false, Bool.not_true, if_true, if_false, true_and, and_true, or_false, false_or, or_true, true_or, and_false, false_and, true_implies, if_pos, if_neg, len_58, get_58, app_58, set_58, cut_58, rep_58, emp_58, len_30, get_30, app_30, set_30, cut_30, rep_30, emp_30, len_27, get_27, app_27, set_27, cut_27, rep_27, emp_27, len_i, get_i, app_i, set_i, cut_i, rep_i, emp_i, len_b, get_b, app_b, set_b, cut_b, rep_b, emp_b] <;> omega) ?_
  have ht12 : N1 - t.toNat = 0 := by omega
  rw [ht12, El.run] at hrun
  have hN := hN.le (show 2^40 + 10200 * t ≤ 2^40 + 10200 * 12 by omega)
  rw [← hrun] at hall
  clear ih1 hrun ht12 ht t0 t1 hF
  refine q_bind AwakeQ (m, ()) hm ?_
  dsimp only
  have hget := El.all_get c K 30 0 L hall
  simp only [Nat.zero_add] at hget
  -- proposals
  rw [r_loop]
  refine iter_prop (fun x => (m - x.1).toNat) (fun x => 0 ≤ x.1 ∧ x.1 ≤ m ∧ NIs (2^40 + 10200 * (12 + x.1)) K x.2.1 ∧ x.2.1 = El.props c x.1.toNat 0 L) AwakeQ ?_ n _
    ⟨by dsimp only; omega, by dsimp only; omega, hN.le (by dsimp only; omega), rfl⟩ (by dsimp only; omega)
  rintro next2 ⟨p, L2, u2⟩ ⟨p0, p1, hN2, hp⟩ ih2
  dsimp only at p0 p1 hN2 hp
  have hlen2 := hN2.len
  obtain ⟨hfin, hlds⟩ := hget p.toNat (by omega)
  rw [← hp] at hfin hlds
  by_cases hpm : p < m
  · refine q_yes AwakeQ (by simp (maxSteps := 2000000) (discharger := omega) only [r_ite, r_add, r_sub, r_mul, r_quo, r_rem, r_lt, r_le, r_eq, r_bnot, r_or, r_and, r_isel, r_beq, r_band, r_bimp, r_imax, r_imin, r_call, r_gcall, r_bind, Option.bind_some, fits_ok, mfit_ok, wrap_i64, both_self, node_eta, msg_eta, entry_eta, hard_eta, decide_eq_true_eq, Bool.and_eq_true, Bool.or_eq_true, Bool.not_eq_true', decide_eq_false_iff_not, Bool.not_not, eq_self, not_true_eq_false, not_false_eq_true, Bool.false_eq_true, Bool.true_eq_false, Bool.not_false, Bool.not_true, if_true, if_false, true_and, and_true, or_false, false_or, or_true, true_or, and_false, false_and, true_implies, if_pos, if_neg, len_58, get_58, app_58, set_58, cut_58, rep_58, emp_58, len_30, get_30, app_30, set_30, cut_30, rep_30, emp_30, len_27, get_27, app_27, set_27, cut_27, rep_27, emp_27, len_i, get_i, app_i, set_i, cut_i, rep_i, emp_i, len_b, get_b, app_b, set_b, cut_b, rep_b, emp_b] <;> omega) ?_
    refine q_yes AwakeQ (by simp (maxSteps := 2000000) (discharger := omega) only [r_ite, r_add, r_sub, r_mul, r_quo, r_rem, r_lt, r_le, r_eq, r_bnot, r_or, r_and, r_isel, r_beq, r_band, r_bimp, r_imax, r_imin, r_call, r_gcall, r_bind, Option.bind_some, fits_ok, mfit_ok, wrap_i64, both_self, node_eta, msg_eta, entry_eta, hard_eta, decide_eq_true_eq, Bool.and_eq_true, Bool.or_eq_true, Bool.not_eq_true', decide_eq_false_iff_not, Bool.not_not, eq_self, not_true_eq_false, not_false_eq_true, Bool.false_eq_true, Bool.true_eq_false, Bool.not_false, Bool.not_true, if_true, if_false, true_and, and_true, or_false, false_or, or_true, true_or, and_false, false_and, true_implies, if_pos, if_neg, len_58, get_58, app_58, set_58, cut_58, rep_58, emp_58, len_30, get_30, app_30, set_30, cut_30, rep_30, emp_30, len_27, get_27, app_27, set_27, cut_27, rep_27, emp_27, len_i, get_i, app_i, set_i, cut_i, rep_i, emp_i, len_b, get_b, app_b, set_b, cut_b, rep_b, emp_b] <;> omega) ?_
    have e25 := hc p.toNat (by omega)
    rw [show ((p.toNat : Nat) : Int) = p from by omega] at e25
    refine q_bind AwakeQ (c p.toNat, ()) e25 ?_
    have hNi := hN2.ni 0 (by omega)
    have hll := hNi.ll
    have e14 := s_14 (n := n) (k := k) (by omega) hNi (by omega) (by omega) (cmd := c p.toNat)
    have hT := hNi.propose (cmd := c p.toNat)
    have hz : (propose (nd L2 0) (c p.toNat)).2.2 = 0 := by
      unfold El.lds at hlds
      rw [Bool.and_eq_true, decide_eq_true_eq, decide_eq_true_eq] at hlds
      have h1 : (nd L2 0).role = 2 := hlds.1
      have h2 : (nd L2 0).log.length < 200 := hlds.2
      unfold propose
      rw [if_pos h1, if_neg (by omega)]
    have hnx : El.nxt c p.toNat L2 = El.dl 0 500 0 (L2.set 0 (propose (nd L2 0) (c p.toNat)).1) (propose (nd L2 0) (c p.toNat)).2.1 := rfl
    have hprop : El.props c (p + 1).toNat 0 L = El.nxt c p.toNat L2 := by
      rw [show (p + 1).toNat = p.toNat + 1 from by omega, El.props_succ, Nat.zero_add, ← hp]
    rw [← hprop] at hnx
    generalize propose (nd L2 0) (c p.toNat) = r at *
    refine q_bind AwakeQ (r.1, (r.2.1, (r.2.2, ()))) (by simp (maxSteps := 2000000) (discharger := omega) only [r_ite, r_add, r_sub, r_mul, r_quo, r_rem, r_lt, r_le, r_eq, r_bnot, r_or, r_and, r_isel, r_beq, r_band, r_bimp, r_imax, r_imin, r_call, r_gcall, r_bind, Option.bind_some, fits_ok, mfit_ok, wrap_i64, both_self, node_eta, msg_eta, entry_eta, hard_eta, decide_eq_true_eq, Bool.and_eq_true, Bool.or_eq_true, Bool.not_eq_true', decide_eq_false_iff_not, Bool.not_not, eq_self, not_true_eq_false, not_false_eq_true, Bool.false_eq_true, Bool.true_eq_false, Bool.not_false, Bool.not_true, if_true, if_false, true_and, and_true, or_false, false_or, or_true, true_or, and_false, false_and, true_implies, if_pos, if_neg, len_58, get_58, app_58, set_58, cut_58, rep_58, emp_58, len_30, get_30, app_30, set_30, cut_30, rep_30, emp_30, len_27, get_27, app_27, set_27, cut_27, rep_27, emp_27, len_i, get_i, app_i, set_i, cut_i, rep_i, emp_i, len_b, get_b, app_b, set_b, cut_b, rep_b, emp_b, Int.toNat_zero]; exact e14) ?_
    refine q_no AwakeQ (by simp (maxSteps := 2000000) (discharger := omega) only [r_ite, r_add, r_sub, r_mul, r_quo, r_rem, r_lt, r_le, r_eq, r_bnot, r_or, r_and, r_isel, r_beq, r_band, r_bimp, r_imax, r_imin, r_call, r_gcall, r_bind, Option.bind_some, fits_ok, mfit_ok, wrap_i64, both_self, node_eta, msg_eta, entry_eta, hard_eta, decide_eq_true_eq, Bool.and_eq_true, Bool.or_eq_true, Bool.not_eq_true', decide_eq_false_iff_not, Bool.not_not, eq_self, not_true_eq_false, not_false_eq_true, Bool.false_eq_true, Bool.true_eq_false, Bool.not_false, Bool.not_true, if_true, if_false, true_and, and_true, or_false, false_or, or_true, true_or, and_false, false_and, true_implies, if_pos, if_neg, len_58, get_58, app_58, set_58, cut_58, rep_58, emp_58, len_30, get_30, app_30, set_30, cut_30, rep_30, emp_30, len_27, get_27, app_27, set_27, cut_27, rep_27, emp_27, len_i, get_i, app_i, set_i, cut_i, rep_i, emp_i, len_b, get_b, app_b, set_b, cut_b, rep_b, emp_b, hz]) ?_
    refine q_yes AwakeQ (by simp (maxSteps := 2000000) (discharger := omega) only [r_ite, r_add, r_sub, r_mul, r_quo, r_rem, r_lt, r_le, r_eq, r_bnot, r_or, r_and, r_isel, r_beq, r_band, r_bimp, r_imax, r_imin, r_call, r_gcall, r_bind, Option.bind_some, fits_ok, mfit_ok, wrap_i64, both_self, node_eta, msg_eta, entry_eta, hard_eta, decide_eq_true_eq, Bool.and_eq_true, Bool.or_eq_true, Bool.not_eq_true', decide_eq_false_iff_not, Bool.not_not, eq_self, not_true_eq_false, not_false_eq_true, Bool.false_eq_true, Bool.true_eq_false, Bool.not_false, Bool.not_true, if_true, if_false, true_and, and_true, or_false, false_or, or_true, true_or, and_false, false_and, true_implies, if_pos, if_neg, len_58, get_58, app_58, set_58, cut_58, rep_58, emp_58, len_30, get_30, app_30, set_30, cut_30, rep_30, emp_30, len_27, get_27, app_27, set_27, cut_27, rep_27, emp_27, len_i, get_i, app_i, set_i, cut_i, rep_i, emp_i, len_b, get_b, app_b, set_b, cut_b, rep_b, emp_b] <;> omega) ?_
    have hN3 : NIs (2^40 + 10200 * (12 + p) + 20) K (L2.set 0 r.1) := hN2.set (by omega) hT.1 (by omega)
    refine dlv_loop (lo := 0) (L := L2.set 0 r.1) (l := r.2.1) (cnd := fun t L' => (real tab (C n k) n).bsel ((real tab (C n k) n).le 0 t) ((real tab (C n k) n).lt t ((real tab (C n k) n).len (.st 27) L')) false)
      (fin := fun L' => next2 ((real tab (C n k) n).add .i64 p 1, (L', ()))) (by omega) hn hN3 hK5 (by omega) (by omega) (by omega) (by have := hT.2.1; omega) (cnd_run K) ?_
    intro h3
    rw [← hnx] at h3 ⊢
    refine q_eq AwakeQ (z := (p + 1, (El.props c (p + 1).toNat 0 L, ()))) (by simp (maxSteps := 2000000) (discharger := omega) only [r_ite, r_add, r_sub, r_mul, r_quo, r_rem, r_lt, r_le, r_eq, r_bnot, r_or, r_and, r_isel, r_beq, r_band, r_bimp, r_imax, r_imin, r_call, r_gcall, r_bind, Option.bind_some, fits_ok, mfit_ok, wrap_i64, both_self, node_eta, msg_eta, entry_eta, hard_eta, decide_eq_true_eq, Bool.and_eq_true, Bool.or_eq_true, Bool.not_eq_true', decide_eq_false_iff_not, Bool.not_not, eq_self, not_true_eq_false, not_false_eq_true, Bool.false_eq_true, Bool.true_eq_false, Bool.not_false, Bool.not_true, if_true, if_false, true_and, and_true, or_false, false_or, or_true, true_or, and_false, false_and, true_implies, if_pos, if_neg, len_58, get_58, app_58, set_58, cut_58, rep_58, emp_58, len_30, get_30, app_30, set_30, cut_30, rep_30, emp_30, len_27, get_27, app_27, set_27, cut_27, rep_27, emp_27, len_i, get_i, app_i, set_i, cut_i, rep_i, emp_i, len_b, get_b, app_b, set_b, cut_b, rep_b, emp_b]) (ih2 _ ⟨by dsimp only; omega, by dsimp only; omega, h3.le (by dsimp only; omega), rfl⟩ (by dsimp only; omega))
  refine q_no AwakeQ (by simp (maxSteps := 2000000) (discharger := omega) only [r_ite, r_add, r_sub, r_mul, r_quo, r_rem, r_lt, r_le, r_eq, r_bnot, r_or, r_and, r_isel, r_beq, r_band, r_bimp, r_imax, r_imin, r_call, r_gcall, r_bind, Option.bind_some, fits_ok, mfit_ok, wrap_i64, both_self, node_eta, msg_eta, entry_eta, hard_eta, decide_eq_true_eq, Bool.and_eq_true, Bool.or_eq_true, Bool.not_eq_true', decide_eq_false_iff_not, Bool.not_not, eq_self, not_true_eq_false, not_false_eq_true, Bool.false_eq_true, Bool.true_eq_false, Bool.not_false, Bool.not_true, if_true, if_false, true_and, and_true, or_false, false_or, or_true, true_or, and_false, false_and, true_implies, if_pos, if_neg, len_58, get_58, app_58, set_58, cut_58, rep_58, emp_58, len_30, get_30, app_30, set_30, cut_30, rep_30, emp_30, len_27, get_27, app_27, set_27, cut_27, rep_27, emp_27, len_i, get_i, app_i, set_i, cut_i, rep_i, emp_i, len_b, get_b, app_b, set_b, cut_b, rep_b, emp_b] <;> omega) ?_
  have hpe : p = m := by omega
  subst hpe
  have hN2 := hN2.le (show 2^40 + 10200 * (12 + p) ≤ 2^40 + 10200 * 45 by omega)
  clear ih2 hpm hN hget hp hall hlds hst hT1
  unfold El.fin at hfin
  obtain ⟨T2, hT2⟩ : ∃ T, El.run 0 4 L2 = T := ⟨_, rfl⟩
  rw [hT2, Bool.and_eq_true, List.all_eq_true] at hfin
  obtain ⟨N2, hN2'⟩ : ∃ q : Nat, q = 4 := ⟨_, rfl⟩
  have hst : El.run 0 (N2 - (0 : Int).toNat) L2 = T2 := by rw [show N2 - (0 : Int).toNat = 4 from by omega, hT2]
  -- four turns
  rw [r_loop]
  refine iter_prop (fun x => (4 - x.1).toNat) (fun x => 0 ≤ x.1 ∧ x.1 ≤ 4 ∧ NIs (2^40 + 10200 * (45 + x.1)) K x.2.1 ∧ El.run 0 (N2 - x.1.toNat) x.2.1 = T2) AwakeQ ?_ n _
    ⟨by dsimp only; omega, by dsimp only; omega, hN2.le (by dsimp only; omega), hst⟩ (by dsimp only; omega)
  rintro next3 ⟨t, L3, u3⟩ ⟨t0, t1, hN3, hrun⟩ ih3
  dsimp only at t0 t1 hN3 hrun
  by_cases ht : t < 4
  · refine q_yes AwakeQ (by simp (maxSteps := 2000000) (discharger := omega) only [r_ite, r_add, r_sub, r_mul, r_quo, r_rem, r_lt, r_le, r_eq, r_bnot, r_or, r_and, r_isel, r_beq, r_band, r_bimp, r_imax, r_imin, r_call, r_gcall, r_bind, Option.bind_some, fits_ok, mfit_ok, wrap_i64, both_self, node_eta, msg_eta, entry_eta, hard_eta, decide_eq_true_eq, Bool.and_eq_true, Bool.or_eq_true, Bool.not_eq_true', decide_eq_false_iff_not, Bool.not_not, eq_self, not_true_eq_false, not_false_eq_true, Bool.false_eq_true, Bool.true_eq_false, Bool.not_false, Bool.not_true, if_true, if_false, true_and, and_true, or_false, false_or, or_true, true_or, and_false, false_and, true_implies, if_pos, if_neg, len_58, get_58, app_58, set_58, cut_58, rep_58, emp_58, len_30, get_30, app_30, set_30, cut_30, rep_30, emp_30, len_27, get_27, app_27, set_27, cut_27, rep_27, emp_27, len_i, get_i, app_i, set_i, cut_i, rep_i, emp_i, len_b, get_b, app_b, set_b, cut_b, rep_b, emp_b] <;> omega) ?_
    refine turn_loop (lo := 0) (bnd := fun L' => (real tab (C n k) n).len (.st 27) L') (cnd := fun t L' => (real tab (C n k) n).bsel ((real tab (C n k) n).le 0 t) ((real tab (C n k) n).lt t ((real tab (C n k) n).len (.st 27) L')) false)
      (fin := fun L' => next3 ((real tab (C n k) n).add .i64 t 1, (L', ()))) (by omega) hn hN3 hK5 (by omega) (by omega) (by omega) (fun L' h => by show (L'.length : Int) = K; rw [h]) (cnd_run K) ?_
    intro h3
    have e1 : N2 - t.toNat = (N2 - (t + 1).toNat) + 1 := by omega
    rw [e1, El.run] at hrun
    refine q_eq AwakeQ (z := (t + 1, (El.turn 0 L3, ()))) (by simp (maxSteps := 2000000) (discharger := omega) only [r_ite, r_add, r_sub, r_mul, r_quo, r_rem, r_lt, r_le, r_eq, r_bnot, r_or, r_and, r_isel, r_beq, r_band, r_bimp, r_imax, r_imin, r_call, r_gcall, r_bind, Option.bind_some, fits_ok, mfit_ok, wrap_i64, both_self, node_eta, msg_eta, entry_eta, hard_eta, decide_eq_true_eq, Bool.and_eq_true, Bool.or_eq_true, Bool.not_eq_true', decide_eq_false_iff_not, Bool.not_not, eq_self, not_true_eq_false, not_false_eq_true, Bool.false_eq_true, Bool.true_eq_false, Bool.not_false, Bool.not_true, if_true, if_false, true_and, and_true, or_false, false_or, or_true, true_or, and_false, false_and, true_implies, if_pos, if_neg, len_58, get_58, app_58, set_58, cut_58, rep_58, emp_58, len_30, get_30, app_30, set_30, cut_30, rep_30, emp_30, len_27, get_27, app_27, set_27, cut_27, rep_27, emp_27, len_i, get_i, app_i, set_i, cut_i, rep_i, emp_i, len_b, get_b, app_b, set_b, cut_b, rep_b, emp_b]) (ih3 _ ⟨by dsimp only; omega, by dsimp only; omega, h3.le (by dsimp only; omega), hrun⟩ (by dsimp only; omega))
  refine q_no AwakeQ (by simp (maxSteps := 2000000) (discharger := omega) only [r_ite, r_add, r_sub, r_mul, r_quo, r_rem, r_lt, r_le, r_eq, r_bnot, r_or, r_and, r_isel, r_beq, r_band, r_bimp, r_imax, r_imin, r_call, r_gcall, r_bind, Option.bind_some, fits_ok, mfit_ok, wrap_i64, both_self, node_eta, msg_eta, entry_eta, hard_eta, decide_eq_true_eq, Bool.and_eq_true, Bool.or_eq_true, Bool.not_eq_true', decide_eq_false_iff_not, Bool.not_not, eq_self, not_true_eq_false, not_false_eq_true, Bool.false_eq_true, Bool.true_eq_false, Bool.not_false, Bool.not_true, if_true, if_false, true_and, and_true, or_false, false_or, or_true, true_or, and_false, false_and, true_implies, if_pos, if_neg, len_58, get_58, app_58, set_58, cut_58, rep_58, emp_58, len_30, get_30, app_30, set_30, cut_30, rep_30, emp_30, len_27, get_27, app_27, set_27, cut_27, rep_27, emp_27, len_i, get_i, app_i, set_i, cut_i, rep_i, emp_i, len_b, get_b, app_b, set_b, cut_b, rep_b, emp_b] <;> omega) ?_
  have ht4 : N2 - t.toNat = 0 := by omega
  rw [ht4, El.run] at hrun
  have hN3 := hN3.le (show 2^40 + 10200 * (45 + t) ≤ 2^40 + 10200 * 49 by omega)
  rw [← hrun] at hfin
  obtain ⟨hok1, hok2⟩ := hfin
  have hlen3 := hN3.len
  clear ih3 hrun ht4 ht t0 t1 hN2 hlen2
  -- what has come of it
  rw [r_loop]
  refine iter_prop (fun x => ((K : Int) - x.1).toNat) (fun x => 0 ≤ x.1 ∧ x.1 ≤ (K : Int)) AwakeQ ?_ n _ ⟨by dsimp only; omega, by dsimp only; omega⟩ (by dsimp only; omega)
  rintro next4 ⟨i, u4⟩ ⟨i0, i1⟩ ih4
  dsimp only at i0 i1
  by_cases hi : i < K
  · have h1 := hok1 i.toNat (List.mem_range.2 (by omega))
    unfold El.ok1 at h1
    simp only [Bool.and_eq_true, decide_eq_true_eq] at h1
    obtain ⟨⟨⟨⟨q1, q2⟩, q3⟩, q4⟩, q5⟩ := h1
    have hi0 : decide (i.toNat = 0) = decide (i = 0) := by rw [decide_eq_decide]; omega
    rw [hi0] at q2
    have q3 : (L3.getD i.toNat dn).commit = 1 + p := by omega
    have q4 : ((L3.getD i.toNat dn).log.length : Int) = 1 + p := by omega
    have hg : (real tab (C n k) n).get (.st 27) L3 i = L3.getD i.toNat dn := rfl
    dsimp only
    rw [hg]
    generalize L3.getD i.toNat dn = b at *
    refine q_yes AwakeQ (by simp (maxSteps := 2000000) (discharger := omega) only [r_ite, r_add, r_sub, r_mul, r_quo, r_rem, r_lt, r_le, r_eq, r_bnot, r_or, r_and, r_isel, r_beq, r_band, r_bimp, r_imax, r_imin, r_call, r_gcall, r_bind, Option.bind_some, fits_ok, mfit_ok, wrap_i64, both_self, node_eta, msg_eta, entry_eta, hard_eta, decide_eq_true_eq, Bool.and_eq_true, Bool.or_eq_true, Bool.not_eq_true', decide_eq_false_iff_not, Bool.not_not, eq_self, not_true_eq_false, not_false_eq_true, Bool.false_eq_true, Bool.true_eq_false, Bool.not_false, Bool.not_true, if_true, if_false, true_and, and_true, or_false, false_or, or_true, true_or, and_false, false_and, true_implies, if_pos, if_neg, len_58, get_58, app_58, set_58, cut_58, rep_58, emp_58, len_30, get_30, app_30, set_30, cut_30, rep_30, emp_30, len_27, get_27, app_27, set_27, cut_27, rep_27, emp_27, len_i, get_i, app_i, set_i, cut_i, rep_i, emp_i, len_b, get_b, app_b, set_b, cut_b, rep_b, emp_b] <;> omega) ?_
    refine q_yes AwakeQ (by simp (maxSteps := 2000000) (discharger := omega) only [r_ite, r_add, r_sub, r_mul, r_quo, r_rem, r_lt, r_le, r_eq, r_bnot, r_or, r_and, r_isel, r_beq, r_band, r_bimp, r_imax, r_imin, r_call, r_gcall, r_bind, Option.bind_some, fits_ok, mfit_ok, wrap_i64, both_self, node_eta, msg_eta, entry_eta, hard_eta, decide_eq_true_eq, Bool.and_eq_true, Bool.or_eq_true, Bool.not_eq_true', decide_eq_false_iff_not, Bool.not_not, eq_self, not_true_eq_false, not_false_eq_true, Bool.false_eq_true, Bool.true_eq_false, Bool.not_false, Bool.not_true, if_true, if_false, true_and, and_true, or_false, false_or, or_true, true_or, and_false, false_and, true_implies, if_pos, if_neg, len_58, get_58, app_58, set_58, cut_58, rep_58, emp_58, len_30, get_30, app_30, set_30, cut_30, rep_30, emp_30, len_27, get_27, app_27, set_27, cut_27, rep_27, emp_27, len_i, get_i, app_i, set_i, cut_i, rep_i, emp_i, len_b, get_b, app_b, set_b, cut_b, rep_b, emp_b] <;> omega) ?_
    refine q_yes AwakeQ (by rw [r_bimp]; simp (maxSteps := 2000000) (discharger := omega) only [r_ite, r_add, r_sub, r_mul, r_quo, r_rem, r_lt, r_le, r_eq, r_bnot, r_or, r_and, r_isel, r_beq, r_band, r_bimp, r_imax, r_imin, r_call, r_gcall, r_bind, Option.bind_some, fits_ok, mfit_ok, wrap_i64, both_self, node_eta, msg_eta, entry_eta, hard_eta, decide_eq_true_eq, Bool.and_eq_true, Bool.or_eq_true, Bool.not_eq_true', decide_eq_false_iff_not, Bool.not_not, eq_self, not_true_eq_false, not_false_eq_true, Bool.false_eq_true, Bool.true_eq_false, Bool.not_false, Bool.not_true, if_true, if_false, true_and, and_true, or_false, false_or, or_true, true_or, and_false, false_and, true_implies, if_pos, if_neg, len_58, get_58, app_58, set_58, cut_58, rep_58, emp_58, len_30, get_30, app_30, set_30, cut_30, rep_30, emp_30, len_27, get_27, app_27, set_27, cut_27, rep_27, emp_27, len_i, get_i, app_i, set_i, cut_i, rep_i, emp_i, len_b, get_b, app_b, set_b, cut_b, rep_b, emp_b, ← Bool.decide_and, ← Bool.decide_or, ← decide_not, decide_eq_true, decide_eq_false] <;> (try simp) <;> omega) ?_
    refine q_yes AwakeQ (by rw [r_bimp]; simp (maxSteps := 2000000) (discharger := omega) only [r_ite, r_add, r_sub, r_mul, r_quo, r_rem, r_lt, r_le, r_eq, r_bnot, r_or, r_and, r_isel, r_beq, r_band, r_bimp, r_imax, r_imin, r_call, r_gcall, r_bind, Option.bind_some, fits_ok, mfit_ok, wrap_i64, both_self, node_eta, msg_eta, entry_eta, hard_eta, decide_eq_true_eq, Bool.and_eq_true, Bool.or_eq_true, Bool.not_eq_true', decide_eq_false_iff_not, Bool.not_not, eq_self, not_true_eq_false, not_false_eq_true, Bool.false_eq_true, Bool.true_eq_false, Bool.not_false, Bool.not_true, if_true, if_false, true_and, and_true, or_false, false_or, or_true, true_or, and_false, false_and, true_implies, if_pos, if_neg, len_58, get_58, app_58, set_58, cut_58, rep_58, emp_58, len_30, get_30, app_30, set_30, cut_30, rep_30, emp_30, len_27, get_27, app_27, set_27, cut_27, rep_27, emp_27, len_i, get_i, app_i, set_i, cut_i, rep_i, emp_i, len_b, get_b, app_b, set_b, cut_b, rep_b, emp_b, ← Bool.decide_and, ← Bool.decide_or, ← decide_not, decide_eq_true, decide_eq_false] <;> (try simp) <;> omega) ?_
    refine q_yes AwakeQ (by rw [r_bimp]; simp (maxSteps := 2000000) (discharger := omega) only [r_ite, r_add, r_sub, r_mul, r_quo, r_rem, r_lt, r_le, r_eq, r_bnot, r_or, r_and, r_isel, r_beq, r_band, r_bimp, r_imax, r_imin, r_call, r_gcall, r_bind, Option.bind_some, fits_ok, mfit_ok, wrap_i64, both_self, node_eta, msg_eta, entry_eta, hard_eta, decide_eq_true_eq, Bool.and_eq_true, Bool.or_eq_true, Bool.not_eq_true', decide_eq_false_iff_not, Bool.not_not, eq_self, not_true_eq_false, not_false_eq_true, Bool.false_eq_true, Bool.true_eq_false, Bool.not_false, Bool.not_true, if_true, if_false, true_and, and_true, or_false, false_or, or_true, true_or, and_false, false_and, true_implies, if_pos, if_neg, len_58, get_58, app_58, set_58, cut_58, rep_58, emp_58, len_30, get_30, app_30, set_30, cut_30, rep_30, emp_30, len_27, get_27, app_27, set_27, cut_27, rep_27, emp_27, len_i, get_i, app_i, set_i, cut_i, rep_i, emp_i, len_b, get_b, app_b, set_b, cut_b, rep_b, emp_b, ← Bool.decide_and, ← Bool.decide_or, ← decide_not, decide_eq_true, decide_eq_false] <;> (try simp) <;> omega) ?_
    refine q_yes AwakeQ (by rw [r_bimp]; simp (maxSteps := 2000000) (discharger := omega) only [r_ite, r_add, r_sub, r_mul, r_quo, r_rem, r_lt, r_le, r_eq, r_bnot, r_or, r_and, r_isel, r_beq, r_band, r_bimp, r_imax, r_imin, r_call, r_gcall, r_bind, Option.bind_some, fits_ok, mfit_ok, wrap_i64, both_self, node_eta, msg_eta, entry_eta, hard_eta, decide_eq_true_eq, Bool.and_eq_true, Bool.or_eq_true, Bool.not_eq_true', decide_eq_false_iff_not, Bool.not_not, eq_self, not_true_eq_false, not_false_eq_true, Bool.false_eq_true, Bool.true_eq_false, Bool.not_false, Bool.not_true, if_true, if_false, true_and, and_true, or_false, false_or, or_true, true_or, and_false, false_and, true_implies, if_pos, if_neg, len_58, get_58, app_58, set_58, cut_58, rep_58, emp_58, len_30, get_30, app_30, set_30, cut_30, rep_30, emp_30, len_27, get_27, app_27, set_27, cut_27, rep_27, emp_27, len_i, get_i, app_i, set_i, cut_i, rep_i, emp_i, len_b, get_b, app_b, set_b, cut_b, rep_b, emp_b, ← Bool.decide_and, ← Bool.decide_or, ← decide_not, decide_eq_true, decide_eq_false] <;> (try simp) <;> omega) ?_
    refine q_no AwakeQ ?_ ?_
    · rw [r_add, wrap_i64 (by omega) (by omega)]
      simp only [r_or, r_bnot, r_eq, r_beq, len_58]
      rw [q1, q2, q3, q4, q5]
      simp
    exact q_eq AwakeQ (by simp (maxSteps := 2000000) (discharger := omega) only [r_ite, r_add, r_sub, r_mul, r_quo, r_rem, r_lt, r_le, r_eq, r_bnot, r_or, r_and, r_isel, r_beq, r_band, r_bimp, r_imax, r_imin, r_call, r_gcall, r_bind, Option.bind_some, fits_ok, mfit_ok, wrap_i64, both_self, node_eta, msg_eta, entry_eta, hard_eta, decide_eq_true_eq, Bool.and_eq_true, Bool.or_eq_true, Bool.not_eq_true', decide_eq_false_iff_not, Bool.not_not, eq_self, not_true_eq_false, not_false_eq_true, Bool.false_eq_true, Bool.true_eq_false, Bool.not_false, Bool.not_true, if_true, if_false, true_and, and_true, or_false, false_or, or_true, true_or, and_false, false_and, true_implies, if_pos, if_neg, len_58, get_58, app_58, set_58, cut_58, rep_58, emp_58, len_30, get_30, app_30, set_30, cut_30, rep_30, emp_30, len_27, get_27, app_27, set_27, cut_27, rep_27, emp_27, len_i, get_i, app_i, set_i, cut_i, rep_i, emp_i, len_b, get_b, app_b, set_b, cut_b, rep_b, emp_b]) (ih4 (i + 1, ()) ⟨by dsimp only; omega, by dsimp only; omega⟩ (by dsimp only; omega))
  refine q_no AwakeQ (by simp (maxSteps := 2000000) (discharger := omega) only [r_ite, r_add, r_sub, r_mul, r_quo, r_rem, r_lt, r_le, r_eq, r_bnot, r_or, r_and, r_isel, r_beq, r_band, r_bimp, r_imax, r_imin, r_call, r_gcall, r_bind, Option.bind_some, fits_ok, mfit_ok, wrap_i64, both_self, node_eta, msg_eta, entry_eta, hard_eta, decide_eq_true_eq, Bool.and_eq_true, Bool.or_eq_true, Bool.not_eq_true', decide_eq_false_iff_not, Bool.not_not, eq_self, not_true_eq_false, not_false_eq_true, Bool.false_eq_true, Bool.true_eq_false, Bool.not_false, Bool.not_true, if_true, if_false, true_and, and_true, or_false, false_or, or_true, true_or, and_false, false_and, true_implies, if_pos, if_neg, len_58, get_58, app_58, set_58, cut_58, rep_58, emp_58, len_30, get_30, app_30, set_30, cut_30, rep_30, emp_30, len_27, get_27, app_27, set_27, cut_27, rep_27, emp_27, len_i, get_i, app_i, set_i, cut_i, rep_i, emp_i, len_b, get_b, app_b, set_b, cut_b, rep_b, emp_b] <;> omega) ?_
  clear ih4 i0 i1 hok1
  by_cases hK3 : K < 3
  · refine q_yes AwakeQ (by simp (maxSteps := 2000000) (discharger := omega) only [r_ite, r_add, r_sub, r_mul, r_quo, r_rem, r_lt, r_le, r_eq, r_bnot, r_or, r_and, r_isel, r_beq, r_band, r_bimp, r_imax, r_imin, r_call, r_gcall, r_bind, Option.bind_some, fits_ok, mfit_ok, wrap_i64, both_self, node_eta, msg_eta, entry_eta, hard_eta, decide_eq_true_eq, Bool.and_eq_true, Bool.or_eq_true, Bool.not_eq_true', decide_eq_false_iff_not, Bool.not_not, eq_self, not_true_eq_false, not_false_eq_true, Bool.false_eq_true, Bool.true_eq_false, Bool.not_false, Bool.not_true, if_true, if_false, true_and, and_true, or_false, false_or, or_true, true_or, and_false, false_and, true_implies, if_pos, if_neg, len_58, get_58, app_58, set_58, cut_58, rep_58, emp_58, len_30, get_30, app_30, set_30, cut_30, rep_30, emp_30, len_27, get_27, app_27, set_27, cut_27, rep_27, emp_27, len_i, get_i, app_i, set_i, cut_i, rep_i, emp_i, len_b, get_b, app_b, set_b, cut_b, rep_b, emp_b] <;> omega) ?_
    refine q_bind AwakeQ (true, ()) e7 ?_
    exact rfl
  refine q_no AwakeQ (by simp (maxSteps := 2000000) (discharger := omega) only [r_ite, r_add, r_sub, r_mul, r_quo, r_rem, r_lt, r_le, r_eq, r_bnot, r_or, r_and, r_isel, r_beq, r_band, r_bimp, r_imax, r_imin, r_call, r_gcall, r_bind, Option.bind_some, fits_ok, mfit_ok, wrap_i64, both_self, node_eta, msg_eta, entry_eta, hard_eta, decide_eq_true_eq, Bool.and_eq_true, Bool.or_eq_true, Bool.not_eq_true', decide_eq_false_iff_not, Bool.not_not, eq_self, not_true_eq_false, not_false_eq_true, Bool.false_eq_true, Bool.true_eq_false, Bool.not_false, Bool.not_true, if_true, if_false, true_and, and_true, or_false, false_or, or_true, true_or, and_false, false_and, true_implies, if_pos, if_neg, len_58, get_58, app_58, set_58, cut_58, rep_58, emp_58, len_30, get_30, app_30, set_30, cut_30, rep_30, emp_30, len_27, get_27, app_27, set_27, cut_27, rep_27, emp_27, len_i, get_i, app_i, set_i, cut_i, rep_i, emp_i, len_b, get_b, app_b, set_b, cut_b, rep_b, emp_b] <;> omega) ?_
  rw [decide_eq_false hK3, Bool.false_or] at hok2
  obtain ⟨T3, hT3⟩ : ∃ T, El.run 1 25 L3 = T := ⟨_, rfl⟩
  rw [hT3] at hok2
  obtain ⟨N3, hN3'⟩ : ∃ q : Nat, q = 25 := ⟨_, rfl⟩
  have hst : El.run 1 (N3 - (0 : Int).toNat) L3 = T3 := by rw [show N3 - (0 : Int).toNat = 25 from by omega, hT3]
  -- the others alone
  rw [r_loop]
  refine iter_prop (fun x => (25 - x.1).toNat) (fun x => 0 ≤ x.1 ∧ x.1 ≤ 25 ∧ NIs (2^40 + 10200 * (49 + x.1)) K x.2.1 ∧ El.run 1 (N3 - x.1.toNat) x.2.1 = T3) AwakeQ ?_ n _
    ⟨by dsimp only; omega, by dsimp only; omega, hN3.le (by dsimp only; omega), hst⟩ (by dsimp only; omega)
  rintro next5 ⟨t, L4, u5⟩ ⟨t0, t1, hN4, hrun⟩ ih5
  dsimp only at t0 t1 hN4 hrun
  by_cases ht : t < 25
  · refine q_yes AwakeQ (by simp (maxSteps := 2000000) (discharger := omega) only [r_ite, r_add, r_sub, r_mul, r_quo, r_rem, r_lt, r_le, r_eq, r_bnot, r_or, r_and, r_isel, r_beq, r_band, r_bimp, r_imax, r_imin, r_call, r_gcall, r_bind, Option.bind_some, fits_ok, mfit_ok, wrap_i64, both_self, node_eta, msg_eta, entry_eta, hard_eta, decide_eq_true_eq, Bool.and_eq_true, Bool.or_eq_true, Bool.not_eq_true', decide_eq_false_iff_not, Bool.not_not, eq_self, not_true_eq_false, not_false_eq_true, Bool.false_eq_true, Bool.true_eq_false, Bool.not_false, Bool.not_true, if_true, if_false, true_and, and_true, or_false, false_or, or_true, true_or, and_false, false_and, true_implies, if_pos, if_neg, len_58, get_58, app_58, set_58, cut_58, rep_58, emp_58, len_30, get_30, app_30, set_30, cut_30, rep_30, emp_30, len_27, get_27, app_27, set_27, cut_27, rep_27, emp_27, len_i, get_i, app_i, set_i, cut_i, rep_i, emp_i, len_b, get_b, app_b, set_b, cut_b, rep_b, emp_b] <;> omega) ?_
    refine turn_loop (lo := 1) (bnd := fun L' => (real tab (C n k) n).add .i64 1 K0) (cnd := fun t L' => (real tab (C n k) n).bsel ((real tab (C n k) n).lt 0 t) ((real tab (C n k) n).lt t ((real tab (C n k) n).add .i64 1 K0)) false)
      (fin := fun L' => next5 ((real tab (C n k) n).add .i64 t 1, (L', ()))) (by omega) hn hN4 hK5 (by omega) (by omega) (by omega) (fun L' h => by rw [r_add, wrap_i64 (by omega) (by omega)]; omega) (cnd_rest hK hK5) ?_
    intro h3
    have e1 : N3 - t.toNat = (N3 - (t + 1).toNat) + 1 := by omega
    rw [e1, El.run] at hrun
    refine q_eq AwakeQ (z := (t + 1, (El.turn 1 L4, ()))) (by simp (maxSteps := 2000000) (discharger := omega) only [r_ite, r_add, r_sub, r_mul, r_quo, r_rem, r_lt, r_le, r_eq, r_bnot, r_or, r_and, r_isel, r_beq, r_band, r_bimp, r_imax, r_imin, r_call, r_gcall, r_bind, Option.bind_some, fits_ok, mfit_ok, wrap_i64, both_self, node_eta, msg_eta, entry_eta, hard_eta, decide_eq_true_eq, Bool.and_eq_true, Bool.or_eq_true, Bool.not_eq_true', decide_eq_false_iff_not, Bool.not_not, eq_self, not_true_eq_false, not_false_eq_true, Bool.false_eq_true, Bool.true_eq_false, Bool.not_false, Bool.not_true, if_true, if_false, true_and, and_true, or_false, false_or, or_true, true_or, and_false, false_and, true_implies, if_pos, if_neg, len_58, get_58, app_58, set_58, cut_58, rep_58, emp_58, len_30, get_30, app_30, set_30, cut_30, rep_30, emp_30, len_27, get_27, app_27, set_27, cut_27, rep_27, emp_27, len_i, get_i, app_i, set_i, cut_i, rep_i, emp_i, len_b, get_b, app_b, set_b, cut_b, rep_b, emp_b]) (ih5 _ ⟨by dsimp only; omega, by dsimp only; omega, h3.le (by dsimp only; omega), hrun⟩ (by dsimp only; omega))
  refine q_no AwakeQ (by simp (maxSteps := 2000000) (discharger := omega) only [r_ite, r_add, r_sub, r_mul, r_quo, r_rem, r_lt, r_le, r_eq, r_bnot, r_or, r_and, r_isel, r_beq, r_band, r_bimp, r_imax, r_imin, r_call, r_gcall, r_bind, Option.bind_some, fits_ok, mfit_ok, wrap_i64, both_self, node_eta, msg_eta, entry_eta, hard_eta, decide_eq_true_eq, Bool.and_eq_true, Bool.or_eq_true, Bool.not_eq_true', decide_eq_false_iff_not, Bool.not_not, eq_self, not_true_eq_false, not_false_eq_true, Bool.false_eq_true, Bool.true_eq_false, Bool.not_false, Bool.not_true, if_true, if_false, true_and, and_true, or_false, false_or, or_true, true_or, and_false, false_and, true_implies, if_pos, if_neg, len_58, get_58, app_58, set_58, cut_58, rep_58, emp_58, len_30, get_30, app_30, set_30, cut_30, rep_30, emp_30, len_27, get_27, app_27, set_27, cut_27, rep_27, emp_27, len_i, get_i, app_i, set_i, cut_i, rep_i, emp_i, len_b, get_b, app_b, set_b, cut_b, rep_b, emp_b] <;> omega) ?_
  have ht25 : N3 - t.toNat = 0 := by omega
  rw [ht25, El.run] at hrun
  rw [← hrun] at hok2
  have hlen4 := hN4.len
  unfold El.ok2 at hok2
  simp only [Bool.and_eq_true, decide_eq_true_eq] at hok2
  obtain ⟨⟨⟨q1, q2⟩, q3⟩, q4⟩ := hok2
  have q2 : (L4.getD 1 dn).commit = 2 + p := by omega
  have q4 : ((L4.getD 2 dn).log.length : Int) = 2 + p := by omega
  have g1 : (1 : Int).toNat = 1 := rfl
  have g2 : (2 : Int).toNat = 2 := rfl
  have e1 : (real tab (C n k) n).get (.st 27) L4 1 = L4.getD 1 dn := rfl
  have e2 : (real tab (C n k) n).get (.st 27) L4 2 = L4.getD 2 dn := rfl
  have e3 : (real tab (C n k) n).add .i64 2 p = 2 + p := by rw [r_add, wrap_i64 (by omega) (by omega)]
  have e4 : (real tab (C n k) n).len (.st 27) L4 = (K : Int) := by show (L4.length : Int) = K; rw [hlen4]
  dsimp only
  simp only [e1, e2, e3, e4]
  generalize L4.getD 1 dn = a1 at *
  generalize L4.getD 2 dn = a2 at *
  refine q_yes AwakeQ (by simp (maxSteps := 2000000) (discharger := omega) only [r_ite, r_add, r_sub, r_mul, r_quo, r_rem, r_lt, r_le, r_eq, r_bnot, r_or, r_and, r_isel, r_beq, r_band, r_bimp, r_imax, r_imin, r_call, r_gcall, r_bind, Option.bind_some, fits_ok, mfit_ok, wrap_i64, both_self, node_eta, msg_eta, entry_eta, hard_eta, decide_eq_true_eq, Bool.and_eq_true, Bool.or_eq_true, Bool.not_eq_true', decide_eq_false_iff_not, Bool.not_not, eq_self, not_true_eq_false, not_false_eq_true, Bool.false_eq_true, Bool.true_eq_false, Bool.not_false, Bool.not_true, if_true, if_false, true_and, and_true, or_false, false_or, or_true, true_or, and_false, false_and, true_implies, if_pos, if_neg, len_58, get_58, app_58, set_58, cut_58, rep_58, emp_58, len_30, get_30, app_30, set_30, cut_30, rep_30, emp_30, len_27, get_27, app_27, set_27, cut_27, rep_27, emp_27, len_i, get_i, app_i, set_i, cut_i, rep_i, emp_i, len_b, get_b, app_b, set_b, cut_b, rep_b, emp_b] <;> omega) ?_
  refine q_yes AwakeQ (by rw [r_bimp]; simp (maxSteps := 2000000) (discharger := omega) only [r_ite, r_add, r_sub, r_mul, r_quo, r_rem, r_lt, r_le, r_eq, r_bnot, r_or, r_and, r_isel, r_beq, r_band, r_bimp, r_imax, r_imin, r_call, r_gcall, r_bind, Option.bind_some, fits_ok, mfit_ok, wrap_i64, both_self, node_eta, msg_eta, entry_eta, hard_eta, decide_eq_true_eq, Bool.and_eq_true, Bool.or_eq_true, Bool.not_eq_true', decide_eq_false_iff_not, Bool.not_not, eq_self, not_true_eq_false, not_false_eq_true, Bool.false_eq_true, Bool.true_eq_false, Bool.not_false, Bool.not_true, if_true, if_false, true_and, and_true, or_false, false_or, or_true, true_or, and_false, false_and, true_implies, if_pos, if_neg, len_58, get_58, app_58, set_58, cut_58, rep_58, emp_58, len_30, get_30, app_30, set_30, cut_30, rep_30, emp_30, len_27, get_27, app_27, set_27, cut_27, rep_27, emp_27, len_i, get_i, app_i, set_i, cut_i, rep_i, emp_i, len_b, get_b, app_b, set_b, cut_b, rep_b, emp_b, ← Bool.decide_and, ← Bool.decide_or, ← decide_not, decide_eq_true, decide_eq_false] <;> (try simp) <;> omega) ?_
  refine q_yes AwakeQ (by rw [r_bimp]; simp (maxSteps := 2000000) (discharger := omega) only [r_ite, r_add, r_sub, r_mul, r_quo, r_rem, r_lt, r_le, r_eq, r_bnot, r_or, r_and, r_isel, r_beq, r_band, r_bimp, r_imax, r_imin, r_call, r_gcall, r_bind, Option.bind_some, fits_ok, mfit_ok, wrap_i64, both_self, node_eta, msg_eta, entry_eta, hard_eta, decide_eq_true_eq, Bool.and_eq_true, Bool.or_eq_true, Bool.not_eq_true', decide_eq_false_iff_not, Bool.not_not, eq_self, not_true_eq_false, not_false_eq_true, Bool.false_eq_true, Bool.true_eq_false, Bool.not_false, Bool.not_true, if_true, if_false, true_and, and_true, or_false, false_or, or_true, true_or, and_false, false_and, true_implies, if_pos, if_neg, len_58, get_58, app_58, set_58, cut_58, rep_58, emp_58, len_30, get_30, app_30, set_30, cut_30, rep_30, emp_30, len_27, get_27, app_27, set_27, cut_27, rep_27, emp_27, len_i, get_i, app_i, set_i, cut_i, rep_i, emp_i, len_b, get_b, app_b, set_b, cut_b, rep_b, emp_b, ← Bool.decide_and, ← Bool.decide_or, ← decide_not, decide_eq_true, decide_eq_false] <;> (try simp) <;> omega) ?_
  refine q_yes AwakeQ (by rw [r_bimp]; simp (maxSteps := 2000000) (discharger := omega) only [r_ite, r_add, r_sub, r_mul, r_quo, r_rem, r_lt, r_le, r_eq, r_bnot, r_or, r_and, r_isel, r_beq, r_band, r_bimp, r_imax, r_imin, r_call, r_gcall, r_bind, Option.bind_some, fits_ok, mfit_ok, wrap_i64, both_self, node_eta, msg_eta, entry_eta, hard_eta, decide_eq_true_eq, Bool.and_eq_true, Bool.or_eq_true, Bool.not_eq_true', decide_eq_false_iff_not, Bool.not_not, eq_self, not_true_eq_false, not_false_eq_true, Bool.false_eq_true, Bool.true_eq_false, Bool.not_false, Bool.not_true, if_true, if_false, true_and, and_true, or_false, false_or, or_true, true_or, and_false, false_and, true_implies, if_pos, if_neg, len_58, get_58, app_58, set_58, cut_58, rep_58, emp_58, len_30, get_30, app_30, set_30, cut_30, rep_30, emp_30, len_27, get_27, app_27, set_27, cut_27, rep_27, emp_27, len_i, get_i, app_i, set_i, cut_i, rep_i, emp_i, len_b, get_b, app_b, set_b, cut_b, rep_b, emp_b, ← Bool.decide_and, ← Bool.decide_or, ← decide_not, decide_eq_true, decide_eq_false] <;> (try simp) <;> omega) ?_
  have hcond : (real tab (C n k) n).bsel ((real tab (C n k) n).bsel ((real tab (C n k) n).bsel ((real tab (C n k) n).eq a1.role 2) ((real tab (C n k) n).eq a1.commit (2 + p)) false) ((real tab (C n k) n).eq a2.lead 1) false) ((real tab (C n k) n).eq ((real tab (C n k) n).len (.st 58) a2.log) (2 + p)) false = true := by
    simp only [r_and, r_eq, len_58]
    rw [q1, q2, q3, q4]
    simp
  refine q_bind AwakeQ (true, ()) ?_ ?_
  · rw [r_gcall, hcond, if_pos rfl]; exact e7
  · show some _ = some _
    rw [hcond]
    rfl

end
end Go.Proofs.Ytinfpahllbhomaa
