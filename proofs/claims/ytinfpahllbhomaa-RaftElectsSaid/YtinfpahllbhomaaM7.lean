/-
  What raft's functions compute, in plain words: one for the program's and the document's own.
  What calls give, so many levels deep; it is what calls of the program give. No condition.
  What the program's small functions of raft give. Conditions: the numbers are not great.
  What raft's functions with loops give. Conditions: the numbers are not great, the rounds enough.
  What raft's functions that send, count and lead give. Conditions: a node that may be, the rounds enough.
  What raft's functions that begin to vote, count and lead give. Conditions: a node that may be, the rounds enough.
  What raft's functions that lead and vote give. Conditions: a node that may be, the rounds enough.
  What raft's functions that are asked for votes and hear of them give. Conditions: a node that may be, the rounds enough.
  What raft's functions that take entries and hear of them give. Conditions: a node and a message that may be, the rounds enough.
  What raft's functions that hear of what was taken, and the test of a message, give. Conditions: a node that may be, the rounds enough.
-/
import Derived.Test.YtinfpahllbhomaaM5
import Derived.Test.YtinfpahllbhomaaM6
set_option linter.unusedVariables false
set_option linter.unusedSimpArgs false

namespace Go.Proofs.Ytinfpahllbhomaa

abbrev eb : ByteArray := ⟨#[]⟩

def last (a : Node) : Int := a.base + a.log.length
def termAt (a : Node) (i : Int) : Int :=
  if i = a.base then a.baseTerm else if a.base < i ∧ i ≤ last a then (a.log.getD (i - a.base - 1).toNat ⟨0, ⟨#[]⟩⟩).term else 0
def termOk (a : Node) (i : Int) : Bool := decide (a.base ≤ i ∧ i ≤ last a)
def behind (a : Node) (i : Int) : List Entry := a.log.drop (i - a.base).toNat
def most (a : Node) : Int := a.nodes / 2 + 1

def putL (L : List Entry) : Nat → List Entry → List Entry
  | _, [] => L
  | p, e :: l => if p < L.length ∧ (L.getD p ⟨0, ⟨#[]⟩⟩).term = e.term then putL L (p + 1) l else L.take p ++ (e :: l)
def putN (a : Node) (i : Int) (l : List Entry) : Node :=
  if i < a.base ∨ last a < i then a else { a with log := putL a.log (i - a.base).toNat l }

def down (a : Node) (t : Int) : Node :=
  if a.term < t then { a with term := t, vote := -1, role := 0, lead := -1, votes := List.replicate a.nodes.toNat false } else a

/-- A message to each other one. -/
def oth (f : Int → Msg) (id : Int) : Nat → Int → List Msg
  | 0, _ => []
  | m + 1, i => if i = id then oth f id m (i + 1) else f i :: oth f id m (i + 1)

def start (a : Node) : Node :=
  { a with term := a.term + 1, vote := a.id, role := 1, lead := -1, votes := (List.replicate a.nodes.toNat false).set a.id.toNat true, clock := 0 }
def startMsgs (a : Node) : List Msg := oth (fun i => ⟨1, a.id, i, a.term + 1, last a, termAt a (last a), false, 0, [], ⟨#[]⟩⟩) a.id a.nodes.toNat 0

def fresh (a : Node) (m : Msg) : Bool := decide (termAt a (last a) < m.at ∨ (m.at = termAt a (last a) ∧ last a ≤ m.index))
def grants (a : Node) (m : Msg) : Bool := decide (m.term = a.term ∧ (a.vote = -1 ∨ a.vote = m.from)) && fresh a m
def asked (a : Node) (m : Msg) : Node :=
  let b := down a m.term
  if grants b m then { b with vote := m.from, clock := 0 } else b
def askedMsgs (a : Node) (m : Msg) : List Msg :=
  let b := down a m.term
  [⟨2, b.id, m.from, b.term, 0, 0, grants b m, 0, [], ⟨#[]⟩⟩]

def cntB : List Bool → Int
  | [] => 0
  | b :: l => (if b then 1 else 0) + cntB l
def cntI (i : Int) : List Int → Int
  | [] => 0
  | x :: l => (if i ≤ x then 1 else 0) + cntI i l

def hears (b : Node) (m : Msg) : Bool := m.yes && decide (m.term = b.term ∧ b.role = 1)
def given (a : Node) (m : Msg) : Node :=
  let b := down a m.term
  if hears b m then { b with votes := b.votes.set m.from.toNat true } else b
def won (a : Node) (m : Msg) : Bool :=
  let b := down a m.term
  hears b m && decide (most b ≤ cntB (b.votes.set m.from.toNat true))

def send (a : Node) (to : Int) : Msg :=
  let i := a.next.getD to.toNat 0 - 1
  if i < a.base then ⟨5, a.id, to, a.term, a.base, a.baseTerm, false, 0, [], a.snap⟩
  else ⟨3, a.id, to, a.term, i, termAt a i, false, a.commit, (behind a i).take 20, ⟨#[]⟩⟩
def sends (a : Node) : List Msg := oth (send a) a.id a.nodes.toNat 0

def adv (a : Node) : Nat → Int → Int
  | 0, _ => a.commit
  | m + 1, i => if termAt a i = a.term ∧ most a ≤ cntI i a.match then i else adv a m (i - 1)
def advance (a : Node) : Node := if a.role = 2 then { a with commit := adv a (last a - a.commit).toNat (last a) } else a

def more (a : Node) (cmd : ByteArray) : Node :=
  advance { a with log := a.log ++ [⟨a.term, cmd⟩], «match» := a.match.set a.id.toNat (last a + 1) }
def lead (a : Node) : Node :=
  more { a with role := 2, lead := a.id, next := List.replicate a.nodes.toNat (last a + 1), «match» := List.replicate a.nodes.toNat 0, clock := 0 } ⟨#[]⟩

def taken (a : Node) (m : Msg) (yes : Bool) (i : Int) : List Msg := [⟨4, a.id, m.from, a.term, i, 0, yes, 0, [], ⟨#[]⟩⟩]

def installN (a : Node) (m : Msg) : Node :=
  if m.index ≤ a.commit then a
  else { a with base := m.index, baseTerm := m.at, snap := m.snap, log := if termOk a m.index && decide (termAt a m.index = m.at) then behind a m.index else [], commit := m.index }
def installMsgs (a : Node) (m : Msg) : List Msg := taken a m true (if m.index ≤ a.commit then a.commit else m.index)

/-- What a node does that takes what a leader sends. -/
def takeC (c : Node) (m : Msg) : Node × List Msg :=
  if m.kind = 5 then (installN c m, installMsgs c m)
  else if m.index < c.base then (c, taken c m true c.base)
  else if termOk c m.index && decide (termAt c m.index = m.at) then
    let d := putN c m.index m.entries
    ({ d with commit := max d.commit (min m.commit (m.index + m.entries.length)) }, taken d m true (m.index + m.entries.length))
  else (c, taken c m false (max 0 (min (last c) (m.index - 1))))

def take (a : Node) (m : Msg) : Node × List Msg :=
  let b := down a m.term
  if m.term < b.term then (b, taken b m false (last b)) else takeC { b with role := 0, lead := m.from, clock := 0 } m

def heard (a : Node) (m : Msg) : Node × List Msg :=
  let b := down a m.term
  if b.role = 2 ∧ m.term = b.term then
    let p := b.match.getD m.from.toNat 0
    let x := b.next.getD m.from.toNat 0
    if m.yes then
      let q := min (max p m.index) (last b)
      let c := advance { b with next := b.next.set m.from.toNat (q + 1), «match» := b.match.set m.from.toNat q }
      (c, if q + 1 ≤ last b then [send c m.from] else [])
    else
      let c : Node := { b with next := b.next.set m.from.toNat (max (max 1 (p + 1)) (min (x - 1) (m.index + 1))) }
      (c, [send c m.from])
  else (b, [])

def rightTerms (t : Int) : List Entry → Bool
  | [] => true
  | e :: l => decide (0 ≤ e.term ∧ e.term ≤ t) && rightTerms t l
def right (m : Msg) (nodes : Int) : Bool :=
  decide (1 ≤ m.kind ∧ m.kind ≤ 5 ∧ m.from ≠ m.to ∧ 0 ≤ m.from ∧ 0 ≤ m.to ∧ m.from < nodes ∧ m.to < nodes ∧ 1 ≤ m.term ∧ m.term ≤ 2^40 ∧ 0 ≤ m.index ∧ m.index ≤ 2^40 ∧
    0 ≤ m.at ∧ m.at ≤ 2^40 ∧ 0 ≤ m.commit ∧ m.commit ≤ 2^40 ∧ m.entries.length ≤ 20) && rightTerms m.term m.entries

def step (a : Node) (m : Msg) : Node × List Msg :=
  if right m a.nodes && decide (m.to = a.id) then
    if m.kind = 1 then (asked a m, askedMsgs a m)
    else if m.kind = 2 then
      if won a m then (lead (given a m), sends (lead (given a m))) else (given a m, [])
    else if m.kind = 4 then heard a m
    else take a m
  else (a, [])

def tick (a : Node) : Node × List Msg :=
  if a.role = 2 then
    if a.clock + 1 < 3 then ({ a with clock := a.clock + 1 }, []) else ({ a with clock := 0 }, sends { a with clock := 0 })
  else if a.clock + 1 < 10 + 5 * a.id then ({ a with clock := a.clock + 1 }, [])
  else
    let b := start a
    if most b = 1 then (lead b, startMsgs a ++ sends (lead b)) else (b, startMsgs a)

def propose (a : Node) (cmd : ByteArray) : Node × List Msg × Int :=
  if a.role = 2 then
    if 200 ≤ a.log.length then (a, [], 7) else (more a cmd, sends (more a cmd), 0)
  else (a, [], 13)

/-- A node that may be, its numbers up to B. -/
structure NI (B : Int) (a : Node) : Prop where
  n1 : 1 ≤ a.nodes
  n5 : a.nodes ≤ 5
  i0 : 0 ≤ a.id
  i1 : a.id < a.nodes
  lv : (a.votes.length : Int) = a.nodes
  lx : (a.next.length : Int) = a.nodes
  lm : (a.match.length : Int) = a.nodes
  t0 : 0 ≤ a.term
  t1 : a.term ≤ B
  b0 : 0 ≤ a.base
  b1 : a.base ≤ B
  c0 : a.base ≤ a.commit
  c1 : a.commit ≤ B
  k0 : 0 ≤ a.clock
  k1 : a.clock ≤ B
  ll : (a.log.length : Int) ≤ B
  la : a.base + a.log.length ≤ B
  nx : ∀ x ∈ a.next, 0 ≤ x ∧ x ≤ B
  mx : ∀ x ∈ a.match, 0 ≤ x ∧ x ≤ B

end Go.Proofs.Ytinfpahllbhomaa

namespace Go.Proofs.Ytinfpahllbhomaa
open Go.Ab
noncomputable section

def C (n : Nat) : Nat → Go.Ab.Callee U
  | 0 => fun _ _ _ => none
  | k + 1 => fun f xs rc => Go.Ab.pure (env (real tab (C n k) n)) 5 f xs rc

theorem C_succ (n k : Nat) (f : FuncId) (xs : List (Σ c, den U c)) (rc : List Cd) : C n (k + 1) f xs rc = Go.Ab.pure (env (real tab (C n k) n)) 5 f xs rc := rfl

theorem good (n k : Nat) (f : FuncId) (xs : List (Σ c, den U c)) (rc : List Cd) (r : HL U rc) (h : C n k f xs rc = some r) : PureCall Try.prog tab ann f xs rc r := by
  induction k generalizing f xs rc r with
  | zero => cases h
  | succ k ih => exact call_of ih h

theorem node_eta (a : Node) : (⟨a.id, a.nodes, a.term, a.vote, a.base, a.baseTerm, a.snap, a.log, a.role, a.lead, a.commit, a.votes, a.next, a.match, a.clock⟩ : Node) = a := rfl
theorem msg_eta (a : Msg) : (⟨a.kind, a.from, a.to, a.term, a.index, a.at, a.yes, a.commit, a.entries, a.snap⟩ : Msg) = a := rfl
theorem entry_eta (a : Entry) : (⟨a.term, a.cmd⟩ : Entry) = a := rfl
theorem hard_eta (a : Hard) : (⟨a.term, a.vote, a.base, a.baseTerm, a.snap, a.log⟩ : Hard) = a := rfl
theorem z_int (k : IntKind) : zero tab (.int k) = (0 : Int) := rfl
theorem z_bool : zero tab .bool = false := rfl
theorem z_st (t : Nat) : zero tab (.st t) = dfltU t := rfl
theorem z_58 : dfltU 58 = (⟨0, ⟨#[]⟩⟩ : Entry) := rfl
theorem fits_ok {k : Nat} {a b : Int} {T : Tab U} {D : Go.Ab.Callee U} {n : Nat} (h : (a + b) * k ≤ 2 ^ 47 ∧ a + b ≤ 2 ^ 62) : (real T D n).fits k a b = true := by rw [r_fits]; exact decide_eq_true h
theorem mfit_ok {k : Nat} {a : Int} {T : Tab U} {D : Go.Ab.Callee U} {n : Nat} (h : 0 ≤ a ∧ a * k ≤ 2 ^ 47 ∧ a ≤ 2 ^ 62) : (real T D n).mfit k a = true := by rw [r_mfit]; exact decide_eq_true h

section
variable {T : Tab U} {D : Go.Ab.Callee U} {n : Nat}
theorem len_58 (L : List Entry) : (real T D n).len (.st 58) L = (L.length : Int) := rfl
theorem get_58 (L : List Entry) (i : Int) : (real tab D n).get (.st 58) L i = L.getD i.toNat (⟨0, ⟨#[]⟩⟩ : Entry) := rfl
theorem app_58 (a b : List Entry) : (real T D n).app (.st 58) a b = (a ++ b : List Entry) := rfl
theorem set_58 (L : List Entry) (i : Int) (x : Entry) : (real T D n).set (.st 58) L i x = (L.set i.toNat x : List Entry) := rfl
theorem cut_58 (L : List Entry) (l h : Int) : (real T D n).cut (.st 58) L l h = ((L.take h.toNat).drop l.toNat : List Entry) := rfl
theorem rep_58 (m : Int) (x : Entry) : (real T D n).rep (.st 58) m x = (List.replicate m.toNat x : List Entry) := rfl
theorem emp_58 (L : List Entry) : (real T D n).emp (.st 58) L = L.isEmpty := rfl
theorem len_30 (L : List Msg) : (real T D n).len (.st 30) L = (L.length : Int) := rfl
theorem get_30 (L : List Msg) (i : Int) : (real tab D n).get (.st 30) L i = L.getD i.toNat (⟨0, 0, 0, 0, 0, 0, false, 0, [], ⟨#[]⟩⟩ : Msg) := rfl
theorem app_30 (a b : List Msg) : (real T D n).app (.st 30) a b = (a ++ b : List Msg) := rfl
theorem set_30 (L : List Msg) (i : Int) (x : Msg) : (real T D n).set (.st 30) L i x = (L.set i.toNat x : List Msg) := rfl
theorem cut_30 (L : List Msg) (l h : Int) : (real T D n).cut (.st 30) L l h = ((L.take h.toNat).drop l.toNat : List Msg) := rfl
theorem rep_30 (m : Int) (x : Msg) : (real T D n).rep (.st 30) m x = (List.replicate m.toNat x : List Msg) := rfl
theorem emp_30 (L : List Msg) : (real T D n).emp (.st 30) L = L.isEmpty := rfl
theorem len_27 (L : List Node) : (real T D n).len (.st 27) L = (L.length : Int) := rfl
theorem get_27 (L : List Node) (i : Int) : (real tab D n).get (.st 27) L i = L.getD i.toNat (⟨0, 0, 0, 0, 0, 0, ⟨#[]⟩, [], 0, 0, 0, [], [], [], 0⟩ : Node) := rfl
theorem app_27 (a b : List Node) : (real T D n).app (.st 27) a b = (a ++ b : List Node) := rfl
theorem set_27 (L : List Node) (i : Int) (x : Node) : (real T D n).set (.st 27) L i x = (L.set i.toNat x : List Node) := rfl
theorem cut_27 (L : List Node) (l h : Int) : (real T D n).cut (.st 27) L l h = ((L.take h.toNat).drop l.toNat : List Node) := rfl
theorem rep_27 (m : Int) (x : Node) : (real T D n).rep (.st 27) m x = (List.replicate m.toNat x : List Node) := rfl
theorem emp_27 (L : List Node) : (real T D n).emp (.st 27) L = L.isEmpty := rfl
theorem len_i (L : List Int) : (real T D n).len (.int .i64) L = (L.length : Int) := rfl
theorem get_i (L : List Int) (i : Int) : (real tab D n).get (.int .i64) L i = L.getD i.toNat (0 : Int) := rfl
theorem app_i (a b : List Int) : (real T D n).app (.int .i64) a b = (a ++ b : List Int) := rfl
theorem set_i (L : List Int) (i : Int) (x : Int) : (real T D n).set (.int .i64) L i x = (L.set i.toNat x : List Int) := rfl
theorem cut_i (L : List Int) (l h : Int) : (real T D n).cut (.int .i64) L l h = ((L.take h.toNat).drop l.toNat : List Int) := rfl
theorem rep_i (m : Int) (x : Int) : (real T D n).rep (.int .i64) m x = (List.replicate m.toNat x : List Int) := rfl
theorem emp_i (L : List Int) : (real T D n).emp (.int .i64) L = L.isEmpty := rfl
theorem len_b (L : List Bool) : (real T D n).len .bool L = (L.length : Int) := rfl
theorem get_b (L : List Bool) (i : Int) : (real tab D n).get .bool L i = L.getD i.toNat false := rfl
theorem app_b (a b : List Bool) : (real T D n).app .bool a b = (a ++ b : List Bool) := rfl
theorem set_b (L : List Bool) (i : Int) (x : Bool) : (real T D n).set .bool L i x = (L.set i.toNat x : List Bool) := rfl
theorem cut_b (L : List Bool) (l h : Int) : (real T D n).cut .bool L l h = ((L.take h.toNat).drop l.toNat : List Bool) := rfl
theorem rep_b (m : Int) (x : Bool) : (real T D n).rep .bool m x = (List.replicate m.toNat x : List Bool) := rfl
theorem emp_b (L : List Bool) : (real T D n).emp .bool L = L.isEmpty := rfl
theorem both_self {R : Type} (x : Option R) : (real T D n).both x x = x := by simp [real]
theorem rem_0 (a b : Int) : (real T D n).rem .i64 a b = a.tmod b := rfl
end
end
end Go.Proofs.Ytinfpahllbhomaa

namespace Go.Proofs.Ytinfpahllbhomaa
open Go.Ab
set_option linter.unusedSimpArgs false
set_option linter.unusedVariables false
noncomputable section
variable {n k : Nat} {B : Int} {a : Node}

theorem s_50 (hk : 1 ≤ k) (h1 : -2^61 ≤ a.base) (h2 : a.base ≤ 2^61) (h3 : (a.log.length : Int) ≤ 2^42) : C n k 50 [⟨.st 27, a⟩] [.int .i64] = some (last a, ()) := by
  obtain ⟨k, rfl⟩ : ∃ k1, k = k1 + 1 := ⟨k - 1, by omega⟩
  rw [C_succ, nf_50]
  simp (discharger := omega) only [r_ite, r_add, r_sub, r_mul, r_quo, r_rem, r_lt, r_le, r_eq, r_bnot, r_or, r_and, r_isel, r_beq, r_band, r_bimp, r_imax, r_imin, r_call, r_gcall, r_bind, Option.bind_some, fits_ok, mfit_ok, wrap_i64, both_self, node_eta, msg_eta, entry_eta, hard_eta, decide_eq_true_eq, Bool.and_eq_true, Bool.or_eq_true, Bool.not_eq_true', decide_eq_false_iff_not, Bool.not_not, not_true_eq_false, not_false_eq_true, Bool.false_eq_true, Bool.not_false, Bool.not_true, if_true, if_false, true_and, and_true, or_false, false_or, or_true, true_or, and_false, false_and, true_implies, if_pos, if_neg, len_58, get_58, app_58, set_58, cut_58, rep_58, emp_58, len_30, get_30, app_30, set_30, cut_30, rep_30, emp_30, len_27, get_27, app_27, set_27, cut_27, rep_27, emp_27, len_i, get_i, app_i, set_i, cut_i, rep_i, emp_i, len_b, get_b, app_b, set_b, cut_b, rep_b, emp_b]
  rfl

theorem s_28 (hk : 1 ≤ k) (h1 : -2^61 ≤ a.base) (h2 : a.base ≤ 2^61) (h3 : (a.log.length : Int) ≤ 2^42) : C n k 28 [⟨.st 27, a⟩] [.int .i64] = some (last a, ()) := by
  obtain ⟨k, rfl⟩ : ∃ k1, k = k1 + 1 := ⟨k - 1, by omega⟩
  rw [C_succ, nf_28]
  simp (discharger := omega) only [r_ite, r_add, r_sub, r_mul, r_quo, r_rem, r_lt, r_le, r_eq, r_bnot, r_or, r_and, r_isel, r_beq, r_band, r_bimp, r_imax, r_imin, r_call, r_gcall, r_bind, Option.bind_some, fits_ok, mfit_ok, wrap_i64, both_self, node_eta, msg_eta, entry_eta, hard_eta, decide_eq_true_eq, Bool.and_eq_true, Bool.or_eq_true, Bool.not_eq_true', decide_eq_false_iff_not, Bool.not_not, not_true_eq_false, not_false_eq_true, Bool.false_eq_true, Bool.not_false, Bool.not_true, if_true, if_false, true_and, and_true, or_false, false_or, or_true, true_or, and_false, false_and, true_implies, if_pos, if_neg, len_58, get_58, app_58, set_58, cut_58, rep_58, emp_58, len_30, get_30, app_30, set_30, cut_30, rep_30, emp_30, len_27, get_27, app_27, set_27, cut_27, rep_27, emp_27, len_i, get_i, app_i, set_i, cut_i, rep_i, emp_i, len_b, get_b, app_b, set_b, cut_b, rep_b, emp_b]
  rfl

theorem s_65 (hk : 2 ≤ k) {i : Int} (h1 : 0 ≤ a.base) (h2 : a.base ≤ 2^60) (h3 : (a.log.length : Int) ≤ 2^42) (h4 : -2^60 ≤ i) (h5 : i ≤ 2^60) :
    C n k 65 [⟨.st 27, a⟩, ⟨.int .i64, i⟩] [.int .i64, .bool] = some (termAt a i, (termOk a i, ())) := by
  obtain ⟨k, rfl⟩ : ∃ k1, k = k1 + 1 := ⟨k - 1, by omega⟩
  rw [C_succ, nf_65]
  have e50 := s_50 (n := n) (k := k) (a := a) (by omega) (by omega) (by omega) (by omega)
  have hl : last a = a.base + a.log.length := rfl
  unfold termAt termOk
  by_cases q1 : i = a.base
  · have q2 : a.base ≤ i ∧ i ≤ last a := by omega
    simp (discharger := omega) only [r_ite, r_add, r_sub, r_mul, r_quo, r_rem, r_lt, r_le, r_eq, r_bnot, r_or, r_and, r_isel, r_beq, r_band, r_bimp, r_imax, r_imin, r_call, r_gcall, r_bind, Option.bind_some, fits_ok, mfit_ok, wrap_i64, both_self, node_eta, msg_eta, entry_eta, hard_eta, decide_eq_true_eq, Bool.and_eq_true, Bool.or_eq_true, Bool.not_eq_true', decide_eq_false_iff_not, Bool.not_not, not_true_eq_false, not_false_eq_true, Bool.false_eq_true, Bool.not_false, Bool.not_true, if_true, if_false, true_and, and_true, or_false, false_or, or_true, true_or, and_false, false_and, true_implies, if_pos, if_neg, len_58, get_58, app_58, set_58, cut_58, rep_58, emp_58, len_30, get_30, app_30, set_30, cut_30, rep_30, emp_30, len_27, get_27, app_27, set_27, cut_27, rep_27, emp_27, len_i, get_i, app_i, set_i, cut_i, rep_i, emp_i, len_b, get_b, app_b, set_b, cut_b, rep_b, emp_b, e50, decide_eq_true q2]
  by_cases q2 : i < a.base
  · have q3 : ¬ (a.base ≤ i ∧ i ≤ last a) := by omega
    simp (discharger := omega) only [r_ite, r_add, r_sub, r_mul, r_quo, r_rem, r_lt, r_le, r_eq, r_bnot, r_or, r_and, r_isel, r_beq, r_band, r_bimp, r_imax, r_imin, r_call, r_gcall, r_bind, Option.bind_some, fits_ok, mfit_ok, wrap_i64, both_self, node_eta, msg_eta, entry_eta, hard_eta, decide_eq_true_eq, Bool.and_eq_true, Bool.or_eq_true, Bool.not_eq_true', decide_eq_false_iff_not, Bool.not_not, not_true_eq_false, not_false_eq_true, Bool.false_eq_true, Bool.not_false, Bool.not_true, if_true, if_false, true_and, and_true, or_false, false_or, or_true, true_or, and_false, false_and, true_implies, if_pos, if_neg, len_58, get_58, app_58, set_58, cut_58, rep_58, emp_58, len_30, get_30, app_30, set_30, cut_30, rep_30, emp_30, len_27, get_27, app_27, set_27, cut_27, rep_27, emp_27, len_i, get_i, app_i, set_i, cut_i, rep_i, emp_i, len_b, get_b, app_b, set_b, cut_b, rep_b, emp_b, e50, decide_eq_false q3]
  by_cases q3 : i ≤ last a
  · have q4 : a.base ≤ i ∧ i ≤ last a := by omega
    simp (discharger := omega) only [r_ite, r_add, r_sub, r_mul, r_quo, r_rem, r_lt, r_le, r_eq, r_bnot, r_or, r_and, r_isel, r_beq, r_band, r_bimp, r_imax, r_imin, r_call, r_gcall, r_bind, Option.bind_some, fits_ok, mfit_ok, wrap_i64, both_self, node_eta, msg_eta, entry_eta, hard_eta, decide_eq_true_eq, Bool.and_eq_true, Bool.or_eq_true, Bool.not_eq_true', decide_eq_false_iff_not, Bool.not_not, not_true_eq_false, not_false_eq_true, Bool.false_eq_true, Bool.not_false, Bool.not_true, if_true, if_false, true_and, and_true, or_false, false_or, or_true, true_or, and_false, false_and, true_implies, if_pos, if_neg, len_58, get_58, app_58, set_58, cut_58, rep_58, emp_58, len_30, get_30, app_30, set_30, cut_30, rep_30, emp_30, len_27, get_27, app_27, set_27, cut_27, rep_27, emp_27, len_i, get_i, app_i, set_i, cut_i, rep_i, emp_i, len_b, get_b, app_b, set_b, cut_b, rep_b, emp_b, e50, decide_eq_true q4]
  · have q4 : ¬ (a.base ≤ i ∧ i ≤ last a) := by omega
    simp (discharger := omega) only [r_ite, r_add, r_sub, r_mul, r_quo, r_rem, r_lt, r_le, r_eq, r_bnot, r_or, r_and, r_isel, r_beq, r_band, r_bimp, r_imax, r_imin, r_call, r_gcall, r_bind, Option.bind_some, fits_ok, mfit_ok, wrap_i64, both_self, node_eta, msg_eta, entry_eta, hard_eta, decide_eq_true_eq, Bool.and_eq_true, Bool.or_eq_true, Bool.not_eq_true', decide_eq_false_iff_not, Bool.not_not, not_true_eq_false, not_false_eq_true, Bool.false_eq_true, Bool.not_false, Bool.not_true, if_true, if_false, true_and, and_true, or_false, false_or, or_true, true_or, and_false, false_and, true_implies, if_pos, if_neg, len_58, get_58, app_58, set_58, cut_58, rep_58, emp_58, len_30, get_30, app_30, set_30, cut_30, rep_30, emp_30, len_27, get_27, app_27, set_27, cut_27, rep_27, emp_27, len_i, get_i, app_i, set_i, cut_i, rep_i, emp_i, len_b, get_b, app_b, set_b, cut_b, rep_b, emp_b, e50, decide_eq_false q4]

theorem s_30 (hk : 2 ≤ k) {i : Int} (h1 : 0 ≤ a.base) (h2 : a.base ≤ 2^60) (h3 : (a.log.length : Int) ≤ 2^42) (h4 : -2^60 ≤ i) (h5 : i ≤ 2^60) :
    C n k 30 [⟨.st 27, a⟩, ⟨.int .i64, i⟩] [.int .i64, .bool] = some (termAt a i, (termOk a i, ())) := by
  obtain ⟨k, rfl⟩ : ∃ k1, k = k1 + 1 := ⟨k - 1, by omega⟩
  rw [C_succ, nf_30]
  have e50 := s_28 (n := n) (k := k) (a := a) (by omega) (by omega) (by omega) (by omega)
  have hl : last a = a.base + a.log.length := rfl
  unfold termAt termOk
  by_cases q1 : i = a.base
  · have q2 : a.base ≤ i ∧ i ≤ last a := by omega
    simp (discharger := omega) only [r_ite, r_add, r_sub, r_mul, r_quo, r_rem, r_lt, r_le, r_eq, r_bnot, r_or, r_and, r_isel, r_beq, r_band, r_bimp, r_imax, r_imin, r_call, r_gcall, r_bind, Option.bind_some, fits_ok, mfit_ok, wrap_i64, both_self, node_eta, msg_eta, entry_eta, hard_eta, decide_eq_true_eq, Bool.and_eq_true, Bool.or_eq_true, Bool.not_eq_true', decide_eq_false_iff_not, Bool.not_not, not_true_eq_false, not_false_eq_true, Bool.false_eq_true, Bool.not_false, Bool.not_true, if_true, if_false, true_and, and_true, or_false, false_or, or_true, true_or, and_false, false_and, true_implies, if_pos, if_neg, len_58, get_58, app_58, set_58, cut_58, rep_58, emp_58, len_30, get_30, app_30, set_30, cut_30, rep_30, emp_30, len_27, get_27, app_27, set_27, cut_27, rep_27, emp_27, len_i, get_i, app_i, set_i, cut_i, rep_i, emp_i, len_b, get_b, app_b, set_b, cut_b, rep_b, emp_b, e50, decide_eq_true q2]
  by_cases q2 : i < a.base
  · have q3 : ¬ (a.base ≤ i ∧ i ≤ last a) := by omega
    simp (discharger := omega) only [r_ite, r_add, r_sub, r_mul, r_quo, r_rem, r_lt, r_le, r_eq, r_bnot, r_or, r_and, r_isel, r_beq, r_band, r_bimp, r_imax, r_imin, r_call, r_gcall, r_bind, Option.bind_some, fits_ok, mfit_ok, wrap_i64, both_self, node_eta, msg_eta, entry_eta, hard_eta, decide_eq_true_eq, Bool.and_eq_true, Bool.or_eq_true, Bool.not_eq_true', decide_eq_false_iff_not, Bool.not_not, not_true_eq_false, not_false_eq_true, Bool.false_eq_true, Bool.not_false, Bool.not_true, if_true, if_false, true_and, and_true, or_false, false_or, or_true, true_or, and_false, false_and, true_implies, if_pos, if_neg, len_58, get_58, app_58, set_58, cut_58, rep_58, emp_58, len_30, get_30, app_30, set_30, cut_30, rep_30, emp_30, len_27, get_27, app_27, set_27, cut_27, rep_27, emp_27, len_i, get_i, app_i, set_i, cut_i, rep_i, emp_i, len_b, get_b, app_b, set_b, cut_b, rep_b, emp_b, e50, decide_eq_false q3]
  by_cases q3 : i ≤ last a
  · have q4 : a.base ≤ i ∧ i ≤ last a := by omega
    simp (discharger := omega) only [r_ite, r_add, r_sub, r_mul, r_quo, r_rem, r_lt, r_le, r_eq, r_bnot, r_or, r_and, r_isel, r_beq, r_band, r_bimp, r_imax, r_imin, r_call, r_gcall, r_bind, Option.bind_some, fits_ok, mfit_ok, wrap_i64, both_self, node_eta, msg_eta, entry_eta, hard_eta, decide_eq_true_eq, Bool.and_eq_true, Bool.or_eq_true, Bool.not_eq_true', decide_eq_false_iff_not, Bool.not_not, not_true_eq_false, not_false_eq_true, Bool.false_eq_true, Bool.not_false, Bool.not_true, if_true, if_false, true_and, and_true, or_false, false_or, or_true, true_or, and_false, false_and, true_implies, if_pos, if_neg, len_58, get_58, app_58, set_58, cut_58, rep_58, emp_58, len_30, get_30, app_30, set_30, cut_30, rep_30, emp_30, len_27, get_27, app_27, set_27, cut_27, rep_27, emp_27, len_i, get_i, app_i, set_i, cut_i, rep_i, emp_i, len_b, get_b, app_b, set_b, cut_b, rep_b, emp_b, e50, decide_eq_true q4]
  · have q4 : ¬ (a.base ≤ i ∧ i ≤ last a) := by omega
    simp (discharger := omega) only [r_ite, r_add, r_sub, r_mul, r_quo, r_rem, r_lt, r_le, r_eq, r_bnot, r_or, r_and, r_isel, r_beq, r_band, r_bimp, r_imax, r_imin, r_call, r_gcall, r_bind, Option.bind_some, fits_ok, mfit_ok, wrap_i64, both_self, node_eta, msg_eta, entry_eta, hard_eta, decide_eq_true_eq, Bool.and_eq_true, Bool.or_eq_true, Bool.not_eq_true', decide_eq_false_iff_not, Bool.not_not, not_true_eq_false, not_false_eq_true, Bool.false_eq_true, Bool.not_false, Bool.not_true, if_true, if_false, true_and, and_true, or_false, false_or, or_true, true_or, and_false, false_and, true_implies, if_pos, if_neg, len_58, get_58, app_58, set_58, cut_58, rep_58, emp_58, len_30, get_30, app_30, set_30, cut_30, rep_30, emp_30, len_27, get_27, app_27, set_27, cut_27, rep_27, emp_27, len_i, get_i, app_i, set_i, cut_i, rep_i, emp_i, len_b, get_b, app_b, set_b, cut_b, rep_b, emp_b, e50, decide_eq_false q4]

theorem s_57 (hk : 1 ≤ k) {v x y : Int} : C n k 57 [⟨.int .i64, v⟩, ⟨.int .i64, x⟩, ⟨.int .i64, y⟩] [.bool] = some (decide (x ≤ v ∧ v ≤ y), ()) := by
  obtain ⟨k, rfl⟩ : ∃ k1, k = k1 + 1 := ⟨k - 1, by omega⟩
  rw [C_succ, nf_57]
  simp only [r_and, r_le, Bool.decide_and]

theorem s_59 (hk : 1 ≤ k) {v : Int} : C n k 59 [⟨.int .i64, v⟩] [.bool] = some (decide (0 ≤ v ∧ v ≤ 1099511627776), ()) := by
  obtain ⟨k, rfl⟩ : ∃ k1, k = k1 + 1 := ⟨k - 1, by omega⟩
  rw [C_succ, nf_59]
  simp only [r_and, r_le, Bool.decide_and]

theorem most_eq (h : 1 ≤ a.nodes) : a.nodes.tdiv 2 = a.nodes / 2 := by
  rw [Int.tdiv_eq_ediv_of_nonneg (by omega)]

theorem s_34 (hk : 1 ≤ k) (h1 : 1 ≤ a.nodes) (h5 : a.nodes ≤ 5) : C n k 34 [⟨.st 27, a⟩] [.int .i64] = some (most a, ()) := by
  obtain ⟨k, rfl⟩ : ∃ k1, k = k1 + 1 := ⟨k - 1, by omega⟩
  rw [C_succ, nf_34]
  have e := most_eq h1
  simp (discharger := omega) only [r_ite, r_add, r_sub, r_mul, r_quo, r_rem, r_lt, r_le, r_eq, r_bnot, r_or, r_and, r_isel, r_beq, r_band, r_bimp, r_imax, r_imin, r_call, r_gcall, r_bind, Option.bind_some, fits_ok, mfit_ok, wrap_i64, both_self, node_eta, msg_eta, entry_eta, hard_eta, decide_eq_true_eq, Bool.and_eq_true, Bool.or_eq_true, Bool.not_eq_true', decide_eq_false_iff_not, Bool.not_not, not_true_eq_false, not_false_eq_true, Bool.false_eq_true, Bool.not_false, Bool.not_true, if_true, if_false, true_and, and_true, or_false, false_or, or_true, true_or, and_false, false_and, true_implies, if_pos, if_neg, len_58, get_58, app_58, set_58, cut_58, rep_58, emp_58, len_30, get_30, app_30, set_30, cut_30, rep_30, emp_30, len_27, get_27, app_27, set_27, cut_27, rep_27, emp_27, len_i, get_i, app_i, set_i, cut_i, rep_i, emp_i, len_b, get_b, app_b, set_b, cut_b, rep_b, emp_b, e]
  rfl

theorem s_38 (hk : 1 ≤ k) (h1 : 1 ≤ a.nodes) (h5 : a.nodes ≤ 5) : C n k 38 [⟨.st 27, a⟩] [.int .i64] = some (most a, ()) := by
  obtain ⟨k, rfl⟩ : ∃ k1, k = k1 + 1 := ⟨k - 1, by omega⟩
  rw [C_succ, nf_38]
  have e := most_eq h1
  simp (discharger := omega) only [r_ite, r_add, r_sub, r_mul, r_quo, r_rem, r_lt, r_le, r_eq, r_bnot, r_or, r_and, r_isel, r_beq, r_band, r_bimp, r_imax, r_imin, r_call, r_gcall, r_bind, Option.bind_some, fits_ok, mfit_ok, wrap_i64, both_self, node_eta, msg_eta, entry_eta, hard_eta, decide_eq_true_eq, Bool.and_eq_true, Bool.or_eq_true, Bool.not_eq_true', decide_eq_false_iff_not, Bool.not_not, not_true_eq_false, not_false_eq_true, Bool.false_eq_true, Bool.not_false, Bool.not_true, if_true, if_false, true_and, and_true, or_false, false_or, or_true, true_or, and_false, false_and, true_implies, if_pos, if_neg, len_58, get_58, app_58, set_58, cut_58, rep_58, emp_58, len_30, get_30, app_30, set_30, cut_30, rep_30, emp_30, len_27, get_27, app_27, set_27, cut_27, rep_27, emp_27, len_i, get_i, app_i, set_i, cut_i, rep_i, emp_i, len_b, get_b, app_b, set_b, cut_b, rep_b, emp_b, e]
  rfl

theorem s_66 (hk : 1 ≤ k) (h1 : 1 ≤ a.nodes) (h5 : a.nodes ≤ 5) : C n k 66 [⟨.st 27, a⟩] [.int .i64] = some (a.nodes, ()) := by
  obtain ⟨k, rfl⟩ : ∃ k1, k = k1 + 1 := ⟨k - 1, by omega⟩
  rw [C_succ, nf_66]
  have e : max 0 (min a.nodes 5) = a.nodes := by omega
  simp (discharger := omega) only [r_ite, r_add, r_sub, r_mul, r_quo, r_rem, r_lt, r_le, r_eq, r_bnot, r_or, r_and, r_isel, r_beq, r_band, r_bimp, r_imax, r_imin, r_call, r_gcall, r_bind, Option.bind_some, fits_ok, mfit_ok, wrap_i64, both_self, node_eta, msg_eta, entry_eta, hard_eta, decide_eq_true_eq, Bool.and_eq_true, Bool.or_eq_true, Bool.not_eq_true', decide_eq_false_iff_not, Bool.not_not, not_true_eq_false, not_false_eq_true, Bool.false_eq_true, Bool.not_false, Bool.not_true, if_true, if_false, true_and, and_true, or_false, false_or, or_true, true_or, and_false, false_and, true_implies, if_pos, if_neg, len_58, get_58, app_58, set_58, cut_58, rep_58, emp_58, len_30, get_30, app_30, set_30, cut_30, rep_30, emp_30, len_27, get_27, app_27, set_27, cut_27, rep_27, emp_27, len_i, get_i, app_i, set_i, cut_i, rep_i, emp_i, len_b, get_b, app_b, set_b, cut_b, rep_b, emp_b, e]

theorem s_76 (hk : 1 ≤ k) {L : List Int} {i : Int} (h0 : 0 ≤ i) (h1 : i < L.length) : C n k 76 [⟨.sl (.int .i64), L⟩, ⟨.int .i64, i⟩] [.int .i64] = some (L.getD i.toNat 0, ()) := by
  obtain ⟨k, rfl⟩ : ∃ k1, k = k1 + 1 := ⟨k - 1, by omega⟩
  rw [C_succ, nf_76]
  simp (discharger := omega) only [r_ite, r_add, r_sub, r_mul, r_quo, r_rem, r_lt, r_le, r_eq, r_bnot, r_or, r_and, r_isel, r_beq, r_band, r_bimp, r_imax, r_imin, r_call, r_gcall, r_bind, Option.bind_some, fits_ok, mfit_ok, wrap_i64, both_self, node_eta, msg_eta, entry_eta, hard_eta, decide_eq_true_eq, Bool.and_eq_true, Bool.or_eq_true, Bool.not_eq_true', decide_eq_false_iff_not, Bool.not_not, not_true_eq_false, not_false_eq_true, Bool.false_eq_true, Bool.not_false, Bool.not_true, if_true, if_false, true_and, and_true, or_false, false_or, or_true, true_or, and_false, false_and, true_implies, if_pos, if_neg, len_58, get_58, app_58, set_58, cut_58, rep_58, emp_58, len_30, get_30, app_30, set_30, cut_30, rep_30, emp_30, len_27, get_27, app_27, set_27, cut_27, rep_27, emp_27, len_i, get_i, app_i, set_i, cut_i, rep_i, emp_i, len_b, get_b, app_b, set_b, cut_b, rep_b, emp_b]

theorem s_77 (hk : 1 ≤ k) {L : List Int} {i v : Int} (h0 : 0 ≤ i) (h1 : i < L.length) (h2 : L.length < 1000) : C n k 77 [⟨.sl (.int .i64), L⟩, ⟨.int .i64, i⟩, ⟨.int .i64, v⟩] [.sl (.int .i64)] = some (L.set i.toNat v, ()) := by
  obtain ⟨k, rfl⟩ : ∃ k1, k = k1 + 1 := ⟨k - 1, by omega⟩
  rw [C_succ, nf_77]
  have e : L.isEmpty = false := by cases L with | nil => simp at h1; omega | cons => rfl
  simp (discharger := omega) only [r_ite, r_add, r_sub, r_mul, r_quo, r_rem, r_lt, r_le, r_eq, r_bnot, r_or, r_and, r_isel, r_beq, r_band, r_bimp, r_imax, r_imin, r_call, r_gcall, r_bind, Option.bind_some, fits_ok, mfit_ok, wrap_i64, both_self, node_eta, msg_eta, entry_eta, hard_eta, decide_eq_true_eq, Bool.and_eq_true, Bool.or_eq_true, Bool.not_eq_true', decide_eq_false_iff_not, Bool.not_not, not_true_eq_false, not_false_eq_true, Bool.false_eq_true, Bool.not_false, Bool.not_true, if_true, if_false, true_and, and_true, or_false, false_or, or_true, true_or, and_false, false_and, true_implies, if_pos, if_neg, len_58, get_58, app_58, set_58, cut_58, rep_58, emp_58, len_30, get_30, app_30, set_30, cut_30, rep_30, emp_30, len_27, get_27, app_27, set_27, cut_27, rep_27, emp_27, len_i, get_i, app_i, set_i, cut_i, rep_i, emp_i, len_b, get_b, app_b, set_b, cut_b, rep_b, emp_b, e, List.nil_append]

theorem s_71 (hk : 1 ≤ k) {t : Int} (h1 : 1 ≤ a.nodes) (h5 : a.nodes ≤ 5) : C n k 71 [⟨.st 27, a⟩, ⟨.int .i64, t⟩] [.st 27] = some (down a t, ()) := by
  obtain ⟨k, rfl⟩ : ∃ k1, k = k1 + 1 := ⟨k - 1, by omega⟩
  rw [C_succ, nf_71]
  have e : max 0 (min a.nodes 5) = a.nodes := by omega
  unfold down
  by_cases q : a.term < t
  · simp (discharger := omega) only [r_ite, r_add, r_sub, r_mul, r_quo, r_rem, r_lt, r_le, r_eq, r_bnot, r_or, r_and, r_isel, r_beq, r_band, r_bimp, r_imax, r_imin, r_call, r_gcall, r_bind, Option.bind_some, fits_ok, mfit_ok, wrap_i64, both_self, node_eta, msg_eta, entry_eta, hard_eta, decide_eq_true_eq, Bool.and_eq_true, Bool.or_eq_true, Bool.not_eq_true', decide_eq_false_iff_not, Bool.not_not, not_true_eq_false, not_false_eq_true, Bool.false_eq_true, Bool.not_false, Bool.not_true, if_true, if_false, true_and, and_true, or_false, false_or, or_true, true_or, and_false, false_and, true_implies, if_pos, if_neg, len_58, get_58, app_58, set_58, cut_58, rep_58, emp_58, len_30, get_30, app_30, set_30, cut_30, rep_30, emp_30, len_27, get_27, app_27, set_27, cut_27, rep_27, emp_27, len_i, get_i, app_i, set_i, cut_i, rep_i, emp_i, len_b, get_b, app_b, set_b, cut_b, rep_b, emp_b, e]
  · simp (discharger := omega) only [r_ite, r_add, r_sub, r_mul, r_quo, r_rem, r_lt, r_le, r_eq, r_bnot, r_or, r_and, r_isel, r_beq, r_band, r_bimp, r_imax, r_imin, r_call, r_gcall, r_bind, Option.bind_some, fits_ok, mfit_ok, wrap_i64, both_self, node_eta, msg_eta, entry_eta, hard_eta, decide_eq_true_eq, Bool.and_eq_true, Bool.or_eq_true, Bool.not_eq_true', decide_eq_false_iff_not, Bool.not_not, not_true_eq_false, not_false_eq_true, Bool.false_eq_true, Bool.not_false, Bool.not_true, if_true, if_false, true_and, and_true, or_false, false_or, or_true, true_or, and_false, false_and, true_implies, if_pos, if_neg, len_58, get_58, app_58, set_58, cut_58, rep_58, emp_58, len_30, get_30, app_30, set_30, cut_30, rep_30, emp_30, len_27, get_27, app_27, set_27, cut_27, rep_27, emp_27, len_i, get_i, app_i, set_i, cut_i, rep_i, emp_i, len_b, get_b, app_b, set_b, cut_b, rep_b, emp_b, e]

theorem s_78 (hk : 1 ≤ k) {t : Int} (h1 : 1 ≤ a.nodes) (h5 : a.nodes ≤ 5) : C n k 78 [⟨.st 27, a⟩, ⟨.int .i64, t⟩] [.st 27] = some (down a t, ()) := by
  obtain ⟨k, rfl⟩ : ∃ k1, k = k1 + 1 := ⟨k - 1, by omega⟩
  rw [C_succ, nf_78]
  unfold down
  by_cases q : a.term < t
  · simp (discharger := omega) only [r_ite, r_add, r_sub, r_mul, r_quo, r_rem, r_lt, r_le, r_eq, r_bnot, r_or, r_and, r_isel, r_beq, r_band, r_bimp, r_imax, r_imin, r_call, r_gcall, r_bind, Option.bind_some, fits_ok, mfit_ok, wrap_i64, both_self, node_eta, msg_eta, entry_eta, hard_eta, decide_eq_true_eq, Bool.and_eq_true, Bool.or_eq_true, Bool.not_eq_true', decide_eq_false_iff_not, Bool.not_not, not_true_eq_false, not_false_eq_true, Bool.false_eq_true, Bool.not_false, Bool.not_true, if_true, if_false, true_and, and_true, or_false, false_or, or_true, true_or, and_false, false_and, true_implies, if_pos, if_neg, len_58, get_58, app_58, set_58, cut_58, rep_58, emp_58, len_30, get_30, app_30, set_30, cut_30, rep_30, emp_30, len_27, get_27, app_27, set_27, cut_27, rep_27, emp_27, len_i, get_i, app_i, set_i, cut_i, rep_i, emp_i, len_b, get_b, app_b, set_b, cut_b, rep_b, emp_b]
  · simp (discharger := omega) only [r_ite, r_add, r_sub, r_mul, r_quo, r_rem, r_lt, r_le, r_eq, r_bnot, r_or, r_and, r_isel, r_beq, r_band, r_bimp, r_imax, r_imin, r_call, r_gcall, r_bind, Option.bind_some, fits_ok, mfit_ok, wrap_i64, both_self, node_eta, msg_eta, entry_eta, hard_eta, decide_eq_true_eq, Bool.and_eq_true, Bool.or_eq_true, Bool.not_eq_true', decide_eq_false_iff_not, Bool.not_not, not_true_eq_false, not_false_eq_true, Bool.false_eq_true, Bool.not_false, Bool.not_true, if_true, if_false, true_and, and_true, or_false, false_or, or_true, true_or, and_false, false_and, true_implies, if_pos, if_neg, len_58, get_58, app_58, set_58, cut_58, rep_58, emp_58, len_30, get_30, app_30, set_30, cut_30, rep_30, emp_30, len_27, get_27, app_27, set_27, cut_27, rep_27, emp_27, len_i, get_i, app_i, set_i, cut_i, rep_i, emp_i, len_b, get_b, app_b, set_b, cut_b, rep_b, emp_b]

theorem s_73 (hk : 1 ≤ k) {m : Msg} {y : Bool} {i : Int} : C n k 73 [⟨.st 27, a⟩, ⟨.st 30, m⟩, ⟨.bool, y⟩, ⟨.int .i64, i⟩] [.sl (.st 30)] = some (taken a m y i, ()) := by
  obtain ⟨k, rfl⟩ : ∃ k1, k = k1 + 1 := ⟨k - 1, by omega⟩
  rw [C_succ, nf_73]
  rfl

theorem s_80 (hk : 1 ≤ k) {m : Msg} {y : Bool} {i : Int} : C n k 80 [⟨.st 27, a⟩, ⟨.int .i64, m.from⟩, ⟨.bool, y⟩, ⟨.int .i64, i⟩] [.sl (.st 30)] = some (taken a m y i, ()) := by
  obtain ⟨k, rfl⟩ : ∃ k1, k = k1 + 1 := ⟨k - 1, by omega⟩
  rw [C_succ, nf_80]
  rfl

theorem s_86 (hk : 1 ≤ k) {i : Int} (h1 : 0 ≤ a.base) (h2 : a.base ≤ 2^60) (h3 : (a.log.length : Int) ≤ 2^42) (h4 : -2^60 ≤ i) (h5 : i ≤ 2^60) :
    C n k 86 [⟨.st 27, a⟩, ⟨.int .i64, i⟩] [.slt (.st 58)] = some (behind a i, ()) := by
  obtain ⟨k, rfl⟩ : ∃ k1, k = k1 + 1 := ⟨k - 1, by omega⟩
  rw [C_succ, nf_86]
  have hf : ∀ m : Nat, (a.log.take (m : Int).toNat).drop (m : Int).toNat = a.log.drop m → True := fun _ _ => trivial
  have e1 : a.log.take a.log.length = a.log := List.take_length
  have e2 : a.log.drop a.log.length = [] := List.drop_length
  unfold behind
  by_cases q1 : a.base < i
  · by_cases q2 : (a.log.length : Int) < i - a.base
    · have e3 : a.log.drop (i - a.base).toNat = [] := List.drop_eq_nil_of_le (by omega)
      simp (discharger := omega) only [r_ite, r_add, r_sub, r_mul, r_quo, r_rem, r_lt, r_le, r_eq, r_bnot, r_or, r_and, r_isel, r_beq, r_band, r_bimp, r_imax, r_imin, r_call, r_gcall, r_bind, Option.bind_some, fits_ok, mfit_ok, wrap_i64, both_self, node_eta, msg_eta, entry_eta, hard_eta, decide_eq_true_eq, Bool.and_eq_true, Bool.or_eq_true, Bool.not_eq_true', decide_eq_false_iff_not, Bool.not_not, not_true_eq_false, not_false_eq_true, Bool.false_eq_true, Bool.not_false, Bool.not_true, if_true, if_false, true_and, and_true, or_false, false_or, or_true, true_or, and_false, false_and, true_implies, if_pos, if_neg, len_58, get_58, app_58, set_58, cut_58, rep_58, emp_58, len_30, get_30, app_30, set_30, cut_30, rep_30, emp_30, len_27, get_27, app_27, set_27, cut_27, rep_27, emp_27, len_i, get_i, app_i, set_i, cut_i, rep_i, emp_i, len_b, get_b, app_b, set_b, cut_b, rep_b, emp_b, Int.toNat_natCast, e1, e2, e3]
    · simp (discharger := omega) only [r_ite, r_add, r_sub, r_mul, r_quo, r_rem, r_lt, r_le, r_eq, r_bnot, r_or, r_and, r_isel, r_beq, r_band, r_bimp, r_imax, r_imin, r_call, r_gcall, r_bind, Option.bind_some, fits_ok, mfit_ok, wrap_i64, both_self, node_eta, msg_eta, entry_eta, hard_eta, decide_eq_true_eq, Bool.and_eq_true, Bool.or_eq_true, Bool.not_eq_true', decide_eq_false_iff_not, Bool.not_not, not_true_eq_false, not_false_eq_true, Bool.false_eq_true, Bool.not_false, Bool.not_true, if_true, if_false, true_and, and_true, or_false, false_or, or_true, true_or, and_false, false_and, true_implies, if_pos, if_neg, len_58, get_58, app_58, set_58, cut_58, rep_58, emp_58, len_30, get_30, app_30, set_30, cut_30, rep_30, emp_30, len_27, get_27, app_27, set_27, cut_27, rep_27, emp_27, len_i, get_i, app_i, set_i, cut_i, rep_i, emp_i, len_b, get_b, app_b, set_b, cut_b, rep_b, emp_b, Int.toNat_natCast, e1]
  · have e3 : (i - a.base).toNat = 0 := by omega
    simp (discharger := omega) only [r_ite, r_add, r_sub, r_mul, r_quo, r_rem, r_lt, r_le, r_eq, r_bnot, r_or, r_and, r_isel, r_beq, r_band, r_bimp, r_imax, r_imin, r_call, r_gcall, r_bind, Option.bind_some, fits_ok, mfit_ok, wrap_i64, both_self, node_eta, msg_eta, entry_eta, hard_eta, decide_eq_true_eq, Bool.and_eq_true, Bool.or_eq_true, Bool.not_eq_true', decide_eq_false_iff_not, Bool.not_not, not_true_eq_false, not_false_eq_true, Bool.false_eq_true, Bool.not_false, Bool.not_true, if_true, if_false, true_and, and_true, or_false, false_or, or_true, true_or, and_false, false_and, true_implies, if_pos, if_neg, len_58, get_58, app_58, set_58, cut_58, rep_58, emp_58, len_30, get_30, app_30, set_30, cut_30, rep_30, emp_30, len_27, get_27, app_27, set_27, cut_27, rep_27, emp_27, len_i, get_i, app_i, set_i, cut_i, rep_i, emp_i, len_b, get_b, app_b, set_b, cut_b, rep_b, emp_b, Int.toNat_natCast, e1, e3, Int.toNat_zero]

theorem s_62 (hk : 2 ≤ k) {i : Int} (h1 : 0 ≤ a.base) (h2 : a.base ≤ 2^60) (h3 : (a.log.length : Int) ≤ 2^42) (h4 : -2^60 ≤ i) (h5 : i ≤ 2^60) :
    C n k 62 [⟨.st 27, a⟩, ⟨.int .i64, i⟩] [.sl (.st 58)] = some (behind a i, ()) := by
  obtain ⟨k, rfl⟩ : ∃ k1, k = k1 + 1 := ⟨k - 1, by omega⟩
  rw [C_succ, nf_62]
  have e50 := s_28 (n := n) (k := k) (a := a) (by omega) (by omega) (by omega) (by omega)
  have hl : last a = a.base + a.log.length := rfl
  have e1 : a.log.take a.log.length = a.log := List.take_length
  unfold behind
  by_cases q1 : last a < i
  · have e3 : a.log.drop (i - a.base).toNat = [] := List.drop_eq_nil_of_le (by omega)
    simp (discharger := omega) only [r_ite, r_add, r_sub, r_mul, r_quo, r_rem, r_lt, r_le, r_eq, r_bnot, r_or, r_and, r_isel, r_beq, r_band, r_bimp, r_imax, r_imin, r_call, r_gcall, r_bind, Option.bind_some, fits_ok, mfit_ok, wrap_i64, both_self, node_eta, msg_eta, entry_eta, hard_eta, decide_eq_true_eq, Bool.and_eq_true, Bool.or_eq_true, Bool.not_eq_true', decide_eq_false_iff_not, Bool.not_not, not_true_eq_false, not_false_eq_true, Bool.false_eq_true, Bool.not_false, Bool.not_true, if_true, if_false, true_and, and_true, or_false, false_or, or_true, true_or, and_false, false_and, true_implies, if_pos, if_neg, len_58, get_58, app_58, set_58, cut_58, rep_58, emp_58, len_30, get_30, app_30, set_30, cut_30, rep_30, emp_30, len_27, get_27, app_27, set_27, cut_27, rep_27, emp_27, len_i, get_i, app_i, set_i, cut_i, rep_i, emp_i, len_b, get_b, app_b, set_b, cut_b, rep_b, emp_b, e50, e3]
  · have e3 : (max (i - a.base) 0).toNat = (i - a.base).toNat := by omega
    simp (discharger := omega) only [r_ite, r_add, r_sub, r_mul, r_quo, r_rem, r_lt, r_le, r_eq, r_bnot, r_or, r_and, r_isel, r_beq, r_band, r_bimp, r_imax, r_imin, r_call, r_gcall, r_bind, Option.bind_some, fits_ok, mfit_ok, wrap_i64, both_self, node_eta, msg_eta, entry_eta, hard_eta, decide_eq_true_eq, Bool.and_eq_true, Bool.or_eq_true, Bool.not_eq_true', decide_eq_false_iff_not, Bool.not_not, not_true_eq_false, not_false_eq_true, Bool.false_eq_true, Bool.not_false, Bool.not_true, if_true, if_false, true_and, and_true, or_false, false_or, or_true, true_or, and_false, false_and, true_implies, if_pos, if_neg, len_58, get_58, app_58, set_58, cut_58, rep_58, emp_58, len_30, get_30, app_30, set_30, cut_30, rep_30, emp_30, len_27, get_27, app_27, set_27, cut_27, rep_27, emp_27, len_i, get_i, app_i, set_i, cut_i, rep_i, emp_i, len_b, get_b, app_b, set_b, cut_b, rep_b, emp_b, e50, e1, e3, Int.toNat_natCast, List.length_drop]

end
end Go.Proofs.Ytinfpahllbhomaa

namespace Go.Proofs.Ytinfpahllbhomaa
open Go.Ab
set_option linter.unusedSimpArgs false
set_option linter.unusedVariables false
set_option maxHeartbeats 2000000
noncomputable section
variable {n k : Nat} {B : Int} {a : Node}

theorem iter_rule {S R : Type} {F : (S → Option R) → S → Option R} (μ : S → Nat) (I : S → Prop) (g : S → R)
    (h : ∀ next x, I x → (∀ y, I y → μ y < μ x → next y = some (g y)) → F next x = some (g x)) :
    ∀ (n : Nat) (x : S), I x → μ x < n → iter F n x = some (g x)
  | 0, x, _, hm => absurd hm (Nat.not_lt_zero _)
  | n + 1, x, hI, hm => h (iter F n) x hI fun y hy hlt => iter_rule μ I g h n y hy (by omega)

theorem putL_step {L l : List Entry} {p i : Nat} (h : i < l.length) :
    putL L p (l.drop i) = if p < L.length ∧ (L.getD p ⟨0, ⟨#[]⟩⟩).term = (l.getD i ⟨0, ⟨#[]⟩⟩).term then putL L (p + 1) (l.drop (i + 1)) else L.take p ++ l.drop i := by
  have e : l.drop i = l[i] :: l.drop (i + 1) := List.drop_eq_getElem_cons h
  have e2 : l.getD i ⟨0, ⟨#[]⟩⟩ = l[i] := by simp [List.getD, h]
  rw [e2, e]
  rfl

theorem putL_end {L l : List Entry} {p i : Nat} (h : l.length ≤ i) : putL L p (l.drop i) = L := by
  rw [List.drop_eq_nil_of_le h]
  rfl

theorem s_75 (hk : 2 ≤ k) (hn : 100 ≤ n) {i : Int} {l : List Entry} (h1 : 0 ≤ a.base) (h2 : a.base ≤ 2^60) (h3 : (a.log.length : Int) ≤ 2^41) (h4 : 0 ≤ i) (h5 : i ≤ 2^60) (h6 : l.length ≤ 50) :
    C n k 75 [⟨.st 27, a⟩, ⟨.int .i64, i⟩, ⟨.sl (.st 58), l⟩] [.st 27] = some (putN a i l, ()) := by
  obtain ⟨k, rfl⟩ : ∃ k1, k = k1 + 1 := ⟨k - 1, by omega⟩
  rw [C_succ, nf_75]
  have e50 := s_50 (n := n) (k := k) (a := a) (by omega) (by omega) (by omega) (by omega)
  have hl : last a = a.base + a.log.length := rfl
  unfold putN
  by_cases q1 : i < a.base
  · simp (discharger := omega) only [r_ite, r_add, r_sub, r_mul, r_quo, r_rem, r_lt, r_le, r_eq, r_bnot, r_or, r_and, r_isel, r_beq, r_band, r_bimp, r_imax, r_imin, r_call, r_gcall, r_bind, Option.bind_some, fits_ok, mfit_ok, wrap_i64, both_self, node_eta, msg_eta, entry_eta, hard_eta, decide_eq_true_eq, Bool.and_eq_true, Bool.or_eq_true, Bool.not_eq_true', decide_eq_false_iff_not, Bool.not_not, not_true_eq_false, not_false_eq_true, Bool.false_eq_true, Bool.not_false, Bool.not_true, if_true, if_false, true_and, and_true, or_false, false_or, or_true, true_or, and_false, false_and, true_implies, if_pos, if_neg, len_58, get_58, app_58, set_58, cut_58, rep_58, emp_58, len_30, get_30, app_30, set_30, cut_30, rep_30, emp_30, len_27, get_27, app_27, set_27, cut_27, rep_27, emp_27, len_i, get_i, app_i, set_i, cut_i, rep_i, emp_i, len_b, get_b, app_b, set_b, cut_b, rep_b, emp_b, e50]
  by_cases q2 : last a < i
  · simp (discharger := omega) only [r_ite, r_add, r_sub, r_mul, r_quo, r_rem, r_lt, r_le, r_eq, r_bnot, r_or, r_and, r_isel, r_beq, r_band, r_bimp, r_imax, r_imin, r_call, r_gcall, r_bind, Option.bind_some, fits_ok, mfit_ok, wrap_i64, both_self, node_eta, msg_eta, entry_eta, hard_eta, decide_eq_true_eq, Bool.and_eq_true, Bool.or_eq_true, Bool.not_eq_true', decide_eq_false_iff_not, Bool.not_not, not_true_eq_false, not_false_eq_true, Bool.false_eq_true, Bool.not_false, Bool.not_true, if_true, if_false, true_and, and_true, or_false, false_or, or_true, true_or, and_false, false_and, true_implies, if_pos, if_neg, len_58, get_58, app_58, set_58, cut_58, rep_58, emp_58, len_30, get_30, app_30, set_30, cut_30, rep_30, emp_30, len_27, get_27, app_27, set_27, cut_27, rep_27, emp_27, len_i, get_i, app_i, set_i, cut_i, rep_i, emp_i, len_b, get_b, app_b, set_b, cut_b, rep_b, emp_b, e50]
  · simp (discharger := omega) only [r_ite, r_add, r_sub, r_mul, r_quo, r_rem, r_lt, r_le, r_eq, r_bnot, r_or, r_and, r_isel, r_beq, r_band, r_bimp, r_imax, r_imin, r_call, r_gcall, r_bind, Option.bind_some, fits_ok, mfit_ok, wrap_i64, both_self, node_eta, msg_eta, entry_eta, hard_eta, decide_eq_true_eq, Bool.and_eq_true, Bool.or_eq_true, Bool.not_eq_true', decide_eq_false_iff_not, Bool.not_not, not_true_eq_false, not_false_eq_true, Bool.false_eq_true, Bool.not_false, Bool.not_true, if_true, if_false, true_and, and_true, or_false, false_or, or_true, true_or, and_false, false_and, true_implies, if_pos, if_neg, len_58, get_58, app_58, set_58, cut_58, rep_58, emp_58, len_30, get_30, app_30, set_30, cut_30, rep_30, emp_30, len_27, get_27, app_27, set_27, cut_27, rep_27, emp_27, len_i, get_i, app_i, set_i, cut_i, rep_i, emp_i, len_b, get_b, app_b, set_b, cut_b, rep_b, emp_b, e50, r_loop]
    refine (iter_rule (fun x => l.length - x.1.toNat) (fun x => 0 ≤ x.1 ∧ x.1 ≤ (l.length : Int) ∧ i - a.base + x.1 ≤ (a.log.length : Int) ∧ x.2.1 = a.log)
      (fun x => (({ a with log := putL a.log ((i - a.base).toNat + x.1.toNat) (l.drop x.1.toNat) } : Node), ())) ?_ n _ ⟨by omega, by omega, by simp only; omega, rfl⟩ (by simp only [Int.toNat_zero]; omega)).trans ?_
    · rintro next ⟨j, L, rest⟩ ⟨j0, j1, j2, jL⟩ ih
      simp only at j0 j1 j2 jL
      subst jL
      have hj : (i - a.base + j).toNat = (i - a.base).toNat + j.toNat := by omega
      by_cases q3 : j < l.length
      · have e := putL_step (L := a.log) (l := l) (p := (i - a.base).toNat + j.toNat) (i := j.toNat) (by omega)
        by_cases q4 : i - a.base + j < a.log.length
        · by_cases q5 : (a.log.getD ((i - a.base).toNat + j.toNat) ⟨0, ⟨#[]⟩⟩).term = (l.getD j.toNat ⟨0, ⟨#[]⟩⟩).term
          · have e2 : (i - a.base).toNat + (j + 1).toNat = (i - a.base).toNat + j.toNat + 1 := by omega
            have e3 : (j + 1).toNat = j.toNat + 1 := by omega
            simp (discharger := omega) only [r_ite, r_add, r_sub, r_mul, r_quo, r_rem, r_lt, r_le, r_eq, r_bnot, r_or, r_and, r_isel, r_beq, r_band, r_bimp, r_imax, r_imin, r_call, r_gcall, r_bind, Option.bind_some, fits_ok, mfit_ok, wrap_i64, both_self, node_eta, msg_eta, entry_eta, hard_eta, decide_eq_true_eq, Bool.and_eq_true, Bool.or_eq_true, Bool.not_eq_true', decide_eq_false_iff_not, Bool.not_not, not_true_eq_false, not_false_eq_true, Bool.false_eq_true, Bool.not_false, Bool.not_true, if_true, if_false, true_and, and_true, or_false, false_or, or_true, true_or, and_false, false_and, true_implies, if_pos, if_neg, len_58, get_58, app_58, set_58, cut_58, rep_58, emp_58, len_30, get_30, app_30, set_30, cut_30, rep_30, emp_30, len_27, get_27, app_27, set_27, cut_27, rep_27, emp_27, len_i, get_i, app_i, set_i, cut_i, rep_i, emp_i, len_b, get_b, app_b, set_b, cut_b, rep_b, emp_b, hj, q5]
            rw [ih _ ⟨by simp only; omega, by simp only; omega, by simp only; omega, rfl⟩ (by simp only; omega)]
            rw [if_pos ⟨by omega, q5⟩] at e
            simp only [e3, ← Nat.add_assoc]
            rw [e]
          · rw [if_neg (fun h => q5 h.2)] at e
            rw [e]
            simp (discharger := omega) only [r_ite, r_add, r_sub, r_mul, r_quo, r_rem, r_lt, r_le, r_eq, r_bnot, r_or, r_and, r_isel, r_beq, r_band, r_bimp, r_imax, r_imin, r_call, r_gcall, r_bind, Option.bind_some, fits_ok, mfit_ok, wrap_i64, both_self, node_eta, msg_eta, entry_eta, hard_eta, decide_eq_true_eq, Bool.and_eq_true, Bool.or_eq_true, Bool.not_eq_true', decide_eq_false_iff_not, Bool.not_not, not_true_eq_false, not_false_eq_true, Bool.false_eq_true, Bool.not_false, Bool.not_true, if_true, if_false, true_and, and_true, or_false, false_or, or_true, true_or, and_false, false_and, true_implies, if_pos, if_neg, len_58, get_58, app_58, set_58, cut_58, rep_58, emp_58, len_30, get_30, app_30, set_30, cut_30, rep_30, emp_30, len_27, get_27, app_27, set_27, cut_27, rep_27, emp_27, len_i, get_i, app_i, set_i, cut_i, rep_i, emp_i, len_b, get_b, app_b, set_b, cut_b, rep_b, emp_b, hj, q5, Int.toNat_natCast, List.take_length, Int.toNat_zero, List.drop_zero, List.length_take, List.length_drop]
        · rw [if_neg (fun h => q4 (by omega))] at e
          rw [e]
          simp (discharger := omega) only [r_ite, r_add, r_sub, r_mul, r_quo, r_rem, r_lt, r_le, r_eq, r_bnot, r_or, r_and, r_isel, r_beq, r_band, r_bimp, r_imax, r_imin, r_call, r_gcall, r_bind, Option.bind_some, fits_ok, mfit_ok, wrap_i64, both_self, node_eta, msg_eta, entry_eta, hard_eta, decide_eq_true_eq, Bool.and_eq_true, Bool.or_eq_true, Bool.not_eq_true', decide_eq_false_iff_not, Bool.not_not, not_true_eq_false, not_false_eq_true, Bool.false_eq_true, Bool.not_false, Bool.not_true, if_true, if_false, true_and, and_true, or_false, false_or, or_true, true_or, and_false, false_and, true_implies, if_pos, if_neg, len_58, get_58, app_58, set_58, cut_58, rep_58, emp_58, len_30, get_30, app_30, set_30, cut_30, rep_30, emp_30, len_27, get_27, app_27, set_27, cut_27, rep_27, emp_27, len_i, get_i, app_i, set_i, cut_i, rep_i, emp_i, len_b, get_b, app_b, set_b, cut_b, rep_b, emp_b, hj, Int.toNat_natCast, List.take_length, Int.toNat_zero, List.drop_zero, List.length_take, List.length_drop]
      · rw [putL_end (by omega)]
        simp (discharger := omega) only [r_ite, r_add, r_sub, r_mul, r_quo, r_rem, r_lt, r_le, r_eq, r_bnot, r_or, r_and, r_isel, r_beq, r_band, r_bimp, r_imax, r_imin, r_call, r_gcall, r_bind, Option.bind_some, fits_ok, mfit_ok, wrap_i64, both_self, node_eta, msg_eta, entry_eta, hard_eta, decide_eq_true_eq, Bool.and_eq_true, Bool.or_eq_true, Bool.not_eq_true', decide_eq_false_iff_not, Bool.not_not, not_true_eq_false, not_false_eq_true, Bool.false_eq_true, Bool.not_false, Bool.not_true, if_true, if_false, true_and, and_true, or_false, false_or, or_true, true_or, and_false, false_and, true_implies, if_pos, if_neg, len_58, get_58, app_58, set_58, cut_58, rep_58, emp_58, len_30, get_30, app_30, set_30, cut_30, rep_30, emp_30, len_27, get_27, app_27, set_27, cut_27, rep_27, emp_27, len_i, get_i, app_i, set_i, cut_i, rep_i, emp_i, len_b, get_b, app_b, set_b, cut_b, rep_b, emp_b]
    · simp

theorem s_82 (hk : 2 ≤ k) (hn : 100 ≤ n) {i : Int} {l : List Entry} (h1 : 0 ≤ a.base) (h2 : a.base ≤ 2^60) (h3 : (a.log.length : Int) ≤ 2^41) (h4 : 0 ≤ i) (h5 : i ≤ 2^60) (h6 : l.length ≤ 50) :
    C n k 82 [⟨.st 27, a⟩, ⟨.int .i64, i⟩, ⟨.sl (.st 58), l⟩] [.st 27] = some (putN a i l, ()) := by
  obtain ⟨k, rfl⟩ : ∃ k1, k = k1 + 1 := ⟨k - 1, by omega⟩
  rw [C_succ, nf_82]
  have e50 := s_28 (n := n) (k := k) (a := a) (by omega) (by omega) (by omega) (by omega)
  have hl : last a = a.base + a.log.length := rfl
  unfold putN
  by_cases q1 : i < a.base
  · simp (discharger := omega) only [r_ite, r_add, r_sub, r_mul, r_quo, r_rem, r_lt, r_le, r_eq, r_bnot, r_or, r_and, r_isel, r_beq, r_band, r_bimp, r_imax, r_imin, r_call, r_gcall, r_bind, Option.bind_some, fits_ok, mfit_ok, wrap_i64, both_self, node_eta, msg_eta, entry_eta, hard_eta, decide_eq_true_eq, Bool.and_eq_true, Bool.or_eq_true, Bool.not_eq_true', decide_eq_false_iff_not, Bool.not_not, not_true_eq_false, not_false_eq_true, Bool.false_eq_true, Bool.not_false, Bool.not_true, if_true, if_false, true_and, and_true, or_false, false_or, or_true, true_or, and_false, false_and, true_implies, if_pos, if_neg, len_58, get_58, app_58, set_58, cut_58, rep_58, emp_58, len_30, get_30, app_30, set_30, cut_30, rep_30, emp_30, len_27, get_27, app_27, set_27, cut_27, rep_27, emp_27, len_i, get_i, app_i, set_i, cut_i, rep_i, emp_i, len_b, get_b, app_b, set_b, cut_b, rep_b, emp_b, e50]
  by_cases q2 : last a < i
  · simp (discharger := omega) only [r_ite, r_add, r_sub, r_mul, r_quo, r_rem, r_lt, r_le, r_eq, r_bnot, r_or, r_and, r_isel, r_beq, r_band, r_bimp, r_imax, r_imin, r_call, r_gcall, r_bind, Option.bind_some, fits_ok, mfit_ok, wrap_i64, both_self, node_eta, msg_eta, entry_eta, hard_eta, decide_eq_true_eq, Bool.and_eq_true, Bool.or_eq_true, Bool.not_eq_true', decide_eq_false_iff_not, Bool.not_not, not_true_eq_false, not_false_eq_true, Bool.false_eq_true, Bool.not_false, Bool.not_true, if_true, if_false, true_and, and_true, or_false, false_or, or_true, true_or, and_false, false_and, true_implies, if_pos, if_neg, len_58, get_58, app_58, set_58, cut_58, rep_58, emp_58, len_30, get_30, app_30, set_30, cut_30, rep_30, emp_30, len_27, get_27, app_27, set_27, cut_27, rep_27, emp_27, len_i, get_i, app_i, set_i, cut_i, rep_i, emp_i, len_b, get_b, app_b, set_b, cut_b, rep_b, emp_b, e50]
  · simp (discharger := omega) only [r_ite, r_add, r_sub, r_mul, r_quo, r_rem, r_lt, r_le, r_eq, r_bnot, r_or, r_and, r_isel, r_beq, r_band, r_bimp, r_imax, r_imin, r_call, r_gcall, r_bind, Option.bind_some, fits_ok, mfit_ok, wrap_i64, both_self, node_eta, msg_eta, entry_eta, hard_eta, decide_eq_true_eq, Bool.and_eq_true, Bool.or_eq_true, Bool.not_eq_true', decide_eq_false_iff_not, Bool.not_not, not_true_eq_false, not_false_eq_true, Bool.false_eq_true, Bool.not_false, Bool.not_true, if_true, if_false, true_and, and_true, or_false, false_or, or_true, true_or, and_false, false_and, true_implies, if_pos, if_neg, len_58, get_58, app_58, set_58, cut_58, rep_58, emp_58, len_30, get_30, app_30, set_30, cut_30, rep_30, emp_30, len_27, get_27, app_27, set_27, cut_27, rep_27, emp_27, len_i, get_i, app_i, set_i, cut_i, rep_i, emp_i, len_b, get_b, app_b, set_b, cut_b, rep_b, emp_b, e50, r_loop]
    refine (iter_rule (fun x => l.length - x.1.toNat) (fun x => 0 ≤ x.1 ∧ x.1 ≤ (l.length : Int) ∧ i - a.base + x.1 ≤ (a.log.length : Int) ∧ x.2.1 = a.log)
      (fun x => (({ a with log := putL a.log ((i - a.base).toNat + x.1.toNat) (l.drop x.1.toNat) } : Node), ())) ?_ n _ ⟨by omega, by omega, by simp only; omega, rfl⟩ (by simp only [Int.toNat_zero]; omega)).trans ?_
    · rintro next ⟨j, L, rest⟩ ⟨j0, j1, j2, jL⟩ ih
      simp only at j0 j1 j2 jL
      subst jL
      have hj : (i - a.base + j).toNat = (i - a.base).toNat + j.toNat := by omega
      by_cases q3 : j < l.length
      · have e := putL_step (L := a.log) (l := l) (p := (i - a.base).toNat + j.toNat) (i := j.toNat) (by omega)
        by_cases q4 : i - a.base + j < a.log.length
        · by_cases q5 : (a.log.getD ((i - a.base).toNat + j.toNat) ⟨0, ⟨#[]⟩⟩).term = (l.getD j.toNat ⟨0, ⟨#[]⟩⟩).term
          · have e2 : (i - a.base).toNat + (j + 1).toNat = (i - a.base).toNat + j.toNat + 1 := by omega
            have e3 : (j + 1).toNat = j.toNat + 1 := by omega
            simp (discharger := omega) only [r_ite, r_add, r_sub, r_mul, r_quo, r_rem, r_lt, r_le, r_eq, r_bnot, r_or, r_and, r_isel, r_beq, r_band, r_bimp, r_imax, r_imin, r_call, r_gcall, r_bind, Option.bind_some, fits_ok, mfit_ok, wrap_i64, both_self, node_eta, msg_eta, entry_eta, hard_eta, decide_eq_true_eq, Bool.and_eq_true, Bool.or_eq_true, Bool.not_eq_true', decide_eq_false_iff_not, Bool.not_not, not_true_eq_false, not_false_eq_true, Bool.false_eq_true, Bool.not_false, Bool.not_true, if_true, if_false, true_and, and_true, or_false, false_or, or_true, true_or, and_false, false_and, true_implies, if_pos, if_neg, len_58, get_58, app_58, set_58, cut_58, rep_58, emp_58, len_30, get_30, app_30, set_30, cut_30, rep_30, emp_30, len_27, get_27, app_27, set_27, cut_27, rep_27, emp_27, len_i, get_i, app_i, set_i, cut_i, rep_i, emp_i, len_b, get_b, app_b, set_b, cut_b, rep_b, emp_b, hj, q5]
            rw [ih _ ⟨by simp only; omega, by simp only; omega, by simp only; omega, rfl⟩ (by simp only; omega)]
            rw [if_pos ⟨by omega, q5⟩] at e
            simp only [e3, ← Nat.add_assoc]
            rw [e]
          · have e4 : (min (i - a.base + j) (a.log.length : Int)).toNat = (i - a.base).toNat + j.toNat := by omega
            rw [if_neg (fun h => q5 h.2)] at e
            rw [e]
            simp (discharger := omega) only [r_ite, r_add, r_sub, r_mul, r_quo, r_rem, r_lt, r_le, r_eq, r_bnot, r_or, r_and, r_isel, r_beq, r_band, r_bimp, r_imax, r_imin, r_call, r_gcall, r_bind, Option.bind_some, fits_ok, mfit_ok, wrap_i64, both_self, node_eta, msg_eta, entry_eta, hard_eta, decide_eq_true_eq, Bool.and_eq_true, Bool.or_eq_true, Bool.not_eq_true', decide_eq_false_iff_not, Bool.not_not, not_true_eq_false, not_false_eq_true, Bool.false_eq_true, Bool.not_false, Bool.not_true, if_true, if_false, true_and, and_true, or_false, false_or, or_true, true_or, and_false, false_and, true_implies, if_pos, if_neg, len_58, get_58, app_58, set_58, cut_58, rep_58, emp_58, len_30, get_30, app_30, set_30, cut_30, rep_30, emp_30, len_27, get_27, app_27, set_27, cut_27, rep_27, emp_27, len_i, get_i, app_i, set_i, cut_i, rep_i, emp_i, len_b, get_b, app_b, set_b, cut_b, rep_b, emp_b, hj, q5, e4, Int.toNat_natCast, List.take_length, Int.toNat_zero, List.drop_zero, List.length_take, List.length_drop]
        · have e4 : a.log.take (min (i - a.base + j) (a.log.length : Int)).toNat = a.log.take ((i - a.base).toNat + j.toNat) := by
            rw [List.take_of_length_le (by omega), List.take_of_length_le (by omega)]
          rw [if_neg (fun h => q4 (by omega))] at e
          rw [e]
          simp (discharger := omega) only [r_ite, r_add, r_sub, r_mul, r_quo, r_rem, r_lt, r_le, r_eq, r_bnot, r_or, r_and, r_isel, r_beq, r_band, r_bimp, r_imax, r_imin, r_call, r_gcall, r_bind, Option.bind_some, fits_ok, mfit_ok, wrap_i64, both_self, node_eta, msg_eta, entry_eta, hard_eta, decide_eq_true_eq, Bool.and_eq_true, Bool.or_eq_true, Bool.not_eq_true', decide_eq_false_iff_not, Bool.not_not, not_true_eq_false, not_false_eq_true, Bool.false_eq_true, Bool.not_false, Bool.not_true, if_true, if_false, true_and, and_true, or_false, false_or, or_true, true_or, and_false, false_and, true_implies, if_pos, if_neg, len_58, get_58, app_58, set_58, cut_58, rep_58, emp_58, len_30, get_30, app_30, set_30, cut_30, rep_30, emp_30, len_27, get_27, app_27, set_27, cut_27, rep_27, emp_27, len_i, get_i, app_i, set_i, cut_i, rep_i, emp_i, len_b, get_b, app_b, set_b, cut_b, rep_b, emp_b, hj, e4, Int.toNat_natCast, List.take_length, Int.toNat_zero, List.drop_zero, List.length_take, List.length_drop]
      · rw [putL_end (by omega)]
        simp (discharger := omega) only [r_ite, r_add, r_sub, r_mul, r_quo, r_rem, r_lt, r_le, r_eq, r_bnot, r_or, r_and, r_isel, r_beq, r_band, r_bimp, r_imax, r_imin, r_call, r_gcall, r_bind, Option.bind_some, fits_ok, mfit_ok, wrap_i64, both_self, node_eta, msg_eta, entry_eta, hard_eta, decide_eq_true_eq, Bool.and_eq_true, Bool.or_eq_true, Bool.not_eq_true', decide_eq_false_iff_not, Bool.not_not, not_true_eq_false, not_false_eq_true, Bool.false_eq_true, Bool.not_false, Bool.not_true, if_true, if_false, true_and, and_true, or_false, false_or, or_true, true_or, and_false, false_and, true_implies, if_pos, if_neg, len_58, get_58, app_58, set_58, cut_58, rep_58, emp_58, len_30, get_30, app_30, set_30, cut_30, rep_30, emp_30, len_27, get_27, app_27, set_27, cut_27, rep_27, emp_27, len_i, get_i, app_i, set_i, cut_i, rep_i, emp_i, len_b, get_b, app_b, set_b, cut_b, rep_b, emp_b]
    · simp

end
end Go.Proofs.Ytinfpahllbhomaa

namespace Go.Proofs.Ytinfpahllbhomaa
open Go.Ab
set_option linter.unusedSimpArgs false
set_option linter.unusedVariables false
set_option maxHeartbeats 2000000
noncomputable section
variable {n k : Nat} {B : Int} {a : Node}

theorem iter_rule' {S R : Type} {F : (S → Option R) → S → Option R} (μ : S → Nat) (I : S → Prop) (g : S → Option R)
    (h : ∀ next x, I x → (∀ y, I y → μ y < μ x → next y = g y) → F next x = g x) :
    ∀ (n : Nat) (x : S), I x → μ x < n → iter F n x = g x
  | 0, x, _, hm => absurd hm (Nat.not_lt_zero _)
  | n + 1, x, hI, hm => h (iter F n) x hI fun y hy hlt => iter_rule' μ I g h n y hy (by omega)

theorem getD_bd {L : List Int} {B : Int} (h : ∀ x ∈ L, 0 ≤ x ∧ x ≤ B) (hB : 0 ≤ B) (i : Nat) : 0 ≤ L.getD i 0 ∧ L.getD i 0 ≤ B := by
  by_cases q : i < L.length
  · have : L.getD i 0 = L[i] := by simp [List.getD, q]
    rw [this]
    exact h _ (List.getElem_mem q)
  · have : L.getD i 0 = 0 := by simp [List.getD, List.getElem?_eq_none (Nat.le_of_not_lt q)]
    rw [this]
    exact ⟨Int.le_refl _, hB⟩

theorem s_87 (hk : 1 ≤ k) {L : List Entry} (h : (L.length : Int) ≤ 2^42) : C n k 87 [⟨.sl (.st 58), L⟩] [.sl (.st 58)] = some (L, ()) := by
  obtain ⟨k, rfl⟩ : ∃ k1, k = k1 + 1 := ⟨k - 1, by omega⟩
  rw [C_succ, nf_87]
  cases L with
  | nil => simp (discharger := omega) only [r_ite, emp_58, List.isEmpty_nil, if_true, if_false, Bool.false_eq_true, len_58, app_58, List.nil_append, fits_ok, both_self, List.length_nil]
  | cons x l => simp only [List.length_cons] at h; simp (discharger := omega) only [r_ite, r_add, r_sub, r_mul, r_quo, r_rem, r_lt, r_le, r_eq, r_bnot, r_or, r_and, r_isel, r_beq, r_band, r_bimp, r_imax, r_imin, r_call, r_gcall, r_bind, Option.bind_some, fits_ok, mfit_ok, wrap_i64, both_self, node_eta, msg_eta, entry_eta, hard_eta, decide_eq_true_eq, Bool.and_eq_true, Bool.or_eq_true, Bool.not_eq_true', decide_eq_false_iff_not, Bool.not_not, not_true_eq_false, not_false_eq_true, Bool.false_eq_true, Bool.not_false, Bool.not_true, if_true, if_false, true_and, and_true, or_false, false_or, or_true, true_or, and_false, false_and, true_implies, if_pos, if_neg, len_58, get_58, app_58, set_58, cut_58, rep_58, emp_58, len_30, get_30, app_30, set_30, cut_30, rep_30, emp_30, len_27, get_27, app_27, set_27, cut_27, rep_27, emp_27, len_i, get_i, app_i, set_i, cut_i, rep_i, emp_i, len_b, get_b, app_b, set_b, cut_b, rep_b, emp_b, List.isEmpty_cons, List.nil_append, List.length_cons]

theorem s_48 (hk : 1 ≤ k) {L : List Entry} (h : (L.length : Int) ≤ 2^42) : C n k 48 [⟨.sl (.st 58), L⟩] [.slt (.st 58)] = some (L, ()) := by
  obtain ⟨k, rfl⟩ : ∃ k1, k = k1 + 1 := ⟨k - 1, by omega⟩
  rw [C_succ, nf_48]
  simp (discharger := omega) only [r_ite, r_add, r_sub, r_mul, r_quo, r_rem, r_lt, r_le, r_eq, r_bnot, r_or, r_and, r_isel, r_beq, r_band, r_bimp, r_imax, r_imin, r_call, r_gcall, r_bind, Option.bind_some, fits_ok, mfit_ok, wrap_i64, both_self, node_eta, msg_eta, entry_eta, hard_eta, decide_eq_true_eq, Bool.and_eq_true, Bool.or_eq_true, Bool.not_eq_true', decide_eq_false_iff_not, Bool.not_not, not_true_eq_false, not_false_eq_true, Bool.false_eq_true, Bool.not_false, Bool.not_true, if_true, if_false, true_and, and_true, or_false, false_or, or_true, true_or, and_false, false_and, true_implies, if_pos, if_neg, len_58, get_58, app_58, set_58, cut_58, rep_58, emp_58, len_30, get_30, app_30, set_30, cut_30, rep_30, emp_30, len_27, get_27, app_27, set_27, cut_27, rep_27, emp_27, len_i, get_i, app_i, set_i, cut_i, rep_i, emp_i, len_b, get_b, app_b, set_b, cut_b, rep_b, emp_b, Int.toNat_natCast, List.take_length, Int.toNat_zero, List.drop_zero]

theorem s_49 (hk : 1 ≤ k) {L : List Int} (h : (L.length : Int) ≤ 2^42) : C n k 49 [⟨.sl (.int .i64), L⟩] [.sl (.int .i64)] = some (L, ()) := by
  obtain ⟨k, rfl⟩ : ∃ k1, k = k1 + 1 := ⟨k - 1, by omega⟩
  rw [C_succ, nf_49]
  cases L with
  | nil => simp (discharger := omega) only [r_ite, emp_i, List.isEmpty_nil, if_true, if_false, Bool.false_eq_true, len_i, app_i, List.nil_append, fits_ok, both_self, List.length_nil]
  | cons x l => simp only [List.length_cons] at h; simp (discharger := omega) only [r_ite, r_add, r_sub, r_mul, r_quo, r_rem, r_lt, r_le, r_eq, r_bnot, r_or, r_and, r_isel, r_beq, r_band, r_bimp, r_imax, r_imin, r_call, r_gcall, r_bind, Option.bind_some, fits_ok, mfit_ok, wrap_i64, both_self, node_eta, msg_eta, entry_eta, hard_eta, decide_eq_true_eq, Bool.and_eq_true, Bool.or_eq_true, Bool.not_eq_true', decide_eq_false_iff_not, Bool.not_not, not_true_eq_false, not_false_eq_true, Bool.false_eq_true, Bool.not_false, Bool.not_true, if_true, if_false, true_and, and_true, or_false, false_or, or_true, true_or, and_false, false_and, true_implies, if_pos, if_neg, len_58, get_58, app_58, set_58, cut_58, rep_58, emp_58, len_30, get_30, app_30, set_30, cut_30, rep_30, emp_30, len_27, get_27, app_27, set_27, cut_27, rep_27, emp_27, len_i, get_i, app_i, set_i, cut_i, rep_i, emp_i, len_b, get_b, app_b, set_b, cut_b, rep_b, emp_b, List.isEmpty_cons, List.nil_append, List.length_cons]

theorem s_70 (hk : 3 ≤ k) (h1 : 0 ≤ a.base) (h2 : a.base ≤ 2^59) (h3 : (a.log.length : Int) ≤ 2^42) : C n k 70 [⟨.st 27, a⟩] [.int .i64] = some (termAt a (last a), ()) := by
  obtain ⟨k, rfl⟩ : ∃ k1, k = k1 + 1 := ⟨k - 1, by omega⟩
  rw [C_succ, nf_70]
  have hl : last a = a.base + a.log.length := rfl
  have e50 := s_28 (n := n) (k := k) (a := a) (by omega) (by omega) (by omega) (by omega)
  have e65 := s_30 (n := n) (k := k) (a := a) (i := last a) (by omega) (by omega) (by omega) (by omega) (by omega) (by omega)
  simp (discharger := omega) only [r_ite, r_add, r_sub, r_mul, r_quo, r_rem, r_lt, r_le, r_eq, r_bnot, r_or, r_and, r_isel, r_beq, r_band, r_bimp, r_imax, r_imin, r_call, r_gcall, r_bind, Option.bind_some, fits_ok, mfit_ok, wrap_i64, both_self, node_eta, msg_eta, entry_eta, hard_eta, decide_eq_true_eq, Bool.and_eq_true, Bool.or_eq_true, Bool.not_eq_true', decide_eq_false_iff_not, Bool.not_not, not_true_eq_false, not_false_eq_true, Bool.false_eq_true, Bool.not_false, Bool.not_true, if_true, if_false, true_and, and_true, or_false, false_or, or_true, true_or, and_false, false_and, true_implies, if_pos, if_neg, len_58, get_58, app_58, set_58, cut_58, rep_58, emp_58, len_30, get_30, app_30, set_30, cut_30, rep_30, emp_30, len_27, get_27, app_27, set_27, cut_27, rep_27, emp_27, len_i, get_i, app_i, set_i, cut_i, rep_i, emp_i, len_b, get_b, app_b, set_b, cut_b, rep_b, emp_b, e50, e65]

theorem s_63 (hk : 3 ≤ k) (h : NI B a) (hB : B ≤ 2^41) {to : Int} (q0 : 0 ≤ to) (q1 : to < a.nodes) : C n k 63 [⟨.st 27, a⟩, ⟨.int .i64, to⟩] [.st 30] = some (send a to, ()) := by
  obtain ⟨k, rfl⟩ : ∃ k1, k = k1 + 1 := ⟨k - 1, by omega⟩
  rw [C_succ, nf_63]
  have q := h; obtain ⟨n1, n5, i0, i1, lv, lx, lm, t0, t1, b0, b1, c0, c1, k0, k1, ll, la, nx, mx⟩ := q
  have hl : last a = a.base + a.log.length := rfl
  obtain ⟨g0, g1⟩ := getD_bd nx (by omega) to.toNat
  have e76 := s_76 (n := n) (k := k) (L := a.next) (i := to) (by omega) q0 (by omega)
  have e65 := s_65 (n := n) (k := k) (a := a) (i := a.next.getD to.toNat 0 - 1) (by omega) (by omega) (by omega) (by omega) (by omega) (by omega)
  have e86 := s_86 (n := n) (k := k) (a := a) (i := a.next.getD to.toNat 0 - 1) (by omega) (by omega) (by omega) (by omega) (by omega) (by omega)
  have hb : ((behind a (a.next.getD to.toNat 0 - 1)).length : Int) ≤ B := by unfold behind; rw [List.length_drop]; omega
  have e87 : ∀ j, C n k 87 [⟨.sl (.st 58), (behind a (a.next.getD to.toNat 0 - 1)).take j⟩] [.sl (.st 58)] = some ((behind a (a.next.getD to.toNat 0 - 1)).take j, ()) :=
    fun j => s_87 (by omega) (by rw [List.length_take]; omega)
  have e20 : (behind a (a.next.getD to.toNat 0 - 1)).take (min ((behind a (a.next.getD to.toNat 0 - 1)).length : Int) 20).toNat = (behind a (a.next.getD to.toNat 0 - 1)).take 20 := by
    by_cases q : (behind a (a.next.getD to.toNat 0 - 1)).length ≤ 20
    · rw [List.take_of_length_le q, List.take_of_length_le (by omega)]
    · congr 1; omega
  unfold send
  by_cases q : a.next.getD to.toNat 0 - 1 < a.base
  · simp (discharger := omega) only [r_ite, r_add, r_sub, r_mul, r_quo, r_rem, r_lt, r_le, r_eq, r_bnot, r_or, r_and, r_isel, r_beq, r_band, r_bimp, r_imax, r_imin, r_call, r_gcall, r_bind, Option.bind_some, fits_ok, mfit_ok, wrap_i64, both_self, node_eta, msg_eta, entry_eta, hard_eta, decide_eq_true_eq, Bool.and_eq_true, Bool.or_eq_true, Bool.not_eq_true', decide_eq_false_iff_not, Bool.not_not, not_true_eq_false, not_false_eq_true, Bool.false_eq_true, Bool.not_false, Bool.not_true, if_true, if_false, true_and, and_true, or_false, false_or, or_true, true_or, and_false, false_and, true_implies, if_pos, if_neg, len_58, get_58, app_58, set_58, cut_58, rep_58, emp_58, len_30, get_30, app_30, set_30, cut_30, rep_30, emp_30, len_27, get_27, app_27, set_27, cut_27, rep_27, emp_27, len_i, get_i, app_i, set_i, cut_i, rep_i, emp_i, len_b, get_b, app_b, set_b, cut_b, rep_b, emp_b, e76, e65, e86, e87]
  · simp (discharger := omega) only [r_ite, r_add, r_sub, r_mul, r_quo, r_rem, r_lt, r_le, r_eq, r_bnot, r_or, r_and, r_isel, r_beq, r_band, r_bimp, r_imax, r_imin, r_call, r_gcall, r_bind, Option.bind_some, fits_ok, mfit_ok, wrap_i64, both_self, node_eta, msg_eta, entry_eta, hard_eta, decide_eq_true_eq, Bool.and_eq_true, Bool.or_eq_true, Bool.not_eq_true', decide_eq_false_iff_not, Bool.not_not, not_true_eq_false, not_false_eq_true, Bool.false_eq_true, Bool.not_false, Bool.not_true, if_true, if_false, true_and, and_true, or_false, false_or, or_true, true_or, and_false, false_and, true_implies, if_pos, if_neg, len_58, get_58, app_58, set_58, cut_58, rep_58, emp_58, len_30, get_30, app_30, set_30, cut_30, rep_30, emp_30, len_27, get_27, app_27, set_27, cut_27, rep_27, emp_27, len_i, get_i, app_i, set_i, cut_i, rep_i, emp_i, len_b, get_b, app_b, set_b, cut_b, rep_b, emp_b, e76, e65, e86, e87, e20, Int.toNat_zero, List.drop_zero]

theorem s_69 (hk : 3 ≤ k) (h : NI B a) (hB : B ≤ 2^41) {to : Int} (q0 : 0 ≤ to) (q1 : to < a.nodes) : C n k 69 [⟨.st 27, a⟩, ⟨.int .i64, to⟩] [.st 30] = some (send a to, ()) := by
  obtain ⟨k, rfl⟩ : ∃ k1, k = k1 + 1 := ⟨k - 1, by omega⟩
  rw [C_succ, nf_69]
  have q := h; obtain ⟨n1, n5, i0, i1, lv, lx, lm, t0, t1, b0, b1, c0, c1, k0, k1, ll, la, nx, mx⟩ := q
  have hl : last a = a.base + a.log.length := rfl
  obtain ⟨g0, g1⟩ := getD_bd nx (by omega) to.toNat
  have e65 := s_30 (n := n) (k := k) (a := a) (i := a.next.getD to.toNat 0 - 1) (by omega) (by omega) (by omega) (by omega) (by omega) (by omega)
  have e86 := s_62 (n := n) (k := k) (a := a) (i := a.next.getD to.toNat 0 - 1) (by omega) (by omega) (by omega) (by omega) (by omega) (by omega)
  have hb : ((behind a (a.next.getD to.toNat 0 - 1)).length : Int) ≤ B := by unfold behind; rw [List.length_drop]; omega
  have e20 : (behind a (a.next.getD to.toNat 0 - 1)).take (min ((behind a (a.next.getD to.toNat 0 - 1)).length : Int) 20).toNat = (behind a (a.next.getD to.toNat 0 - 1)).take 20 := by
    by_cases q : (behind a (a.next.getD to.toNat 0 - 1)).length ≤ 20
    · rw [List.take_of_length_le q, List.take_of_length_le (by omega)]
    · congr 1; omega
  unfold send
  by_cases q : a.next.getD to.toNat 0 - 1 < a.base
  · simp (discharger := omega) only [r_ite, r_add, r_sub, r_mul, r_quo, r_rem, r_lt, r_le, r_eq, r_bnot, r_or, r_and, r_isel, r_beq, r_band, r_bimp, r_imax, r_imin, r_call, r_gcall, r_bind, Option.bind_some, fits_ok, mfit_ok, wrap_i64, both_self, node_eta, msg_eta, entry_eta, hard_eta, decide_eq_true_eq, Bool.and_eq_true, Bool.or_eq_true, Bool.not_eq_true', decide_eq_false_iff_not, Bool.not_not, not_true_eq_false, not_false_eq_true, Bool.false_eq_true, Bool.not_false, Bool.not_true, if_true, if_false, true_and, and_true, or_false, false_or, or_true, true_or, and_false, false_and, true_implies, if_pos, if_neg, len_58, get_58, app_58, set_58, cut_58, rep_58, emp_58, len_30, get_30, app_30, set_30, cut_30, rep_30, emp_30, len_27, get_27, app_27, set_27, cut_27, rep_27, emp_27, len_i, get_i, app_i, set_i, cut_i, rep_i, emp_i, len_b, get_b, app_b, set_b, cut_b, rep_b, emp_b, e65, e86]
  · simp (discharger := omega) only [r_ite, r_add, r_sub, r_mul, r_quo, r_rem, r_lt, r_le, r_eq, r_bnot, r_or, r_and, r_isel, r_beq, r_band, r_bimp, r_imax, r_imin, r_call, r_gcall, r_bind, Option.bind_some, fits_ok, mfit_ok, wrap_i64, both_self, node_eta, msg_eta, entry_eta, hard_eta, decide_eq_true_eq, Bool.and_eq_true, Bool.or_eq_true, Bool.not_eq_true', decide_eq_false_iff_not, Bool.not_not, not_true_eq_false, not_false_eq_true, Bool.false_eq_true, Bool.not_false, Bool.not_true, if_true, if_false, true_and, and_true, or_false, false_or, or_true, true_or, and_false, false_and, true_implies, if_pos, if_neg, len_58, get_58, app_58, set_58, cut_58, rep_58, emp_58, len_30, get_30, app_30, set_30, cut_30, rep_30, emp_30, len_27, get_27, app_27, set_27, cut_27, rep_27, emp_27, len_i, get_i, app_i, set_i, cut_i, rep_i, emp_i, len_b, get_b, app_b, set_b, cut_b, rep_b, emp_b, e65, e86, e20, Int.toNat_zero, List.drop_zero]

theorem oth_step {f : Int → Msg} {id N i : Int} (h : i < N) :
    oth f id (N - i).toNat i = if i = id then oth f id (N - (i + 1)).toNat (i + 1) else f i :: oth f id (N - (i + 1)).toNat (i + 1) := by
  have e : (N - i).toNat = (N - (i + 1)).toNat + 1 := by omega
  rw [e]
  rfl

theorem oth_end {f : Int → Msg} {id N i : Int} (h : N ≤ i) : oth f id (N - i).toNat i = [] := by
  have e : (N - i).toNat = 0 := by omega
  rw [e]
  rfl

theorem s_68 (hk : 4 ≤ k) (hn : 100 ≤ n) (h : NI B a) (hB : B ≤ 2^41) : C n k 68 [⟨.st 27, a⟩] [.sl (.st 30)] = some (sends a, ()) := by
  obtain ⟨k, rfl⟩ : ∃ k1, k = k1 + 1 := ⟨k - 1, by omega⟩
  rw [C_succ, nf_68]
  have h' := h
  have q := h; obtain ⟨n1, n5, i0, i1, lv, lx, lm, t0, t1, b0, b1, c0, c1, k0, k1, ll, la, nx, mx⟩ := q
  have e66 := s_66 (n := n) (k := k) (a := a) (by omega) (by omega) (by omega)
  have e63 := fun i q0 q1 => s_63 (n := n) (k := k) (to := i) (by omega) h' hB q0 q1
  simp (discharger := omega) only [r_ite, r_add, r_sub, r_mul, r_quo, r_rem, r_lt, r_le, r_eq, r_bnot, r_or, r_and, r_isel, r_beq, r_band, r_bimp, r_imax, r_imin, r_call, r_gcall, r_bind, Option.bind_some, fits_ok, mfit_ok, wrap_i64, both_self, node_eta, msg_eta, entry_eta, hard_eta, decide_eq_true_eq, Bool.and_eq_true, Bool.or_eq_true, Bool.not_eq_true', decide_eq_false_iff_not, Bool.not_not, not_true_eq_false, not_false_eq_true, Bool.false_eq_true, Bool.not_false, Bool.not_true, if_true, if_false, true_and, and_true, or_false, false_or, or_true, true_or, and_false, false_and, true_implies, if_pos, if_neg, len_58, get_58, app_58, set_58, cut_58, rep_58, emp_58, len_30, get_30, app_30, set_30, cut_30, rep_30, emp_30, len_27, get_27, app_27, set_27, cut_27, rep_27, emp_27, len_i, get_i, app_i, set_i, cut_i, rep_i, emp_i, len_b, get_b, app_b, set_b, cut_b, rep_b, emp_b, e66, r_loop]
  refine (iter_rule' (fun x => (a.nodes - x.2.1).toNat) (fun x => 0 ≤ x.2.1 ∧ x.2.1 ≤ a.nodes ∧ (x.1.length : Int) ≤ x.2.1)
    (fun x => some (x.1 ++ oth (send a) a.id (a.nodes - x.2.1).toNat x.2.1, ())) ?_ n _ ⟨by simp only <;> omega, by simp only <;> omega, by simp⟩ (by simp only; omega)).trans ?_
  · rintro next ⟨acc, i, rest⟩ ⟨j0, j1, j2⟩ ih
    simp only at j0 j1 j2
    by_cases q3 : i < a.nodes
    · simp only [oth_step q3]
      by_cases q4 : i = a.id
      · simp (discharger := omega) only [r_ite, r_add, r_sub, r_mul, r_quo, r_rem, r_lt, r_le, r_eq, r_bnot, r_or, r_and, r_isel, r_beq, r_band, r_bimp, r_imax, r_imin, r_call, r_gcall, r_bind, Option.bind_some, fits_ok, mfit_ok, wrap_i64, both_self, node_eta, msg_eta, entry_eta, hard_eta, decide_eq_true_eq, Bool.and_eq_true, Bool.or_eq_true, Bool.not_eq_true', decide_eq_false_iff_not, Bool.not_not, not_true_eq_false, not_false_eq_true, Bool.false_eq_true, Bool.not_false, Bool.not_true, if_true, if_false, true_and, and_true, or_false, false_or, or_true, true_or, and_false, false_and, true_implies, if_pos, if_neg, len_58, get_58, app_58, set_58, cut_58, rep_58, emp_58, len_30, get_30, app_30, set_30, cut_30, rep_30, emp_30, len_27, get_27, app_27, set_27, cut_27, rep_27, emp_27, len_i, get_i, app_i, set_i, cut_i, rep_i, emp_i, len_b, get_b, app_b, set_b, cut_b, rep_b, emp_b]
        rw [ih _ ⟨by simp only; omega, by simp only; omega, by simp only; omega⟩ (by simp only; omega)]
      · simp (discharger := omega) only [r_ite, r_add, r_sub, r_mul, r_quo, r_rem, r_lt, r_le, r_eq, r_bnot, r_or, r_and, r_isel, r_beq, r_band, r_bimp, r_imax, r_imin, r_call, r_gcall, r_bind, Option.bind_some, fits_ok, mfit_ok, wrap_i64, both_self, node_eta, msg_eta, entry_eta, hard_eta, decide_eq_true_eq, Bool.and_eq_true, Bool.or_eq_true, Bool.not_eq_true', decide_eq_false_iff_not, Bool.not_not, not_true_eq_false, not_false_eq_true, Bool.false_eq_true, Bool.not_false, Bool.not_true, if_true, if_false, true_and, and_true, or_false, false_or, or_true, true_or, and_false, false_and, true_implies, if_pos, if_neg, len_58, get_58, app_58, set_58, cut_58, rep_58, emp_58, len_30, get_30, app_30, set_30, cut_30, rep_30, emp_30, len_27, get_27, app_27, set_27, cut_27, rep_27, emp_27, len_i, get_i, app_i, set_i, cut_i, rep_i, emp_i, len_b, get_b, app_b, set_b, cut_b, rep_b, emp_b, e63 i j0 q3, List.length_singleton]
        rw [ih _ ⟨by simp only; omega, by simp only; omega, by simp only [List.length_append, List.length_singleton]; omega⟩ (by simp only; omega)]
        simp only [List.append_assoc, List.singleton_append]
    · simp only [oth_end (show a.nodes ≤ i by omega), List.append_nil]
      simp (discharger := omega) only [r_ite, r_add, r_sub, r_mul, r_quo, r_rem, r_lt, r_le, r_eq, r_bnot, r_or, r_and, r_isel, r_beq, r_band, r_bimp, r_imax, r_imin, r_call, r_gcall, r_bind, Option.bind_some, fits_ok, mfit_ok, wrap_i64, both_self, node_eta, msg_eta, entry_eta, hard_eta, decide_eq_true_eq, Bool.and_eq_true, Bool.or_eq_true, Bool.not_eq_true', decide_eq_false_iff_not, Bool.not_not, not_true_eq_false, not_false_eq_true, Bool.false_eq_true, Bool.not_false, Bool.not_true, if_true, if_false, true_and, and_true, or_false, false_or, or_true, true_or, and_false, false_and, true_implies, if_pos, if_neg, len_58, get_58, app_58, set_58, cut_58, rep_58, emp_58, len_30, get_30, app_30, set_30, cut_30, rep_30, emp_30, len_27, get_27, app_27, set_27, cut_27, rep_27, emp_27, len_i, get_i, app_i, set_i, cut_i, rep_i, emp_i, len_b, get_b, app_b, set_b, cut_b, rep_b, emp_b]
  · unfold sends; simp only [List.nil_append, Int.sub_zero]

theorem s_36 (hk : 4 ≤ k) (hn : 100 ≤ n) (h : NI B a) (hB : B ≤ 2^41) : C n k 36 [⟨.st 27, a⟩] [.sl (.st 30)] = some (sends a, ()) := by
  obtain ⟨k, rfl⟩ : ∃ k1, k = k1 + 1 := ⟨k - 1, by omega⟩
  rw [C_succ, nf_36]
  have h' := h
  have q := h; obtain ⟨n1, n5, i0, i1, lv, lx, lm, t0, t1, b0, b1, c0, c1, k0, k1, ll, la, nx, mx⟩ := q
  have e63 := fun i q0 q1 => s_69 (n := n) (k := k) (to := i) (by omega) h' hB q0 q1
  simp (discharger := omega) only [r_ite, r_add, r_sub, r_mul, r_quo, r_rem, r_lt, r_le, r_eq, r_bnot, r_or, r_and, r_isel, r_beq, r_band, r_bimp, r_imax, r_imin, r_call, r_gcall, r_bind, Option.bind_some, fits_ok, mfit_ok, wrap_i64, both_self, node_eta, msg_eta, entry_eta, hard_eta, decide_eq_true_eq, Bool.and_eq_true, Bool.or_eq_true, Bool.not_eq_true', decide_eq_false_iff_not, Bool.not_not, not_true_eq_false, not_false_eq_true, Bool.false_eq_true, Bool.not_false, Bool.not_true, if_true, if_false, true_and, and_true, or_false, false_or, or_true, true_or, and_false, false_and, true_implies, if_pos, if_neg, len_58, get_58, app_58, set_58, cut_58, rep_58, emp_58, len_30, get_30, app_30, set_30, cut_30, rep_30, emp_30, len_27, get_27, app_27, set_27, cut_27, rep_27, emp_27, len_i, get_i, app_i, set_i, cut_i, rep_i, emp_i, len_b, get_b, app_b, set_b, cut_b, rep_b, emp_b, r_loop]
  refine (iter_rule' (fun x => (a.nodes - x.2.1).toNat) (fun x => 0 ≤ x.2.1 ∧ x.2.1 ≤ a.nodes ∧ (x.1.length : Int) ≤ x.2.1)
    (fun x => some (x.1 ++ oth (send a) a.id (a.nodes - x.2.1).toNat x.2.1, ())) ?_ n _ ⟨by simp only <;> omega, by simp only <;> omega, by simp⟩ (by simp only; omega)).trans ?_
  · rintro next ⟨acc, i, rest⟩ ⟨j0, j1, j2⟩ ih
    simp only at j0 j1 j2
    by_cases q3 : i < a.nodes
    · simp only [oth_step q3]
      by_cases q4 : i = a.id
      · simp (discharger := omega) only [r_ite, r_add, r_sub, r_mul, r_quo, r_rem, r_lt, r_le, r_eq, r_bnot, r_or, r_and, r_isel, r_beq, r_band, r_bimp, r_imax, r_imin, r_call, r_gcall, r_bind, Option.bind_some, fits_ok, mfit_ok, wrap_i64, both_self, node_eta, msg_eta, entry_eta, hard_eta, decide_eq_true_eq, Bool.and_eq_true, Bool.or_eq_true, Bool.not_eq_true', decide_eq_false_iff_not, Bool.not_not, not_true_eq_false, not_false_eq_true, Bool.false_eq_true, Bool.not_false, Bool.not_true, if_true, if_false, true_and, and_true, or_false, false_or, or_true, true_or, and_false, false_and, true_implies, if_pos, if_neg, len_58, get_58, app_58, set_58, cut_58, rep_58, emp_58, len_30, get_30, app_30, set_30, cut_30, rep_30, emp_30, len_27, get_27, app_27, set_27, cut_27, rep_27, emp_27, len_i, get_i, app_i, set_i, cut_i, rep_i, emp_i, len_b, get_b, app_b, set_b, cut_b, rep_b, emp_b]
        rw [ih _ ⟨by simp only; omega, by simp only; omega, by simp only; omega⟩ (by simp only; omega)]
      · simp (discharger := omega) only [r_ite, r_add, r_sub, r_mul, r_quo, r_rem, r_lt, r_le, r_eq, r_bnot, r_or, r_and, r_isel, r_beq, r_band, r_bimp, r_imax, r_imin, r_call, r_gcall, r_bind, Option.bind_some, fits_ok, mfit_ok, wrap_i64, both_self, node_eta, msg_eta, entry_eta, hard_eta, decide_eq_true_eq, Bool.and_eq_true, Bool.or_eq_true, Bool.not_eq_true', decide_eq_false_iff_not, Bool.not_not, not_true_eq_false, not_false_eq_true, Bool.false_eq_true, Bool.not_false, Bool.not_true, if_true, if_false, true_and, and_true, or_false, false_or, or_true, true_or, and_false, false_and, true_implies, if_pos, if_neg, len_58, get_58, app_58, set_58, cut_58, rep_58, emp_58, len_30, get_30, app_30, set_30, cut_30, rep_30, emp_30, len_27, get_27, app_27, set_27, cut_27, rep_27, emp_27, len_i, get_i, app_i, set_i, cut_i, rep_i, emp_i, len_b, get_b, app_b, set_b, cut_b, rep_b, emp_b, e63 i j0 q3, List.length_singleton]
        rw [ih _ ⟨by simp only; omega, by simp only; omega, by simp only [List.length_append, List.length_singleton]; omega⟩ (by simp only; omega)]
        simp only [List.append_assoc, List.singleton_append]
    · simp only [oth_end (show a.nodes ≤ i by omega), List.append_nil]
      simp (discharger := omega) only [r_ite, r_add, r_sub, r_mul, r_quo, r_rem, r_lt, r_le, r_eq, r_bnot, r_or, r_and, r_isel, r_beq, r_band, r_bimp, r_imax, r_imin, r_call, r_gcall, r_bind, Option.bind_some, fits_ok, mfit_ok, wrap_i64, both_self, node_eta, msg_eta, entry_eta, hard_eta, decide_eq_true_eq, Bool.and_eq_true, Bool.or_eq_true, Bool.not_eq_true', decide_eq_false_iff_not, Bool.not_not, not_true_eq_false, not_false_eq_true, Bool.false_eq_true, Bool.not_false, Bool.not_true, if_true, if_false, true_and, and_true, or_false, false_or, or_true, true_or, and_false, false_and, true_implies, if_pos, if_neg, len_58, get_58, app_58, set_58, cut_58, rep_58, emp_58, len_30, get_30, app_30, set_30, cut_30, rep_30, emp_30, len_27, get_27, app_27, set_27, cut_27, rep_27, emp_27, len_i, get_i, app_i, set_i, cut_i, rep_i, emp_i, len_b, get_b, app_b, set_b, cut_b, rep_b, emp_b]
  · unfold sends; simp only [List.nil_append, Int.sub_zero]

theorem s_32 (hk : 4 ≤ k) (hn : 100 ≤ n) (h : NI B a) (hB : B ≤ 2^41) : C n k 32 [⟨.st 27, a⟩] [.sl (.st 30)] = some (sends a, ()) := by
  obtain ⟨k, rfl⟩ : ∃ k1, k = k1 + 1 := ⟨k - 1, by omega⟩
  rw [C_succ, nf_32]
  have h' := h
  have q := h; obtain ⟨n1, n5, i0, i1, lv, lx, lm, t0, t1, b0, b1, c0, c1, k0, k1, ll, la, nx, mx⟩ := q
  have e63 := fun i q0 q1 => s_63 (n := n) (k := k) (to := i) (by omega) h' hB q0 q1
  have e5 : max 0 (min a.nodes 5) = a.nodes := by omega
  simp (discharger := omega) only [r_ite, r_add, r_sub, r_mul, r_quo, r_rem, r_lt, r_le, r_eq, r_bnot, r_or, r_and, r_isel, r_beq, r_band, r_bimp, r_imax, r_imin, r_call, r_gcall, r_bind, Option.bind_some, fits_ok, mfit_ok, wrap_i64, both_self, node_eta, msg_eta, entry_eta, hard_eta, decide_eq_true_eq, Bool.and_eq_true, Bool.or_eq_true, Bool.not_eq_true', decide_eq_false_iff_not, Bool.not_not, not_true_eq_false, not_false_eq_true, Bool.false_eq_true, Bool.not_false, Bool.not_true, if_true, if_false, true_and, and_true, or_false, false_or, or_true, true_or, and_false, false_and, true_implies, if_pos, if_neg, len_58, get_58, app_58, set_58, cut_58, rep_58, emp_58, len_30, get_30, app_30, set_30, cut_30, rep_30, emp_30, len_27, get_27, app_27, set_27, cut_27, rep_27, emp_27, len_i, get_i, app_i, set_i, cut_i, rep_i, emp_i, len_b, get_b, app_b, set_b, cut_b, rep_b, emp_b, r_loop, e5]
  refine (iter_rule' (fun x => (a.nodes - x.2.1).toNat) (fun x => 0 ≤ x.2.1 ∧ x.2.1 ≤ a.nodes ∧ (x.1.length : Int) ≤ x.2.1)
    (fun x => some (x.1 ++ oth (send a) a.id (a.nodes - x.2.1).toNat x.2.1, ())) ?_ n _ ⟨by simp only <;> omega, by simp only <;> omega, by simp⟩ (by simp only; omega)).trans ?_
  · rintro next ⟨acc, i, rest⟩ ⟨j0, j1, j2⟩ ih
    simp only at j0 j1 j2
    by_cases q3 : i < a.nodes
    · simp only [oth_step q3]
      by_cases q4 : i = a.id
      · simp (discharger := omega) only [r_ite, r_add, r_sub, r_mul, r_quo, r_rem, r_lt, r_le, r_eq, r_bnot, r_or, r_and, r_isel, r_beq, r_band, r_bimp, r_imax, r_imin, r_call, r_gcall, r_bind, Option.bind_some, fits_ok, mfit_ok, wrap_i64, both_self, node_eta, msg_eta, entry_eta, hard_eta, decide_eq_true_eq, Bool.and_eq_true, Bool.or_eq_true, Bool.not_eq_true', decide_eq_false_iff_not, Bool.not_not, not_true_eq_false, not_false_eq_true, Bool.false_eq_true, Bool.not_false, Bool.not_true, if_true, if_false, true_and, and_true, or_false, false_or, or_true, true_or, and_false, false_and, true_implies, if_pos, if_neg, len_58, get_58, app_58, set_58, cut_58, rep_58, emp_58, len_30, get_30, app_30, set_30, cut_30, rep_30, emp_30, len_27, get_27, app_27, set_27, cut_27, rep_27, emp_27, len_i, get_i, app_i, set_i, cut_i, rep_i, emp_i, len_b, get_b, app_b, set_b, cut_b, rep_b, emp_b]
        rw [ih _ ⟨by simp only; omega, by simp only; omega, by simp only; omega⟩ (by simp only; omega)]
      · simp (discharger := omega) only [r_ite, r_add, r_sub, r_mul, r_quo, r_rem, r_lt, r_le, r_eq, r_bnot, r_or, r_and, r_isel, r_beq, r_band, r_bimp, r_imax, r_imin, r_call, r_gcall, r_bind, Option.bind_some, fits_ok, mfit_ok, wrap_i64, both_self, node_eta, msg_eta, entry_eta, hard_eta, decide_eq_true_eq, Bool.and_eq_true, Bool.or_eq_true, Bool.not_eq_true', decide_eq_false_iff_not, Bool.not_not, not_true_eq_false, not_false_eq_true, Bool.false_eq_true, Bool.not_false, Bool.not_true, if_true, if_false, true_and, and_true, or_false, false_or, or_true, true_or, and_false, false_and, true_implies, if_pos, if_neg, len_58, get_58, app_58, set_58, cut_58, rep_58, emp_58, len_30, get_30, app_30, set_30, cut_30, rep_30, emp_30, len_27, get_27, app_27, set_27, cut_27, rep_27, emp_27, len_i, get_i, app_i, set_i, cut_i, rep_i, emp_i, len_b, get_b, app_b, set_b, cut_b, rep_b, emp_b, e63 i j0 q3, List.length_singleton]
        rw [ih _ ⟨by simp only; omega, by simp only; omega, by simp only [List.length_append, List.length_singleton]; omega⟩ (by simp only; omega)]
        simp only [List.append_assoc, List.singleton_append]
    · simp only [oth_end (show a.nodes ≤ i by omega), List.append_nil]
      simp (discharger := omega) only [r_ite, r_add, r_sub, r_mul, r_quo, r_rem, r_lt, r_le, r_eq, r_bnot, r_or, r_and, r_isel, r_beq, r_band, r_bimp, r_imax, r_imin, r_call, r_gcall, r_bind, Option.bind_some, fits_ok, mfit_ok, wrap_i64, both_self, node_eta, msg_eta, entry_eta, hard_eta, decide_eq_true_eq, Bool.and_eq_true, Bool.or_eq_true, Bool.not_eq_true', decide_eq_false_iff_not, Bool.not_not, not_true_eq_false, not_false_eq_true, Bool.false_eq_true, Bool.not_false, Bool.not_true, if_true, if_false, true_and, and_true, or_false, false_or, or_true, true_or, and_false, false_and, true_implies, if_pos, if_neg, len_58, get_58, app_58, set_58, cut_58, rep_58, emp_58, len_30, get_30, app_30, set_30, cut_30, rep_30, emp_30, len_27, get_27, app_27, set_27, cut_27, rep_27, emp_27, len_i, get_i, app_i, set_i, cut_i, rep_i, emp_i, len_b, get_b, app_b, set_b, cut_b, rep_b, emp_b]
  · unfold sends; simp only [List.nil_append, Int.sub_zero]

end
end Go.Proofs.Ytinfpahllbhomaa

namespace Go.Proofs.Ytinfpahllbhomaa
open Go.Ab
set_option linter.unusedSimpArgs false
set_option linter.unusedVariables false
set_option maxHeartbeats 2000000
noncomputable section
variable {n k : Nat} {B : Int} {a : Node}

theorem NI.le {B' : Int} (h : NI B a) (hB : B ≤ B') : NI B' a := by
  have q := h; obtain ⟨n1, n5, i0, i1, lv, lx, lm, t0, t1, b0, b1, c0, c1, k0, k1, ll, la, nx, mx⟩ := q
  exact ⟨n1, n5, i0, i1, lv, lx, lm, t0, by omega, b0, by omega, c0, by omega, k0, by omega, by omega, by omega, fun x hx => ⟨(nx x hx).1, by have := (nx x hx).2; omega⟩, fun x hx => ⟨(mx x hx).1, by have := (mx x hx).2; omega⟩⟩

theorem set_bd {L : List Int} {B v : Int} {j : Nat} (h : ∀ x ∈ L, 0 ≤ x ∧ x ≤ B) (h0 : 0 ≤ v) (h1 : v ≤ B) : ∀ x ∈ L.set j v, 0 ≤ x ∧ x ≤ B := by
  intro x hx
  rcases List.mem_or_eq_of_mem_set hx with q | q
  · exact h x q
  · subst q; exact ⟨h0, h1⟩

theorem rep_bd {m : Nat} {B v : Int} (h0 : 0 ≤ v) (h1 : v ≤ B) : ∀ x ∈ List.replicate m v, 0 ≤ x ∧ x ≤ B := by
  intro x hx
  rw [List.eq_of_mem_replicate hx]
  exact ⟨h0, h1⟩

theorem NI.down {t : Int} (h : NI B a) (ht : t ≤ B) : NI B (down a t) := by
  have h' := h
  have q := h; obtain ⟨n1, n5, i0, i1, lv, lx, lm, t0, t1, b0, b1, c0, c1, k0, k1, ll, la, nx, mx⟩ := q
  unfold Ytinfpahllbhomaa.down
  split
  · exact ⟨n1, n5, i0, i1, by simp only [List.length_replicate]; omega, lx, lm, by simp only; omega, ht, b0, b1, c0, c1, k0, k1, ll, la, nx, mx⟩
  · exact h'

theorem NI.start (h : NI B a) : NI (B + 1) (start a) := by
  have q := h; obtain ⟨n1, n5, i0, i1, lv, lx, lm, t0, t1, b0, b1, c0, c1, k0, k1, ll, la, nx, mx⟩ := q
  unfold Ytinfpahllbhomaa.start
  exact ⟨n1, n5, i0, i1, by simp only [List.length_replicate, List.length_set]; omega, lx, lm, by simp only; omega, by simp only; omega, b0, by simp only; omega, c0, by simp only; omega, by simp only <;> omega, by simp only; omega, by simp only; omega, by simp only; omega,
    fun x hx => ⟨(nx x hx).1, by have := (nx x hx).2; omega⟩, fun x hx => ⟨(mx x hx).1, by have := (mx x hx).2; omega⟩⟩

theorem s_64 (hk : 1 ≤ k) (h1 : 1 ≤ a.nodes) (h5 : a.nodes ≤ 5) (i0 : 0 ≤ a.id) (i1 : a.id < a.nodes) :
    C n k 64 [⟨.st 27, a⟩] [.st 27] = some ({ a with votes := (List.replicate a.nodes.toNat false).set a.id.toNat true }, ()) := by
  obtain ⟨k, rfl⟩ : ∃ k1, k = k1 + 1 := ⟨k - 1, by omega⟩
  rw [C_succ, nf_64]
  have e5 : max 0 (min a.nodes 5) = a.nodes := by omega
  simp (discharger := omega) only [r_ite, r_add, r_sub, r_mul, r_quo, r_rem, r_lt, r_le, r_eq, r_bnot, r_or, r_and, r_isel, r_beq, r_band, r_bimp, r_imax, r_imin, r_call, r_gcall, r_bind, Option.bind_some, fits_ok, mfit_ok, wrap_i64, both_self, node_eta, msg_eta, entry_eta, hard_eta, decide_eq_true_eq, Bool.and_eq_true, Bool.or_eq_true, Bool.not_eq_true', decide_eq_false_iff_not, Bool.not_not, not_true_eq_false, not_false_eq_true, Bool.false_eq_true, Bool.true_eq_false, Bool.not_false, Bool.not_true, if_true, if_false, true_and, and_true, or_false, false_or, or_true, true_or, and_false, false_and, true_implies, if_pos, if_neg, len_58, get_58, app_58, set_58, cut_58, rep_58, emp_58, len_30, get_30, app_30, set_30, cut_30, rep_30, emp_30, len_27, get_27, app_27, set_27, cut_27, rep_27, emp_27, len_i, get_i, app_i, set_i, cut_i, rep_i, emp_i, len_b, get_b, app_b, set_b, cut_b, rep_b, emp_b, e5, List.length_replicate]

theorem s_33 (hk : 3 ≤ k) (hn : 100 ≤ n) (h : NI B a) (hB : B ≤ 2^41) : C n k 33 [⟨.st 27, a⟩] [.st 27, .sl (.st 30)] = some (start a, (startMsgs a, ())) := by
  obtain ⟨k, rfl⟩ : ∃ k1, k = k1 + 1 := ⟨k - 1, by omega⟩
  rw [C_succ, nf_33]
  have q := h; obtain ⟨n1, n5, i0, i1, lv, lx, lm, t0, t1, b0, b1, c0, c1, k0, k1, ll, la, nx, mx⟩ := q
  have hl : last a = a.base + a.log.length := rfl
  have e64 : C n k 64 [⟨.st 27, (⟨a.id, a.nodes, a.term + 1, a.id, a.base, a.baseTerm, a.snap, a.log, 1, -1, a.commit, a.votes, a.next, a.match, 0⟩ : Node)⟩] [.st 27] = some (start a, ()) :=
    s_64 (a := (⟨a.id, a.nodes, a.term + 1, a.id, a.base, a.baseTerm, a.snap, a.log, 1, -1, a.commit, a.votes, a.next, a.match, 0⟩ : Node)) (by omega) n1 n5 i0 i1
  have e50 : C n k 50 [⟨.st 27, start a⟩] [.int .i64] = some (last a, ()) := s_50 (a := start a) (by omega) (by show _ ≤ a.base; omega) (by show a.base ≤ _; omega) (by show (a.log.length : Int) ≤ _; omega)
  have e65 : C n k 65 [⟨.st 27, start a⟩, ⟨.int .i64, last a⟩] [.int .i64, .bool] = some (termAt a (last a), (termOk a (last a), ())) :=
    s_65 (a := start a) (i := last a) (by omega) (by show 0 ≤ a.base; omega) (by show a.base ≤ _; omega) (by show (a.log.length : Int) ≤ _; omega) (by omega) (by omega)
  have v1 : ((start a).votes.length : Int) = a.nodes := by unfold start; simp only [List.length_set, List.length_replicate]; omega
  have v2 : (start a).id = a.id := rfl
  have v3 : (start a).term = a.term + 1 := rfl
  simp (discharger := omega) only [r_ite, r_add, r_sub, r_mul, r_quo, r_rem, r_lt, r_le, r_eq, r_bnot, r_or, r_and, r_isel, r_beq, r_band, r_bimp, r_imax, r_imin, r_call, r_gcall, r_bind, Option.bind_some, fits_ok, mfit_ok, wrap_i64, both_self, node_eta, msg_eta, entry_eta, hard_eta, decide_eq_true_eq, Bool.and_eq_true, Bool.or_eq_true, Bool.not_eq_true', decide_eq_false_iff_not, Bool.not_not, not_true_eq_false, not_false_eq_true, Bool.false_eq_true, Bool.true_eq_false, Bool.not_false, Bool.not_true, if_true, if_false, true_and, and_true, or_false, false_or, or_true, true_or, and_false, false_and, true_implies, if_pos, if_neg, len_58, get_58, app_58, set_58, cut_58, rep_58, emp_58, len_30, get_30, app_30, set_30, cut_30, rep_30, emp_30, len_27, get_27, app_27, set_27, cut_27, rep_27, emp_27, len_i, get_i, app_i, set_i, cut_i, rep_i, emp_i, len_b, get_b, app_b, set_b, cut_b, rep_b, emp_b, e64, e50, e65, r_loop]
  refine (iter_rule' (fun x => (a.nodes - x.2.1).toNat) (fun x => 0 ≤ x.2.1 ∧ x.2.1 ≤ a.nodes ∧ (x.1.length : Int) ≤ x.2.1)
    (fun x => some (start a, (x.1 ++ oth (fun i => ⟨1, a.id, i, a.term + 1, last a, termAt a (last a), false, 0, [], ⟨#[]⟩⟩) a.id (a.nodes - x.2.1).toNat x.2.1, ()))) ?_ n _ ⟨by simp only <;> omega, by simp only <;> omega, by simp⟩ (by simp only; omega)).trans ?_
  · rintro next ⟨acc, i, rest⟩ ⟨j0, j1, j2⟩ ih
    simp only at j0 j1 j2
    by_cases q3 : i < a.nodes
    · simp only [oth_step q3]
      by_cases q4 : i = a.id
      · simp (discharger := omega) only [r_ite, r_add, r_sub, r_mul, r_quo, r_rem, r_lt, r_le, r_eq, r_bnot, r_or, r_and, r_isel, r_beq, r_band, r_bimp, r_imax, r_imin, r_call, r_gcall, r_bind, Option.bind_some, fits_ok, mfit_ok, wrap_i64, both_self, node_eta, msg_eta, entry_eta, hard_eta, decide_eq_true_eq, Bool.and_eq_true, Bool.or_eq_true, Bool.not_eq_true', decide_eq_false_iff_not, Bool.not_not, not_true_eq_false, not_false_eq_true, Bool.false_eq_true, Bool.true_eq_false, Bool.not_false, Bool.not_true, if_true, if_false, true_and, and_true, or_false, false_or, or_true, true_or, and_false, false_and, true_implies, if_pos, if_neg, len_58, get_58, app_58, set_58, cut_58, rep_58, emp_58, len_30, get_30, app_30, set_30, cut_30, rep_30, emp_30, len_27, get_27, app_27, set_27, cut_27, rep_27, emp_27, len_i, get_i, app_i, set_i, cut_i, rep_i, emp_i, len_b, get_b, app_b, set_b, cut_b, rep_b, emp_b, v1, v2, v3]
        rw [ih _ ⟨by simp only; omega, by simp only; omega, by simp only; omega⟩ (by simp only; omega)]
      · simp (discharger := omega) only [r_ite, r_add, r_sub, r_mul, r_quo, r_rem, r_lt, r_le, r_eq, r_bnot, r_or, r_and, r_isel, r_beq, r_band, r_bimp, r_imax, r_imin, r_call, r_gcall, r_bind, Option.bind_some, fits_ok, mfit_ok, wrap_i64, both_self, node_eta, msg_eta, entry_eta, hard_eta, decide_eq_true_eq, Bool.and_eq_true, Bool.or_eq_true, Bool.not_eq_true', decide_eq_false_iff_not, Bool.not_not, not_true_eq_false, not_false_eq_true, Bool.false_eq_true, Bool.true_eq_false, Bool.not_false, Bool.not_true, if_true, if_false, true_and, and_true, or_false, false_or, or_true, true_or, and_false, false_and, true_implies, if_pos, if_neg, len_58, get_58, app_58, set_58, cut_58, rep_58, emp_58, len_30, get_30, app_30, set_30, cut_30, rep_30, emp_30, len_27, get_27, app_27, set_27, cut_27, rep_27, emp_27, len_i, get_i, app_i, set_i, cut_i, rep_i, emp_i, len_b, get_b, app_b, set_b, cut_b, rep_b, emp_b, v1, v2, v3, List.length_singleton]
        rw [ih _ ⟨by simp only; omega, by simp only; omega, by simp only [List.length_append, List.length_singleton]; omega⟩ (by simp only; omega)]
        simp only [List.append_assoc, List.singleton_append]
    · simp only [oth_end (show a.nodes ≤ i by omega), List.append_nil]
      simp (discharger := omega) only [r_ite, r_add, r_sub, r_mul, r_quo, r_rem, r_lt, r_le, r_eq, r_bnot, r_or, r_and, r_isel, r_beq, r_band, r_bimp, r_imax, r_imin, r_call, r_gcall, r_bind, Option.bind_some, fits_ok, mfit_ok, wrap_i64, both_self, node_eta, msg_eta, entry_eta, hard_eta, decide_eq_true_eq, Bool.and_eq_true, Bool.or_eq_true, Bool.not_eq_true', decide_eq_false_iff_not, Bool.not_not, not_true_eq_false, not_false_eq_true, Bool.false_eq_true, Bool.true_eq_false, Bool.not_false, Bool.not_true, if_true, if_false, true_and, and_true, or_false, false_or, or_true, true_or, and_false, false_and, true_implies, if_pos, if_neg, len_58, get_58, app_58, set_58, cut_58, rep_58, emp_58, len_30, get_30, app_30, set_30, cut_30, rep_30, emp_30, len_27, get_27, app_27, set_27, cut_27, rep_27, emp_27, len_i, get_i, app_i, set_i, cut_i, rep_i, emp_i, len_b, get_b, app_b, set_b, cut_b, rep_b, emp_b, v1]
  · unfold startMsgs; simp only [List.nil_append, Int.sub_zero]

theorem s_37 (hk : 4 ≤ k) (hn : 100 ≤ n) (h : NI B a) (hB : B ≤ 2^41) : C n k 37 [⟨.st 27, a⟩] [.st 27, .sl (.st 30)] = some (start a, (startMsgs a, ())) := by
  obtain ⟨k, rfl⟩ : ∃ k1, k = k1 + 1 := ⟨k - 1, by omega⟩
  rw [C_succ, nf_37]
  have q := h; obtain ⟨n1, n5, i0, i1, lv, lx, lm, t0, t1, b0, b1, c0, c1, k0, k1, ll, la, nx, mx⟩ := q
  have hl : last a = a.base + a.log.length := rfl
  have e28 : C n k 28 [⟨.st 27, (⟨a.id, a.nodes, a.term + 1, a.id, a.base, a.baseTerm, a.snap, a.log, 1, -1, a.commit, (List.replicate a.nodes.toNat false).set a.id.toNat true, a.next, a.match, 0⟩ : Node)⟩] [.int .i64] = some (last a, ()) :=
    s_28 (a := start a) (by omega) (by show _ ≤ a.base; omega) (by show a.base ≤ _; omega) (by show (a.log.length : Int) ≤ _; omega)
  have e70 : C n k 70 [⟨.st 27, (⟨a.id, a.nodes, a.term + 1, a.id, a.base, a.baseTerm, a.snap, a.log, 1, -1, a.commit, (List.replicate a.nodes.toNat false).set a.id.toNat true, a.next, a.match, 0⟩ : Node)⟩] [.int .i64] = some (termAt a (last a), ()) :=
    s_70 (a := start a) (by omega) (by show 0 ≤ a.base; omega) (by show a.base ≤ _; omega) (by show (a.log.length : Int) ≤ _; omega)
  simp (discharger := omega) only [r_ite, r_add, r_sub, r_mul, r_quo, r_rem, r_lt, r_le, r_eq, r_bnot, r_or, r_and, r_isel, r_beq, r_band, r_bimp, r_imax, r_imin, r_call, r_gcall, r_bind, Option.bind_some, fits_ok, mfit_ok, wrap_i64, both_self, node_eta, msg_eta, entry_eta, hard_eta, decide_eq_true_eq, Bool.and_eq_true, Bool.or_eq_true, Bool.not_eq_true', decide_eq_false_iff_not, Bool.not_not, not_true_eq_false, not_false_eq_true, Bool.false_eq_true, Bool.true_eq_false, Bool.not_false, Bool.not_true, if_true, if_false, true_and, and_true, or_false, false_or, or_true, true_or, and_false, false_and, true_implies, if_pos, if_neg, len_58, get_58, app_58, set_58, cut_58, rep_58, emp_58, len_30, get_30, app_30, set_30, cut_30, rep_30, emp_30, len_27, get_27, app_27, set_27, cut_27, rep_27, emp_27, len_i, get_i, app_i, set_i, cut_i, rep_i, emp_i, len_b, get_b, app_b, set_b, cut_b, rep_b, emp_b, List.length_replicate, r_loop]
  refine (iter_rule' (fun x => (a.nodes - x.2.1).toNat) (fun x => 0 ≤ x.2.1 ∧ x.2.1 ≤ a.nodes ∧ (x.1.length : Int) ≤ x.2.1)
    (fun x => some (start a, (x.1 ++ oth (fun i => ⟨1, a.id, i, a.term + 1, last a, termAt a (last a), false, 0, [], ⟨#[]⟩⟩) a.id (a.nodes - x.2.1).toNat x.2.1, ()))) ?_ n _ ⟨by simp only <;> omega, by simp only <;> omega, by simp⟩ (by simp only; omega)).trans ?_
  · rintro next ⟨acc, i, rest⟩ ⟨j0, j1, j2⟩ ih
    simp only at j0 j1 j2
    by_cases q3 : i < a.nodes
    · simp only [oth_step q3]
      by_cases q4 : i = a.id
      · simp (discharger := omega) only [r_ite, r_add, r_sub, r_mul, r_quo, r_rem, r_lt, r_le, r_eq, r_bnot, r_or, r_and, r_isel, r_beq, r_band, r_bimp, r_imax, r_imin, r_call, r_gcall, r_bind, Option.bind_some, fits_ok, mfit_ok, wrap_i64, both_self, node_eta, msg_eta, entry_eta, hard_eta, decide_eq_true_eq, Bool.and_eq_true, Bool.or_eq_true, Bool.not_eq_true', decide_eq_false_iff_not, Bool.not_not, not_true_eq_false, not_false_eq_true, Bool.false_eq_true, Bool.true_eq_false, Bool.not_false, Bool.not_true, if_true, if_false, true_and, and_true, or_false, false_or, or_true, true_or, and_false, false_and, true_implies, if_pos, if_neg, len_58, get_58, app_58, set_58, cut_58, rep_58, emp_58, len_30, get_30, app_30, set_30, cut_30, rep_30, emp_30, len_27, get_27, app_27, set_27, cut_27, rep_27, emp_27, len_i, get_i, app_i, set_i, cut_i, rep_i, emp_i, len_b, get_b, app_b, set_b, cut_b, rep_b, emp_b]
        rw [ih _ ⟨by simp only; omega, by simp only; omega, by simp only; omega⟩ (by simp only; omega)]
      · simp (discharger := omega) only [r_ite, r_add, r_sub, r_mul, r_quo, r_rem, r_lt, r_le, r_eq, r_bnot, r_or, r_and, r_isel, r_beq, r_band, r_bimp, r_imax, r_imin, r_call, r_gcall, r_bind, Option.bind_some, fits_ok, mfit_ok, wrap_i64, both_self, node_eta, msg_eta, entry_eta, hard_eta, decide_eq_true_eq, Bool.and_eq_true, Bool.or_eq_true, Bool.not_eq_true', decide_eq_false_iff_not, Bool.not_not, not_true_eq_false, not_false_eq_true, Bool.false_eq_true, Bool.true_eq_false, Bool.not_false, Bool.not_true, if_true, if_false, true_and, and_true, or_false, false_or, or_true, true_or, and_false, false_and, true_implies, if_pos, if_neg, len_58, get_58, app_58, set_58, cut_58, rep_58, emp_58, len_30, get_30, app_30, set_30, cut_30, rep_30, emp_30, len_27, get_27, app_27, set_27, cut_27, rep_27, emp_27, len_i, get_i, app_i, set_i, cut_i, rep_i, emp_i, len_b, get_b, app_b, set_b, cut_b, rep_b, emp_b, e28, e70, List.length_singleton]
        rw [ih _ ⟨by simp only; omega, by simp only; omega, by simp only [List.length_append, List.length_singleton]; omega⟩ (by simp only; omega)]
        simp only [List.append_assoc, List.singleton_append]
    · simp only [oth_end (show a.nodes ≤ i by omega), List.append_nil]
      simp (discharger := omega) only [r_ite, r_add, r_sub, r_mul, r_quo, r_rem, r_lt, r_le, r_eq, r_bnot, r_or, r_and, r_isel, r_beq, r_band, r_bimp, r_imax, r_imin, r_call, r_gcall, r_bind, Option.bind_some, fits_ok, mfit_ok, wrap_i64, both_self, node_eta, msg_eta, entry_eta, hard_eta, decide_eq_true_eq, Bool.and_eq_true, Bool.or_eq_true, Bool.not_eq_true', decide_eq_false_iff_not, Bool.not_not, not_true_eq_false, not_false_eq_true, Bool.false_eq_true, Bool.true_eq_false, Bool.not_false, Bool.not_true, if_true, if_false, true_and, and_true, or_false, false_or, or_true, true_or, and_false, false_and, true_implies, if_pos, if_neg, len_58, get_58, app_58, set_58, cut_58, rep_58, emp_58, len_30, get_30, app_30, set_30, cut_30, rep_30, emp_30, len_27, get_27, app_27, set_27, cut_27, rep_27, emp_27, len_i, get_i, app_i, set_i, cut_i, rep_i, emp_i, len_b, get_b, app_b, set_b, cut_b, rep_b, emp_b]
      rfl
  · unfold startMsgs; simp only [List.nil_append, Int.sub_zero]

theorem cntI_step {i : Int} {L : List Int} {j : Nat} (h : j < L.length) : cntI i (L.drop j) = (if i ≤ L.getD j 0 then 1 else 0) + cntI i (L.drop (j + 1)) := by
  have e : L.drop j = L[j] :: L.drop (j + 1) := List.drop_eq_getElem_cons h
  have e2 : L.getD j 0 = L[j] := by simp [List.getD, h]
  rw [e, e2]
  rfl

theorem cntI_end {i : Int} {L : List Int} {j : Nat} (h : L.length ≤ j) : cntI i (L.drop j) = 0 := by
  rw [List.drop_eq_nil_of_le h]
  rfl

theorem adv_step {i : Int} (h : a.commit < i) :
    adv a (i - a.commit).toNat i = if termAt a i = a.term ∧ most a ≤ cntI i a.match then i else adv a (i - 1 - a.commit).toNat (i - 1) := by
  have e : (i - a.commit).toNat = (i - 1 - a.commit).toNat + 1 := by omega
  rw [e]
  rfl

theorem s_51 (hk : 3 ≤ k) (h : NI B a) (hB : B ≤ 2^41) (hn : (a.log.length : Int) + 100 ≤ n) : C n k 51 [⟨.st 27, a⟩] [.st 27] = some (advance a, ()) := by
  obtain ⟨k, rfl⟩ : ∃ k1, k = k1 + 1 := ⟨k - 1, by omega⟩
  rw [C_succ, nf_51]
  have q := h; obtain ⟨n1, n5, i0, i1, lv, lx, lm, t0, t1, b0, b1, c0, c1, k0, k1, ll, la, nx, mx⟩ := q
  have hl : last a = a.base + a.log.length := rfl
  have e50 := s_50 (n := n) (k := k) (a := a) (by omega) (by omega) (by omega) (by omega)
  have e34 := s_34 (n := n) (k := k) (a := a) (by omega) n1 n5
  unfold advance
  by_cases q : a.role = 2
  · rw [if_pos q]
    simp (discharger := omega) only [r_ite, r_add, r_sub, r_mul, r_quo, r_rem, r_lt, r_le, r_eq, r_bnot, r_or, r_and, r_isel, r_beq, r_band, r_bimp, r_imax, r_imin, r_call, r_gcall, r_bind, Option.bind_some, fits_ok, mfit_ok, wrap_i64, both_self, node_eta, msg_eta, entry_eta, hard_eta, decide_eq_true_eq, Bool.and_eq_true, Bool.or_eq_true, Bool.not_eq_true', decide_eq_false_iff_not, Bool.not_not, not_true_eq_false, not_false_eq_true, Bool.false_eq_true, Bool.true_eq_false, Bool.not_false, Bool.not_true, if_true, if_false, true_and, and_true, or_false, false_or, or_true, true_or, and_false, false_and, true_implies, if_pos, if_neg, len_58, get_58, app_58, set_58, cut_58, rep_58, emp_58, len_30, get_30, app_30, set_30, cut_30, rep_30, emp_30, len_27, get_27, app_27, set_27, cut_27, rep_27, emp_27, len_i, get_i, app_i, set_i, cut_i, rep_i, emp_i, len_b, get_b, app_b, set_b, cut_b, rep_b, emp_b, e50, r_loop]
    refine (iter_rule' (fun x => (x.1 - a.commit).toNat) (fun x => x.1 ≤ last a ∧ x.2.1 = a.commit)
      (fun x => some (({ a with commit := adv a (x.1 - a.commit).toNat x.1 } : Node), ())) ?_ n _ ⟨by simp only <;> omega, rfl⟩ (by simp only; omega)).trans rfl
    rintro next ⟨i, c, rest⟩ ⟨j0, j1⟩ ih
    simp only at j0 j1
    subst j1
    by_cases q3 : a.commit < i
    · have e65 := s_65 (n := n) (k := k) (a := a) (i := i) (by omega) (by omega) (by omega) (by omega) (by omega) (by omega)
      have ok : termOk a i = true := decide_eq_true ⟨by omega, by omega⟩
      have hnext := ih (i - 1, (a.commit, ())) ⟨by simp only; omega, rfl⟩ (by simp only; omega)
      simp only at hnext
      by_cases q4 : termAt a i = a.term
      · simp (discharger := omega) only [r_ite, r_add, r_sub, r_mul, r_quo, r_rem, r_lt, r_le, r_eq, r_bnot, r_or, r_and, r_isel, r_beq, r_band, r_bimp, r_imax, r_imin, r_call, r_gcall, r_bind, Option.bind_some, fits_ok, mfit_ok, wrap_i64, both_self, node_eta, msg_eta, entry_eta, hard_eta, decide_eq_true_eq, Bool.and_eq_true, Bool.or_eq_true, Bool.not_eq_true', decide_eq_false_iff_not, Bool.not_not, not_true_eq_false, not_false_eq_true, Bool.false_eq_true, Bool.true_eq_false, Bool.not_false, Bool.not_true, if_true, if_false, true_and, and_true, or_false, false_or, or_true, true_or, and_false, false_and, true_implies, if_pos, if_neg, len_58, get_58, app_58, set_58, cut_58, rep_58, emp_58, len_30, get_30, app_30, set_30, cut_30, rep_30, emp_30, len_27, get_27, app_27, set_27, cut_27, rep_27, emp_27, len_i, get_i, app_i, set_i, cut_i, rep_i, emp_i, len_b, get_b, app_b, set_b, cut_b, rep_b, emp_b, e65, ok, r_loop]
        refine (iter_rule' (fun x => a.match.length - x.2.1.toNat) (fun x => 0 ≤ x.2.1 ∧ x.2.1 ≤ (a.match.length : Int) ∧ 0 ≤ x.1 ∧ x.1 ≤ x.2.1)
          (fun x => if most a ≤ x.1 + cntI i (a.match.drop x.2.1.toNat) then some (({ a with commit := i } : Node), ()) else next (i - 1, (a.commit, ()))) ?_ n _ ⟨by simp only <;> omega, by simp only <;> omega, by simp only <;> omega, by simp only <;> omega⟩ (by simp only; omega)).trans ?_
        · rintro next2 ⟨c2, j, rest2⟩ ⟨p0, p1, p2, p3⟩ ih2
          simp only at p0 p1 p2 p3
          by_cases q5 : j < a.match.length
          · have e3 : (j + 1).toNat = j.toNat + 1 := by omega
            have es := cntI_step (i := i) (L := a.match) (j := j.toNat) (by omega)
            by_cases q6 : i ≤ a.match.getD j.toNat 0
            · rw [if_pos q6] at es
              simp (discharger := omega) only [r_ite, r_add, r_sub, r_mul, r_quo, r_rem, r_lt, r_le, r_eq, r_bnot, r_or, r_and, r_isel, r_beq, r_band, r_bimp, r_imax, r_imin, r_call, r_gcall, r_bind, Option.bind_some, fits_ok, mfit_ok, wrap_i64, both_self, node_eta, msg_eta, entry_eta, hard_eta, decide_eq_true_eq, Bool.and_eq_true, Bool.or_eq_true, Bool.not_eq_true', decide_eq_false_iff_not, Bool.not_not, not_true_eq_false, not_false_eq_true, Bool.false_eq_true, Bool.true_eq_false, Bool.not_false, Bool.not_true, if_true, if_false, true_and, and_true, or_false, false_or, or_true, true_or, and_false, false_and, true_implies, if_pos, if_neg, len_58, get_58, app_58, set_58, cut_58, rep_58, emp_58, len_30, get_30, app_30, set_30, cut_30, rep_30, emp_30, len_27, get_27, app_27, set_27, cut_27, rep_27, emp_27, len_i, get_i, app_i, set_i, cut_i, rep_i, emp_i, len_b, get_b, app_b, set_b, cut_b, rep_b, emp_b]
              rw [ih2 _ ⟨by simp only; omega, by simp only; omega, by simp only; omega, by simp only; omega⟩ (by simp only; omega)]
              simp only [e3, es, Int.add_assoc]
            · rw [if_neg q6] at es
              simp (discharger := omega) only [r_ite, r_add, r_sub, r_mul, r_quo, r_rem, r_lt, r_le, r_eq, r_bnot, r_or, r_and, r_isel, r_beq, r_band, r_bimp, r_imax, r_imin, r_call, r_gcall, r_bind, Option.bind_some, fits_ok, mfit_ok, wrap_i64, both_self, node_eta, msg_eta, entry_eta, hard_eta, decide_eq_true_eq, Bool.and_eq_true, Bool.or_eq_true, Bool.not_eq_true', decide_eq_false_iff_not, Bool.not_not, not_true_eq_false, not_false_eq_true, Bool.false_eq_true, Bool.true_eq_false, Bool.not_false, Bool.not_true, if_true, if_false, true_and, and_true, or_false, false_or, or_true, true_or, and_false, false_and, true_implies, if_pos, if_neg, len_58, get_58, app_58, set_58, cut_58, rep_58, emp_58, len_30, get_30, app_30, set_30, cut_30, rep_30, emp_30, len_27, get_27, app_27, set_27, cut_27, rep_27, emp_27, len_i, get_i, app_i, set_i, cut_i, rep_i, emp_i, len_b, get_b, app_b, set_b, cut_b, rep_b, emp_b]
              rw [ih2 _ ⟨by simp only; omega, by simp only; omega, by simp only; omega, by simp only; omega⟩ (by simp only; omega)]
              simp only [e3, es, Int.zero_add]
          · have es := cntI_end (i := i) (L := a.match) (j := j.toNat) (by omega)
            simp (discharger := omega) only [r_ite, r_add, r_sub, r_mul, r_quo, r_rem, r_lt, r_le, r_eq, r_bnot, r_or, r_and, r_isel, r_beq, r_band, r_bimp, r_imax, r_imin, r_call, r_gcall, r_bind, Option.bind_some, fits_ok, mfit_ok, wrap_i64, both_self, node_eta, msg_eta, entry_eta, hard_eta, decide_eq_true_eq, Bool.and_eq_true, Bool.or_eq_true, Bool.not_eq_true', decide_eq_false_iff_not, Bool.not_not, not_true_eq_false, not_false_eq_true, Bool.false_eq_true, Bool.true_eq_false, Bool.not_false, Bool.not_true, if_true, if_false, true_and, and_true, or_false, false_or, or_true, true_or, and_false, false_and, true_implies, if_pos, if_neg, len_58, get_58, app_58, set_58, cut_58, rep_58, emp_58, len_30, get_30, app_30, set_30, cut_30, rep_30, emp_30, len_27, get_27, app_27, set_27, cut_27, rep_27, emp_27, len_i, get_i, app_i, set_i, cut_i, rep_i, emp_i, len_b, get_b, app_b, set_b, cut_b, rep_b, emp_b, e34, es, Int.add_zero]
        · simp only [Int.toNat_zero, List.drop_zero, Int.zero_add]
          rw [adv_step q3, hnext]
          by_cases q7 : most a ≤ cntI i a.match
          · rw [if_pos q7, if_pos ⟨q4, q7⟩]
          · rw [if_neg q7, if_neg (fun h => q7 h.2)]
      · simp (discharger := omega) only [r_ite, r_add, r_sub, r_mul, r_quo, r_rem, r_lt, r_le, r_eq, r_bnot, r_or, r_and, r_isel, r_beq, r_band, r_bimp, r_imax, r_imin, r_call, r_gcall, r_bind, Option.bind_some, fits_ok, mfit_ok, wrap_i64, both_self, node_eta, msg_eta, entry_eta, hard_eta, decide_eq_true_eq, Bool.and_eq_true, Bool.or_eq_true, Bool.not_eq_true', decide_eq_false_iff_not, Bool.not_not, not_true_eq_false, not_false_eq_true, Bool.false_eq_true, Bool.true_eq_false, Bool.not_false, Bool.not_true, if_true, if_false, true_and, and_true, or_false, false_or, or_true, true_or, and_false, false_and, true_implies, if_pos, if_neg, len_58, get_58, app_58, set_58, cut_58, rep_58, emp_58, len_30, get_30, app_30, set_30, cut_30, rep_30, emp_30, len_27, get_27, app_27, set_27, cut_27, rep_27, emp_27, len_i, get_i, app_i, set_i, cut_i, rep_i, emp_i, len_b, get_b, app_b, set_b, cut_b, rep_b, emp_b, e65, ok]
        rw [adv_step q3, if_neg (fun h => q4 h.1), hnext]
    · have e0 : (i - a.commit).toNat = 0 := by omega
      simp (discharger := omega) only [r_ite, r_add, r_sub, r_mul, r_quo, r_rem, r_lt, r_le, r_eq, r_bnot, r_or, r_and, r_isel, r_beq, r_band, r_bimp, r_imax, r_imin, r_call, r_gcall, r_bind, Option.bind_some, fits_ok, mfit_ok, wrap_i64, both_self, node_eta, msg_eta, entry_eta, hard_eta, decide_eq_true_eq, Bool.and_eq_true, Bool.or_eq_true, Bool.not_eq_true', decide_eq_false_iff_not, Bool.not_not, not_true_eq_false, not_false_eq_true, Bool.false_eq_true, Bool.true_eq_false, Bool.not_false, Bool.not_true, if_true, if_false, true_and, and_true, or_false, false_or, or_true, true_or, and_false, false_and, true_implies, if_pos, if_neg, len_58, get_58, app_58, set_58, cut_58, rep_58, emp_58, len_30, get_30, app_30, set_30, cut_30, rep_30, emp_30, len_27, get_27, app_27, set_27, cut_27, rep_27, emp_27, len_i, get_i, app_i, set_i, cut_i, rep_i, emp_i, len_b, get_b, app_b, set_b, cut_b, rep_b, emp_b, e0]
      rfl
  · simp (discharger := omega) only [r_ite, r_add, r_sub, r_mul, r_quo, r_rem, r_lt, r_le, r_eq, r_bnot, r_or, r_and, r_isel, r_beq, r_band, r_bimp, r_imax, r_imin, r_call, r_gcall, r_bind, Option.bind_some, fits_ok, mfit_ok, wrap_i64, both_self, node_eta, msg_eta, entry_eta, hard_eta, decide_eq_true_eq, Bool.and_eq_true, Bool.or_eq_true, Bool.not_eq_true', decide_eq_false_iff_not, Bool.not_not, not_true_eq_false, not_false_eq_true, Bool.false_eq_true, Bool.true_eq_false, Bool.not_false, Bool.not_true, if_true, if_false, true_and, and_true, or_false, false_or, or_true, true_or, and_false, false_and, true_implies, if_pos, if_neg, len_58, get_58, app_58, set_58, cut_58, rep_58, emp_58, len_30, get_30, app_30, set_30, cut_30, rep_30, emp_30, len_27, get_27, app_27, set_27, cut_27, rep_27, emp_27, len_i, get_i, app_i, set_i, cut_i, rep_i, emp_i, len_b, get_b, app_b, set_b, cut_b, rep_b, emp_b]

theorem s_79 (hk : 3 ≤ k) (h : NI B a) (hB : B ≤ 2^41) (hn : (a.log.length : Int) + 100 ≤ n) : C n k 79 [⟨.st 27, a⟩] [.st 27] = some (advance a, ()) := by
  obtain ⟨k, rfl⟩ : ∃ k1, k = k1 + 1 := ⟨k - 1, by omega⟩
  rw [C_succ, nf_79]
  have q := h; obtain ⟨n1, n5, i0, i1, lv, lx, lm, t0, t1, b0, b1, c0, c1, k0, k1, ll, la, nx, mx⟩ := q
  have hl : last a = a.base + a.log.length := rfl
  have e50 := s_28 (n := n) (k := k) (a := a) (by omega) (by omega) (by omega) (by omega)
  have e34 := s_38 (n := n) (k := k) (a := a) (by omega) n1 n5
  unfold advance
  by_cases q : a.role = 2
  · rw [if_pos q]
    simp (discharger := omega) only [r_ite, r_add, r_sub, r_mul, r_quo, r_rem, r_lt, r_le, r_eq, r_bnot, r_or, r_and, r_isel, r_beq, r_band, r_bimp, r_imax, r_imin, r_call, r_gcall, r_bind, Option.bind_some, fits_ok, mfit_ok, wrap_i64, both_self, node_eta, msg_eta, entry_eta, hard_eta, decide_eq_true_eq, Bool.and_eq_true, Bool.or_eq_true, Bool.not_eq_true', decide_eq_false_iff_not, Bool.not_not, not_true_eq_false, not_false_eq_true, Bool.false_eq_true, Bool.true_eq_false, Bool.not_false, Bool.not_true, if_true, if_false, true_and, and_true, or_false, false_or, or_true, true_or, and_false, false_and, true_implies, if_pos, if_neg, len_58, get_58, app_58, set_58, cut_58, rep_58, emp_58, len_30, get_30, app_30, set_30, cut_30, rep_30, emp_30, len_27, get_27, app_27, set_27, cut_27, rep_27, emp_27, len_i, get_i, app_i, set_i, cut_i, rep_i, emp_i, len_b, get_b, app_b, set_b, cut_b, rep_b, emp_b, e50, r_loop]
    refine (iter_rule' (fun x => (x.1 - a.commit).toNat) (fun x => x.1 ≤ last a ∧ x.2.1 = a.commit)
      (fun x => some (({ a with commit := adv a (x.1 - a.commit).toNat x.1 } : Node), ())) ?_ n _ ⟨by simp only <;> omega, rfl⟩ (by simp only; omega)).trans rfl
    rintro next ⟨i, c, rest⟩ ⟨j0, j1⟩ ih
    simp only at j0 j1
    subst j1
    by_cases q3 : a.commit < i
    · have e65 := s_30 (n := n) (k := k) (a := a) (i := i) (by omega) (by omega) (by omega) (by omega) (by omega) (by omega)
      have hnext := ih (i - 1, (a.commit, ())) ⟨by simp only; omega, rfl⟩ (by simp only; omega)
      simp only at hnext
      simp (discharger := omega) only [r_ite, r_add, r_sub, r_mul, r_quo, r_rem, r_lt, r_le, r_eq, r_bnot, r_or, r_and, r_isel, r_beq, r_band, r_bimp, r_imax, r_imin, r_call, r_gcall, r_bind, Option.bind_some, fits_ok, mfit_ok, wrap_i64, both_self, node_eta, msg_eta, entry_eta, hard_eta, decide_eq_true_eq, Bool.and_eq_true, Bool.or_eq_true, Bool.not_eq_true', decide_eq_false_iff_not, Bool.not_not, not_true_eq_false, not_false_eq_true, Bool.false_eq_true, Bool.true_eq_false, Bool.not_false, Bool.not_true, if_true, if_false, true_and, and_true, or_false, false_or, or_true, true_or, and_false, false_and, true_implies, if_pos, if_neg, len_58, get_58, app_58, set_58, cut_58, rep_58, emp_58, len_30, get_30, app_30, set_30, cut_30, rep_30, emp_30, len_27, get_27, app_27, set_27, cut_27, rep_27, emp_27, len_i, get_i, app_i, set_i, cut_i, rep_i, emp_i, len_b, get_b, app_b, set_b, cut_b, rep_b, emp_b, e65, r_loop]
      refine (iter_rule' (fun x => a.match.length - x.2.1.toNat) (fun x => 0 ≤ x.2.1 ∧ x.2.1 ≤ (a.match.length : Int) ∧ 0 ≤ x.1 ∧ x.1 ≤ x.2.1)
        (fun x => if termAt a i = a.term ∧ most a ≤ x.1 + cntI i (a.match.drop x.2.1.toNat) then some (({ a with commit := i } : Node), ()) else next (i - 1, (a.commit, ()))) ?_ n _ ⟨by simp only <;> omega, by simp only <;> omega, by simp only <;> omega, by simp only <;> omega⟩ (by simp only; omega)).trans ?_
      · rintro next2 ⟨c2, j, rest2⟩ ⟨p0, p1, p2, p3⟩ ih2
        simp only at p0 p1 p2 p3
        by_cases q5 : j < a.match.length
        · have e3 : (j + 1).toNat = j.toNat + 1 := by omega
          have es := cntI_step (i := i) (L := a.match) (j := j.toNat) (by omega)
          by_cases q6 : i ≤ a.match.getD j.toNat 0
          · rw [if_pos q6] at es
            simp (discharger := omega) only [r_ite, r_add, r_sub, r_mul, r_quo, r_rem, r_lt, r_le, r_eq, r_bnot, r_or, r_and, r_isel, r_beq, r_band, r_bimp, r_imax, r_imin, r_call, r_gcall, r_bind, Option.bind_some, fits_ok, mfit_ok, wrap_i64, both_self, node_eta, msg_eta, entry_eta, hard_eta, decide_eq_true_eq, Bool.and_eq_true, Bool.or_eq_true, Bool.not_eq_true', decide_eq_false_iff_not, Bool.not_not, not_true_eq_false, not_false_eq_true, Bool.false_eq_true, Bool.true_eq_false, Bool.not_false, Bool.not_true, if_true, if_false, true_and, and_true, or_false, false_or, or_true, true_or, and_false, false_and, true_implies, if_pos, if_neg, len_58, get_58, app_58, set_58, cut_58, rep_58, emp_58, len_30, get_30, app_30, set_30, cut_30, rep_30, emp_30, len_27, get_27, app_27, set_27, cut_27, rep_27, emp_27, len_i, get_i, app_i, set_i, cut_i, rep_i, emp_i, len_b, get_b, app_b, set_b, cut_b, rep_b, emp_b]
            rw [ih2 _ ⟨by simp only; omega, by simp only; omega, by simp only; omega, by simp only; omega⟩ (by simp only; omega)]
            simp only [e3, es, Int.add_assoc]
          · rw [if_neg q6] at es
            simp (discharger := omega) only [r_ite, r_add, r_sub, r_mul, r_quo, r_rem, r_lt, r_le, r_eq, r_bnot, r_or, r_and, r_isel, r_beq, r_band, r_bimp, r_imax, r_imin, r_call, r_gcall, r_bind, Option.bind_some, fits_ok, mfit_ok, wrap_i64, both_self, node_eta, msg_eta, entry_eta, hard_eta, decide_eq_true_eq, Bool.and_eq_true, Bool.or_eq_true, Bool.not_eq_true', decide_eq_false_iff_not, Bool.not_not, not_true_eq_false, not_false_eq_true, Bool.false_eq_true, Bool.true_eq_false, Bool.not_false, Bool.not_true, if_true, if_false, true_and, and_true, or_false, false_or, or_true, true_or, and_false, false_and, true_implies, if_pos, if_neg, len_58, get_58, app_58, set_58, cut_58, rep_58, emp_58, len_30, get_30, app_30, set_30, cut_30, rep_30, emp_30, len_27, get_27, app_27, set_27, cut_27, rep_27, emp_27, len_i, get_i, app_i, set_i, cut_i, rep_i, emp_i, len_b, get_b, app_b, set_b, cut_b, rep_b, emp_b]
            rw [ih2 _ ⟨by simp only; omega, by simp only; omega, by simp only; omega, by simp only; omega⟩ (by simp only; omega)]
            simp only [e3, es, Int.zero_add]
        · have es := cntI_end (i := i) (L := a.match) (j := j.toNat) (by omega)
          by_cases q4 : termAt a i = a.term
          · simp (discharger := omega) only [r_ite, r_add, r_sub, r_mul, r_quo, r_rem, r_lt, r_le, r_eq, r_bnot, r_or, r_and, r_isel, r_beq, r_band, r_bimp, r_imax, r_imin, r_call, r_gcall, r_bind, Option.bind_some, fits_ok, mfit_ok, wrap_i64, both_self, node_eta, msg_eta, entry_eta, hard_eta, decide_eq_true_eq, Bool.and_eq_true, Bool.or_eq_true, Bool.not_eq_true', decide_eq_false_iff_not, Bool.not_not, not_true_eq_false, not_false_eq_true, Bool.false_eq_true, Bool.true_eq_false, Bool.not_false, Bool.not_true, if_true, if_false, true_and, and_true, or_false, false_or, or_true, true_or, and_false, false_and, true_implies, if_pos, if_neg, len_58, get_58, app_58, set_58, cut_58, rep_58, emp_58, len_30, get_30, app_30, set_30, cut_30, rep_30, emp_30, len_27, get_27, app_27, set_27, cut_27, rep_27, emp_27, len_i, get_i, app_i, set_i, cut_i, rep_i, emp_i, len_b, get_b, app_b, set_b, cut_b, rep_b, emp_b, e34, es, Int.add_zero]
          · simp (discharger := omega) only [r_ite, r_add, r_sub, r_mul, r_quo, r_rem, r_lt, r_le, r_eq, r_bnot, r_or, r_and, r_isel, r_beq, r_band, r_bimp, r_imax, r_imin, r_call, r_gcall, r_bind, Option.bind_some, fits_ok, mfit_ok, wrap_i64, both_self, node_eta, msg_eta, entry_eta, hard_eta, decide_eq_true_eq, Bool.and_eq_true, Bool.or_eq_true, Bool.not_eq_true', decide_eq_false_iff_not, Bool.not_not, not_true_eq_false, not_false_eq_true, Bool.false_eq_true, Bool.true_eq_false, Bool.not_false, Bool.not_true, if_true, if_false, true_and, and_true, or_false, false_or, or_true, true_or, and_false, false_and, true_implies, if_pos, if_neg, len_58, get_58, app_58, set_58, cut_58, rep_58, emp_58, len_30, get_30, app_30, set_30, cut_30, rep_30, emp_30, len_27, get_27, app_27, set_27, cut_27, rep_27, emp_27, len_i, get_i, app_i, set_i, cut_i, rep_i, emp_i, len_b, get_b, app_b, set_b, cut_b, rep_b, emp_b, es]
      · simp only [Int.toNat_zero, List.drop_zero, Int.zero_add]
        rw [adv_step q3, hnext]
        by_cases q7 : termAt a i = a.term ∧ most a ≤ cntI i a.match
        · rw [if_pos q7, if_pos q7]
        · rw [if_neg q7, if_neg q7]
    · have e0 : (i - a.commit).toNat = 0 := by omega
      simp (discharger := omega) only [r_ite, r_add, r_sub, r_mul, r_quo, r_rem, r_lt, r_le, r_eq, r_bnot, r_or, r_and, r_isel, r_beq, r_band, r_bimp, r_imax, r_imin, r_call, r_gcall, r_bind, Option.bind_some, fits_ok, mfit_ok, wrap_i64, both_self, node_eta, msg_eta, entry_eta, hard_eta, decide_eq_true_eq, Bool.and_eq_true, Bool.or_eq_true, Bool.not_eq_true', decide_eq_false_iff_not, Bool.not_not, not_true_eq_false, not_false_eq_true, Bool.false_eq_true, Bool.true_eq_false, Bool.not_false, Bool.not_true, if_true, if_false, true_and, and_true, or_false, false_or, or_true, true_or, and_false, false_and, true_implies, if_pos, if_neg, len_58, get_58, app_58, set_58, cut_58, rep_58, emp_58, len_30, get_30, app_30, set_30, cut_30, rep_30, emp_30, len_27, get_27, app_27, set_27, cut_27, rep_27, emp_27, len_i, get_i, app_i, set_i, cut_i, rep_i, emp_i, len_b, get_b, app_b, set_b, cut_b, rep_b, emp_b, e0]
      rfl
  · simp (discharger := omega) only [r_ite, r_add, r_sub, r_mul, r_quo, r_rem, r_lt, r_le, r_eq, r_bnot, r_or, r_and, r_isel, r_beq, r_band, r_bimp, r_imax, r_imin, r_call, r_gcall, r_bind, Option.bind_some, fits_ok, mfit_ok, wrap_i64, both_self, node_eta, msg_eta, entry_eta, hard_eta, decide_eq_true_eq, Bool.and_eq_true, Bool.or_eq_true, Bool.not_eq_true', decide_eq_false_iff_not, Bool.not_not, not_true_eq_false, not_false_eq_true, Bool.false_eq_true, Bool.true_eq_false, Bool.not_false, Bool.not_true, if_true, if_false, true_and, and_true, or_false, false_or, or_true, true_or, and_false, false_and, true_implies, if_pos, if_neg, len_58, get_58, app_58, set_58, cut_58, rep_58, emp_58, len_30, get_30, app_30, set_30, cut_30, rep_30, emp_30, len_27, get_27, app_27, set_27, cut_27, rep_27, emp_27, len_i, get_i, app_i, set_i, cut_i, rep_i, emp_i, len_b, get_b, app_b, set_b, cut_b, rep_b, emp_b]

end
end Go.Proofs.Ytinfpahllbhomaa

namespace Go.Proofs.Ytinfpahllbhomaa
open Go.Ab
set_option linter.unusedSimpArgs false
set_option linter.unusedVariables false
set_option maxHeartbeats 2000000
noncomputable section
variable {n k : Nat} {B : Int} {a : Node}

theorem adv_bd : ∀ (m : Nat) (i : Int), adv a m i = a.commit ∨ (i - m < adv a m i ∧ adv a m i ≤ i)
  | 0, i => .inl rfl
  | m + 1, i => by
    unfold adv
    split
    · exact .inr ⟨by omega, by omega⟩
    · rcases adv_bd m (i - 1) with h | ⟨h1, h2⟩
      · exact .inl h
      · exact .inr ⟨by omega, by omega⟩

theorem NI.advance (h : NI B a) : NI B (advance a) := by
  have h' := h
  have q := h; obtain ⟨n1, n5, i0, i1, lv, lx, lm, t0, t1, b0, b1, c0, c1, k0, k1, ll, la, nx, mx⟩ := q
  unfold Ytinfpahllbhomaa.advance
  split
  · have hl : last a = a.base + a.log.length := rfl
    have := adv_bd (a := a) (last a - a.commit).toNat (last a)
    exact ⟨n1, n5, i0, i1, lv, lx, lm, t0, t1, b0, b1, by simp only; omega, by simp only; omega, k0, k1, ll, la, nx, mx⟩
  · exact h'

theorem NI.app {e : Entry} (h : NI B a) : NI (B + 1) { a with log := a.log ++ [e], «match» := a.match.set a.id.toNat (last a + 1) } := by
  have h2 := h.le (show B ≤ B + 1 by omega)
  have hla := h.la
  have hb0 := h.b0
  have q := h2; obtain ⟨n1, n5, i0, i1, lv, lx, lm, t0, t1, b0, b1, c0, c1, k0, k1, ll, la, nx, mx⟩ := q
  have hl : last a = a.base + a.log.length := rfl
  exact ⟨n1, n5, i0, i1, lv, lx, by simp only [List.length_set]; omega, t0, t1, b0, b1, c0, c1, k0, k1, by simp only [List.length_append, List.length_singleton]; omega, by simp only [List.length_append, List.length_singleton]; omega, nx, set_bd mx (by omega) (by omega)⟩

theorem NI.more {cmd : ByteArray} (h : NI B a) : NI (B + 1) (more a cmd) := NI.advance h.app

theorem last_app {e : Entry} {M : List Int} : last { a with log := a.log ++ [e], «match» := M } = last a + 1 := by
  simp only [last, List.length_append, List.length_singleton]; omega

theorem s_83 (hk : 4 ≤ k) (h : NI B a) (hB : B ≤ 2^41 - 2) (hn : (a.log.length : Int) + 101 ≤ n) {cmd : ByteArray} : C n k 83 [⟨.st 27, a⟩, ⟨.str, cmd⟩] [.st 27] = some (more a cmd, ()) := by
  obtain ⟨k, rfl⟩ : ∃ k1, k = k1 + 1 := ⟨k - 1, by omega⟩
  rw [C_succ, nf_83]
  have h2 := h.app (e := ⟨a.term, cmd⟩)
  have q := h; obtain ⟨n1, n5, i0, i1, lv, lx, lm, t0, t1, b0, b1, c0, c1, k0, k1, ll, la, nx, mx⟩ := q
  have hl : last a = a.base + a.log.length := rfl
  have e28 : C n k 28 [⟨.st 27, (⟨a.id, a.nodes, a.term, a.vote, a.base, a.baseTerm, a.snap, a.log ++ [⟨a.term, cmd⟩], a.role, a.lead, a.commit, a.votes, a.next, a.match, a.clock⟩ : Node)⟩] [.int .i64] = some (last a + 1, ()) := by
    have := s_28 (n := n) (k := k) (a := (⟨a.id, a.nodes, a.term, a.vote, a.base, a.baseTerm, a.snap, a.log ++ [⟨a.term, cmd⟩], a.role, a.lead, a.commit, a.votes, a.next, a.match, a.clock⟩ : Node)) (by omega) (by simp only; omega) (by simp only; omega) (by simp only [List.length_append, List.length_singleton]; omega)
    rw [this]
    simp only [last, List.length_append, List.length_singleton]
    congr 2
    omega
  have e79 := s_79 (n := n) (k := k) (by omega) h2 (by omega) (by simp only [List.length_append, List.length_singleton]; omega)
  simp (discharger := omega) only [r_ite, r_add, r_sub, r_mul, r_quo, r_rem, r_lt, r_le, r_eq, r_bnot, r_or, r_and, r_isel, r_beq, r_band, r_bimp, r_imax, r_imin, r_call, r_gcall, r_bind, Option.bind_some, fits_ok, mfit_ok, wrap_i64, both_self, node_eta, msg_eta, entry_eta, hard_eta, decide_eq_true_eq, Bool.and_eq_true, Bool.or_eq_true, Bool.not_eq_true', decide_eq_false_iff_not, Bool.not_not, not_true_eq_false, not_false_eq_true, Bool.false_eq_true, Bool.true_eq_false, Bool.not_false, Bool.not_true, if_true, if_false, true_and, and_true, or_false, false_or, or_true, true_or, and_false, false_and, true_implies, if_pos, if_neg, len_58, get_58, app_58, set_58, cut_58, rep_58, emp_58, len_30, get_30, app_30, set_30, cut_30, rep_30, emp_30, len_27, get_27, app_27, set_27, cut_27, rep_27, emp_27, len_i, get_i, app_i, set_i, cut_i, rep_i, emp_i, len_b, get_b, app_b, set_b, cut_b, rep_b, emp_b, e28, e79, List.length_singleton]
  rfl

theorem s_52 (hk : 5 ≤ k) (h : NI B a) (hB : B ≤ 2^41 - 2) (hn : (a.log.length : Int) + 101 ≤ n) {cmd : ByteArray} : C n k 52 [⟨.st 27, a⟩, ⟨.str, cmd⟩] [.st 27, .sl (.st 30)] = some (more a cmd, (sends (more a cmd), ())) := by
  obtain ⟨k, rfl⟩ : ∃ k1, k = k1 + 1 := ⟨k - 1, by omega⟩
  rw [C_succ, nf_52]
  have e83 := s_83 (n := n) (k := k) (cmd := cmd) (by omega) h hB hn
  have e36 := s_36 (n := n) (k := k) (by omega) (by omega) (h.more (cmd := cmd)) (by omega)
  simp (discharger := omega) only [r_ite, r_add, r_sub, r_mul, r_quo, r_rem, r_lt, r_le, r_eq, r_bnot, r_or, r_and, r_isel, r_beq, r_band, r_bimp, r_imax, r_imin, r_call, r_gcall, r_bind, Option.bind_some, fits_ok, mfit_ok, wrap_i64, both_self, node_eta, msg_eta, entry_eta, hard_eta, decide_eq_true_eq, Bool.and_eq_true, Bool.or_eq_true, Bool.not_eq_true', decide_eq_false_iff_not, Bool.not_not, not_true_eq_false, not_false_eq_true, Bool.false_eq_true, Bool.true_eq_false, Bool.not_false, Bool.not_true, if_true, if_false, true_and, and_true, or_false, false_or, or_true, true_or, and_false, false_and, true_implies, if_pos, if_neg, len_58, get_58, app_58, set_58, cut_58, rep_58, emp_58, len_30, get_30, app_30, set_30, cut_30, rep_30, emp_30, len_27, get_27, app_27, set_27, cut_27, rep_27, emp_27, len_i, get_i, app_i, set_i, cut_i, rep_i, emp_i, len_b, get_b, app_b, set_b, cut_b, rep_b, emp_b, e83, e36]

theorem s_67 (hk : 4 ≤ k) {e : Entry} (h : NI B a) (hB : B ≤ 2^41 - 2) (hn : (a.log.length : Int) + 101 ≤ n) :
    C n k 67 [⟨.st 27, ({ a with log := a.log ++ [e] } : Node)⟩] [.st 27] = some (advance { a with log := a.log ++ [e], «match» := a.match.set a.id.toNat (last a + 1) }, ()) := by
  obtain ⟨k, rfl⟩ : ∃ k1, k = k1 + 1 := ⟨k - 1, by omega⟩
  rw [C_succ, nf_67]
  have h2 := h.app (e := e)
  have q := h; obtain ⟨n1, n5, i0, i1, lv, lx, lm, t0, t1, b0, b1, c0, c1, k0, k1, ll, la, nx, mx⟩ := q
  have hl : last a = a.base + a.log.length := rfl
  have e50 : C n k 50 [⟨.st 27, (⟨a.id, a.nodes, a.term, a.vote, a.base, a.baseTerm, a.snap, a.log ++ [e], a.role, a.lead, a.commit, a.votes, a.next, a.match, a.clock⟩ : Node)⟩] [.int .i64] = some (last a + 1, ()) := by
    have := s_50 (n := n) (k := k) (a := (⟨a.id, a.nodes, a.term, a.vote, a.base, a.baseTerm, a.snap, a.log ++ [e], a.role, a.lead, a.commit, a.votes, a.next, a.match, a.clock⟩ : Node)) (by omega) (by simp only; omega) (by simp only; omega) (by simp only [List.length_append, List.length_singleton]; omega)
    rw [this]
    simp only [last, List.length_append, List.length_singleton]
    congr 2
    omega
  have e77 := s_77 (n := n) (k := k) (L := a.match) (i := a.id) (v := last a + 1) (by omega) (by omega) (by omega) (by omega)
  have e51 := s_51 (n := n) (k := k) (by omega) h2 (by omega) (by simp only [List.length_append, List.length_singleton]; omega)
  simp (discharger := omega) only [r_ite, r_add, r_sub, r_mul, r_quo, r_rem, r_lt, r_le, r_eq, r_bnot, r_or, r_and, r_isel, r_beq, r_band, r_bimp, r_imax, r_imin, r_call, r_gcall, r_bind, Option.bind_some, fits_ok, mfit_ok, wrap_i64, both_self, node_eta, msg_eta, entry_eta, hard_eta, decide_eq_true_eq, Bool.and_eq_true, Bool.or_eq_true, Bool.not_eq_true', decide_eq_false_iff_not, Bool.not_not, not_true_eq_false, not_false_eq_true, Bool.false_eq_true, Bool.true_eq_false, Bool.not_false, Bool.not_true, if_true, if_false, true_and, and_true, or_false, false_or, or_true, true_or, and_false, false_and, true_implies, if_pos, if_neg, len_58, get_58, app_58, set_58, cut_58, rep_58, emp_58, len_30, get_30, app_30, set_30, cut_30, rep_30, emp_30, len_27, get_27, app_27, set_27, cut_27, rep_27, emp_27, len_i, get_i, app_i, set_i, cut_i, rep_i, emp_i, len_b, get_b, app_b, set_b, cut_b, rep_b, emp_b, e50, e77, e51]

/-- A node that leads, ahead of its first entry. -/
def leads (a : Node) : Node := { a with role := 2, lead := a.id, next := List.replicate a.nodes.toNat (last a + 1), «match» := List.replicate a.nodes.toNat 0, clock := 0 }

theorem lead_eq : lead a = more (leads a) ⟨#[]⟩ := rfl

theorem NI.leads (h : NI B a) : NI (B + 1) (leads a) := by
  have hla := h.la
  have h2 := h.le (show B ≤ B + 1 by omega)
  have q := h2; obtain ⟨n1, n5, i0, i1, lv, lx, lm, t0, t1, b0, b1, c0, c1, k0, k1, ll, la, nx, mx⟩ := q
  have hl : last a = a.base + a.log.length := rfl
  exact ⟨n1, n5, i0, i1, lv, by unfold Ytinfpahllbhomaa.leads; simp only [List.length_replicate]; omega, by unfold Ytinfpahllbhomaa.leads; simp only [List.length_replicate]; omega, t0, t1, b0, b1, c0, c1, by unfold Ytinfpahllbhomaa.leads; simp only <;> omega, by unfold Ytinfpahllbhomaa.leads; simp only; omega, ll, la,
    rep_bd (by omega) (by omega), rep_bd (by omega) (by omega)⟩

theorem NI.lead (h : NI B a) : NI (B + 2) (lead a) := by
  have := (NI.more (cmd := ⟨#[]⟩) h.leads).le (show B + 1 + 1 ≤ B + 2 by omega)
  exact this

theorem rep_set {v : Int} {i N : Nat} (h : i < N) : (List.replicate i v ++ List.replicate (N - i) (0 : Int)).set i v = List.replicate (i + 1) v ++ List.replicate (N - (i + 1)) 0 := by
  have e : N - i = (N - (i + 1)) + 1 := by omega
  rw [e, List.replicate_succ, List.set_append_right _ _ (by simp)]
  simp only [List.length_replicate, Nat.sub_self, List.set_cons_zero]
  rw [List.replicate_succ', List.append_assoc]
  rfl

theorem s_35 (hk : 5 ≤ k) (h : NI B a) (hB : B ≤ 2^41 - 4) (hn : (a.log.length : Int) + 101 ≤ n) : C n k 35 [⟨.st 27, a⟩] [.st 27, .sl (.st 30)] = some (lead a, (sends (lead a), ())) := by
  obtain ⟨k, rfl⟩ : ∃ k1, k = k1 + 1 := ⟨k - 1, by omega⟩
  rw [C_succ, nf_35]
  have hN := h.leads
  have hL := h.lead
  have q := h; obtain ⟨n1, n5, i0, i1, lv, lx, lm, t0, t1, b0, b1, c0, c1, k0, k1, ll, la, nx, mx⟩ := q
  have hl : last a = a.base + a.log.length := rfl
  have e66 : ∀ (r l c : Int), C n k 66 [⟨.st 27, (⟨a.id, a.nodes, a.term, a.vote, a.base, a.baseTerm, a.snap, a.log, r, l, a.commit, a.votes, a.next, a.match, c⟩ : Node)⟩] [.int .i64] = some (a.nodes, ()) :=
    fun r l c => s_66 (a := (⟨a.id, a.nodes, a.term, a.vote, a.base, a.baseTerm, a.snap, a.log, r, l, a.commit, a.votes, a.next, a.match, c⟩ : Node)) (by omega) n1 n5
  have e50 : ∀ (r l c : Int) (X Y : List Int), C n k 50 [⟨.st 27, (⟨a.id, a.nodes, a.term, a.vote, a.base, a.baseTerm, a.snap, a.log, r, l, a.commit, a.votes, X, Y, c⟩ : Node)⟩] [.int .i64] = some (last a, ()) :=
    fun r l c X Y => s_50 (a := (⟨a.id, a.nodes, a.term, a.vote, a.base, a.baseTerm, a.snap, a.log, r, l, a.commit, a.votes, X, Y, c⟩ : Node)) (by omega) (by show _ ≤ a.base; omega) (by show a.base ≤ _; omega) (by show (a.log.length : Int) ≤ _; omega)
  have e48 := s_48 (n := n) (k := k) (L := a.log) (by omega) (by omega)
  have e67 := s_67 (n := n) (k := k) (e := ⟨a.term, ⟨#[]⟩⟩) (by omega) hN (by omega) (by unfold leads; simp only; omega)
  have e68 := s_68 (n := n) (k := k) (by omega) (by omega) hL (by omega)
  have e67' : C n k 67 [⟨.st 27, (⟨a.id, a.nodes, a.term, a.vote, a.base, a.baseTerm, a.snap, a.log ++ [⟨a.term, ⟨#[]⟩⟩], 2, a.id, a.commit, a.votes, List.replicate a.nodes.toNat (last a + 1), List.replicate a.nodes.toNat 0, 0⟩ : Node)⟩] [.st 27] = some (lead a, ()) := e67
  simp (discharger := omega) only [r_ite, r_add, r_sub, r_mul, r_quo, r_rem, r_lt, r_le, r_eq, r_bnot, r_or, r_and, r_isel, r_beq, r_band, r_bimp, r_imax, r_imin, r_call, r_gcall, r_bind, Option.bind_some, fits_ok, mfit_ok, wrap_i64, both_self, node_eta, msg_eta, entry_eta, hard_eta, decide_eq_true_eq, Bool.and_eq_true, Bool.or_eq_true, Bool.not_eq_true', decide_eq_false_iff_not, Bool.not_not, not_true_eq_false, not_false_eq_true, Bool.false_eq_true, Bool.true_eq_false, Bool.not_false, Bool.not_true, if_true, if_false, true_and, and_true, or_false, false_or, or_true, true_or, and_false, false_and, true_implies, if_pos, if_neg, len_58, get_58, app_58, set_58, cut_58, rep_58, emp_58, len_30, get_30, app_30, set_30, cut_30, rep_30, emp_30, len_27, get_27, app_27, set_27, cut_27, rep_27, emp_27, len_i, get_i, app_i, set_i, cut_i, rep_i, emp_i, len_b, get_b, app_b, set_b, cut_b, rep_b, emp_b, e66, r_loop, List.length_replicate]
  refine (iter_rule' (fun x => (a.nodes - x.1).toNat) (fun x => 0 ≤ x.1 ∧ x.1 ≤ a.nodes ∧ x.2.1 = List.replicate x.1.toNat (last a + 1) ++ List.replicate (a.nodes.toNat - x.1.toNat) 0)
    (fun x => some (lead a, (sends (lead a), ()))) ?_ n _ ⟨by simp only <;> omega, by simp only <;> omega, by simp⟩ (by simp only; omega))
  rintro next ⟨i, X, rest⟩ ⟨j0, j1, j2⟩ ih
  simp only at j0 j1 j2
  subst j2
  by_cases q3 : i < a.nodes
  · have es := rep_set (v := last a + 1) (i := i.toNat) (N := a.nodes.toNat) (by omega)
    have e3 : (i + 1).toNat = i.toNat + 1 := by omega
    simp (discharger := omega) only [r_ite, r_add, r_sub, r_mul, r_quo, r_rem, r_lt, r_le, r_eq, r_bnot, r_or, r_and, r_isel, r_beq, r_band, r_bimp, r_imax, r_imin, r_call, r_gcall, r_bind, Option.bind_some, fits_ok, mfit_ok, wrap_i64, both_self, node_eta, msg_eta, entry_eta, hard_eta, decide_eq_true_eq, Bool.and_eq_true, Bool.or_eq_true, Bool.not_eq_true', decide_eq_false_iff_not, Bool.not_not, not_true_eq_false, not_false_eq_true, Bool.false_eq_true, Bool.true_eq_false, Bool.not_false, Bool.not_true, if_true, if_false, true_and, and_true, or_false, false_or, or_true, true_or, and_false, false_and, true_implies, if_pos, if_neg, len_58, get_58, app_58, set_58, cut_58, rep_58, emp_58, len_30, get_30, app_30, set_30, cut_30, rep_30, emp_30, len_27, get_27, app_27, set_27, cut_27, rep_27, emp_27, len_i, get_i, app_i, set_i, cut_i, rep_i, emp_i, len_b, get_b, app_b, set_b, cut_b, rep_b, emp_b, e50, List.length_append, List.length_replicate, es]
    rw [ih _ ⟨by simp only; omega, by simp only; omega, by simp only [e3]⟩ (by simp only; omega)]
  · have e3 : i.toNat = a.nodes.toNat := by omega
    have e4 : List.replicate i.toNat (last a + 1) ++ List.replicate (a.nodes.toNat - i.toNat) 0 = List.replicate a.nodes.toNat (last a + 1) := by rw [e3, Nat.sub_self]; simp
    simp (discharger := omega) only [r_ite, r_add, r_sub, r_mul, r_quo, r_rem, r_lt, r_le, r_eq, r_bnot, r_or, r_and, r_isel, r_beq, r_band, r_bimp, r_imax, r_imin, r_call, r_gcall, r_bind, Option.bind_some, fits_ok, mfit_ok, wrap_i64, both_self, node_eta, msg_eta, entry_eta, hard_eta, decide_eq_true_eq, Bool.and_eq_true, Bool.or_eq_true, Bool.not_eq_true', decide_eq_false_iff_not, Bool.not_not, not_true_eq_false, not_false_eq_true, Bool.false_eq_true, Bool.true_eq_false, Bool.not_false, Bool.not_true, if_true, if_false, true_and, and_true, or_false, false_or, or_true, true_or, and_false, false_and, true_implies, if_pos, if_neg, len_58, get_58, app_58, set_58, cut_58, rep_58, emp_58, len_30, get_30, app_30, set_30, cut_30, rep_30, emp_30, len_27, get_27, app_27, set_27, cut_27, rep_27, emp_27, len_i, get_i, app_i, set_i, cut_i, rep_i, emp_i, len_b, get_b, app_b, set_b, cut_b, rep_b, emp_b, e4, List.length_replicate]
    rw [e48]
    refine Eq.trans (Option.bind_some _ _) ?_
    simp (discharger := omega) only [r_ite, r_add, r_sub, r_mul, r_quo, r_rem, r_lt, r_le, r_eq, r_bnot, r_or, r_and, r_isel, r_beq, r_band, r_bimp, r_imax, r_imin, r_call, r_gcall, r_bind, Option.bind_some, fits_ok, mfit_ok, wrap_i64, both_self, node_eta, msg_eta, entry_eta, hard_eta, decide_eq_true_eq, Bool.and_eq_true, Bool.or_eq_true, Bool.not_eq_true', decide_eq_false_iff_not, Bool.not_not, not_true_eq_false, not_false_eq_true, Bool.false_eq_true, Bool.true_eq_false, Bool.not_false, Bool.not_true, if_true, if_false, true_and, and_true, or_false, false_or, or_true, true_or, and_false, false_and, true_implies, if_pos, if_neg, len_58, get_58, app_58, set_58, cut_58, rep_58, emp_58, len_30, get_30, app_30, set_30, cut_30, rep_30, emp_30, len_27, get_27, app_27, set_27, cut_27, rep_27, emp_27, len_i, get_i, app_i, set_i, cut_i, rep_i, emp_i, len_b, get_b, app_b, set_b, cut_b, rep_b, emp_b, List.length_singleton, e67', e68]

theorem s_39 (hk : 6 ≤ k) (h : NI B a) (hB : B ≤ 2^41 - 4) (hn : (a.log.length : Int) + 101 ≤ n) : C n k 39 [⟨.st 27, a⟩] [.st 27, .sl (.st 30)] = some (lead a, (sends (lead a), ())) := by
  obtain ⟨k, rfl⟩ : ∃ k1, k = k1 + 1 := ⟨k - 1, by omega⟩
  rw [C_succ, nf_39]
  have hN := h.leads
  have hL := h.lead
  have q := h; obtain ⟨n1, n5, i0, i1, lv, lx, lm, t0, t1, b0, b1, c0, c1, k0, k1, ll, la, nx, mx⟩ := q
  have hl : last a = a.base + a.log.length := rfl
  have e50 : ∀ (r l c : Int) (X Y : List Int), C n k 28 [⟨.st 27, (⟨a.id, a.nodes, a.term, a.vote, a.base, a.baseTerm, a.snap, a.log, r, l, a.commit, a.votes, X, Y, c⟩ : Node)⟩] [.int .i64] = some (last a, ()) :=
    fun r l c X Y => s_28 (a := (⟨a.id, a.nodes, a.term, a.vote, a.base, a.baseTerm, a.snap, a.log, r, l, a.commit, a.votes, X, Y, c⟩ : Node)) (by omega) (by show _ ≤ a.base; omega) (by show a.base ≤ _; omega) (by show (a.log.length : Int) ≤ _; omega)
  have e52 := s_52 (n := n) (k := k) (cmd := ⟨#[]⟩) (by omega) hN (by omega) (by unfold leads; simp only; omega)
  have e52' : C n k 52 [⟨.st 27, (⟨a.id, a.nodes, a.term, a.vote, a.base, a.baseTerm, a.snap, a.log, 2, a.id, a.commit, a.votes, List.replicate a.nodes.toNat (last a + 1), List.replicate a.nodes.toNat 0, 0⟩ : Node)⟩, ⟨.str, (⟨#[]⟩ : ByteArray)⟩] [.st 27, .sl (.st 30)] = some (lead a, (sends (lead a), ())) := e52
  simp (discharger := omega) only [r_ite, r_add, r_sub, r_mul, r_quo, r_rem, r_lt, r_le, r_eq, r_bnot, r_or, r_and, r_isel, r_beq, r_band, r_bimp, r_imax, r_imin, r_call, r_gcall, r_bind, Option.bind_some, fits_ok, mfit_ok, wrap_i64, both_self, node_eta, msg_eta, entry_eta, hard_eta, decide_eq_true_eq, Bool.and_eq_true, Bool.or_eq_true, Bool.not_eq_true', decide_eq_false_iff_not, Bool.not_not, not_true_eq_false, not_false_eq_true, Bool.false_eq_true, Bool.true_eq_false, Bool.not_false, Bool.not_true, if_true, if_false, true_and, and_true, or_false, false_or, or_true, true_or, and_false, false_and, true_implies, if_pos, if_neg, len_58, get_58, app_58, set_58, cut_58, rep_58, emp_58, len_30, get_30, app_30, set_30, cut_30, rep_30, emp_30, len_27, get_27, app_27, set_27, cut_27, rep_27, emp_27, len_i, get_i, app_i, set_i, cut_i, rep_i, emp_i, len_b, get_b, app_b, set_b, cut_b, rep_b, emp_b, r_loop]
  refine (iter_rule' (fun x => (a.nodes - x.1).toNat) (fun x => 0 ≤ x.1 ∧ x.1 ≤ a.nodes ∧ x.2.1 = List.replicate x.1.toNat (last a + 1) ++ List.replicate (a.nodes.toNat - x.1.toNat) 0)
    (fun x => some (lead a, (sends (lead a), ()))) ?_ n _ ⟨by simp only <;> omega, by simp only <;> omega, by simp⟩ (by simp only; omega))
  rintro next ⟨i, X, rest⟩ ⟨j0, j1, j2⟩ ih
  simp only at j0 j1 j2
  subst j2
  by_cases q3 : i < a.nodes
  · have es := rep_set (v := last a + 1) (i := i.toNat) (N := a.nodes.toNat) (by omega)
    have e3 : (i + 1).toNat = i.toNat + 1 := by omega
    simp (discharger := omega) only [r_ite, r_add, r_sub, r_mul, r_quo, r_rem, r_lt, r_le, r_eq, r_bnot, r_or, r_and, r_isel, r_beq, r_band, r_bimp, r_imax, r_imin, r_call, r_gcall, r_bind, Option.bind_some, fits_ok, mfit_ok, wrap_i64, both_self, node_eta, msg_eta, entry_eta, hard_eta, decide_eq_true_eq, Bool.and_eq_true, Bool.or_eq_true, Bool.not_eq_true', decide_eq_false_iff_not, Bool.not_not, not_true_eq_false, not_false_eq_true, Bool.false_eq_true, Bool.true_eq_false, Bool.not_false, Bool.not_true, if_true, if_false, true_and, and_true, or_false, false_or, or_true, true_or, and_false, false_and, true_implies, if_pos, if_neg, len_58, get_58, app_58, set_58, cut_58, rep_58, emp_58, len_30, get_30, app_30, set_30, cut_30, rep_30, emp_30, len_27, get_27, app_27, set_27, cut_27, rep_27, emp_27, len_i, get_i, app_i, set_i, cut_i, rep_i, emp_i, len_b, get_b, app_b, set_b, cut_b, rep_b, emp_b, e50, List.length_append, List.length_replicate, es]
    rw [ih _ ⟨by simp only; omega, by simp only; omega, by simp only [e3]⟩ (by simp only; omega)]
  · have e3 : i.toNat = a.nodes.toNat := by omega
    have e4 : List.replicate i.toNat (last a + 1) ++ List.replicate (a.nodes.toNat - i.toNat) 0 = List.replicate a.nodes.toNat (last a + 1) := by rw [e3, Nat.sub_self]; simp
    simp (discharger := omega) only [r_ite, r_add, r_sub, r_mul, r_quo, r_rem, r_lt, r_le, r_eq, r_bnot, r_or, r_and, r_isel, r_beq, r_band, r_bimp, r_imax, r_imin, r_call, r_gcall, r_bind, Option.bind_some, fits_ok, mfit_ok, wrap_i64, both_self, node_eta, msg_eta, entry_eta, hard_eta, decide_eq_true_eq, Bool.and_eq_true, Bool.or_eq_true, Bool.not_eq_true', decide_eq_false_iff_not, Bool.not_not, not_true_eq_false, not_false_eq_true, Bool.false_eq_true, Bool.true_eq_false, Bool.not_false, Bool.not_true, if_true, if_false, true_and, and_true, or_false, false_or, or_true, true_or, and_false, false_and, true_implies, if_pos, if_neg, len_58, get_58, app_58, set_58, cut_58, rep_58, emp_58, len_30, get_30, app_30, set_30, cut_30, rep_30, emp_30, len_27, get_27, app_27, set_27, cut_27, rep_27, emp_27, len_i, get_i, app_i, set_i, cut_i, rep_i, emp_i, len_b, get_b, app_b, set_b, cut_b, rep_b, emp_b, e4, e52']

end
end Go.Proofs.Ytinfpahllbhomaa

namespace Go.Proofs.Ytinfpahllbhomaa
open Go.Ab
set_option linter.unusedSimpArgs false
set_option linter.unusedVariables false
set_option maxHeartbeats 2000000
noncomputable section
variable {n k : Nat} {B : Int} {a : Node}

theorem grants_eq {b : Node} {m : Msg} : grants b m = decide ((m.term = b.term ∧ (b.vote = -1 ∨ b.vote = m.from)) ∧ (termAt b (last b) < m.at ∨ (m.at = termAt b (last b) ∧ last b ≤ m.index))) := by
  unfold grants fresh
  rw [← Bool.decide_and]

theorem s_40 (hk : 3 ≤ k) (h : NI B a) (hB : B ≤ 2^41) {m : Msg} (mt : m.term ≤ B) : C n k 40 [⟨.st 27, a⟩, ⟨.st 30, m⟩] [.st 27, .sl (.st 30)] = some (asked a m, (askedMsgs a m, ())) := by
  obtain ⟨k, rfl⟩ : ∃ k1, k = k1 + 1 := ⟨k - 1, by omega⟩
  rw [C_succ, nf_40]
  have e71 := s_71 (n := n) (k := k) (t := m.term) (by omega) h.n1 h.n5
  have hb := h.down mt
  unfold asked askedMsgs
  generalize down a m.term = b at e71 hb ⊢
  have q := hb; obtain ⟨n1, n5, i0, i1, lv, lx, lm, t0, t1, b0, b1, c0, c1, k0, k1, ll, la, nx, mx⟩ := q
  have hl : last b = b.base + b.log.length := rfl
  have e50 := s_50 (n := n) (k := k) (a := b) (by omega) (by omega) (by omega) (by omega)
  have e65 := s_65 (n := n) (k := k) (a := b) (i := last b) (by omega) (by omega) (by omega) (by omega) (by omega) (by omega)
  simp only [grants_eq]
  by_cases p : (m.term = b.term ∧ (b.vote = -1 ∨ b.vote = m.from)) ∧ (termAt b (last b) < m.at ∨ (m.at = termAt b (last b) ∧ last b ≤ m.index))
  · simp (discharger := omega) only [r_ite, r_add, r_sub, r_mul, r_quo, r_rem, r_lt, r_le, r_eq, r_bnot, r_or, r_and, r_isel, r_beq, r_band, r_bimp, r_imax, r_imin, r_call, r_gcall, r_bind, Option.bind_some, fits_ok, mfit_ok, wrap_i64, both_self, node_eta, msg_eta, entry_eta, hard_eta, decide_eq_true_eq, Bool.and_eq_true, Bool.or_eq_true, Bool.not_eq_true', decide_eq_false_iff_not, Bool.not_not, not_true_eq_false, not_false_eq_true, Bool.false_eq_true, Bool.true_eq_false, Bool.not_false, Bool.not_true, if_true, if_false, true_and, and_true, or_false, false_or, or_true, true_or, and_false, false_and, true_implies, if_pos, if_neg, len_58, get_58, app_58, set_58, cut_58, rep_58, emp_58, len_30, get_30, app_30, set_30, cut_30, rep_30, emp_30, len_27, get_27, app_27, set_27, cut_27, rep_27, emp_27, len_i, get_i, app_i, set_i, cut_i, rep_i, emp_i, len_b, get_b, app_b, set_b, cut_b, rep_b, emp_b, e71, e50, e65, ← Bool.decide_and, ← Bool.decide_or, ← decide_not, decide_eq_true, decide_eq_false]
  · simp (discharger := omega) only [r_ite, r_add, r_sub, r_mul, r_quo, r_rem, r_lt, r_le, r_eq, r_bnot, r_or, r_and, r_isel, r_beq, r_band, r_bimp, r_imax, r_imin, r_call, r_gcall, r_bind, Option.bind_some, fits_ok, mfit_ok, wrap_i64, both_self, node_eta, msg_eta, entry_eta, hard_eta, decide_eq_true_eq, Bool.and_eq_true, Bool.or_eq_true, Bool.not_eq_true', decide_eq_false_iff_not, Bool.not_not, not_true_eq_false, not_false_eq_true, Bool.false_eq_true, Bool.true_eq_false, Bool.not_false, Bool.not_true, if_true, if_false, true_and, and_true, or_false, false_or, or_true, true_or, and_false, false_and, true_implies, if_pos, if_neg, len_58, get_58, app_58, set_58, cut_58, rep_58, emp_58, len_30, get_30, app_30, set_30, cut_30, rep_30, emp_30, len_27, get_27, app_27, set_27, cut_27, rep_27, emp_27, len_i, get_i, app_i, set_i, cut_i, rep_i, emp_i, len_b, get_b, app_b, set_b, cut_b, rep_b, emp_b, e71, e50, e65, ← Bool.decide_and, ← Bool.decide_or, ← decide_not, decide_eq_true, decide_eq_false]

theorem s_44 (hk : 4 ≤ k) (h : NI B a) (hB : B ≤ 2^41) {m : Msg} (mt : m.term ≤ B) : C n k 44 [⟨.st 27, a⟩, ⟨.st 30, m⟩] [.st 27, .sl (.st 30)] = some (asked a m, (askedMsgs a m, ())) := by
  obtain ⟨k, rfl⟩ : ∃ k1, k = k1 + 1 := ⟨k - 1, by omega⟩
  rw [C_succ, nf_44]
  have e71 := s_78 (n := n) (k := k) (t := m.term) (by omega) h.n1 h.n5
  have hb := h.down mt
  unfold asked askedMsgs
  generalize down a m.term = b at e71 hb ⊢
  have q := hb; obtain ⟨n1, n5, i0, i1, lv, lx, lm, t0, t1, b0, b1, c0, c1, k0, k1, ll, la, nx, mx⟩ := q
  have hl : last b = b.base + b.log.length := rfl
  have e50 := s_28 (n := n) (k := k) (a := b) (by omega) (by omega) (by omega) (by omega)
  have e65 := s_70 (n := n) (k := k) (a := b) (by omega) (by omega) (by omega) (by omega)
  simp only [grants_eq]
  by_cases p : m.term = b.term ∧ (b.vote = -1 ∨ b.vote = m.from)
  · by_cases p1 : termAt b (last b) < m.at
    · simp (discharger := omega) only [r_ite, r_add, r_sub, r_mul, r_quo, r_rem, r_lt, r_le, r_eq, r_bnot, r_or, r_and, r_isel, r_beq, r_band, r_bimp, r_imax, r_imin, r_call, r_gcall, r_bind, Option.bind_some, fits_ok, mfit_ok, wrap_i64, both_self, node_eta, msg_eta, entry_eta, hard_eta, decide_eq_true_eq, Bool.and_eq_true, Bool.or_eq_true, Bool.not_eq_true', decide_eq_false_iff_not, Bool.not_not, not_true_eq_false, not_false_eq_true, Bool.false_eq_true, Bool.true_eq_false, Bool.not_false, Bool.not_true, if_true, if_false, true_and, and_true, or_false, false_or, or_true, true_or, and_false, false_and, true_implies, if_pos, if_neg, len_58, get_58, app_58, set_58, cut_58, rep_58, emp_58, len_30, get_30, app_30, set_30, cut_30, rep_30, emp_30, len_27, get_27, app_27, set_27, cut_27, rep_27, emp_27, len_i, get_i, app_i, set_i, cut_i, rep_i, emp_i, len_b, get_b, app_b, set_b, cut_b, rep_b, emp_b, e71, e50, e65, ← Bool.decide_and, ← Bool.decide_or, ← decide_not, decide_eq_true, decide_eq_false]
    · by_cases p2 : m.at = termAt b (last b)
      · by_cases p3 : last b ≤ m.index
        · simp (discharger := omega) only [r_ite, r_add, r_sub, r_mul, r_quo, r_rem, r_lt, r_le, r_eq, r_bnot, r_or, r_and, r_isel, r_beq, r_band, r_bimp, r_imax, r_imin, r_call, r_gcall, r_bind, Option.bind_some, fits_ok, mfit_ok, wrap_i64, both_self, node_eta, msg_eta, entry_eta, hard_eta, decide_eq_true_eq, Bool.and_eq_true, Bool.or_eq_true, Bool.not_eq_true', decide_eq_false_iff_not, Bool.not_not, not_true_eq_false, not_false_eq_true, Bool.false_eq_true, Bool.true_eq_false, Bool.not_false, Bool.not_true, if_true, if_false, true_and, and_true, or_false, false_or, or_true, true_or, and_false, false_and, true_implies, if_pos, if_neg, len_58, get_58, app_58, set_58, cut_58, rep_58, emp_58, len_30, get_30, app_30, set_30, cut_30, rep_30, emp_30, len_27, get_27, app_27, set_27, cut_27, rep_27, emp_27, len_i, get_i, app_i, set_i, cut_i, rep_i, emp_i, len_b, get_b, app_b, set_b, cut_b, rep_b, emp_b, e71, e50, e65, ← Bool.decide_and, ← Bool.decide_or, ← decide_not, decide_eq_true, decide_eq_false]
        · simp (discharger := omega) only [r_ite, r_add, r_sub, r_mul, r_quo, r_rem, r_lt, r_le, r_eq, r_bnot, r_or, r_and, r_isel, r_beq, r_band, r_bimp, r_imax, r_imin, r_call, r_gcall, r_bind, Option.bind_some, fits_ok, mfit_ok, wrap_i64, both_self, node_eta, msg_eta, entry_eta, hard_eta, decide_eq_true_eq, Bool.and_eq_true, Bool.or_eq_true, Bool.not_eq_true', decide_eq_false_iff_not, Bool.not_not, not_true_eq_false, not_false_eq_true, Bool.false_eq_true, Bool.true_eq_false, Bool.not_false, Bool.not_true, if_true, if_false, true_and, and_true, or_false, false_or, or_true, true_or, and_false, false_and, true_implies, if_pos, if_neg, len_58, get_58, app_58, set_58, cut_58, rep_58, emp_58, len_30, get_30, app_30, set_30, cut_30, rep_30, emp_30, len_27, get_27, app_27, set_27, cut_27, rep_27, emp_27, len_i, get_i, app_i, set_i, cut_i, rep_i, emp_i, len_b, get_b, app_b, set_b, cut_b, rep_b, emp_b, e71, e50, e65, ← Bool.decide_and, ← Bool.decide_or, ← decide_not, decide_eq_true, decide_eq_false]
      · simp (discharger := omega) only [r_ite, r_add, r_sub, r_mul, r_quo, r_rem, r_lt, r_le, r_eq, r_bnot, r_or, r_and, r_isel, r_beq, r_band, r_bimp, r_imax, r_imin, r_call, r_gcall, r_bind, Option.bind_some, fits_ok, mfit_ok, wrap_i64, both_self, node_eta, msg_eta, entry_eta, hard_eta, decide_eq_true_eq, Bool.and_eq_true, Bool.or_eq_true, Bool.not_eq_true', decide_eq_false_iff_not, Bool.not_not, not_true_eq_false, not_false_eq_true, Bool.false_eq_true, Bool.true_eq_false, Bool.not_false, Bool.not_true, if_true, if_false, true_and, and_true, or_false, false_or, or_true, true_or, and_false, false_and, true_implies, if_pos, if_neg, len_58, get_58, app_58, set_58, cut_58, rep_58, emp_58, len_30, get_30, app_30, set_30, cut_30, rep_30, emp_30, len_27, get_27, app_27, set_27, cut_27, rep_27, emp_27, len_i, get_i, app_i, set_i, cut_i, rep_i, emp_i, len_b, get_b, app_b, set_b, cut_b, rep_b, emp_b, e71, e50, e65, ← Bool.decide_and, ← Bool.decide_or, ← decide_not, decide_eq_true, decide_eq_false]
  · simp (discharger := omega) only [r_ite, r_add, r_sub, r_mul, r_quo, r_rem, r_lt, r_le, r_eq, r_bnot, r_or, r_and, r_isel, r_beq, r_band, r_bimp, r_imax, r_imin, r_call, r_gcall, r_bind, Option.bind_some, fits_ok, mfit_ok, wrap_i64, both_self, node_eta, msg_eta, entry_eta, hard_eta, decide_eq_true_eq, Bool.and_eq_true, Bool.or_eq_true, Bool.not_eq_true', decide_eq_false_iff_not, Bool.not_not, not_true_eq_false, not_false_eq_true, Bool.false_eq_true, Bool.true_eq_false, Bool.not_false, Bool.not_true, if_true, if_false, true_and, and_true, or_false, false_or, or_true, true_or, and_false, false_and, true_implies, if_pos, if_neg, len_58, get_58, app_58, set_58, cut_58, rep_58, emp_58, len_30, get_30, app_30, set_30, cut_30, rep_30, emp_30, len_27, get_27, app_27, set_27, cut_27, rep_27, emp_27, len_i, get_i, app_i, set_i, cut_i, rep_i, emp_i, len_b, get_b, app_b, set_b, cut_b, rep_b, emp_b, e71, e50, e65, ← Bool.decide_and, ← Bool.decide_or, ← decide_not, decide_eq_true, decide_eq_false]

theorem cntB_step {L : List Bool} {j : Nat} (h : j < L.length) : cntB (L.drop j) = (if L.getD j false = true then 1 else 0) + cntB (L.drop (j + 1)) := by
  have e : L.drop j = L[j] :: L.drop (j + 1) := List.drop_eq_getElem_cons h
  have e2 : L.getD j false = L[j] := by simp [List.getD, h]
  rw [e, e2]
  rfl

theorem cntB_end {L : List Bool} {j : Nat} (h : L.length ≤ j) : cntB (L.drop j) = 0 := by
  rw [List.drop_eq_nil_of_le h]
  rfl

theorem s_89 (hk : 1 ≤ k) (hn : 100 ≤ n) {L : List Bool} (h : L.length ≤ 50) : C n k 89 [⟨.sl .bool, L⟩, ⟨.fnc 90, ()⟩] [.int .i64] = some (cntB L, ()) := by
  obtain ⟨k, rfl⟩ : ∃ k1, k = k1 + 1 := ⟨k - 1, by omega⟩
  rw [C_succ, nf_89]
  simp (discharger := omega) only [r_ite, r_add, r_sub, r_mul, r_quo, r_rem, r_lt, r_le, r_eq, r_bnot, r_or, r_and, r_isel, r_beq, r_band, r_bimp, r_imax, r_imin, r_call, r_gcall, r_bind, Option.bind_some, fits_ok, mfit_ok, wrap_i64, both_self, node_eta, msg_eta, entry_eta, hard_eta, decide_eq_true_eq, Bool.and_eq_true, Bool.or_eq_true, Bool.not_eq_true', decide_eq_false_iff_not, Bool.not_not, not_true_eq_false, not_false_eq_true, Bool.false_eq_true, Bool.true_eq_false, Bool.not_false, Bool.not_true, if_true, if_false, true_and, and_true, or_false, false_or, or_true, true_or, and_false, false_and, true_implies, if_pos, if_neg, len_58, get_58, app_58, set_58, cut_58, rep_58, emp_58, len_30, get_30, app_30, set_30, cut_30, rep_30, emp_30, len_27, get_27, app_27, set_27, cut_27, rep_27, emp_27, len_i, get_i, app_i, set_i, cut_i, rep_i, emp_i, len_b, get_b, app_b, set_b, cut_b, rep_b, emp_b, r_loop]
  refine (iter_rule' (fun x => L.length - x.2.1.toNat) (fun x => 0 ≤ x.2.1 ∧ x.2.1 ≤ (L.length : Int) ∧ 0 ≤ x.1 ∧ x.1 ≤ x.2.1)
    (fun x => some (x.1 + cntB (L.drop x.2.1.toNat), ())) ?_ n _ ⟨by simp only <;> omega, by simp only <;> omega, by simp only <;> omega, by simp only <;> omega⟩ (by simp only; omega)).trans ?_
  · rintro next2 ⟨c2, j, rest2⟩ ⟨p0, p1, p2, p3⟩ ih2
    simp only at p0 p1 p2 p3
    by_cases q5 : j < L.length
    · have e3 : (j + 1).toNat = j.toNat + 1 := by omega
      have es := cntB_step (L := L) (j := j.toNat) (by omega)
      by_cases q6 : L.getD j.toNat false = true
      · rw [if_pos q6] at es
        simp (discharger := omega) only [r_ite, r_add, r_sub, r_mul, r_quo, r_rem, r_lt, r_le, r_eq, r_bnot, r_or, r_and, r_isel, r_beq, r_band, r_bimp, r_imax, r_imin, r_call, r_gcall, r_bind, Option.bind_some, fits_ok, mfit_ok, wrap_i64, both_self, node_eta, msg_eta, entry_eta, hard_eta, decide_eq_true_eq, Bool.and_eq_true, Bool.or_eq_true, Bool.not_eq_true', decide_eq_false_iff_not, Bool.not_not, not_true_eq_false, not_false_eq_true, Bool.false_eq_true, Bool.true_eq_false, Bool.not_false, Bool.not_true, if_true, if_false, true_and, and_true, or_false, false_or, or_true, true_or, and_false, false_and, true_implies, if_pos, if_neg, len_58, get_58, app_58, set_58, cut_58, rep_58, emp_58, len_30, get_30, app_30, set_30, cut_30, rep_30, emp_30, len_27, get_27, app_27, set_27, cut_27, rep_27, emp_27, len_i, get_i, app_i, set_i, cut_i, rep_i, emp_i, len_b, get_b, app_b, set_b, cut_b, rep_b, emp_b, q6]
        rw [ih2 _ ⟨by simp only; omega, by simp only; omega, by simp only; omega, by simp only; omega⟩ (by simp only; omega)]
        simp only [e3, es, Int.add_assoc]
      · rw [if_neg q6] at es
        have q7 : L.getD j.toNat false = false := by simpa using q6
        simp (discharger := omega) only [r_ite, r_add, r_sub, r_mul, r_quo, r_rem, r_lt, r_le, r_eq, r_bnot, r_or, r_and, r_isel, r_beq, r_band, r_bimp, r_imax, r_imin, r_call, r_gcall, r_bind, Option.bind_some, fits_ok, mfit_ok, wrap_i64, both_self, node_eta, msg_eta, entry_eta, hard_eta, decide_eq_true_eq, Bool.and_eq_true, Bool.or_eq_true, Bool.not_eq_true', decide_eq_false_iff_not, Bool.not_not, not_true_eq_false, not_false_eq_true, Bool.false_eq_true, Bool.true_eq_false, Bool.not_false, Bool.not_true, if_true, if_false, true_and, and_true, or_false, false_or, or_true, true_or, and_false, false_and, true_implies, if_pos, if_neg, len_58, get_58, app_58, set_58, cut_58, rep_58, emp_58, len_30, get_30, app_30, set_30, cut_30, rep_30, emp_30, len_27, get_27, app_27, set_27, cut_27, rep_27, emp_27, len_i, get_i, app_i, set_i, cut_i, rep_i, emp_i, len_b, get_b, app_b, set_b, cut_b, rep_b, emp_b, q7]
        rw [ih2 _ ⟨by simp only; omega, by simp only; omega, by simp only; omega, by simp only; omega⟩ (by simp only; omega)]
        simp only [e3, es, Int.zero_add]
    · have es := cntB_end (L := L) (j := j.toNat) (by omega)
      simp (discharger := omega) only [r_ite, r_add, r_sub, r_mul, r_quo, r_rem, r_lt, r_le, r_eq, r_bnot, r_or, r_and, r_isel, r_beq, r_band, r_bimp, r_imax, r_imin, r_call, r_gcall, r_bind, Option.bind_some, fits_ok, mfit_ok, wrap_i64, both_self, node_eta, msg_eta, entry_eta, hard_eta, decide_eq_true_eq, Bool.and_eq_true, Bool.or_eq_true, Bool.not_eq_true', decide_eq_false_iff_not, Bool.not_not, not_true_eq_false, not_false_eq_true, Bool.false_eq_true, Bool.true_eq_false, Bool.not_false, Bool.not_true, if_true, if_false, true_and, and_true, or_false, false_or, or_true, true_or, and_false, false_and, true_implies, if_pos, if_neg, len_58, get_58, app_58, set_58, cut_58, rep_58, emp_58, len_30, get_30, app_30, set_30, cut_30, rep_30, emp_30, len_27, get_27, app_27, set_27, cut_27, rep_27, emp_27, len_i, get_i, app_i, set_i, cut_i, rep_i, emp_i, len_b, get_b, app_b, set_b, cut_b, rep_b, emp_b, es, Int.add_zero]
  · simp only [Int.toNat_zero, List.drop_zero, Int.zero_add]

theorem hears_eq {b : Node} {m : Msg} : hears b m = decide (m.yes = true ∧ m.term = b.term ∧ b.role = 1) := by
  unfold hears
  cases m.yes <;> simp

theorem s_72 (hk : 2 ≤ k) (hn : 100 ≤ n) (h : NI B a) {m : Msg} (mt : m.term ≤ B) (f0 : 0 ≤ m.from) (f1 : m.from < a.nodes) :
    C n k 72 [⟨.st 27, a⟩, ⟨.st 30, m⟩] [.st 27, .bool] = some (given a m, (won a m, ())) := by
  obtain ⟨k, rfl⟩ : ∃ k1, k = k1 + 1 := ⟨k - 1, by omega⟩
  rw [C_succ, nf_72]
  have e71 := s_71 (n := n) (k := k) (t := m.term) (by omega) h.n1 h.n5
  have hb := h.down mt
  have hnn : (down a m.term).nodes = a.nodes := by unfold down; split <;> rfl
  unfold given won
  generalize down a m.term = b at e71 hb hnn ⊢
  have q := hb; obtain ⟨n1, n5, i0, i1, lv, lx, lm, t0, t1, b0, b1, c0, c1, k0, k1, ll, la, nx, mx⟩ := q
  have e89 := s_89 (n := n) (k := k) (L := b.votes.set m.from.toNat true) (by omega) hn (by rw [List.length_set]; omega)
  have e34 : ∀ X, C n k 34 [⟨.st 27, (⟨b.id, b.nodes, b.term, b.vote, b.base, b.baseTerm, b.snap, b.log, b.role, b.lead, b.commit, X, b.next, b.match, b.clock⟩ : Node)⟩] [.int .i64] = some (most b, ()) :=
    fun X => s_34 (a := (⟨b.id, b.nodes, b.term, b.vote, b.base, b.baseTerm, b.snap, b.log, b.role, b.lead, b.commit, X, b.next, b.match, b.clock⟩ : Node)) (by omega) n1 n5
  simp only [hears_eq]
  by_cases p0 : m.yes = true
  · by_cases p : m.term = b.term ∧ b.role = 1
    · simp (discharger := omega) only [r_ite, r_add, r_sub, r_mul, r_quo, r_rem, r_lt, r_le, r_eq, r_bnot, r_or, r_and, r_isel, r_beq, r_band, r_bimp, r_imax, r_imin, r_call, r_gcall, r_bind, Option.bind_some, fits_ok, mfit_ok, wrap_i64, both_self, node_eta, msg_eta, entry_eta, hard_eta, decide_eq_true_eq, Bool.and_eq_true, Bool.or_eq_true, Bool.not_eq_true', decide_eq_false_iff_not, Bool.not_not, not_true_eq_false, not_false_eq_true, Bool.false_eq_true, Bool.true_eq_false, Bool.not_false, Bool.not_true, if_true, if_false, true_and, and_true, or_false, false_or, or_true, true_or, and_false, false_and, true_implies, if_pos, if_neg, len_58, get_58, app_58, set_58, cut_58, rep_58, emp_58, len_30, get_30, app_30, set_30, cut_30, rep_30, emp_30, len_27, get_27, app_27, set_27, cut_27, rep_27, emp_27, len_i, get_i, app_i, set_i, cut_i, rep_i, emp_i, len_b, get_b, app_b, set_b, cut_b, rep_b, emp_b, e71, e89, e34, p0, Bool.true_and, ← Bool.decide_and, ← Bool.decide_or, ← decide_not, decide_eq_true, decide_eq_false]
    · simp (discharger := omega) only [r_ite, r_add, r_sub, r_mul, r_quo, r_rem, r_lt, r_le, r_eq, r_bnot, r_or, r_and, r_isel, r_beq, r_band, r_bimp, r_imax, r_imin, r_call, r_gcall, r_bind, Option.bind_some, fits_ok, mfit_ok, wrap_i64, both_self, node_eta, msg_eta, entry_eta, hard_eta, decide_eq_true_eq, Bool.and_eq_true, Bool.or_eq_true, Bool.not_eq_true', decide_eq_false_iff_not, Bool.not_not, not_true_eq_false, not_false_eq_true, Bool.false_eq_true, Bool.true_eq_false, Bool.not_false, Bool.not_true, if_true, if_false, true_and, and_true, or_false, false_or, or_true, true_or, and_false, false_and, true_implies, if_pos, if_neg, len_58, get_58, app_58, set_58, cut_58, rep_58, emp_58, len_30, get_30, app_30, set_30, cut_30, rep_30, emp_30, len_27, get_27, app_27, set_27, cut_27, rep_27, emp_27, len_i, get_i, app_i, set_i, cut_i, rep_i, emp_i, len_b, get_b, app_b, set_b, cut_b, rep_b, emp_b, e71, e89, e34, p0, Bool.false_and, ← Bool.decide_and, ← Bool.decide_or, ← decide_not, decide_eq_true, decide_eq_false]
  · have p0' : m.yes = false := by simpa using p0
    simp (discharger := omega) only [r_ite, r_add, r_sub, r_mul, r_quo, r_rem, r_lt, r_le, r_eq, r_bnot, r_or, r_and, r_isel, r_beq, r_band, r_bimp, r_imax, r_imin, r_call, r_gcall, r_bind, Option.bind_some, fits_ok, mfit_ok, wrap_i64, both_self, node_eta, msg_eta, entry_eta, hard_eta, decide_eq_true_eq, Bool.and_eq_true, Bool.or_eq_true, Bool.not_eq_true', decide_eq_false_iff_not, Bool.not_not, not_true_eq_false, not_false_eq_true, Bool.false_eq_true, Bool.true_eq_false, Bool.not_false, Bool.not_true, if_true, if_false, true_and, and_true, or_false, false_or, or_true, true_or, and_false, false_and, true_implies, if_pos, if_neg, len_58, get_58, app_58, set_58, cut_58, rep_58, emp_58, len_30, get_30, app_30, set_30, cut_30, rep_30, emp_30, len_27, get_27, app_27, set_27, cut_27, rep_27, emp_27, len_i, get_i, app_i, set_i, cut_i, rep_i, emp_i, len_b, get_b, app_b, set_b, cut_b, rep_b, emp_b, e71, e89, e34, p0', Bool.false_and, ← Bool.decide_and, ← Bool.decide_or, ← decide_not, decide_eq_true, decide_eq_false]
    rfl

theorem s_45 (hk : 2 ≤ k) (hn : 100 ≤ n) (h : NI B a) {m : Msg} (mt : m.term ≤ B) (f0 : 0 ≤ m.from) (f1 : m.from < a.nodes) :
    C n k 45 [⟨.st 27, a⟩, ⟨.st 30, m⟩] [.st 27, .bool] = some (given a m, (won a m, ())) := by
  obtain ⟨k, rfl⟩ : ∃ k1, k = k1 + 1 := ⟨k - 1, by omega⟩
  rw [C_succ, nf_45]
  have e71 := s_78 (n := n) (k := k) (t := m.term) (by omega) h.n1 h.n5
  have hb := h.down mt
  have hnn : (down a m.term).nodes = a.nodes := by unfold down; split <;> rfl
  unfold given won
  generalize down a m.term = b at e71 hb hnn ⊢
  have q := hb; obtain ⟨n1, n5, i0, i1, lv, lx, lm, t0, t1, b0, b1, c0, c1, k0, k1, ll, la, nx, mx⟩ := q
  have e34 : ∀ X, C n k 38 [⟨.st 27, (⟨b.id, b.nodes, b.term, b.vote, b.base, b.baseTerm, b.snap, b.log, b.role, b.lead, b.commit, X, b.next, b.match, b.clock⟩ : Node)⟩] [.int .i64] = some (most b, ()) :=
    fun X => s_38 (a := (⟨b.id, b.nodes, b.term, b.vote, b.base, b.baseTerm, b.snap, b.log, b.role, b.lead, b.commit, X, b.next, b.match, b.clock⟩ : Node)) (by omega) n1 n5
  simp only [hears_eq]
  by_cases p0 : m.yes = true
  · by_cases p : m.term = b.term ∧ b.role = 1
    · simp (discharger := omega) only [r_ite, r_add, r_sub, r_mul, r_quo, r_rem, r_lt, r_le, r_eq, r_bnot, r_or, r_and, r_isel, r_beq, r_band, r_bimp, r_imax, r_imin, r_call, r_gcall, r_bind, Option.bind_some, fits_ok, mfit_ok, wrap_i64, both_self, node_eta, msg_eta, entry_eta, hard_eta, decide_eq_true_eq, Bool.and_eq_true, Bool.or_eq_true, Bool.not_eq_true', decide_eq_false_iff_not, Bool.not_not, not_true_eq_false, not_false_eq_true, Bool.false_eq_true, Bool.true_eq_false, Bool.not_false, Bool.not_true, if_true, if_false, true_and, and_true, or_false, false_or, or_true, true_or, and_false, false_and, true_implies, if_pos, if_neg, len_58, get_58, app_58, set_58, cut_58, rep_58, emp_58, len_30, get_30, app_30, set_30, cut_30, rep_30, emp_30, len_27, get_27, app_27, set_27, cut_27, rep_27, emp_27, len_i, get_i, app_i, set_i, cut_i, rep_i, emp_i, len_b, get_b, app_b, set_b, cut_b, rep_b, emp_b, e71, e34, p0, Bool.true_and, r_loop, ← Bool.decide_and, ← Bool.decide_or, ← decide_not, decide_eq_true, decide_eq_false]
      have hlen : (b.votes.set m.from.toNat true).length = b.votes.length := List.length_set
      generalize b.votes.set m.from.toNat true = L at hlen ⊢
      refine (iter_rule' (fun x => L.length - x.2.1.toNat) (fun x => 0 ≤ x.2.1 ∧ x.2.1 ≤ (L.length : Int) ∧ 0 ≤ x.1 ∧ x.1 ≤ x.2.1)
        (fun x => some (({ b with votes := L } : Node), (decide (most b ≤ x.1 + cntB (L.drop x.2.1.toNat)), ()))) ?_ n _ ⟨by simp only <;> omega, by simp only <;> omega, by simp only <;> omega, by simp only <;> omega⟩ (by simp only; omega)).trans ?_
      · rintro next2 ⟨c2, j, rest2⟩ ⟨p0, p1, p2, p3⟩ ih2
        simp only at p0 p1 p2 p3
        by_cases q5 : j < L.length
        · have e3 : (j + 1).toNat = j.toNat + 1 := by omega
          have es := cntB_step (L := L) (j := j.toNat) (by omega)
          by_cases q6 : L.getD j.toNat false = true
          · rw [if_pos q6] at es
            simp (discharger := omega) only [r_ite, r_add, r_sub, r_mul, r_quo, r_rem, r_lt, r_le, r_eq, r_bnot, r_or, r_and, r_isel, r_beq, r_band, r_bimp, r_imax, r_imin, r_call, r_gcall, r_bind, Option.bind_some, fits_ok, mfit_ok, wrap_i64, both_self, node_eta, msg_eta, entry_eta, hard_eta, decide_eq_true_eq, Bool.and_eq_true, Bool.or_eq_true, Bool.not_eq_true', decide_eq_false_iff_not, Bool.not_not, not_true_eq_false, not_false_eq_true, Bool.false_eq_true, Bool.true_eq_false, Bool.not_false, Bool.not_true, if_true, if_false, true_and, and_true, or_false, false_or, or_true, true_or, and_false, false_and, true_implies, if_pos, if_neg, len_58, get_58, app_58, set_58, cut_58, rep_58, emp_58, len_30, get_30, app_30, set_30, cut_30, rep_30, emp_30, len_27, get_27, app_27, set_27, cut_27, rep_27, emp_27, len_i, get_i, app_i, set_i, cut_i, rep_i, emp_i, len_b, get_b, app_b, set_b, cut_b, rep_b, emp_b, q6]
            rw [ih2 _ ⟨by simp only; omega, by simp only; omega, by simp only; omega, by simp only; omega⟩ (by simp only; omega)]
            simp only [e3, es, Int.add_assoc]
          · rw [if_neg q6] at es
            have q7 : L.getD j.toNat false = false := by simpa using q6
            simp (discharger := omega) only [r_ite, r_add, r_sub, r_mul, r_quo, r_rem, r_lt, r_le, r_eq, r_bnot, r_or, r_and, r_isel, r_beq, r_band, r_bimp, r_imax, r_imin, r_call, r_gcall, r_bind, Option.bind_some, fits_ok, mfit_ok, wrap_i64, both_self, node_eta, msg_eta, entry_eta, hard_eta, decide_eq_true_eq, Bool.and_eq_true, Bool.or_eq_true, Bool.not_eq_true', decide_eq_false_iff_not, Bool.not_not, not_true_eq_false, not_false_eq_true, Bool.false_eq_true, Bool.true_eq_false, Bool.not_false, Bool.not_true, if_true, if_false, true_and, and_true, or_false, false_or, or_true, true_or, and_false, false_and, true_implies, if_pos, if_neg, len_58, get_58, app_58, set_58, cut_58, rep_58, emp_58, len_30, get_30, app_30, set_30, cut_30, rep_30, emp_30, len_27, get_27, app_27, set_27, cut_27, rep_27, emp_27, len_i, get_i, app_i, set_i, cut_i, rep_i, emp_i, len_b, get_b, app_b, set_b, cut_b, rep_b, emp_b, q7]
            rw [ih2 _ ⟨by simp only; omega, by simp only; omega, by simp only; omega, by simp only; omega⟩ (by simp only; omega)]
            simp only [e3, es, Int.zero_add]
        · have es := cntB_end (L := L) (j := j.toNat) (by omega)
          simp (discharger := omega) only [r_ite, r_add, r_sub, r_mul, r_quo, r_rem, r_lt, r_le, r_eq, r_bnot, r_or, r_and, r_isel, r_beq, r_band, r_bimp, r_imax, r_imin, r_call, r_gcall, r_bind, Option.bind_some, fits_ok, mfit_ok, wrap_i64, both_self, node_eta, msg_eta, entry_eta, hard_eta, decide_eq_true_eq, Bool.and_eq_true, Bool.or_eq_true, Bool.not_eq_true', decide_eq_false_iff_not, Bool.not_not, not_true_eq_false, not_false_eq_true, Bool.false_eq_true, Bool.true_eq_false, Bool.not_false, Bool.not_true, if_true, if_false, true_and, and_true, or_false, false_or, or_true, true_or, and_false, false_and, true_implies, if_pos, if_neg, len_58, get_58, app_58, set_58, cut_58, rep_58, emp_58, len_30, get_30, app_30, set_30, cut_30, rep_30, emp_30, len_27, get_27, app_27, set_27, cut_27, rep_27, emp_27, len_i, get_i, app_i, set_i, cut_i, rep_i, emp_i, len_b, get_b, app_b, set_b, cut_b, rep_b, emp_b, es, Int.add_zero, e34]
      · simp only [Int.toNat_zero, List.drop_zero, Int.zero_add]
    · simp (discharger := omega) only [r_ite, r_add, r_sub, r_mul, r_quo, r_rem, r_lt, r_le, r_eq, r_bnot, r_or, r_and, r_isel, r_beq, r_band, r_bimp, r_imax, r_imin, r_call, r_gcall, r_bind, Option.bind_some, fits_ok, mfit_ok, wrap_i64, both_self, node_eta, msg_eta, entry_eta, hard_eta, decide_eq_true_eq, Bool.and_eq_true, Bool.or_eq_true, Bool.not_eq_true', decide_eq_false_iff_not, Bool.not_not, not_true_eq_false, not_false_eq_true, Bool.false_eq_true, Bool.true_eq_false, Bool.not_false, Bool.not_true, if_true, if_false, true_and, and_true, or_false, false_or, or_true, true_or, and_false, false_and, true_implies, if_pos, if_neg, len_58, get_58, app_58, set_58, cut_58, rep_58, emp_58, len_30, get_30, app_30, set_30, cut_30, rep_30, emp_30, len_27, get_27, app_27, set_27, cut_27, rep_27, emp_27, len_i, get_i, app_i, set_i, cut_i, rep_i, emp_i, len_b, get_b, app_b, set_b, cut_b, rep_b, emp_b, e71, e34, p0, Bool.false_and, ← Bool.decide_and, ← Bool.decide_or, ← decide_not, decide_eq_true, decide_eq_false]
  · have p0' : m.yes = false := by simpa using p0
    simp (discharger := omega) only [r_ite, r_add, r_sub, r_mul, r_quo, r_rem, r_lt, r_le, r_eq, r_bnot, r_or, r_and, r_isel, r_beq, r_band, r_bimp, r_imax, r_imin, r_call, r_gcall, r_bind, Option.bind_some, fits_ok, mfit_ok, wrap_i64, both_self, node_eta, msg_eta, entry_eta, hard_eta, decide_eq_true_eq, Bool.and_eq_true, Bool.or_eq_true, Bool.not_eq_true', decide_eq_false_iff_not, Bool.not_not, not_true_eq_false, not_false_eq_true, Bool.false_eq_true, Bool.true_eq_false, Bool.not_false, Bool.not_true, if_true, if_false, true_and, and_true, or_false, false_or, or_true, true_or, and_false, false_and, true_implies, if_pos, if_neg, len_58, get_58, app_58, set_58, cut_58, rep_58, emp_58, len_30, get_30, app_30, set_30, cut_30, rep_30, emp_30, len_27, get_27, app_27, set_27, cut_27, rep_27, emp_27, len_i, get_i, app_i, set_i, cut_i, rep_i, emp_i, len_b, get_b, app_b, set_b, cut_b, rep_b, emp_b, e71, e34, p0', Bool.false_and, ← Bool.decide_and, ← Bool.decide_or, ← decide_not, decide_eq_true, decide_eq_false]
    rfl

end
end Go.Proofs.Ytinfpahllbhomaa

namespace Go.Proofs.Ytinfpahllbhomaa
open Go.Ab
set_option linter.unusedSimpArgs false
set_option linter.unusedVariables false
set_option maxHeartbeats 2000000
noncomputable section
variable {n k : Nat} {B : Int} {a : Node}

/-- A message that may be. -/
structure MI (B : Int) (N : Int) (m : Msg) : Prop where
  f0 : 0 ≤ m.from
  f1 : m.from < N
  mt : m.term ≤ B
  x0 : 0 ≤ m.index
  x1 : m.index ≤ B
  y0 : 0 ≤ m.commit
  y1 : m.commit ≤ B
  el : m.entries.length ≤ 20

theorem s_74 (hk : 3 ≤ k) (h : NI B a) (hB : B ≤ 2^41) {m : Msg} (hm : MI B a.nodes m) : C n k 74 [⟨.st 27, a⟩, ⟨.st 30, m⟩] [.st 27, .sl (.st 30)] = some (installN a m, (installMsgs a m, ())) := by
  obtain ⟨k, rfl⟩ : ∃ k1, k = k1 + 1 := ⟨k - 1, by omega⟩
  rw [C_succ, nf_74]
  have q := h; obtain ⟨n1, n5, i0, i1, lv, lx, lm, t0, t1, b0, b1, c0, c1, k0, k1, ll, la, nx, mx⟩ := q
  obtain ⟨f0, f1, mt, x0, x1, y0, y1, el⟩ := hm
  have e65 := s_65 (n := n) (k := k) (a := a) (i := m.index) (by omega) (by omega) (by omega) (by omega) (by omega) (by omega)
  have e86 := s_86 (n := n) (k := k) (a := a) (i := m.index) (by omega) (by omega) (by omega) (by omega) (by omega) (by omega)
  have hb : ((behind a m.index).length : Int) ≤ B := by unfold behind; rw [List.length_drop]; omega
  have e87 := s_87 (n := n) (k := k) (L := behind a m.index) (by omega) (by omega)
  have e73 : ∀ (b : Node) (y : Bool) (i : Int), C n k 73 [⟨.st 27, b⟩, ⟨.st 30, m⟩, ⟨.bool, y⟩, ⟨.int .i64, i⟩] [.sl (.st 30)] = some (taken b m y i, ()) := fun b y i => s_73 (by omega)
  unfold installN installMsgs
  by_cases p : m.index ≤ a.commit
  · simp (maxSteps := 2000000) (discharger := omega) only [r_ite, r_add, r_sub, r_mul, r_quo, r_rem, r_lt, r_le, r_eq, r_bnot, r_or, r_and, r_isel, r_beq, r_band, r_bimp, r_imax, r_imin, r_call, r_gcall, r_bind, Option.bind_some, fits_ok, mfit_ok, wrap_i64, both_self, node_eta, msg_eta, entry_eta, hard_eta, decide_eq_true_eq, Bool.and_eq_true, Bool.or_eq_true, Bool.not_eq_true', decide_eq_false_iff_not, Bool.not_not, eq_self, not_true_eq_false, not_false_eq_true, Bool.false_eq_true, Bool.true_eq_false, Bool.not_false, Bool.not_true, if_true, if_false, true_and, and_true, or_false, false_or, or_true, true_or, and_false, false_and, true_implies, if_pos, if_neg, len_58, get_58, app_58, set_58, cut_58, rep_58, emp_58, len_30, get_30, app_30, set_30, cut_30, rep_30, emp_30, len_27, get_27, app_27, set_27, cut_27, rep_27, emp_27, len_i, get_i, app_i, set_i, cut_i, rep_i, emp_i, len_b, get_b, app_b, set_b, cut_b, rep_b, emp_b, e73]
  · by_cases p1 : termOk a m.index = true
    · by_cases p2 : termAt a m.index = m.at
      · simp (maxSteps := 2000000) (discharger := omega) only [r_ite, r_add, r_sub, r_mul, r_quo, r_rem, r_lt, r_le, r_eq, r_bnot, r_or, r_and, r_isel, r_beq, r_band, r_bimp, r_imax, r_imin, r_call, r_gcall, r_bind, Option.bind_some, fits_ok, mfit_ok, wrap_i64, both_self, node_eta, msg_eta, entry_eta, hard_eta, decide_eq_true_eq, Bool.and_eq_true, Bool.or_eq_true, Bool.not_eq_true', decide_eq_false_iff_not, Bool.not_not, eq_self, not_true_eq_false, not_false_eq_true, Bool.false_eq_true, Bool.true_eq_false, Bool.not_false, Bool.not_true, if_true, if_false, true_and, and_true, or_false, false_or, or_true, true_or, and_false, false_and, true_implies, if_pos, if_neg, len_58, get_58, app_58, set_58, cut_58, rep_58, emp_58, len_30, get_30, app_30, set_30, cut_30, rep_30, emp_30, len_27, get_27, app_27, set_27, cut_27, rep_27, emp_27, len_i, get_i, app_i, set_i, cut_i, rep_i, emp_i, len_b, get_b, app_b, set_b, cut_b, rep_b, emp_b, e73, e65, e86, e87, p1, decide_eq_true p2]
        rfl
      · simp (maxSteps := 2000000) (discharger := omega) only [r_ite, r_add, r_sub, r_mul, r_quo, r_rem, r_lt, r_le, r_eq, r_bnot, r_or, r_and, r_isel, r_beq, r_band, r_bimp, r_imax, r_imin, r_call, r_gcall, r_bind, Option.bind_some, fits_ok, mfit_ok, wrap_i64, both_self, node_eta, msg_eta, entry_eta, hard_eta, decide_eq_true_eq, Bool.and_eq_true, Bool.or_eq_true, Bool.not_eq_true', decide_eq_false_iff_not, Bool.not_not, eq_self, not_true_eq_false, not_false_eq_true, Bool.false_eq_true, Bool.true_eq_false, Bool.not_false, Bool.not_true, if_true, if_false, true_and, and_true, or_false, false_or, or_true, true_or, and_false, false_and, true_implies, if_pos, if_neg, len_58, get_58, app_58, set_58, cut_58, rep_58, emp_58, len_30, get_30, app_30, set_30, cut_30, rep_30, emp_30, len_27, get_27, app_27, set_27, cut_27, rep_27, emp_27, len_i, get_i, app_i, set_i, cut_i, rep_i, emp_i, len_b, get_b, app_b, set_b, cut_b, rep_b, emp_b, e73, e65, e86, e87, p1, decide_eq_false p2]
        rfl
    · have p1' : termOk a m.index = false := by simpa using p1
      simp (maxSteps := 2000000) (discharger := omega) only [r_ite, r_add, r_sub, r_mul, r_quo, r_rem, r_lt, r_le, r_eq, r_bnot, r_or, r_and, r_isel, r_beq, r_band, r_bimp, r_imax, r_imin, r_call, r_gcall, r_bind, Option.bind_some, fits_ok, mfit_ok, wrap_i64, both_self, node_eta, msg_eta, entry_eta, hard_eta, decide_eq_true_eq, Bool.and_eq_true, Bool.or_eq_true, Bool.not_eq_true', decide_eq_false_iff_not, Bool.not_not, eq_self, not_true_eq_false, not_false_eq_true, Bool.false_eq_true, Bool.true_eq_false, Bool.not_false, Bool.not_true, if_true, if_false, true_and, and_true, or_false, false_or, or_true, true_or, and_false, false_and, true_implies, if_pos, if_neg, len_58, get_58, app_58, set_58, cut_58, rep_58, emp_58, len_30, get_30, app_30, set_30, cut_30, rep_30, emp_30, len_27, get_27, app_27, set_27, cut_27, rep_27, emp_27, len_i, get_i, app_i, set_i, cut_i, rep_i, emp_i, len_b, get_b, app_b, set_b, cut_b, rep_b, emp_b, e73, e65, e86, e87, p1']
      rfl

theorem s_81 (hk : 3 ≤ k) (h : NI B a) (hB : B ≤ 2^41) {m : Msg} (hm : MI B a.nodes m) : C n k 81 [⟨.st 27, a⟩, ⟨.st 30, m⟩] [.st 27, .sl (.st 30)] = some (installN a m, (installMsgs a m, ())) := by
  obtain ⟨k, rfl⟩ : ∃ k1, k = k1 + 1 := ⟨k - 1, by omega⟩
  rw [C_succ, nf_81]
  have q := h; obtain ⟨n1, n5, i0, i1, lv, lx, lm, t0, t1, b0, b1, c0, c1, k0, k1, ll, la, nx, mx⟩ := q
  obtain ⟨f0, f1, mt, x0, x1, y0, y1, el⟩ := hm
  have e65 := s_30 (n := n) (k := k) (a := a) (i := m.index) (by omega) (by omega) (by omega) (by omega) (by omega) (by omega)
  have e86 := s_62 (n := n) (k := k) (a := a) (i := m.index) (by omega) (by omega) (by omega) (by omega) (by omega) (by omega)
  have e73 : ∀ (b : Node) (y : Bool) (i : Int), C n k 80 [⟨.st 27, b⟩, ⟨.int .i64, m.from⟩, ⟨.bool, y⟩, ⟨.int .i64, i⟩] [.sl (.st 30)] = some (taken b m y i, ()) := fun b y i => s_80 (by omega)
  have em : max m.index m.index = m.index := by omega
  unfold installN installMsgs
  by_cases p : m.index ≤ a.commit
  · have e : max m.index a.commit = a.commit := by omega
    simp (maxSteps := 2000000) (discharger := omega) only [r_ite, r_add, r_sub, r_mul, r_quo, r_rem, r_lt, r_le, r_eq, r_bnot, r_or, r_and, r_isel, r_beq, r_band, r_bimp, r_imax, r_imin, r_call, r_gcall, r_bind, Option.bind_some, fits_ok, mfit_ok, wrap_i64, both_self, node_eta, msg_eta, entry_eta, hard_eta, decide_eq_true_eq, Bool.and_eq_true, Bool.or_eq_true, Bool.not_eq_true', decide_eq_false_iff_not, Bool.not_not, eq_self, not_true_eq_false, not_false_eq_true, Bool.false_eq_true, Bool.true_eq_false, Bool.not_false, Bool.not_true, if_true, if_false, true_and, and_true, or_false, false_or, or_true, true_or, and_false, false_and, true_implies, if_pos, if_neg, len_58, get_58, app_58, set_58, cut_58, rep_58, emp_58, len_30, get_30, app_30, set_30, cut_30, rep_30, emp_30, len_27, get_27, app_27, set_27, cut_27, rep_27, emp_27, len_i, get_i, app_i, set_i, cut_i, rep_i, emp_i, len_b, get_b, app_b, set_b, cut_b, rep_b, emp_b, e73, e]
  · by_cases p1 : termOk a m.index = true
    · by_cases p2 : termAt a m.index = m.at
      · simp (maxSteps := 2000000) (discharger := omega) only [r_ite, r_add, r_sub, r_mul, r_quo, r_rem, r_lt, r_le, r_eq, r_bnot, r_or, r_and, r_isel, r_beq, r_band, r_bimp, r_imax, r_imin, r_call, r_gcall, r_bind, Option.bind_some, fits_ok, mfit_ok, wrap_i64, both_self, node_eta, msg_eta, entry_eta, hard_eta, decide_eq_true_eq, Bool.and_eq_true, Bool.or_eq_true, Bool.not_eq_true', decide_eq_false_iff_not, Bool.not_not, eq_self, not_true_eq_false, not_false_eq_true, Bool.false_eq_true, Bool.true_eq_false, Bool.not_false, Bool.not_true, if_true, if_false, true_and, and_true, or_false, false_or, or_true, true_or, and_false, false_and, true_implies, if_pos, if_neg, len_58, get_58, app_58, set_58, cut_58, rep_58, emp_58, len_30, get_30, app_30, set_30, cut_30, rep_30, emp_30, len_27, get_27, app_27, set_27, cut_27, rep_27, emp_27, len_i, get_i, app_i, set_i, cut_i, rep_i, emp_i, len_b, get_b, app_b, set_b, cut_b, rep_b, emp_b, e73, e65, e86, p1, decide_eq_true p2, em]
        rfl
      · simp (maxSteps := 2000000) (discharger := omega) only [r_ite, r_add, r_sub, r_mul, r_quo, r_rem, r_lt, r_le, r_eq, r_bnot, r_or, r_and, r_isel, r_beq, r_band, r_bimp, r_imax, r_imin, r_call, r_gcall, r_bind, Option.bind_some, fits_ok, mfit_ok, wrap_i64, both_self, node_eta, msg_eta, entry_eta, hard_eta, decide_eq_true_eq, Bool.and_eq_true, Bool.or_eq_true, Bool.not_eq_true', decide_eq_false_iff_not, Bool.not_not, eq_self, not_true_eq_false, not_false_eq_true, Bool.false_eq_true, Bool.true_eq_false, Bool.not_false, Bool.not_true, if_true, if_false, true_and, and_true, or_false, false_or, or_true, true_or, and_false, false_and, true_implies, if_pos, if_neg, len_58, get_58, app_58, set_58, cut_58, rep_58, emp_58, len_30, get_30, app_30, set_30, cut_30, rep_30, emp_30, len_27, get_27, app_27, set_27, cut_27, rep_27, emp_27, len_i, get_i, app_i, set_i, cut_i, rep_i, emp_i, len_b, get_b, app_b, set_b, cut_b, rep_b, emp_b, e73, e65, e86, p1, decide_eq_false p2, em]
        rfl
    · have p1' : termOk a m.index = false := by simpa using p1
      simp (maxSteps := 2000000) (discharger := omega) only [r_ite, r_add, r_sub, r_mul, r_quo, r_rem, r_lt, r_le, r_eq, r_bnot, r_or, r_and, r_isel, r_beq, r_band, r_bimp, r_imax, r_imin, r_call, r_gcall, r_bind, Option.bind_some, fits_ok, mfit_ok, wrap_i64, both_self, node_eta, msg_eta, entry_eta, hard_eta, decide_eq_true_eq, Bool.and_eq_true, Bool.or_eq_true, Bool.not_eq_true', decide_eq_false_iff_not, Bool.not_not, eq_self, not_true_eq_false, not_false_eq_true, Bool.false_eq_true, Bool.true_eq_false, Bool.not_false, Bool.not_true, if_true, if_false, true_and, and_true, or_false, false_or, or_true, true_or, and_false, false_and, true_implies, if_pos, if_neg, len_58, get_58, app_58, set_58, cut_58, rep_58, emp_58, len_30, get_30, app_30, set_30, cut_30, rep_30, emp_30, len_27, get_27, app_27, set_27, cut_27, rep_27, emp_27, len_i, get_i, app_i, set_i, cut_i, rep_i, emp_i, len_b, get_b, app_b, set_b, cut_b, rep_b, emp_b, e73, e65, e86, p1', em]
      rfl

theorem s_42 (hk : 4 ≤ k) (hn : 100 ≤ n) (h : NI B a) (hB : B ≤ 2^41) {m : Msg} (hm : MI B a.nodes m) : C n k 42 [⟨.st 27, a⟩, ⟨.st 30, m⟩] [.st 27, .sl (.st 30)] = some ((take a m).1, ((take a m).2, ())) := by
  obtain ⟨k, rfl⟩ : ∃ k1, k = k1 + 1 := ⟨k - 1, by omega⟩
  rw [C_succ, nf_42]
  have e71 := s_71 (n := n) (k := k) (t := m.term) (by omega) h.n1 h.n5
  have hb := h.down hm.mt
  have hnn : (down a m.term).nodes = a.nodes := by unfold down; split <;> rfl
  unfold take takeC
  generalize down a m.term = b at e71 hb hnn ⊢
  have hm' := hm
  rw [← hnn] at hm'
  obtain ⟨f0, f1, mt, x0, x1, y0, y1, el⟩ := hm
  have hl : last b = b.base + b.log.length := rfl
  have e73 : ∀ (b : Node) (y : Bool) (i : Int), C n k 73 [⟨.st 27, b⟩, ⟨.st 30, m⟩, ⟨.bool, y⟩, ⟨.int .i64, i⟩] [.sl (.st 30)] = some (taken b m y i, ()) := fun b y i => s_73 (by omega)
  have hc : NI B { b with role := 0, lead := m.from, clock := 0 } := by
    have q := hb; obtain ⟨n1, n5, i0, i1, lv, lx, lm, t0, t1, b0, b1, c0, c1, k0, k1, ll, la, nx, mx⟩ := q
    exact ⟨n1, n5, i0, i1, lv, lx, lm, t0, t1, b0, b1, c0, c1, by simp only <;> omega, by simp only; omega, ll, la, nx, mx⟩
  have e74 : C n k 74 [⟨.st 27, (⟨b.id, b.nodes, b.term, b.vote, b.base, b.baseTerm, b.snap, b.log, 0, m.from, b.commit, b.votes, b.next, b.match, 0⟩ : Node)⟩, ⟨.st 30, m⟩] [.st 27, .sl (.st 30)] = _ := s_74 (n := n) (k := k) (by omega) hc hB hm'
  have q := hb; obtain ⟨n1, n5, i0, i1, lv, lx, lm, t0, t1, b0, b1, c0, c1, k0, k1, ll, la, nx, mx⟩ := q
  have e50 := s_50 (n := n) (k := k) (a := b) (by omega) (by omega) (by omega) (by omega)
  have e65 : C n k 65 [⟨.st 27, (⟨b.id, b.nodes, b.term, b.vote, b.base, b.baseTerm, b.snap, b.log, 0, m.from, b.commit, b.votes, b.next, b.match, 0⟩ : Node)⟩, ⟨.int .i64, m.index⟩] [.int .i64, .bool] = some (termAt b m.index, (termOk b m.index, ())) :=
    s_65 (n := n) (k := k) (a := (⟨b.id, b.nodes, b.term, b.vote, b.base, b.baseTerm, b.snap, b.log, 0, m.from, b.commit, b.votes, b.next, b.match, 0⟩ : Node)) (i := m.index) (by omega) b0 (by show b.base ≤ _; omega) (by show (b.log.length : Int) ≤ _; omega) (by omega) (by omega)
  have e75 : C n k 75 [⟨.st 27, (⟨b.id, b.nodes, b.term, b.vote, b.base, b.baseTerm, b.snap, b.log, 0, m.from, b.commit, b.votes, b.next, b.match, 0⟩ : Node)⟩, ⟨.int .i64, m.index⟩, ⟨.sl (.st 58), m.entries⟩] [.st 27] = some (putN (⟨b.id, b.nodes, b.term, b.vote, b.base, b.baseTerm, b.snap, b.log, 0, m.from, b.commit, b.votes, b.next, b.match, 0⟩ : Node) m.index m.entries, ()) :=
    s_75 (n := n) (k := k) (a := (⟨b.id, b.nodes, b.term, b.vote, b.base, b.baseTerm, b.snap, b.log, 0, m.from, b.commit, b.votes, b.next, b.match, 0⟩ : Node)) (i := m.index) (l := m.entries) (by omega) hn b0 (by show b.base ≤ _; omega) (by show (b.log.length : Int) ≤ _; omega) (by omega) (by omega) (by omega)
  have ec : (putN (⟨b.id, b.nodes, b.term, b.vote, b.base, b.baseTerm, b.snap, b.log, 0, m.from, b.commit, b.votes, b.next, b.match, 0⟩ : Node) m.index m.entries).commit = b.commit := by unfold putN; split <;> rfl
  have ek : termOk (⟨b.id, b.nodes, b.term, b.vote, b.base, b.baseTerm, b.snap, b.log, 0, m.from, b.commit, b.votes, b.next, b.match, 0⟩ : Node) m.index = termOk b m.index := rfl
  have et : termAt (⟨b.id, b.nodes, b.term, b.vote, b.base, b.baseTerm, b.snap, b.log, 0, m.from, b.commit, b.votes, b.next, b.match, 0⟩ : Node) m.index = termAt b m.index := rfl
  have eb : last (⟨b.id, b.nodes, b.term, b.vote, b.base, b.baseTerm, b.snap, b.log, 0, m.from, b.commit, b.votes, b.next, b.match, 0⟩ : Node) = last b := rfl
  by_cases p : m.term < b.term
  · simp (maxSteps := 2000000) (discharger := omega) only [r_ite, r_add, r_sub, r_mul, r_quo, r_rem, r_lt, r_le, r_eq, r_bnot, r_or, r_and, r_isel, r_beq, r_band, r_bimp, r_imax, r_imin, r_call, r_gcall, r_bind, Option.bind_some, fits_ok, mfit_ok, wrap_i64, both_self, node_eta, msg_eta, entry_eta, hard_eta, decide_eq_true_eq, Bool.and_eq_true, Bool.or_eq_true, Bool.not_eq_true', decide_eq_false_iff_not, Bool.not_not, eq_self, not_true_eq_false, not_false_eq_true, Bool.false_eq_true, Bool.true_eq_false, Bool.not_false, Bool.not_true, if_true, if_false, true_and, and_true, or_false, false_or, or_true, true_or, and_false, false_and, true_implies, if_pos, if_neg, len_58, get_58, app_58, set_58, cut_58, rep_58, emp_58, len_30, get_30, app_30, set_30, cut_30, rep_30, emp_30, len_27, get_27, app_27, set_27, cut_27, rep_27, emp_27, len_i, get_i, app_i, set_i, cut_i, rep_i, emp_i, len_b, get_b, app_b, set_b, cut_b, rep_b, emp_b, e71, e50, e73]
  by_cases p1 : m.kind = 5
  · simp (maxSteps := 2000000) (discharger := omega) only [r_ite, r_add, r_sub, r_mul, r_quo, r_rem, r_lt, r_le, r_eq, r_bnot, r_or, r_and, r_isel, r_beq, r_band, r_bimp, r_imax, r_imin, r_call, r_gcall, r_bind, Option.bind_some, fits_ok, mfit_ok, wrap_i64, both_self, node_eta, msg_eta, entry_eta, hard_eta, decide_eq_true_eq, Bool.and_eq_true, Bool.or_eq_true, Bool.not_eq_true', decide_eq_false_iff_not, Bool.not_not, eq_self, not_true_eq_false, not_false_eq_true, Bool.false_eq_true, Bool.true_eq_false, Bool.not_false, Bool.not_true, if_true, if_false, true_and, and_true, or_false, false_or, or_true, true_or, and_false, false_and, true_implies, if_pos, if_neg, len_58, get_58, app_58, set_58, cut_58, rep_58, emp_58, len_30, get_30, app_30, set_30, cut_30, rep_30, emp_30, len_27, get_27, app_27, set_27, cut_27, rep_27, emp_27, len_i, get_i, app_i, set_i, cut_i, rep_i, emp_i, len_b, get_b, app_b, set_b, cut_b, rep_b, emp_b, e71, e50, e74]
  by_cases p2 : m.index < b.base
  · simp (maxSteps := 2000000) (discharger := omega) only [r_ite, r_add, r_sub, r_mul, r_quo, r_rem, r_lt, r_le, r_eq, r_bnot, r_or, r_and, r_isel, r_beq, r_band, r_bimp, r_imax, r_imin, r_call, r_gcall, r_bind, Option.bind_some, fits_ok, mfit_ok, wrap_i64, both_self, node_eta, msg_eta, entry_eta, hard_eta, decide_eq_true_eq, Bool.and_eq_true, Bool.or_eq_true, Bool.not_eq_true', decide_eq_false_iff_not, Bool.not_not, eq_self, not_true_eq_false, not_false_eq_true, Bool.false_eq_true, Bool.true_eq_false, Bool.not_false, Bool.not_true, if_true, if_false, true_and, and_true, or_false, false_or, or_true, true_or, and_false, false_and, true_implies, if_pos, if_neg, len_58, get_58, app_58, set_58, cut_58, rep_58, emp_58, len_30, get_30, app_30, set_30, cut_30, rep_30, emp_30, len_27, get_27, app_27, set_27, cut_27, rep_27, emp_27, len_i, get_i, app_i, set_i, cut_i, rep_i, emp_i, len_b, get_b, app_b, set_b, cut_b, rep_b, emp_b, e71, e50, e65, e73]
  by_cases p3 : termOk b m.index = true
  · have p3' : b.base ≤ m.index ∧ m.index ≤ last b := of_decide_eq_true p3
    by_cases p4 : termAt b m.index = m.at
    · have p5 : termAt b m.index = m.at := p4
      simp (maxSteps := 2000000) (discharger := omega) only [r_ite, r_add, r_sub, r_mul, r_quo, r_rem, r_lt, r_le, r_eq, r_bnot, r_or, r_and, r_isel, r_beq, r_band, r_bimp, r_imax, r_imin, r_call, r_gcall, r_bind, Option.bind_some, fits_ok, mfit_ok, wrap_i64, both_self, node_eta, msg_eta, entry_eta, hard_eta, decide_eq_true_eq, Bool.and_eq_true, Bool.or_eq_true, Bool.not_eq_true', decide_eq_false_iff_not, Bool.not_not, eq_self, not_true_eq_false, not_false_eq_true, Bool.false_eq_true, Bool.true_eq_false, Bool.not_false, Bool.not_true, if_true, if_false, true_and, and_true, or_false, false_or, or_true, true_or, and_false, false_and, true_implies, if_pos, if_neg, len_58, get_58, app_58, set_58, cut_58, rep_58, emp_58, len_30, get_30, app_30, set_30, cut_30, rep_30, emp_30, len_27, get_27, app_27, set_27, cut_27, rep_27, emp_27, len_i, get_i, app_i, set_i, cut_i, rep_i, emp_i, len_b, get_b, app_b, set_b, cut_b, rep_b, emp_b, e71, e50, e65, e73, e75, ec, ek, et, p3, decide_eq_true p4]
      rfl
    · simp (maxSteps := 2000000) (discharger := omega) only [r_ite, r_add, r_sub, r_mul, r_quo, r_rem, r_lt, r_le, r_eq, r_bnot, r_or, r_and, r_isel, r_beq, r_band, r_bimp, r_imax, r_imin, r_call, r_gcall, r_bind, Option.bind_some, fits_ok, mfit_ok, wrap_i64, both_self, node_eta, msg_eta, entry_eta, hard_eta, decide_eq_true_eq, Bool.and_eq_true, Bool.or_eq_true, Bool.not_eq_true', decide_eq_false_iff_not, Bool.not_not, eq_self, not_true_eq_false, not_false_eq_true, Bool.false_eq_true, Bool.true_eq_false, Bool.not_false, Bool.not_true, if_true, if_false, true_and, and_true, or_false, false_or, or_true, true_or, and_false, false_and, true_implies, if_pos, if_neg, len_58, get_58, app_58, set_58, cut_58, rep_58, emp_58, len_30, get_30, app_30, set_30, cut_30, rep_30, emp_30, len_27, get_27, app_27, set_27, cut_27, rep_27, emp_27, len_i, get_i, app_i, set_i, cut_i, rep_i, emp_i, len_b, get_b, app_b, set_b, cut_b, rep_b, emp_b, e71, e50, e65, e73, eb, ek, et, p3, decide_eq_false p4]
  · have p3' : termOk b m.index = false := by simpa using p3
    simp (maxSteps := 2000000) (discharger := omega) only [r_ite, r_add, r_sub, r_mul, r_quo, r_rem, r_lt, r_le, r_eq, r_bnot, r_or, r_and, r_isel, r_beq, r_band, r_bimp, r_imax, r_imin, r_call, r_gcall, r_bind, Option.bind_some, fits_ok, mfit_ok, wrap_i64, both_self, node_eta, msg_eta, entry_eta, hard_eta, decide_eq_true_eq, Bool.and_eq_true, Bool.or_eq_true, Bool.not_eq_true', decide_eq_false_iff_not, Bool.not_not, eq_self, not_true_eq_false, not_false_eq_true, Bool.false_eq_true, Bool.true_eq_false, Bool.not_false, Bool.not_true, if_true, if_false, true_and, and_true, or_false, false_or, or_true, true_or, and_false, false_and, true_implies, if_pos, if_neg, len_58, get_58, app_58, set_58, cut_58, rep_58, emp_58, len_30, get_30, app_30, set_30, cut_30, rep_30, emp_30, len_27, get_27, app_27, set_27, cut_27, rep_27, emp_27, len_i, get_i, app_i, set_i, cut_i, rep_i, emp_i, len_b, get_b, app_b, set_b, cut_b, rep_b, emp_b, e71, e50, e65, e73, eb, ek, et, p3']

theorem s_47 (hk : 4 ≤ k) (hn : 100 ≤ n) (h : NI B a) (hB : B ≤ 2^41) {m : Msg} (hm : MI B a.nodes m) : C n k 47 [⟨.st 27, a⟩, ⟨.st 30, m⟩] [.st 27, .sl (.st 30)] = some ((take a m).1, ((take a m).2, ())) := by
  obtain ⟨k, rfl⟩ : ∃ k1, k = k1 + 1 := ⟨k - 1, by omega⟩
  rw [C_succ, nf_47]
  have e71 := s_78 (n := n) (k := k) (t := m.term) (by omega) h.n1 h.n5
  have hb := h.down hm.mt
  have hnn : (down a m.term).nodes = a.nodes := by unfold down; split <;> rfl
  unfold take takeC
  generalize down a m.term = b at e71 hb hnn ⊢
  have hm' := hm
  rw [← hnn] at hm'
  obtain ⟨f0, f1, mt, x0, x1, y0, y1, el⟩ := hm
  have hl : last b = b.base + b.log.length := rfl
  have e73 : ∀ (b : Node) (y : Bool) (i : Int), C n k 80 [⟨.st 27, b⟩, ⟨.int .i64, m.from⟩, ⟨.bool, y⟩, ⟨.int .i64, i⟩] [.sl (.st 30)] = some (taken b m y i, ()) := fun b y i => s_80 (by omega)
  have hc : NI B { b with role := 0, lead := m.from, clock := 0 } := by
    have q := hb; obtain ⟨n1, n5, i0, i1, lv, lx, lm, t0, t1, b0, b1, c0, c1, k0, k1, ll, la, nx, mx⟩ := q
    exact ⟨n1, n5, i0, i1, lv, lx, lm, t0, t1, b0, b1, c0, c1, by simp only <;> omega, by simp only; omega, ll, la, nx, mx⟩
  have e74 : C n k 81 [⟨.st 27, (⟨b.id, b.nodes, b.term, b.vote, b.base, b.baseTerm, b.snap, b.log, 0, m.from, b.commit, b.votes, b.next, b.match, 0⟩ : Node)⟩, ⟨.st 30, m⟩] [.st 27, .sl (.st 30)] = _ := s_81 (n := n) (k := k) (by omega) hc hB hm'
  have q := hb; obtain ⟨n1, n5, i0, i1, lv, lx, lm, t0, t1, b0, b1, c0, c1, k0, k1, ll, la, nx, mx⟩ := q
  have e50 := s_28 (n := n) (k := k) (a := b) (by omega) (by omega) (by omega) (by omega)
  have e50' : C n k 28 [⟨.st 27, (⟨b.id, b.nodes, b.term, b.vote, b.base, b.baseTerm, b.snap, b.log, 0, m.from, b.commit, b.votes, b.next, b.match, 0⟩ : Node)⟩] [.int .i64] = some (last b, ()) :=
    s_28 (n := n) (k := k) (a := (⟨b.id, b.nodes, b.term, b.vote, b.base, b.baseTerm, b.snap, b.log, 0, m.from, b.commit, b.votes, b.next, b.match, 0⟩ : Node)) (by omega) (by show _ ≤ b.base; omega) (by show b.base ≤ _; omega) (by show (b.log.length : Int) ≤ _; omega)
  have e65 : C n k 30 [⟨.st 27, (⟨b.id, b.nodes, b.term, b.vote, b.base, b.baseTerm, b.snap, b.log, 0, m.from, b.commit, b.votes, b.next, b.match, 0⟩ : Node)⟩, ⟨.int .i64, m.index⟩] [.int .i64, .bool] = some (termAt b m.index, (termOk b m.index, ())) :=
    s_30 (n := n) (k := k) (a := (⟨b.id, b.nodes, b.term, b.vote, b.base, b.baseTerm, b.snap, b.log, 0, m.from, b.commit, b.votes, b.next, b.match, 0⟩ : Node)) (i := m.index) (by omega) b0 (by show b.base ≤ _; omega) (by show (b.log.length : Int) ≤ _; omega) (by omega) (by omega)
  have e75 : C n k 82 [⟨.st 27, (⟨b.id, b.nodes, b.term, b.vote, b.base, b.baseTerm, b.snap, b.log, 0, m.from, b.commit, b.votes, b.next, b.match, 0⟩ : Node)⟩, ⟨.int .i64, m.index⟩, ⟨.sl (.st 58), m.entries⟩] [.st 27] = some (putN (⟨b.id, b.nodes, b.term, b.vote, b.base, b.baseTerm, b.snap, b.log, 0, m.from, b.commit, b.votes, b.next, b.match, 0⟩ : Node) m.index m.entries, ()) :=
    s_82 (n := n) (k := k) (a := (⟨b.id, b.nodes, b.term, b.vote, b.base, b.baseTerm, b.snap, b.log, 0, m.from, b.commit, b.votes, b.next, b.match, 0⟩ : Node)) (i := m.index) (l := m.entries) (by omega) hn b0 (by show b.base ≤ _; omega) (by show (b.log.length : Int) ≤ _; omega) (by omega) (by omega) (by omega)
  have ec : (putN (⟨b.id, b.nodes, b.term, b.vote, b.base, b.baseTerm, b.snap, b.log, 0, m.from, b.commit, b.votes, b.next, b.match, 0⟩ : Node) m.index m.entries).commit = b.commit := by unfold putN; split <;> rfl
  have ek : termOk (⟨b.id, b.nodes, b.term, b.vote, b.base, b.baseTerm, b.snap, b.log, 0, m.from, b.commit, b.votes, b.next, b.match, 0⟩ : Node) m.index = termOk b m.index := rfl
  have et : termAt (⟨b.id, b.nodes, b.term, b.vote, b.base, b.baseTerm, b.snap, b.log, 0, m.from, b.commit, b.votes, b.next, b.match, 0⟩ : Node) m.index = termAt b m.index := rfl
  have eb : last (⟨b.id, b.nodes, b.term, b.vote, b.base, b.baseTerm, b.snap, b.log, 0, m.from, b.commit, b.votes, b.next, b.match, 0⟩ : Node) = last b := rfl
  have emm : max (min (last b) (m.index - 1)) 0 = max 0 (min (last b) (m.index - 1)) := by omega
  by_cases p : m.term < b.term
  · simp (maxSteps := 2000000) (discharger := omega) only [r_ite, r_add, r_sub, r_mul, r_quo, r_rem, r_lt, r_le, r_eq, r_bnot, r_or, r_and, r_isel, r_beq, r_band, r_bimp, r_imax, r_imin, r_call, r_gcall, r_bind, Option.bind_some, fits_ok, mfit_ok, wrap_i64, both_self, node_eta, msg_eta, entry_eta, hard_eta, decide_eq_true_eq, Bool.and_eq_true, Bool.or_eq_true, Bool.not_eq_true', decide_eq_false_iff_not, Bool.not_not, eq_self, not_true_eq_false, not_false_eq_true, Bool.false_eq_true, Bool.true_eq_false, Bool.not_false, Bool.not_true, if_true, if_false, true_and, and_true, or_false, false_or, or_true, true_or, and_false, false_and, true_implies, if_pos, if_neg, len_58, get_58, app_58, set_58, cut_58, rep_58, emp_58, len_30, get_30, app_30, set_30, cut_30, rep_30, emp_30, len_27, get_27, app_27, set_27, cut_27, rep_27, emp_27, len_i, get_i, app_i, set_i, cut_i, rep_i, emp_i, len_b, get_b, app_b, set_b, cut_b, rep_b, emp_b, e71, e50, e73]
  by_cases p1 : m.kind = 5
  · simp (maxSteps := 2000000) (discharger := omega) only [r_ite, r_add, r_sub, r_mul, r_quo, r_rem, r_lt, r_le, r_eq, r_bnot, r_or, r_and, r_isel, r_beq, r_band, r_bimp, r_imax, r_imin, r_call, r_gcall, r_bind, Option.bind_some, fits_ok, mfit_ok, wrap_i64, both_self, node_eta, msg_eta, entry_eta, hard_eta, decide_eq_true_eq, Bool.and_eq_true, Bool.or_eq_true, Bool.not_eq_true', decide_eq_false_iff_not, Bool.not_not, eq_self, not_true_eq_false, not_false_eq_true, Bool.false_eq_true, Bool.true_eq_false, Bool.not_false, Bool.not_true, if_true, if_false, true_and, and_true, or_false, false_or, or_true, true_or, and_false, false_and, true_implies, if_pos, if_neg, len_58, get_58, app_58, set_58, cut_58, rep_58, emp_58, len_30, get_30, app_30, set_30, cut_30, rep_30, emp_30, len_27, get_27, app_27, set_27, cut_27, rep_27, emp_27, len_i, get_i, app_i, set_i, cut_i, rep_i, emp_i, len_b, get_b, app_b, set_b, cut_b, rep_b, emp_b, e71, e50, e74]
  by_cases p2 : m.index < b.base
  · simp (maxSteps := 2000000) (discharger := omega) only [r_ite, r_add, r_sub, r_mul, r_quo, r_rem, r_lt, r_le, r_eq, r_bnot, r_or, r_and, r_isel, r_beq, r_band, r_bimp, r_imax, r_imin, r_call, r_gcall, r_bind, Option.bind_some, fits_ok, mfit_ok, wrap_i64, both_self, node_eta, msg_eta, entry_eta, hard_eta, decide_eq_true_eq, Bool.and_eq_true, Bool.or_eq_true, Bool.not_eq_true', decide_eq_false_iff_not, Bool.not_not, eq_self, not_true_eq_false, not_false_eq_true, Bool.false_eq_true, Bool.true_eq_false, Bool.not_false, Bool.not_true, if_true, if_false, true_and, and_true, or_false, false_or, or_true, true_or, and_false, false_and, true_implies, if_pos, if_neg, len_58, get_58, app_58, set_58, cut_58, rep_58, emp_58, len_30, get_30, app_30, set_30, cut_30, rep_30, emp_30, len_27, get_27, app_27, set_27, cut_27, rep_27, emp_27, len_i, get_i, app_i, set_i, cut_i, rep_i, emp_i, len_b, get_b, app_b, set_b, cut_b, rep_b, emp_b, e71, e50', e65, e73]
  by_cases p3 : termOk b m.index = true
  · have p3' : b.base ≤ m.index ∧ m.index ≤ last b := of_decide_eq_true p3
    by_cases p4 : termAt b m.index = m.at
    · have p5 : termAt b m.index = m.at := p4
      simp (maxSteps := 2000000) (discharger := omega) only [r_ite, r_add, r_sub, r_mul, r_quo, r_rem, r_lt, r_le, r_eq, r_bnot, r_or, r_and, r_isel, r_beq, r_band, r_bimp, r_imax, r_imin, r_call, r_gcall, r_bind, Option.bind_some, fits_ok, mfit_ok, wrap_i64, both_self, node_eta, msg_eta, entry_eta, hard_eta, decide_eq_true_eq, Bool.and_eq_true, Bool.or_eq_true, Bool.not_eq_true', decide_eq_false_iff_not, Bool.not_not, eq_self, not_true_eq_false, not_false_eq_true, Bool.false_eq_true, Bool.true_eq_false, Bool.not_false, Bool.not_true, if_true, if_false, true_and, and_true, or_false, false_or, or_true, true_or, and_false, false_and, true_implies, if_pos, if_neg, len_58, get_58, app_58, set_58, cut_58, rep_58, emp_58, len_30, get_30, app_30, set_30, cut_30, rep_30, emp_30, len_27, get_27, app_27, set_27, cut_27, rep_27, emp_27, len_i, get_i, app_i, set_i, cut_i, rep_i, emp_i, len_b, get_b, app_b, set_b, cut_b, rep_b, emp_b, e71, e50', e65, e73, e75, ec, ek, et, p3, decide_eq_true p4]
      rfl
    · simp (maxSteps := 2000000) (discharger := omega) only [r_ite, r_add, r_sub, r_mul, r_quo, r_rem, r_lt, r_le, r_eq, r_bnot, r_or, r_and, r_isel, r_beq, r_band, r_bimp, r_imax, r_imin, r_call, r_gcall, r_bind, Option.bind_some, fits_ok, mfit_ok, wrap_i64, both_self, node_eta, msg_eta, entry_eta, hard_eta, decide_eq_true_eq, Bool.and_eq_true, Bool.or_eq_true, Bool.not_eq_true', decide_eq_false_iff_not, Bool.not_not, eq_self, not_true_eq_false, not_false_eq_true, Bool.false_eq_true, Bool.true_eq_false, Bool.not_false, Bool.not_true, if_true, if_false, true_and, and_true, or_false, false_or, or_true, true_or, and_false, false_and, true_implies, if_pos, if_neg, len_58, get_58, app_58, set_58, cut_58, rep_58, emp_58, len_30, get_30, app_30, set_30, cut_30, rep_30, emp_30, len_27, get_27, app_27, set_27, cut_27, rep_27, emp_27, len_i, get_i, app_i, set_i, cut_i, rep_i, emp_i, len_b, get_b, app_b, set_b, cut_b, rep_b, emp_b, e71, e50', e65, e73, eb, ek, et, p3, decide_eq_false p4, emm]
  · have p3' : termOk b m.index = false := by simpa using p3
    simp (maxSteps := 2000000) (discharger := omega) only [r_ite, r_add, r_sub, r_mul, r_quo, r_rem, r_lt, r_le, r_eq, r_bnot, r_or, r_and, r_isel, r_beq, r_band, r_bimp, r_imax, r_imin, r_call, r_gcall, r_bind, Option.bind_some, fits_ok, mfit_ok, wrap_i64, both_self, node_eta, msg_eta, entry_eta, hard_eta, decide_eq_true_eq, Bool.and_eq_true, Bool.or_eq_true, Bool.not_eq_true', decide_eq_false_iff_not, Bool.not_not, eq_self, not_true_eq_false, not_false_eq_true, Bool.false_eq_true, Bool.true_eq_false, Bool.not_false, Bool.not_true, if_true, if_false, true_and, and_true, or_false, false_or, or_true, true_or, and_false, false_and, true_implies, if_pos, if_neg, len_58, get_58, app_58, set_58, cut_58, rep_58, emp_58, len_30, get_30, app_30, set_30, cut_30, rep_30, emp_30, len_27, get_27, app_27, set_27, cut_27, rep_27, emp_27, len_i, get_i, app_i, set_i, cut_i, rep_i, emp_i, len_b, get_b, app_b, set_b, cut_b, rep_b, emp_b, e71, e50', e65, e73, eb, ek, et, p3', emm]

end
end Go.Proofs.Ytinfpahllbhomaa

namespace Go.Proofs.Ytinfpahllbhomaa
open Go.Ab
set_option linter.unusedSimpArgs false
set_option linter.unusedVariables false
set_option maxHeartbeats 4000000
noncomputable section
variable {n k : Nat} {B : Int} {a : Node}

theorem NI.setNext {j : Nat} {v : Int} (h : NI B a) (h0 : 0 ≤ v) (h1 : v ≤ B) : NI B { a with next := a.next.set j v } := by
  have q := h; obtain ⟨n1, n5, i0, i1, lv, lx, lm, t0, t1, b0, b1, c0, c1, k0, k1, ll, la, nx, mx⟩ := q
  exact ⟨n1, n5, i0, i1, lv, by simp only [List.length_set]; exact lx, lm, t0, t1, b0, b1, c0, c1, k0, k1, ll, la, set_bd nx h0 h1, mx⟩

theorem NI.setMatch {j : Nat} {v : Int} (h : NI B a) (h0 : 0 ≤ v) (h1 : v ≤ B) : NI B { a with «match» := a.match.set j v } := by
  have q := h; obtain ⟨n1, n5, i0, i1, lv, lx, lm, t0, t1, b0, b1, c0, c1, k0, k1, ll, la, nx, mx⟩ := q
  exact ⟨n1, n5, i0, i1, lv, lx, by simp only [List.length_set]; exact lm, t0, t1, b0, b1, c0, c1, k0, k1, ll, la, nx, set_bd mx h0 h1⟩

theorem adv_nodes : (advance a).nodes = a.nodes := by unfold advance; split <;> rfl
theorem adv_base : (advance a).base = a.base := by unfold advance; split <;> rfl
theorem adv_log : (advance a).log = a.log := by unfold advance; split <;> rfl
theorem adv_next : (advance a).next = a.next := by unfold advance; split <;> rfl
theorem adv_last : last (advance a) = last a := by unfold last; rw [adv_base, adv_log]

theorem getD_set {L : List Int} {j : Nat} {v : Int} (h : j < L.length) : (L.set j v).getD j 0 = v := by simp [List.getD, h]

theorem s_43 (hk : 4 ≤ k) (h : NI B a) (hB : B ≤ 2^41 - 4) (hn : (a.log.length : Int) + 101 ≤ n) {m : Msg} (hm : MI B a.nodes m) : C n k 43 [⟨.st 27, a⟩, ⟨.st 30, m⟩] [.st 27, .sl (.st 30)] = some ((heard a m).1, ((heard a m).2, ())) := by
  obtain ⟨k, rfl⟩ : ∃ k1, k = k1 + 1 := ⟨k - 1, by omega⟩
  rw [C_succ, nf_43]
  have e71 := s_71 (n := n) (k := k) (t := m.term) (by omega) h.n1 h.n5
  have hb := h.down hm.mt
  have hnn : (down a m.term).nodes = a.nodes := by unfold down; split <;> rfl
  have hll : (down a m.term).log = a.log := by unfold down; split <;> rfl
  unfold heard
  generalize down a m.term = b at e71 hb hnn hll ⊢
  rw [← hll] at hn
  have hm' := hm
  rw [← hnn] at hm'
  obtain ⟨f0, f1, mt, x0, x1, y0, y1, el⟩ := hm'
  have hl : last b = b.base + b.log.length := rfl
  have hb1 := hb.le (show B ≤ B + 1 by omega)
  have hb' := hb
  have q := hb'; obtain ⟨n1, n5, i0, i1, lv, lx, lm, t0, t1, b0, b1, c0, c1, k0, k1, ll, la, nx, mx⟩ := q
  obtain ⟨g0, g1⟩ := getD_bd nx (by omega) m.from.toNat
  obtain ⟨g2, g3⟩ := getD_bd mx (by omega) m.from.toNat
  have e76 := s_76 (n := n) (k := k) (L := b.match) (i := m.from) (by omega) (by omega) (by omega)
  have e76' := s_76 (n := n) (k := k) (L := b.next) (i := m.from) (by omega) (by omega) (by omega)
  have e50 := s_50 (n := n) (k := k) (a := b) (by omega) (by omega) (by omega) (by omega)
  have e77 := fun v => s_77 (n := n) (k := k) (L := b.match) (i := m.from) (v := v) (by omega) (by omega) (by omega) (by omega)
  have e77' := fun v => s_77 (n := n) (k := k) (L := b.next) (i := m.from) (v := v) (by omega) (by omega) (by omega) (by omega)
  by_cases p : b.role = 2 ∧ m.term = b.term
  · by_cases p1 : m.yes = true
    · have hN := (hb1.setNext (j := m.from.toNat) (v := min (max (b.match.getD m.from.toNat 0) m.index) (last b) + 1) (by omega) (by omega)).setMatch (j := m.from.toNat) (v := min (max (b.match.getD m.from.toNat 0) m.index) (last b)) (by omega) (by omega)
      have e51 := s_51 (n := n) (k := k) (by omega) hN (by omega) (by show (b.log.length : Int) + 100 ≤ n; omega)
      have e63 := s_63 (n := n) (k := k) (to := m.from) (by omega) hN.advance (by omega) f0 (by rw [adv_nodes]; exact f1)
      by_cases p2 : min (max (b.match.getD m.from.toNat 0) m.index) (last b) + 1 ≤ last b
      · simp (maxSteps := 2000000) (discharger := omega) only [r_ite, r_add, r_sub, r_mul, r_quo, r_rem, r_lt, r_le, r_eq, r_bnot, r_or, r_and, r_isel, r_beq, r_band, r_bimp, r_imax, r_imin, r_call, r_gcall, r_bind, Option.bind_some, fits_ok, mfit_ok, wrap_i64, both_self, node_eta, msg_eta, entry_eta, hard_eta, decide_eq_true_eq, Bool.and_eq_true, Bool.or_eq_true, Bool.not_eq_true', decide_eq_false_iff_not, Bool.not_not, not_true_eq_false, not_false_eq_true, Bool.false_eq_true, Bool.true_eq_false, Bool.not_false, Bool.not_true, if_true, if_false, true_and, and_true, or_false, false_or, or_true, true_or, and_false, false_and, true_implies, if_pos, if_neg, len_58, get_58, app_58, set_58, cut_58, rep_58, emp_58, len_30, get_30, app_30, set_30, cut_30, rep_30, emp_30, len_27, get_27, app_27, set_27, cut_27, rep_27, emp_27, len_i, get_i, app_i, set_i, cut_i, rep_i, emp_i, len_b, get_b, app_b, set_b, cut_b, rep_b, emp_b, e71, e76, e76', e50, e77, e77', e51, e63, p1]
      · simp (maxSteps := 2000000) (discharger := omega) only [r_ite, r_add, r_sub, r_mul, r_quo, r_rem, r_lt, r_le, r_eq, r_bnot, r_or, r_and, r_isel, r_beq, r_band, r_bimp, r_imax, r_imin, r_call, r_gcall, r_bind, Option.bind_some, fits_ok, mfit_ok, wrap_i64, both_self, node_eta, msg_eta, entry_eta, hard_eta, decide_eq_true_eq, Bool.and_eq_true, Bool.or_eq_true, Bool.not_eq_true', decide_eq_false_iff_not, Bool.not_not, not_true_eq_false, not_false_eq_true, Bool.false_eq_true, Bool.true_eq_false, Bool.not_false, Bool.not_true, if_true, if_false, true_and, and_true, or_false, false_or, or_true, true_or, and_false, false_and, true_implies, if_pos, if_neg, len_58, get_58, app_58, set_58, cut_58, rep_58, emp_58, len_30, get_30, app_30, set_30, cut_30, rep_30, emp_30, len_27, get_27, app_27, set_27, cut_27, rep_27, emp_27, len_i, get_i, app_i, set_i, cut_i, rep_i, emp_i, len_b, get_b, app_b, set_b, cut_b, rep_b, emp_b, e71, e76, e76', e50, e77, e77', e51, e63, p1]
    · have p1' : m.yes = false := by simpa using p1
      have hN := hb1.setNext (j := m.from.toNat) (v := max (max 1 (b.match.getD m.from.toNat 0 + 1)) (min (b.next.getD m.from.toNat 0 - 1) (m.index + 1))) (by omega) (by omega)
      have e63 := s_63 (n := n) (k := k) (to := m.from) (by omega) hN (by omega) f0 f1
      simp (maxSteps := 2000000) (discharger := omega) only [r_ite, r_add, r_sub, r_mul, r_quo, r_rem, r_lt, r_le, r_eq, r_bnot, r_or, r_and, r_isel, r_beq, r_band, r_bimp, r_imax, r_imin, r_call, r_gcall, r_bind, Option.bind_some, fits_ok, mfit_ok, wrap_i64, both_self, node_eta, msg_eta, entry_eta, hard_eta, decide_eq_true_eq, Bool.and_eq_true, Bool.or_eq_true, Bool.not_eq_true', decide_eq_false_iff_not, Bool.not_not, not_true_eq_false, not_false_eq_true, Bool.false_eq_true, Bool.true_eq_false, Bool.not_false, Bool.not_true, if_true, if_false, true_and, and_true, or_false, false_or, or_true, true_or, and_false, false_and, true_implies, if_pos, if_neg, len_58, get_58, app_58, set_58, cut_58, rep_58, emp_58, len_30, get_30, app_30, set_30, cut_30, rep_30, emp_30, len_27, get_27, app_27, set_27, cut_27, rep_27, emp_27, len_i, get_i, app_i, set_i, cut_i, rep_i, emp_i, len_b, get_b, app_b, set_b, cut_b, rep_b, emp_b, e71, e76, e76', e50, e77', e63, p1']
  · simp (maxSteps := 2000000) (discharger := omega) only [r_ite, r_add, r_sub, r_mul, r_quo, r_rem, r_lt, r_le, r_eq, r_bnot, r_or, r_and, r_isel, r_beq, r_band, r_bimp, r_imax, r_imin, r_call, r_gcall, r_bind, Option.bind_some, fits_ok, mfit_ok, wrap_i64, both_self, node_eta, msg_eta, entry_eta, hard_eta, decide_eq_true_eq, Bool.and_eq_true, Bool.or_eq_true, Bool.not_eq_true', decide_eq_false_iff_not, Bool.not_not, not_true_eq_false, not_false_eq_true, Bool.false_eq_true, Bool.true_eq_false, Bool.not_false, Bool.not_true, if_true, if_false, true_and, and_true, or_false, false_or, or_true, true_or, and_false, false_and, true_implies, if_pos, if_neg, len_58, get_58, app_58, set_58, cut_58, rep_58, emp_58, len_30, get_30, app_30, set_30, cut_30, rep_30, emp_30, len_27, get_27, app_27, set_27, cut_27, rep_27, emp_27, len_i, get_i, app_i, set_i, cut_i, rep_i, emp_i, len_b, get_b, app_b, set_b, cut_b, rep_b, emp_b, e71]

theorem s_46 (hk : 4 ≤ k) (h : NI B a) (hB : B ≤ 2^41 - 4) (hn : (a.log.length : Int) + 101 ≤ n) {m : Msg} (hm : MI B a.nodes m) : C n k 46 [⟨.st 27, a⟩, ⟨.st 30, m⟩] [.st 27, .sl (.st 30)] = some ((heard a m).1, ((heard a m).2, ())) := by
  obtain ⟨k, rfl⟩ : ∃ k1, k = k1 + 1 := ⟨k - 1, by omega⟩
  rw [C_succ, nf_46]
  have e71 := s_78 (n := n) (k := k) (t := m.term) (by omega) h.n1 h.n5
  have hb := h.down hm.mt
  have hnn : (down a m.term).nodes = a.nodes := by unfold down; split <;> rfl
  have hll : (down a m.term).log = a.log := by unfold down; split <;> rfl
  unfold heard
  generalize down a m.term = b at e71 hb hnn hll ⊢
  rw [← hll] at hn
  have hm' := hm
  rw [← hnn] at hm'
  obtain ⟨f0, f1, mt, x0, x1, y0, y1, el⟩ := hm'
  have hl : last b = b.base + b.log.length := rfl
  have hb1 := hb.le (show B ≤ B + 1 by omega)
  have hb' := hb
  have q := hb'; obtain ⟨n1, n5, i0, i1, lv, lx, lm, t0, t1, b0, b1, c0, c1, k0, k1, ll, la, nx, mx⟩ := q
  obtain ⟨g0, g1⟩ := getD_bd nx (by omega) m.from.toNat
  obtain ⟨g2, g3⟩ := getD_bd mx (by omega) m.from.toNat
  have e50 := s_28 (n := n) (k := k) (a := b) (by omega) (by omega) (by omega) (by omega)
  by_cases p : b.role = 2 ∧ m.term = b.term
  · by_cases p1 : m.yes = true
    · have hN := (hb1.setNext (j := m.from.toNat) (v := min (max (b.match.getD m.from.toNat 0) m.index) (last b) + 1) (by omega) (by omega)).setMatch (j := m.from.toNat) (v := min (max (b.match.getD m.from.toNat 0) m.index) (last b)) (by omega) (by omega)
      have e51 := s_79 (n := n) (k := k) (by omega) hN (by omega) (by show (b.log.length : Int) + 100 ≤ n; omega)
      have e63 := s_69 (n := n) (k := k) (to := m.from) (by omega) hN.advance (by omega) f0 (by rw [adv_nodes]; exact f1)
      have hA := hN.advance
      have e28 := s_28 (n := n) (k := k) (a := advance { b with next := b.next.set m.from.toNat (min (max (b.match.getD m.from.toNat 0) m.index) (last b) + 1), «match» := b.match.set m.from.toNat (min (max (b.match.getD m.from.toNat 0) m.index) (last b)) }) (by omega) (by rw [adv_base]; show _ ≤ b.base; omega) (by rw [adv_base]; show b.base ≤ _; omega) (by rw [adv_log]; show (b.log.length : Int) ≤ _; omega)
      rw [adv_last] at e28
      have eg := getD_set (L := b.match) (j := m.from.toNat) (v := min (max (b.match.getD m.from.toNat 0) m.index) (last b)) (by omega)
      have eg' := getD_set (L := b.next) (j := m.from.toNat) (v := min (max (b.match.getD m.from.toNat 0) m.index) (last b) + 1) (by omega)
      have el1 : last ({ b with next := b.next.set m.from.toNat (min (max (b.match.getD m.from.toNat 0) m.index) (last b) + 1), «match» := b.match.set m.from.toNat (min (max (b.match.getD m.from.toNat 0) m.index) (last b)) } : Node) = last b := rfl
      rw [el1] at e28
      by_cases p2 : min (max (b.match.getD m.from.toNat 0) m.index) (last b) + 1 ≤ last b
      · simp (maxSteps := 2000000) (discharger := omega) only [r_ite, r_add, r_sub, r_mul, r_quo, r_rem, r_lt, r_le, r_eq, r_bnot, r_or, r_and, r_isel, r_beq, r_band, r_bimp, r_imax, r_imin, r_call, r_gcall, r_bind, Option.bind_some, fits_ok, mfit_ok, wrap_i64, both_self, node_eta, msg_eta, entry_eta, hard_eta, decide_eq_true_eq, Bool.and_eq_true, Bool.or_eq_true, Bool.not_eq_true', decide_eq_false_iff_not, Bool.not_not, not_true_eq_false, not_false_eq_true, Bool.false_eq_true, Bool.true_eq_false, Bool.not_false, Bool.not_true, if_true, if_false, true_and, and_true, or_false, false_or, or_true, true_or, and_false, false_and, true_implies, if_pos, if_neg, len_58, get_58, app_58, set_58, cut_58, rep_58, emp_58, len_30, get_30, app_30, set_30, cut_30, rep_30, emp_30, len_27, get_27, app_27, set_27, cut_27, rep_27, emp_27, len_i, get_i, app_i, set_i, cut_i, rep_i, emp_i, len_b, get_b, app_b, set_b, cut_b, rep_b, emp_b, e71, e50, e51, e63, p1, List.length_set, eg, eg', adv_next, e28]
      · simp (maxSteps := 2000000) (discharger := omega) only [r_ite, r_add, r_sub, r_mul, r_quo, r_rem, r_lt, r_le, r_eq, r_bnot, r_or, r_and, r_isel, r_beq, r_band, r_bimp, r_imax, r_imin, r_call, r_gcall, r_bind, Option.bind_some, fits_ok, mfit_ok, wrap_i64, both_self, node_eta, msg_eta, entry_eta, hard_eta, decide_eq_true_eq, Bool.and_eq_true, Bool.or_eq_true, Bool.not_eq_true', decide_eq_false_iff_not, Bool.not_not, not_true_eq_false, not_false_eq_true, Bool.false_eq_true, Bool.true_eq_false, Bool.not_false, Bool.not_true, if_true, if_false, true_and, and_true, or_false, false_or, or_true, true_or, and_false, false_and, true_implies, if_pos, if_neg, len_58, get_58, app_58, set_58, cut_58, rep_58, emp_58, len_30, get_30, app_30, set_30, cut_30, rep_30, emp_30, len_27, get_27, app_27, set_27, cut_27, rep_27, emp_27, len_i, get_i, app_i, set_i, cut_i, rep_i, emp_i, len_b, get_b, app_b, set_b, cut_b, rep_b, emp_b, e71, e50, e51, e63, p1, List.length_set, eg, eg', adv_next, e28]
    · have p1' : m.yes = false := by simpa using p1
      obtain ⟨V, hV⟩ : ∃ V, V = max (max 1 (b.match.getD m.from.toNat 0 + 1)) (min (b.next.getD m.from.toNat 0 - 1) (m.index + 1)) := ⟨_, rfl⟩
      have em : max (max (min (b.next.getD m.from.toNat 0 - 1) (m.index + 1)) 1) (b.match.getD m.from.toNat 0 + 1) = V := by omega
      have hN := hb1.setNext (j := m.from.toNat) (v := V) (by omega) (by omega)
      have e63 := s_69 (n := n) (k := k) (to := m.from) (by omega) hN (by omega) f0 f1
      simp only [← hV]
      clear hV
      simp only [r_bind, r_call, e71, Option.bind_some]
      rw [r_ite, if_neg (by simp only [r_or, r_bnot, r_eq, Bool.or_eq_true, Bool.not_eq_true', decide_eq_false_iff_not]; omega)]
      rw [r_ite, if_pos (by simp only [r_fits, len_i, decide_eq_true_eq]; omega)]
      rw [r_ite, if_pos (by simp only [r_fits, len_i, decide_eq_true_eq]; omega)]
      rw [r_ite, p1', if_neg (by decide)]
      simp (maxSteps := 2000000) (discharger := omega) only [r_ite, r_add, r_sub, r_mul, r_quo, r_rem, r_lt, r_le, r_eq, r_bnot, r_or, r_and, r_isel, r_beq, r_band, r_bimp, r_imax, r_imin, r_call, r_gcall, r_bind, Option.bind_some, fits_ok, mfit_ok, wrap_i64, both_self, node_eta, msg_eta, entry_eta, hard_eta, decide_eq_true_eq, Bool.and_eq_true, Bool.or_eq_true, Bool.not_eq_true', decide_eq_false_iff_not, Bool.not_not, not_true_eq_false, not_false_eq_true, Bool.false_eq_true, Bool.true_eq_false, Bool.not_false, Bool.not_true, if_true, if_false, true_and, and_true, or_false, false_or, or_true, true_or, and_false, false_and, true_implies, if_pos, if_neg, len_58, get_58, app_58, set_58, cut_58, rep_58, emp_58, len_30, get_30, app_30, set_30, cut_30, rep_30, emp_30, len_27, get_27, app_27, set_27, cut_27, rep_27, emp_27, len_i, get_i, app_i, set_i, cut_i, rep_i, emp_i, len_b, get_b, app_b, set_b, cut_b, rep_b, emp_b, e50, e63, p1', em]
  · simp (maxSteps := 2000000) (discharger := omega) only [r_ite, r_add, r_sub, r_mul, r_quo, r_rem, r_lt, r_le, r_eq, r_bnot, r_or, r_and, r_isel, r_beq, r_band, r_bimp, r_imax, r_imin, r_call, r_gcall, r_bind, Option.bind_some, fits_ok, mfit_ok, wrap_i64, both_self, node_eta, msg_eta, entry_eta, hard_eta, decide_eq_true_eq, Bool.and_eq_true, Bool.or_eq_true, Bool.not_eq_true', decide_eq_false_iff_not, Bool.not_not, not_true_eq_false, not_false_eq_true, Bool.false_eq_true, Bool.true_eq_false, Bool.not_false, Bool.not_true, if_true, if_false, true_and, and_true, or_false, false_or, or_true, true_or, and_false, false_and, true_implies, if_pos, if_neg, len_58, get_58, app_58, set_58, cut_58, rep_58, emp_58, len_30, get_30, app_30, set_30, cut_30, rep_30, emp_30, len_27, get_27, app_27, set_27, cut_27, rep_27, emp_27, len_i, get_i, app_i, set_i, cut_i, rep_i, emp_i, len_b, get_b, app_b, set_b, cut_b, rep_b, emp_b, e71]

end
end Go.Proofs.Ytinfpahllbhomaa
