/-
  The raft layers' structs as data.
  The laws of raft's table of structs.
  What is given of the program.
  The operations as they are, for reasoning.
-/
import Derived.Test.YtinfpahllbhomaaM1
import Derived.Test.YtinfpahllbhomaaProg
import Derived.KernelRfl
import Derived.Test.YtinfpahllbhomaaM4
set_option linter.unusedVariables false
set_option linter.unusedSimpArgs false

namespace Go.Proofs.Ytinfpahllbhomaa
open Go.Ab
noncomputable section

structure Entry where
  term : Int
  cmd : ByteArray

structure Msg where
  kind : Int
  «from» : Int
  to : Int
  term : Int
  index : Int
  «at» : Int
  yes : Bool
  commit : Int
  entries : List Entry
  snap : ByteArray

structure Node where
  id : Int
  nodes : Int
  term : Int
  vote : Int
  base : Int
  baseTerm : Int
  snap : ByteArray
  log : List Entry
  role : Int
  lead : Int
  commit : Int
  votes : List Bool
  next : List Int
  «match» : List Int
  clock : Int

structure Hard where
  term : Int
  vote : Int
  base : Int
  baseTerm : Int
  snap : ByteArray
  log : List Entry

@[reducible] noncomputable def U : Nat → Type
  | 27 => Node
  | 30 => Msg
  | 58 => Entry
  | 75 => Hard
  | _ => Unit

abbrev A := AV U

noncomputable def cellsU : (t : Nat) → U t → List A
  | 27, (n : Node) => [.int .i64 n.id, .int .i64 n.nodes, .int .i64 n.term, .int .i64 n.vote, .int .i64 n.base, .int .i64 n.baseTerm, .str n.snap, .fsl (.st 58) n.log .unk, .int .i64 n.role, .int .i64 n.lead, .int .i64 n.commit, .fsl .bool n.votes .unk, .fsl (.int .i64) n.next .unk, .fsl (.int .i64) n.match .unk, .int .i64 n.clock]
  | 30, (m : Msg) => [.int .i64 m.kind, .int .i64 m.from, .int .i64 m.to, .int .i64 m.term, .int .i64 m.index, .int .i64 m.at, .bool m.yes, .int .i64 m.commit, .fsl (.st 58) m.entries .unk, .str m.snap]
  | 58, (x : Entry) => [.int .i64 x.term, .str x.cmd]
  | 75, (n : Hard) => [.int .i64 n.term, .int .i64 n.vote, .int .i64 n.base, .int .i64 n.baseTerm, .str n.snap, .fsl (.st 58) n.log .unk]
  | _, _ => []

noncomputable def ofU : (t : Nat) → List A → Option (U t)
  | 27, [.int .i64 a0, .int .i64 a1, .int .i64 a2, .int .i64 a3, .int .i64 a4, .int .i64 a5, .str a6, v7, .int .i64 a8, .int .i64 a9, .int .i64 a10, v11, v12, v13, .int .i64 a14] =>
    match toSl (.st 58) v7, toSl .bool v11, toSl (.int .i64) v12, toSl (.int .i64) v13 with
    | some l7, some l11, some l12, some l13 => some (⟨a0, a1, a2, a3, a4, a5, a6, l7, a8, a9, a10, l11, l12, l13, a14⟩ : Node)
    | _, _, _, _ => none
  | 30, [.int .i64 a0, .int .i64 a1, .int .i64 a2, .int .i64 a3, .int .i64 a4, .int .i64 a5, .bool a6, .int .i64 a7, v8, .str a9] =>
    match toSl (.st 58) v8 with
    | some l8 => some (⟨a0, a1, a2, a3, a4, a5, a6, a7, l8, a9⟩ : Msg)
    | _ => none
  | 58, [.int .i64 a, .str b] => some (⟨a, b⟩ : Entry)
  | 75, [.int .i64 a0, .int .i64 a1, .int .i64 a2, .int .i64 a3, .str a4, v5] =>
    match toSl (.st 58) v5 with
    | some l5 => some (⟨a0, a1, a2, a3, a4, l5⟩ : Hard)
    | _ => none
  | _, _ => none

noncomputable def dfltU : (t : Nat) → U t
  | 27 => (⟨0, 0, 0, 0, 0, 0, ⟨#[]⟩, [], 0, 0, 0, [], [], [], 0⟩ : Node)
  | 30 => (⟨0, 0, 0, 0, 0, 0, false, 0, [], ⟨#[]⟩⟩ : Msg)
  | 58 => (⟨0, ⟨#[]⟩⟩ : Entry)
  | 75 => (⟨0, 0, 0, 0, ⟨#[]⟩, []⟩ : Hard)
  | _ => by unfold U; split <;> first | exact () | exact (⟨0, 0, 0, 0, 0, 0, ⟨#[]⟩, [], 0, 0, 0, [], [], [], 0⟩ : Node) | exact (⟨0, 0, 0, 0, 0, 0, false, 0, [], ⟨#[]⟩⟩ : Msg) | exact (⟨0, ⟨#[]⟩⟩ : Entry) | exact (⟨0, 0, 0, 0, ⟨#[]⟩, []⟩ : Hard)

noncomputable def szU : Nat → Nat
  | 27 => 15 | 30 => 10 | 58 => 2 | 75 => 6 | _ => 0

noncomputable def cdU : TypeId → Option Cd
  | 2 => some (.int .i64) | 3 => some (.int .i64) | 4 => some .bool | 5 => some (.int .u8) | 9 => some .str | 21 => some (.int .i32)
  | 22 => some (.sl (.int .i64)) | 24 => some (.sl (.st 58)) | 25 => some (.sl .bool) | 32 => some (.sl (.st 30)) | 45 => some (.sl (.st 27))
  | 36 => some (.int .i64) | 27 => some (.st 27) | 30 => some (.st 30) | 58 => some (.st 58) | 75 => some (.st 75) | _ => none

noncomputable def tab : Tab U := { cells := cellsU, of := ofU, sz := szU, dflt := dfltU, cd := cdU }

noncomputable def ann : Ann :=
  { inl := fun g f => [(64, 88), (71, 88), (77, 49), (18, 58), (58, 84), (84, 56), (89, 90), (14, 49), (10, 33), (11, 37), (4, 22), (5, 24), (24, 26), (5, 26), (5, 27)].contains (g, f)
    rc := fun f => if f = 48 then some [.slt (.st 58)] else if f = 86 then some [.slt (.st 58)] else none
    slo := fun f => if f = 14 then some 1 else if f = 32 then some 0 else none
    plain := fun f d => [(21, 18), (21, 22), (35, 15), (39, 15), (22, 100), (22, 108), (22, 162), (22, 170)].contains (f, d)
    join := fun f b => if f = 22 ∧ b = 0 then some [(.tmp 5, .pure (.int .i64)), (.tmp 6, .frz (.st 30)), (.cell 0 0, .asl (.st 27) true), (.cell 0 1, .asl (.st 30) false)] else none
    loop := fun f b => match f, b with
      | 21, 0 => [(.tmp 7, .pure (.int .i64)), (.cell 6 12, .asl (.int .i64) true)]
      | 32, 0 => [(.tmp 3, .asl (.st 30) true), (.tmp 9, .pure (.int .i64))]
      | 35, 0 => [(.tmp 21, .pure (.int .i64)), (.cell 1 12, .asl (.int .i64) true)]
      | 33, 0 => [(.tmp 7, .asl (.st 30) true), (.tmp 32, .pure (.int .i64))]
      | 89, 0 => [(.tmp 5, .pure (.int .i64)), (.tmp 10, .pure (.int .i64))]
      | 17, 0 => [(.tmp 5, .pure (.int .i64))]
      | 19, 0 => [(.tmp 5, .pure (.int .i64))]
      | 36, 0 => [(.tmp 3, .asl (.st 30) true), (.tmp 4, .pure (.int .i64))]
      | 37, 0 => [(.tmp 4, .asl (.st 30) true), (.tmp 5, .pure (.int .i64))]
      | 85, 0 => [(.tmp 5, .pure (.int .i64))]
      | 7, 0 => [(.tmp 2, .pure (.int .i64)), (.cell 1 0, .pure (.int .i64)), (.cell 1 1, .pure (.int .i64)), (.cell 1 2, .pure (.int .i64)), (.cell 1 3, .pure (.int .i64)), (.cell 1 4, .pure (.int .i64)), (.cell 1 5, .pure (.int .i64)), (.cell 1 6, .pure .str), (.cell 1 7, .pure (.sl (.st 58))), (.cell 1 8, .pure (.int .i64)), (.cell 1 9, .pure (.int .i64)), (.cell 1 10, .pure (.int .i64)), (.cell 1 11, .pure (.sl .bool)), (.cell 1 12, .pure (.sl (.int .i64))), (.cell 1 13, .pure (.sl (.int .i64))), (.cell 1 14, .pure (.int .i64))]
      | 8, 0 => [(.tmp 8, .pure (.int .i64)), (.cell 7 0, .pure (.int .i64)), (.cell 7 1, .pure (.int .i64)), (.cell 7 2, .pure (.int .i64)), (.cell 7 3, .pure (.int .i64)), (.cell 7 4, .pure (.int .i64)), (.cell 7 5, .pure (.int .i64)), (.cell 7 6, .pure .str), (.cell 7 7, .frz (.st 58)), (.cell 7 8, .pure (.int .i64)), (.cell 7 9, .pure (.int .i64)), (.cell 7 10, .pure (.int .i64)), (.cell 7 11, .frz .bool), (.cell 7 12, .frz (.int .i64)), (.cell 7 13, .frz (.int .i64)), (.cell 7 14, .pure (.int .i64))]
      | 16, 0 => [(.tmp 5, .pure (.int .i64))]
      | 16, 2 => [(.tmp 6, .pure (.int .i64))]
      | 16, 4 => [(.tmp 7, .pure (.int .i64))]
      | 31, 0 => [(.tmp 5, .asl (.st 58) true), (.tmp 6, .pure (.int .i64))]
      | 39, 0 => [(.tmp 4, .pure (.int .i64)), (.cell 1 12, .asl (.int .i64) true)]
      | 45, 0 => [(.tmp 6, .pure (.int .i64)), (.tmp 7, .pure (.int .i64))]
      | 51, 0 => [(.tmp 3, .pure (.int .i64)), (.cell 1 10, .pure (.int .i64))]
      | 51, 2 => [(.tmp 6, .pure (.int .i64)), (.tmp 44, .pure (.int .i64))]
      | 68, 0 => [(.tmp 3, .asl (.st 30) true), (.tmp 7, .pure (.int .i64))]
      | 75, 0 => [(.tmp 39, .pure (.int .i64)), (.cell 3 7, .frz (.st 58)), (.cell 6 0, .pure (.int .i64)), (.cell 6 1, .pure (.int .i64)), (.cell 6 2, .pure (.int .i64)), (.cell 6 3, .pure (.int .i64)), (.cell 6 4, .pure (.int .i64)), (.cell 6 5, .pure (.int .i64)), (.cell 6 6, .pure .str), (.cell 6 7, .frz (.st 58)), (.cell 6 8, .pure (.int .i64)), (.cell 6 9, .pure (.int .i64)), (.cell 6 10, .pure (.int .i64)), (.cell 6 11, .frz .bool), (.cell 6 12, .frz (.int .i64)), (.cell 6 13, .frz (.int .i64)), (.cell 6 14, .pure (.int .i64))]
      | 79, 0 => [(.tmp 3, .pure (.int .i64)), (.cell 1 10, .pure (.int .i64))]
      | 79, 2 => [(.tmp 6, .pure (.int .i64)), (.tmp 7, .pure (.int .i64))]
      | 82, 0 => [(.tmp 8, .pure (.int .i64)), (.tmp 7, .asl (.st 58) true)]
      | 84, 0 => [(.tmp 8, .pure (.int .i64))]
      | 23, 0 => [(.tmp 5, .pure (.int .i64)), (.tmp 6, .pure (.int .i64))]
      | 4, 0 => [(.tmp 7, .pure (.int .i64)), (.cell 6 0, .asl (.st 27) true)]
      | 4, 2 => [(.tmp 9, .pure (.int .i64)), (.cell 6 0, .asl (.st 27) true), (.cell 6 1, .asl (.st 30) false), (.tmp 8, .mp (.int .i64) (.int .i64))]
      | 4, 4 => [(.tmp 10, .pure (.int .i64)), (.tmp 8, .mp (.int .i64) (.int .i64))]
      | 4, 6 => [(.tmp 14, .pure (.int .i64))]
      | 23, 2 => [(.tmp 7, .pure (.int .i64))]
      | 5, 0 => [(.tmp 7, .pure (.int .i64)), (.cell 6 0, .asl (.st 27) true)]
      | 5, 2 => [(.tmp 9, .pure (.int .i64)), (.cell 6 0, .asl (.st 27) true)]
      | 5, 4 => [(.tmp 13, .pure (.int .i64))]
      | 24, 0 => [(.tmp 5, .pure (.int .i64)), (.tmp 0, .asl (.st 27) true)]
      | 24, 2 => [(.tmp 7, .pure (.int .i64)), (.tmp 0, .asl (.st 27) true), (.tmp 6, .asl (.st 30) false)]
      | 26, 0 => [(.tmp 5, .pure (.int .i64)), (.tmp 0, .asl (.st 27) true), (.tmp 1, .asl (.st 30) false)]
      | 27, 0 => [(.tmp 4, .pure (.int .i64)), (.cell 1 0, .asl (.st 27) true)]
      | 27, 2 => [(.tmp 6, .pure (.int .i64)), (.cell 1 0, .asl (.st 27) true), (.tmp 5, .asl (.st 30) false)]
      | 27, 4 => [(.tmp 9, .pure (.int .i64)), (.cell 1 0, .asl (.st 27) true), (.tmp 5, .asl (.st 30) false)]
      | _, _ => [] }

noncomputable def env (o : Ops U) : Env U := { o, P := Try.prog, T := tab, ann }

end
end Go.Proofs.Ytinfpahllbhomaa

namespace Go.Proofs.Ytinfpahllbhomaa
open Go.Ab
noncomputable section

theorem u_other {t : Nat} (h1 : t ≠ 27) (h2 : t ≠ 30) (h3 : t ≠ 58) (h4 : t ≠ 75) (x : U t) : cellsU t x = [] := by
  unfold cellsU
  split <;> first | contradiction | rfl

theorem tab_size (t : Nat) (x : U t) : (cellsU t x).length = szU t := by
  by_cases h1 : t = 27
  · subst h1; rfl
  by_cases h2 : t = 30
  · subst h2; rfl
  by_cases h3 : t = 58
  · subst h3; rfl
  by_cases h4 : t = 75
  · subst h4; rfl
  rw [u_other h1 h2 h3 h4]
  unfold szU
  split <;> first | contradiction | rfl

theorem tab_plain (t : Nat) (x : U t) (av : A) (h : av ∈ cellsU t x) : av.plain = true := by
  by_cases h1 : t = 27
  · subst h1
    change av ∈ [_, _, _, _, _, _, _, _, _, _, _, _, _, _, _] at h
    simp only [List.mem_cons, List.mem_nil_iff, or_false] at h
    rcases h with h | h | h | h | h | h | h | h | h | h | h | h | h | h | h <;> (subst h; rfl)
  by_cases h2 : t = 30
  · subst h2
    change av ∈ [_, _, _, _, _, _, _, _, _, _] at h
    simp only [List.mem_cons, List.mem_nil_iff, or_false] at h
    rcases h with h | h | h | h | h | h | h | h | h | h <;> (subst h; rfl)
  by_cases h3 : t = 58
  · subst h3
    change av ∈ [_, _] at h
    simp only [List.mem_cons, List.mem_nil_iff, or_false] at h
    rcases h with h | h <;> (subst h; rfl)
  by_cases h4 : t = 75
  · subst h4
    change av ∈ [_, _, _, _, _, _] at h
    simp only [List.mem_cons, List.mem_nil_iff, or_false] at h
    rcases h with h | h | h | h | h | h <;> (subst h; rfl)
  rw [u_other h1 h2 h3 h4] at h
  cases h

/-- A slice that is made plain is as it was, or less told. -/
theorem toSl_wk {e : Cd} {v : A} {L : List (den U e)} (h : toSl e v = some L) : Wk v (.fsl e L .unk) := by
  unfold toSl at h
  split at h
  · cases h; exact .nil e
  · split at h
    · rename_i c L' sp hc
      subst hc
      cases h
      exact .sl c L' sp
    · cases h
  · cases h

def WkL : List A → List A → Prop
  | [], [] => True
  | a :: l, b :: l' => Wk a b ∧ WkL l l'
  | _, _ => False

theorem wk_list : ∀ {l l' : List A}, WkL l l' → l.length = l'.length ∧ ∀ (i : Nat) (av av' : A), l[i]? = some av → l'[i]? = some av' → Wk av av'
  | [], [], _ => ⟨rfl, fun i av av' h => by simp at h⟩
  | a :: l, b :: l', h => by
    obtain ⟨h1, h2⟩ := wk_list h.2
    refine ⟨by simp [h1], fun i av av' q1 q2 => ?_⟩
    cases i with
    | zero => simp at q1 q2; subst q1 q2; exact h.1
    | succ i => exact h2 i av av' (by simpa using q1) (by simpa using q2)
  | [], _ :: _, h => h.elim
  | _ :: _, [], h => h.elim

theorem tab_weak (t : Nat) (cs : List A) (x : U t) (h : ofU t cs = some x) : WkL cs (cellsU t x) := by
  unfold ofU at h
  split at h
  · rename_i v7 a8 a9 a10 v11 v12 v13 a14
    split at h
    · rename_i q7 q11 q12 q13
      cases h
      exact ⟨.refl _, .refl _, .refl _, .refl _, .refl _, .refl _, .refl _, toSl_wk q7, .refl _, .refl _, .refl _, toSl_wk q11, toSl_wk q12, toSl_wk q13, .refl _, trivial⟩
    · cases h
  · split at h
    · rename_i q8
      cases h
      exact ⟨.refl _, .refl _, .refl _, .refl _, .refl _, .refl _, .refl _, .refl _, toSl_wk q8, .refl _, trivial⟩
    · cases h
  · cases h
    exact ⟨.refl _, .refl _, trivial⟩
  · split at h
    · rename_i q5
      cases h
      exact ⟨.refl _, .refl _, .refl _, .refl _, .refl _, toSl_wk q5, trivial⟩
    · cases h
  · cases h

def cdOK (t : TypeId) (c : Cd) : Prop := (∃ i, Try.prog.info? t = some i ∧ i.size = c.size tab) ∧ ∃ d, Try.prog.underlying t = some d ∧ isAggD d = (match c with | .st _ => true | _ => false)

theorem tab_cd (t : TypeId) (c : Cd) (h : cdU t = some c) : cdOK t c := by
  unfold cdU at h
  split at h <;> first
    | (cases h; exact ⟨⟨_, rfl, rfl⟩, _, rfl, rfl⟩)
    | cases h

theorem tab_ok : tab.Ok Try.prog :=
  ⟨tab_size, tab_plain, fun t cs x h => wk_list (tab_weak t cs x h), tab_cd⟩

end
end Go.Proofs.Ytinfpahllbhomaa

namespace Go.Proofs.Ytinfpahllbhomaa
open Go.Ab
noncomputable section

theorem mixes : Try.prog.follows .mixedOrders = true := by rfl

theorem names_ok : (Try.prog.funcs.toList.all fun fn => fn.name != "runtime.NumGoroutine") = true := by kernel_rfl

theorem no_goroutines (f : Nat) (fn : Func) (h : Try.prog.funcs[f]? = some fn) : fn.name ≠ "runtime.NumGoroutine" := by
  have := List.all_eq_true.1 names_ok fn (Array.mem_toList_iff.2 (Array.mem_of_getElem? h))
  simpa using this

theorem cx_of (C : Go.Ab.Callee U) (n : Nat) (good : ∀ f xs rc r, C f xs rc = some r → PureCall Try.prog tab ann f xs rc r) : Cx (env (real tab C n)) tab C n Try.prog :=
  ⟨rfl, rfl, rfl, tab_ok, good, no_goroutines⟩

/-- What a function computes with the callees' answers C is what a call of it gives. -/
theorem call_of {C : Go.Ab.Callee U} {n d : Nat} (good : ∀ f xs rc r, C f xs rc = some r → PureCall Try.prog tab ann f xs rc r) {f : FuncId} {xs : List (Σ c, den U c)} {rc : List Cd} {r : HL U rc}
    (h : Go.Ab.pure (env (real tab C n)) d f xs rc = some r) : PureCall Try.prog tab ann f xs rc r :=
  pure_call (cx_of C n good) mixes h

end
end Go.Proofs.Ytinfpahllbhomaa

namespace Go.Proofs.Ytinfpahllbhomaa
open Go.Ab
section
variable {T : Tab U} {C : Go.Ab.Callee U} {n : Nat}

theorem r_ite {R : Type} (c : Bool) (x y : Option R) : (real T C n).ite c x y = if c then x else y := by cases c <;> rfl
theorem r_add (k : IntKind) (a b : Int) : (real T C n).add k a b = k.wrap (a + b) := rfl
theorem r_sub (k : IntKind) (a b : Int) : (real T C n).sub k a b = k.wrap (a - b) := rfl
theorem r_mul (k : IntKind) (a b : Int) : (real T C n).mul k a b = k.wrap (a * b) := rfl
theorem r_quo (k : IntKind) (a b : Int) : (real T C n).quo k a b = k.wrap (a.tdiv b) := rfl
theorem r_rem (k : IntKind) (a b : Int) : (real T C n).rem k a b = a.tmod b := rfl
theorem r_lt (a b : Int) : (real T C n).lt a b = decide (a < b) := rfl
theorem r_le (a b : Int) : (real T C n).le a b = decide (a ≤ b) := rfl
theorem r_eq (a b : Int) : (real T C n).eq a b = decide (a = b) := rfl
theorem r_bnot (b : Bool) : (real T C n).bnot b = !b := rfl
theorem r_bsel (c a b : Bool) : (real T C n).bsel c a b = if c then a else b := by cases c <;> rfl
theorem r_or (c b : Bool) : (real T C n).bsel c true b = (c || b) := by cases c <;> rfl
theorem r_and (c a : Bool) : (real T C n).bsel c a false = (c && a) := by cases c <;> rfl
theorem r_isel (c : Bool) (a b : Int) : (real T C n).isel c a b = if c then a else b := by cases c <;> rfl
theorem r_beq (a b : Bool) : (real T C n).beq a b = (a == b) := rfl
theorem r_band (a b : Bool) : (real T C n).band a b = (a && b) := rfl
theorem r_bimp (a b : Bool) : (real T C n).bimp a b = (!a || b) := rfl
theorem r_imax (a b : Int) : (real T C n).imax a b = max a b := by
  show (if b > a then b else a) = max a b
  omega
theorem r_imin (a b : Int) : (real T C n).imin a b = min a b := by
  show (if b < a then b else a) = min a b
  omega
theorem r_len (c : Cd) (L : List (den U c)) : (real T C n).len c L = (L.length : Int) := rfl
theorem r_get (c : Cd) (L : List (den U c)) (i : Int) : (real T C n).get c L i = L.getD i.toNat (zero T c) := rfl
theorem r_app (c : Cd) (a b : List (den U c)) : (real T C n).app c a b = a ++ b := rfl
theorem r_set (c : Cd) (L : List (den U c)) (i : Int) (x : den U c) : (real T C n).set c L i x = L.set i.toNat x := rfl
theorem r_cut (c : Cd) (L : List (den U c)) (l h : Int) : (real T C n).cut c L l h = (L.take h.toNat).drop l.toNat := rfl
theorem r_rep (c : Cd) (k : Int) (x : den U c) : (real T C n).rep c k x = List.replicate k.toNat x := rfl
theorem r_emp (c : Cd) (L : List (den U c)) : (real T C n).emp c L = L.isEmpty := rfl
theorem r_fits (k : Nat) (a b : Int) : (real T C n).fits k a b = decide ((a + b) * k ≤ 2 ^ 47 ∧ a + b ≤ 2 ^ 62) := rfl
theorem r_mfit (k : Nat) (a : Int) : (real T C n).mfit k a = decide (0 ≤ a ∧ a * k ≤ 2 ^ 47 ∧ a ≤ 2 ^ 62) := rfl
theorem r_call (f : FuncId) (xs : List (Σ c, den U c)) (rc : List Cd) : (real T C n).call f xs rc = C f xs rc := rfl
theorem r_gcall (b : Bool) (f : FuncId) (xs : List (Σ c, den U c)) (rc : List Cd) : (real T C n).gcall b f xs rc = if b then C f xs rc else some (zeroHL T rc) := by cases b <;> rfl
theorem r_bind {A R : Type} (a : Option A) (f : A → Option R) : (real T C n).bind a f = a.bind f := rfl
theorem r_loop {S R : Type} (F : (S → Option R) → S → Option R) (x : S) : (real T C n).loop F x = iter F n x := rfl

theorem r_join {S R : Type} (f : S → Option R) (b : (S → Option R) → Option R) : (real T C n).join f b = b f := rfl

theorem wrap_i64 {x : Int} (h1 : -9223372036854775808 ≤ x) (h2 : x < 9223372036854775808) : IntKind.i64.wrap x = x := by
  have e : IntKind.i64.wrap x = if x % 18446744073709551616 ≥ 9223372036854775808 then x % 18446744073709551616 - 18446744073709551616 else x % 18446744073709551616 := by
    simp [IntKind.wrap, IntKind.bits, IntKind.signed]
  rw [e]
  split <;> omega

end
end Go.Proofs.Ytinfpahllbhomaa
