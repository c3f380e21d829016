/-
  The statement RaftElects: the first one leads, all follow; what is proposed is committed by all in a few ticks; if it falls silent the next one leads, with all of that: it answers true, whatever the input, and turns nothing that came in.
  Conditions: none but the row's own.
-/
import Derived.Test.YtinfpahllbhomaaRows
import Derived.Test.YtinfpahllbhomaaM9
import Derived.WalkKit
import Derived.ProofKit
import Derived.OpenShut
import Derived.ChangeOld
import Derived.Below
set_option linter.unusedVariables false
set_option linter.unusedSimpArgs false

namespace Go.Proofs.Ytinfpahllbhomaa.raftElects
open Go.ChangeShapes Go.WideShapes Go.ChangeAt Go.RowKit
set_option linter.unusedVariables false

theorem own : ownKnob Try.prog.godebug = none := by kernel_rfl

/-- A ghost of what lies there. -/
noncomputable def laid (w : World) : Go.Ab.Gh := { own := fun b _ => if b < w.heap.size then .frz else .free, blk := fun _ => none, sv := fun _ _ => none }

theorem laid_size {w : World} (b o : Nat) (h : (laid w).own b o ≠ .free) : b < w.heap.size := by
  by_cases hb : b < w.heap.size
  · exact hb
  · exact absurd (if_neg hb) h

theorem two_rel {w : World} {a b : Int} : ∀ (i : Nat) (y : Σ c, Go.Ab.den U c) (x : Value), ([⟨.int .i64, a⟩, ⟨.int .i64, b⟩] : List (Σ c, Go.Ab.den U c))[i]? = some y →
    (#[.int .i64 a, .int .i64 b] : Array Value)[i]? = some x → Go.Ab.VRel tab (laid w) w (Go.Ab.AV.of tab y.1 y.2) x
  | 0, y, x, hy, hx => by cases hy; cases hx; exact .int .i64 a
  | 1, y, x, hy, hx => by cases hy; cases hx; exact .int .i64 b
  | i + 2, y, x, hy, hx => by simp at hy

theorem walk (a b : Int) (w : World) : Calls Try.prog 5 #[.int .i64 a, .int .i64 b] w fun e w' => e = .returned (.bool true) ∧ Below w.heap.size w w' := by
  have h := good (2^43) 20 5 [⟨.int .i64, a⟩, ⟨.int .i64, b⟩] [.bool] (true, ()) (s_5 (Nat.le_refl _) (Nat.le_refl _))
  refine (h (laid w) w #[.int .i64 a, .int .i64 b] laid_size rfl two_rel).mono fun e w' hp => ?_
  obtain ⟨v, γ', rfl, hb, _, _, hv, _⟩ := hp
  refine ⟨?_, hb⟩
  have hv : Go.Ab.VRel tab γ' w' (.bool true) v := hv
  cases hv
  rfl

set_option maxRecDepth 100000 in
theorem lifted (os : Os) (started : os.Started) (H : Type) (enc : TypeId × Value → H) :
    ReturnsInHanded {} Try.checked os 5 .any (Rows.raftElectsSpec.pre6 enc Try.prog Try.f5 Rows.raftElectsRow.domain false) (Rows.raftElectsSpec.post enc Try.prog Try.f5 false true false false) := by
  refine returnsInHanded_of_change (C := Try.checked) own started (by kernel_rfl) Try.func5
    (ChangeSpec.witness6 (enc := enc) (C := Try.checked) false ⟨#[], #[.int .i64 0, .int .i64 0], []⟩ 8 (by kernel_rfl) (by kernel_rfl) (by kernel_rfl) (by kernel_rfl)) ?_
  intro W base args ds gs before hval0 hW hcnd _
  have hval : ∀ (j : Nat) t v, Try.f5.params[j]? = some t → args[j]? = some v → Value.okWide Try.prog W .any base t v := hval0
  have hW' := hW
  obtain ⟨p, q, hA0, hV, rfl, hfz, hnd⟩ := hW
  have hA : DataW.TrodAll enc Try.prog W 0 (fun _ => true) true Try.f5.params.toList args.toList ds p := hA0
  rw [Try.params5] at hA hval
  obtain ⟨v0, v1, d0, d1, p0, p1, rfl, rfl, rfl, h0, h1⟩ := trodAll_two hA
  obtain ⟨rfl, rfl⟩ := trodVars_none hV
  obtain ⟨a, rfl, rfl, rfl, wa⟩ := open_int Try.underlying3 (hval 0 3 v0 rfl rfl) h0
  obtain ⟨b, rfl, rfl, rfl, wb⟩ := open_int Try.underlying3 (hval 1 3 v1 rfl rfl) h1
  clear hA0 hval0
  refine (walk a b W).mono fun e W' ⟨he, bel⟩ => ?_
  subst he
  exact ⟨_, rfl, _, _, _, [], _, [], hW', trodAll_mk1 (shut_bool Try.underlying4 _), trodAll_mk2 (shut_int Try.underlying3 wa) (shut_int Try.underlying3 wb), rfl, bel.frame _, fun h => by cases h⟩

theorem over : Rows.raftElectsRow.holds Try.pinned (OpenSpec.ofChange Rows.raftElectsSpec) :=
  OpenClaim.holds_of_wide 5 Try.f5 rfl rfl rfl rfl rfl rfl rfl ⟨rfl, rfl, rfl, rfl, rfl⟩ rfl rfl rfl rfl rfl (by kernel_rfl) Try.func5 (by kernel_rfl)
    (of_decide_eq_true (by kernel_rfl)) (by unfold Func.isWrapper; first | (rw [if_pos (by decide +kernel)]; kernel_rfl) | (rw [if_neg (by decide +kernel)]; exact ⟨rfl, rfl⟩))
    (fun os started H enc _ => lifted os started H enc)

theorem proved : Rows.RaftElectsSaid := over
#print axioms proved

end Go.Proofs.Ytinfpahllbhomaa.raftElects
