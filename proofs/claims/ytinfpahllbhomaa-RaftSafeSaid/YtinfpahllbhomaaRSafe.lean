/-
  The statement RaftSafe: in one Term one leads; entries of one place and Term are the same, and all ahead of them; what one has committed no one has otherwise: it answers true, whatever the input, and turns nothing that came in.
  Conditions: none but the row's own.
-/
import Derived.Test.YtinfpahllbhomaaRows
import Derived.Test.YtinfpahllbhomaaM9
import Derived.WalkKit
import Derived.ProofKit
import Derived.OpenShut
import Derived.ChangeOld
import Derived.Below
set_option linter.unusedVariables false
set_option linter.unusedSimpArgs false

namespace Go.Proofs.Ytinfpahllbhomaa.raftSafe
open Go.ChangeShapes Go.WideShapes Go.ChangeAt Go.RowKit
set_option linter.unusedVariables false

theorem own : ownKnob Try.prog.godebug = none := by kernel_rfl
theorem laidOut : laidOutB Try.prog = true := by kernel_rfl

/-- A ghost of what lies there. -/
noncomputable def laid (w : World) : Go.Ab.Gh := { own := fun b _ => if b < w.heap.size then .frz else .free, blk := fun _ => none, sv := fun _ _ => none }

theorem laid_size {w : World} (b o : Nat) (h : (laid w).own b o ≠ .free) : b < w.heap.size := by
  by_cases hb : b < w.heap.size
  · exact hb
  · exact absurd (if_neg hb) h

def IsRow (k : IntKind) (w : World) (a : Option Addr) (len cap : Nat) (zs : List Int) : Prop :=
  (a = none ∧ len = 0 ∧ cap = 0 ∧ zs = []) ∨
  ∃ x, a = some x ∧ len ≤ cap ∧ cap ≤ maxLen ∧ zs.length = cap ∧ (∀ i, i < zs.length → w.cell? (x.add i) = some (.int k (zs.getD i 0))) ∧ ∀ n ∈ zs, (Lit.int k n).wf = true

theorem okWide_spot {P : Program} {w : World} {r : Reach} {base : Nat} {t e : TypeId} {a : Addr} {len cap : Nat} (ht : P.underlying t = some (.slice e)) (h : Value.okWide P w r base t (.slice (some a) len cap)) : a.spot = none := by
  simp only [Value.okWide, ht, Cell.okWide, Cell.ok] at h
  exact h.2.2.2.1

theorem row_rel {w : World} {a : Option Addr} {len cap : Nat} {zs : List Int} (h : IsRow .i64 w a len cap zs) (sp : ∀ x, a = some x → x.spot = none) :
    Go.Ab.VRel tab (laid w) w (Go.Ab.AV.of tab (.sl (.int .i64)) (zs.take len)) (.slice a len cap) := by
  rcases h with ⟨rfl, rfl, rfl, rfl⟩ | ⟨x, rfl, hl, hm, hz, hcell, _⟩
  · exact .fsl (.int .i64) ([] : List Int) .unk none 0 0 (fun _ _ => undef) rfl (Nat.le_refl _) trivial (fun _ => rfl) (fun a h => by cases h) (fun a h => by cases h) (fun i x h => by simp at h)
  · have hs := sp x rfl
    obtain ⟨xb, xo, xs⟩ := x
    simp only at hs
    subst hs
    have hget : ∀ (i : Nat) (y : Int), (zs.take len)[i]? = some y → i < zs.length ∧ zs.getD i 0 = y := by
      intro i y hy
      rw [List.getElem?_take] at hy
      split at hy
      · have hlt := (List.getElem?_eq_some_iff.1 hy).1
        exact ⟨hlt, by simp [List.getD, hy]⟩
      · cases hy
    refine .fsl (.int .i64) (zs.take len) .unk (some ⟨xb, xo, none⟩) len cap (fun i _ => .int .i64 (zs.getD i 0)) (by simp; omega) hl trivial (fun e => by cases e) (fun a ha => by cases ha; rfl) (fun a ha i y hy j av hj => ?_) (fun i y hy j av hj => ?_)
    · cases ha
      obtain ⟨h1, h2⟩ := hget i y hy
      have hj0 : j = 0 := by
        have := (List.getElem?_eq_some_iff.1 hj).1
        have e : (Go.Ab.cellsOf tab (.int .i64) y).length = 1 := rfl
        omega
      subst hj0
      have hc := hcell i h1
      have ea : (⟨xb, xo, none⟩ : Addr).add i = ⟨xb, xo + i * (Go.Ab.Cd.int IntKind.i64).size tab + 0, none⟩ := by
        have e1 : (Go.Ab.Cd.int IntKind.i64).size tab = 1 := rfl
        rw [e1]
        unfold Addr.add
        split
        · rename_i h0; subst h0; simp
        · simp
      rw [ea] at hc
      refine ⟨?_, hc, rfl⟩
      have hlt : xb < w.heap.size := by
        unfold World.cell? at hc
        by_cases q : xb < w.heap.size
        · exact q
        · simp [Array.getElem?_eq_none (Nat.le_of_not_lt q)] at hc
      exact if_pos hlt
    · obtain ⟨h1, h2⟩ := hget i y hy
      have hj0 : j = 0 := by
        have := (List.getElem?_eq_some_iff.1 hj).1
        have e : (Go.Ab.cellsOf tab (.int .i64) y).length = 1 := rfl
        omega
      subst hj0
      have e : (Go.Ab.cellsOf tab (.int .i64) y)[0]? = some (.int .i64 y) := rfl
      rw [e] at hj
      cases hj
      show Go.Ab.VRel tab (laid w) w (.int .i64 y) (.int .i64 (zs.getD i 0))
      rw [h2]
      exact .int .i64 y

theorem walk {a0 : Option Addr} {len0 cap0 : Nat} {z0 : List Int} (a1 : Int) (w : World) (w0 : IsRow .i64 w a0 len0 cap0 z0) (s0 : ∀ x, a0 = some x → x.spot = none) :
    Calls Try.prog 4 #[.int .i64 a1, .slice a0 len0 cap0] w fun e w' => e = .returned (.bool true) ∧ Below w.heap.size w w' := by
  have h := good (2^43) 20 4 [⟨.int .i64, a1⟩, ⟨.sl (.int .i64), z0.take len0⟩] [.bool] (true, ()) (s_4 (Nat.le_refl _) (Nat.le_refl _))
  have hrel : ∀ (i : Nat) (y : Σ c, Go.Ab.den U c) (x : Value), ([⟨.int .i64, a1⟩, ⟨.sl (.int .i64), z0.take len0⟩] : List (Σ c, Go.Ab.den U c))[i]? = some y →
      (#[.int .i64 a1, .slice a0 len0 cap0] : Array Value)[i]? = some x → Go.Ab.VRel tab (laid w) w (Go.Ab.AV.of tab y.1 y.2) x := by
    intro i y x hy hx
    match i, hy, hx with
    | 0, hy, hx => cases hy; cases hx; exact .int .i64 a1
    | 1, hy, hx => cases hy; cases hx; exact row_rel w0 s0
    | i + 2, hy, hx => simp at hy
  refine (h (laid w) w _ laid_size rfl hrel).mono fun e w' hp => ?_
  obtain ⟨v, γ', rfl, hb, _, _, hv⟩ := hp
  refine ⟨?_, hb⟩
  have hv : Go.Ab.VRel tab γ' w' (.bool true) v := hv
  cases hv
  rfl

set_option maxRecDepth 100000 in
theorem lifted (os : Os) (started : os.Started) (H : Type) (enc : TypeId × Value → H) :
    ReturnsInHanded {} Try.checked os 4 .any (Rows.raftSafeSpec.pre6 enc Try.prog Try.f4 Rows.raftSafeRow.domain false) (Rows.raftSafeSpec.post enc Try.prog Try.f4 false true false false) := by
  refine returnsInHanded_of_change (C := Try.checked) own started (by kernel_rfl) Try.func4
    (ChangeSpec.witness6 (enc := enc) (C := Try.checked) false ⟨#[], #[.int .i64 0, .slice none 0 0], []⟩ 8 (by kernel_rfl) (by kernel_rfl) (by kernel_rfl) (by kernel_rfl)) ?_
  intro W base args ds gs before hval0 hW hcnd _
  have hval : ∀ (j : Nat) t v, Try.f4.params[j]? = some t → args[j]? = some v → Value.okWide Try.prog W .any base t v := hval0
  have hW' := hW
  obtain ⟨p, q, hA0, hV, rfl, hfz, hnd⟩ := hW
  have hA : DataW.TrodAll enc Try.prog W 0 (fun _ => true) true Try.f4.params.toList args.toList ds p := hA0
  rw [Try.params4] at hA hval
  obtain ⟨v0, vs0, d0, ds0, p0, q0, hargs, rfl, rfl, h0, r0⟩ := trodAll_cons hA
  obtain ⟨v1, vs1, d1, ds1, p1, q1, rfl, rfl, rfl, h1, r1⟩ := trodAll_cons r0
  obtain ⟨rfl, rfl, rfl⟩ := trodAll_nil r1
  obtain rfl : args = #[v0, v1] := by cases args; simp_all
  obtain ⟨rfl, rfl⟩ := trodVars_none hV
  obtain ⟨a0, rfl, rfl, rfl, w0⟩ := open_int Try.underlying3 (hval 0 3 v0 rfl rfl) h0
  have o1 := hval 1 22 v1 rfl rfl
  obtain ⟨a1, len1, cap1, rfl⟩ := okWide_slice Try.underlying22 o1
  have k1 := h1
  have lt1 : ∀ x ∈ p1, x.block < W.heap.size := by obtain ⟨m, hm⟩ := k1; exact DataW.trod_lt m _ _ _ hm
  obtain ⟨z1, w1⟩ : ∃ zs, IsRow .i64 W a1 len1 cap1 zs := by
    obtain ⟨fuel, hf⟩ := h1
    rcases open_ints Try.underlying22 Try.underlying3 (by kernel_rfl) hf with ⟨hcs, _⟩ | ⟨x, l, c, zs, hcs, _, hl, hm, hz, _, hcell, hwz⟩
    · simp [Value.cells] at hcs
      obtain ⟨rfl, rfl, rfl⟩ := hcs
      exact ⟨[], .inl ⟨rfl, rfl, rfl, rfl⟩⟩
    · simp [Value.cells] at hcs
      obtain ⟨rfl, rfl, rfl⟩ := hcs
      exact ⟨zs, .inr ⟨_, rfl, hl, hm, by simpa using hz, hcell, hwz⟩⟩
  have s1 : ∀ x, a1 = some x → x.spot = none := fun x hx => by subst hx; exact okWide_spot Try.underlying22 o1
  clear hA0 hval0
  refine (walk a0 W w1 s1).mono fun e W' ⟨he, bel⟩ => ?_
  subst he
  exact ⟨_, rfl, _, _, _, [], _, [], hW', trodAll_mk1 (shut_bool Try.underlying4 _),
    (trodAll_cons_mk (shut_int Try.underlying3 w0) (trodAll_cons_mk (Below.trod laidOut (by kernel_rfl) (of_decide_eq_true (by kernel_rfl)) k1 bel lt1) trodAll_mk0)), rfl, bel.frame _, fun h => by cases h⟩

theorem over : Rows.raftSafeRow.holds Try.pinned (OpenSpec.ofChange Rows.raftSafeSpec) :=
  OpenClaim.holds_of_wide 4 Try.f4 rfl rfl rfl rfl rfl rfl rfl ⟨rfl, rfl, rfl, rfl, rfl⟩ rfl rfl rfl rfl rfl (by kernel_rfl) Try.func4 (by kernel_rfl)
    (of_decide_eq_true (by kernel_rfl)) (by unfold Func.isWrapper; first | (rw [if_pos (by decide +kernel)]; kernel_rfl) | (rw [if_neg (by decide +kernel)]; exact ⟨rfl, rfl⟩))
    (fun os started H enc _ => lifted os started H enc)

theorem proved : Rows.RaftSafeSaid := over
#print axioms proved

end Go.Proofs.Ytinfpahllbhomaa.raftSafe
