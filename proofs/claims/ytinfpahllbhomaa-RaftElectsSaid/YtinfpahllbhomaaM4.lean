/-
  Regions whose order is given.
  Regions whose order is drawn: what has no order between it may be turned about.
  Regions whose order is drawn, continued: any order serves.
  Loops: what a round takes over from the round before.
  Loops: the places that a round takes over.
  Loops: what is read at a round's end is what the next round begins with.
  Loops: a round behind the other.
  Code: what the abstract machine says of it is what the machine does.
  Functions: what the abstract machine computes of plain data is what a call gives.
-/
import Derived.Test.YtinfpahllbhomaaM3
import Derived.Scope
set_option linter.unusedVariables false
set_option linter.unusedSimpArgs false

namespace Go.Ab
section
variable {U : Nat → Type} {T : Tab U} {C : Callee U} {n : Nat} {P : Program} {R : Type}

/-- Between regions. -/
structure SR (T : Tab U) (γ : Gh) (w : World) (s : St U) (a : Act) : Prop where
  heap : HRel T γ w s.heap
  base : s.base ≤ s.heap.length
  len : s.tmps.length ≤ a.tmps.size
  defers : a.defers = []
  rel : ∀ (t : Nat) av, s.tmps[t]? = some av → VRel T γ w av (a.tmps.getD t undef)

/-- What stays of a state. -/
structure Fr (W : List Tmp) (s s' : St U) : Prop where
  base : s'.base = s.base
  mu : s'.mu = s.mu
  ro : RO s.base s.mu s.heap s'.heap
  tmps : ∀ t, t ∉ W → s'.tmps[t]? = s.tmps[t]?
  len : s'.tmps.length = s.tmps.length

theorem Fr.refl (W : List Tmp) (s : St U) : Fr W s s := ⟨rfl, rfl, RO.refl _ _ _, fun _ _ => rfl, rfl⟩

theorem Fr.trans {W : List Tmp} {s s' s'' : St U} (h : Fr W s s') (k : Fr W s' s'') : Fr W s s'' :=
  ⟨k.base.trans h.base, k.mu.trans h.mu, by
    have := k.ro
    rw [h.base, h.mu] at this
    exact h.ro.trans this, fun t ht => (k.tmps t ht).trans (h.tmps t ht), k.len.trans h.len⟩

theorem Fr.mono {W W' : List Tmp} {s s' : St U} (h : Fr W s s') (hw : ∀ t ∈ W, t ∈ W') : Fr W' s s' :=
  ⟨h.base, h.mu, h.ro, fun t ht => h.tmps t fun e => ht (hw t e), h.len⟩

theorem SR.ri {γ : Gh} {w : World} {ops : Array Oper} {s : St U} {a : Act} (h : SR T γ w s a) : RI T γ w ops [] s a :=
  ⟨h.len, h.defers, fun t av ht _ => h.rel t av ht, fun t c v ht => (by have := h.rel t _ ht; cases this), fun j hj => (by cases hj), fun j hj => (by cases hj)⟩

/-- What is gone on with behind an operation of a region. -/
def Nx (T : Tab U) (ops : Array Oper) (D : List Nat) (γ : Gh) (w : World) (s : St U) (i : Nat) (k : St U → Foot → Option R) (r : R) (a' : Act) (w' : World) : Prop :=
  ∃ s' ft γ', k s' ft = some r ∧ RI T γ' w' ops (i :: D) s' a' ∧ HRel T γ' w' s'.heap ∧ Ext γ w γ' w' ∧ Fr (dstOf ops i).toList s s'

theorem put_other {tmps : List (AV U)} {d : Option Tmp} {v : AV U} {t : Nat} (h : t ∉ d.toList) : (put tmps d v)[t]? = tmps[t]? := by
  cases d with
  | none => rfl
  | some d => exact List.getElem?_set_ne (fun e => h (by simp [e]))

theorem stepK_wp {e : Env U} (cx : Cx e T C n P) {inl : Inl U R} (hinl : InlOK P T inl) {fid : FuncId} {b : Option Nat} {ops : Array Oper} {i : Nat} {s : St U} {k : St U → Foot → Option R} {r : R} {γ : Gh} {w : World} {a : Act}
    {Q : Exit → Act → World → Prop} {D : List Nat} (hg : guardsOk ops = true) (hr : RI T γ w ops D s a) (hH : HRel T γ w s.heap) (hb : s.base ≤ s.heap.length) (hsl : ∀ m, b = some m → s.base ≤ m) (hi : i ∉ D)
    (hD : ∀ p ∈ chain ops i, p.1 ∈ D) (h : stepK e inl fid b ops i s k = some r) : wpOp P ops Q i (Nx T ops D γ w s i k r) a w := by
  unfold stepK at h
  unfold wpOp
  cases ho : ops[i]? with
  | none => rw [ho] at h; cases h
  | some o =>
    rw [ho] at h
    simp only
    have hd : dstOf ops i = o.dst := by simp [dstOf, ho]
    have hslot : ∀ id, slotOf e.ann ops b i = some id → s.base ≤ id := by
      intro id hid
      cases b with
      | none => cases hid
      | some m =>
        simp only [slotOf, Option.map_some, Option.some.injEq] at hid
        have := hsl m rfl
        omega
    -- behind the operation
    have hend : ∀ (vf : AV U → AV U) (k' : Kont U R), (∀ v H ft, k' v H ft = k { s with tmps := put s.tmps o.dst (vf v), heap := H } ft) →
        (∀ v γ' w' x, VRel T γ' w' v x → (∀ c u, vf v ≠ .when c u) → VRel T γ' w' (vf v) x) →
        (∀ v γ' w' x, VRel T γ' w' v x → ∀ c u, vf v = .when c u → c = chain ops i ∧ c ≠ [] ∧ VRel T γ' w' u x) → (chain ops i).all (litOf ops s.tmps) = true →
        ∀ a' w', Then T s.base s.mu γ w s.heap o a k' r a' w' → Nx T ops D γ w s i k r a' w' := by
      intro vf k' hk' h1 h2 hc a' w' hth
      obtain ⟨x, rfl, v, H', γ', ⟨ft, hk⟩, hv, hH', hx, hro⟩ := hth
      rw [hk'] at hk
      refine ⟨_, ft, γ', hk, ?_, hH', hx, ⟨rfl, rfl, hro, fun t ht => put_other (by rw [hd] at ht; exact ht), put_len⟩⟩
      rw [← hd]
      refine RI.step hr hg hi hD hx (v := vf v) (by rw [hd]) (h1 v γ' w' x hv) (fun c u e => ?_) (fun e => by rw [hc] at e; cases e)
      obtain ⟨q1, q2, q3⟩ := h2 v γ' w' x hv c u e
      exact ⟨q1, q2, fun _ => q3⟩
    have hskip : ∀ v ft, (chain ops i).all (litOf ops s.tmps) = false → (∀ c u, v = .when c u → c = chain ops i ∧ c ≠ []) → ((∀ c u, v ≠ .when c u) → v = .top) →
        k { s with tmps := put s.tmps o.dst v } ft = some r → Nx T ops D γ w s i k r (a.put o.dst undef) w := by
      intro v ft hc h1 h2 hk
      refine ⟨_, ft, γ, hk, ?_, hH, Ext.refl _ _, ⟨rfl, rfl, RO.refl _ _ _, fun t ht => put_other (by rw [hd] at ht; exact ht), put_len⟩⟩
      rw [← hd]
      refine RI.step hr hg hi hD (Ext.refl _ _) (v := v) (by rw [hd]) (fun hn => by rw [h2 hn]; exact .top _) (fun c u e => ?_) (fun _ => rfl)
      obtain ⟨q1, q2⟩ := h1 c u e
      exact ⟨q1, q2, fun e2 => by rw [hc] at e2; cases e2⟩
    cases hgd : o.guard with
    | none =>
      have hch : chain ops i = [] := chain_nil ho hgd
      have hch' : chainOf ops (ops.size + 1) i = [] := hch
      have hall : (chain ops i).all (litOf ops s.tmps) = true := by rw [hch]; rfl
      have hw : Region.wanted o (yielded ops a.tmps) = true := by simp [Region.wanted, hgd]
      simp only [hch'] at h
      rw [if_pos hw]
      refine .inl (Oper.wp_mono ?_ (opK_wp cx hinl b.isSome fid ops [] none (slotOf e.ann ops b i) o s _ r γ w a Q (hr.told (ch := []) rfl o) hH hb hslot (fun _ => rfl) h).out)
      exact hend (fun v => v) _ (fun _ _ _ => rfl) (fun v γ' w' x hv _ => hv) (fun v γ' w' x hv c u e => by rw [e] at hv; cases hv) hall
    | some p =>
      obtain ⟨j, q⟩ := p
      have hch : chain ops i = (j, q) :: chain ops j := chain_cons hg ho hgd
      have hne : chain ops i ≠ [] := by rw [hch]; simp
      have hfold : chainOf ops (ops.size + 1) i = chain ops i := rfl
      simp only [hfold] at h
      split at h
      · rename_i htold
        have hw := hr.wanted hg ho hD htold
        rw [cx.ho, gOf_real hne] at h
        simp only at h
        cases hall : (chain ops i).all (litOf ops s.tmps) with
        | true =>
          rw [hall] at h hw
          rw [if_pos hw]
          have hwp : ∃ (sl : Option Nat) (g : Option Bool), g ≠ some false ∧ (∀ id, sl = some id → s.base ≤ id) ∧ (turns e fid o.op = true → g = none) ∧
              opK e inl b.isSome fid ops (chain ops i) g sl o s (fun v H ft => k { s with tmps := put s.tmps o.dst (.when (chain ops i) v), heap := H } ft) = some r := by
            split at h
            · exact ⟨slotOf e.ann ops b i, none, by simp, hslot, fun _ => rfl, by simpa [real] using h⟩
            · rename_i hnt
              exact ⟨none, some true, by simp, fun id e => (by cases e), fun e => absurd e hnt, h⟩
          obtain ⟨sl, g, hg1, hs1, ht1, h⟩ := hwp
          refine .inl (Oper.wp_mono ?_ ((opK_wp cx hinl b.isSome fid ops (chain ops i) g sl o s _ r γ w a Q (hr.told hall o) hH hb hs1 ht1 h).2 hg1))
          exact hend (fun v => .when (chain ops i) v) _ (fun _ _ _ => rfl) (fun v γ' w' x hv hn => absurd rfl (hn _ _)) (fun v γ' w' x hv c u e => by cases e; exact ⟨rfl, hne, hv⟩) hall
        | false =>
          rw [hall] at h hw
          rw [hw, if_neg (by simp)]
          split at h
          · have h' : k { s with tmps := put s.tmps o.dst (.when (chain ops i) (dummyOf e.P o.type)) } {} = some r := by simpa [real] using h
            exact hskip (.when (chain ops i) (dummyOf e.P o.type)) {} hall (fun c u e => by cases e; exact ⟨rfl, hne⟩) (fun hn => absurd rfl (hn _ _)) h'
          · rename_i hnt
            have h' : opK e (noInl R) b.isSome fid ops (chain ops i) (some false) none o { s with heap := s.heap } (fun v H ft => k { s with tmps := put s.tmps o.dst (.when (chain ops i) v), heap := H } ft) = some r := by
              rw [← opK_noInl (inl := inl) (.inr (by simp))]
              exact h
            rcases opK_local (H := s.heap) (s := s) cx.ho (dr := b.isSome) (fid := fid) (ops := ops) (ch := chain ops i) (g := some false) (sl := none) (o := o) (.inr (by simp)) (fun e => absurd e hnt) with q | ⟨v, W, ft, _, _, _, q4, _, q6⟩
            · exact absurd ((q R _).symm.trans h') (by simp)
            · have hW := q4 (by simp)
              subst hW
              have h' := (q6 s.heap rfl (fun _ _ => rfl) R _).symm.trans h'
              exact hskip (.when (chain ops i) v) ft hall (fun c u e => by cases e; exact ⟨rfl, hne⟩) (fun hn => absurd rfl (hn _ _)) h'
      · cases h

/-- The temporaries that operations write. -/
def dsts (ops : Array Oper) : List Tmp := ops.toList.filterMap (·.dst)

theorem dst_mem {ops : Array Oper} {i : Nat} {t : Tmp} (h : dstOf ops i = some t) : t ∈ dsts ops := by
  unfold dstOf at h
  cases ho : ops[i]? with
  | none => rw [ho] at h; cases h
  | some o =>
    rw [ho] at h
    exact List.mem_filterMap.2 ⟨o, Array.mem_toList_iff.2 (Array.mem_of_getElem? ho), h⟩

theorem runK_wp {e : Env U} (cx : Cx e T C n P) {inl : Inl U R} (hinl : InlOK P T inl) {fid : FuncId} {ops : Array Oper} {r : R} {Q : Exit → Act → World → Prop} (hg : guardsOk ops = true) :
    ∀ (c m : Nat) (D : List Nat) (s : St U) (lg : Log) (k : St U → Log → Option R) (γ : Gh) (w : World) (a : Act), (∀ j, j ∈ D ↔ j < m) → RI T γ w ops D s a → HRel T γ w s.heap → s.base ≤ s.heap.length →
      runK e inl fid none ops (List.range' m c) s lg k = some r →
      (∀ s' lg' γ' w' a' D', k s' lg' = some r → RI T γ' w' ops D' s' a' → HRel T γ' w' s'.heap → Ext γ w γ' w' → Fr (dsts ops) s s' → Q .normal a' w') → wpOps P ops Q (List.range' m c) a w
  | 0, m, D, s, lg, k, γ, w, a, hD, hr, hH, hb, h, hk => by
    simp only [List.range'_zero, runK] at h
    simp only [List.range'_zero, wpOps]
    exact hk s lg γ w a D h hr hH (Ext.refl _ _) (Fr.refl _ _)
  | c + 1, m, D, s, lg, k, γ, w, a, hD, hr, hH, hb, h, hk => by
    rw [List.range'_succ] at h ⊢
    simp only [runK] at h
    rw [wpOps_cons]
    have hch : ∀ p ∈ chain ops m, p.1 ∈ D := fun p hp => (hD _).2 (chain_mem hg _ _ p hp).1
    refine wpOp_mono ?_ (stepK_wp cx hinl (Q := Q) hg hr hH hb (fun _ e => by cases e) (fun e => Nat.lt_irrefl _ ((hD m).1 e)) hch h)
    rintro a' w' ⟨s', ft, γ', hk', hr', hH', hx, hfr⟩
    have hfr' : Fr (dsts ops) s s' := hfr.mono fun t ht => by
      cases hd : dstOf ops m with
      | none => rw [hd] at ht; cases ht
      | some d =>
        rw [hd] at ht
        simp at ht
        subst ht
        exact dst_mem hd
    refine runK_wp cx hinl hg c (m + 1) (m :: D) s' _ k γ' w' a' ?_ hr' hH' ?_ hk' fun s2 lg2 γ2 w2 a2 D2 q1 q2 q3 q4 q5 => hk s2 lg2 γ2 w2 a2 D2 q1 q2 q3 (hx.trans q4) (hfr'.trans q5)
    · intro j
      simp only [List.mem_cons, hD]
      omega
    · rw [hfr.base]; exact Nat.le_trans hb hfr.ro.len

theorem clean_get : ∀ (l : List Oper) (tmps : List (AV U)) (t : Nat) (av : AV U), (clean l tmps)[t]? = some av → av = .top ∨ (tmps[t]? = some av ∧ ∀ o ∈ l, o.guard.isSome = true → o.dst ≠ some t)
  | [], tmps, t, av, h => .inr ⟨h, fun o ho => by simp at ho⟩
  | o :: l, tmps, t, av, h => by
    unfold clean at h
    rw [List.foldl_cons] at h
    have ih := clean_get l _ t av h
    rcases ih with ih | ⟨ih1, ih2⟩
    · exact .inl ih
    · split at ih1
      · rename_i p d hgd hdd
        by_cases e : d = t
        · subst e
          have hlt : d < tmps.length := by have := (List.getElem?_eq_some_iff.1 ih1).1; simpa using this
          rw [List.getElem?_set_self hlt] at ih1
          exact .inl (by simpa using ih1.symm)
        · rw [List.getElem?_set_ne e] at ih1
          refine .inr ⟨ih1, fun o' ho' hg' => ?_⟩
          rcases List.mem_cons.1 ho' with rfl | ho'
          · rw [hdd]; simpa using e
          · exact ih2 o' ho' hg'
      · rename_i hno
        refine .inr ⟨ih1, fun o' ho' hg' hd' => ?_⟩
        rcases List.mem_cons.1 ho' with rfl | ho'
        · obtain ⟨p, hp⟩ := Option.isSome_iff_exists.1 hg'
          exact hno p t hp hd'
        · exact ih2 o' ho' hg' hd'

theorem clean_len : ∀ (l : List Oper) (tmps : List (AV U)), (clean l tmps).length = tmps.length
  | [], _ => rfl
  | o :: l, tmps => by
    unfold clean
    rw [List.foldl_cons]
    have := clean_len l (match o.guard, o.dst with | some _, some d => tmps.set d .top | _, _ => tmps)
    unfold clean at this
    refine Eq.trans this ?_
    split <;> simp

theorem clean_other : ∀ (l : List Oper) (tmps : List (AV U)) (t : Nat), (∀ o ∈ l, o.dst ≠ some t) → (clean l tmps)[t]? = tmps[t]?
  | [], _, _, _ => rfl
  | o :: l, tmps, t, h => by
    unfold clean
    rw [List.foldl_cons]
    have := clean_other l (match o.guard, o.dst with | some _, some d => tmps.set d .top | _, _ => tmps) t (fun o' ho' => h o' (List.mem_cons_of_mem _ ho'))
    unfold clean at this
    refine Eq.trans this ?_
    split
    · rename_i p d _ hd
      have : d ≠ t := fun e => h o List.mem_cons_self (by rw [hd, e])
      exact List.getElem?_set_ne this
    · rfl

/-- Behind a region. -/
theorem RI.clean {γ : Gh} {w : World} {ops : Array Oper} {D : List Nat} {s : St U} {a : Act} (h : RI T γ w ops D s a) (hH : HRel T γ w s.heap) (hb : s.base ≤ s.heap.length) :
    SR T γ w { s with tmps := clean ops.toList s.tmps } a := by
  refine ⟨hH, hb, by rw [clean_len]; exact h.len, h.defers, fun t av ht => ?_⟩
  rcases clean_get ops.toList s.tmps t av ht with rfl | ⟨h1, h2⟩
  · exact .top _
  · refine h.rel t av h1 fun c v e => ?_
    subst e
    obtain ⟨_, i, _, hc, hd, hne⟩ := h.when_ t c v h1
    unfold dstOf at hd
    cases ho : ops[i]? with
    | none => rw [ho] at hd; cases hd
    | some o =>
      rw [ho] at hd
      refine h2 o (Array.mem_toList_iff.2 (Array.mem_of_getElem? ho)) ?_ hd
      cases hgd : o.guard with
      | none => exact absurd (hc.trans (chain_nil ho hgd)) hne
      | some p => rfl

theorem Fr.clean {W : List Tmp} {ops : Array Oper} {s s' : St U} (h : Fr W s s') (hw : ∀ t ∈ dsts ops, t ∈ W) : Fr W s { s' with tmps := Ab.clean ops.toList s'.tmps } :=
  ⟨h.base, h.mu, h.ro, fun t ht => (clean_other _ _ _ fun o ho e => ht (hw t (List.mem_filterMap.2 ⟨o, ho, e⟩))).trans (h.tmps t ht), (clean_len _ _).trans h.len⟩

/-- A region whose order is given. -/
theorem region_wp {e : Env U} (cx : Cx e T C n P) {inl : Inl U R} (hinl : InlOK P T inl) {fid : FuncId} {id : Nat} {ops : Array Oper} {s : St U} {k : St U → Option R} {r : R} {γ : Gh} {w : World} {a : Act} {Q : Exit → Act → World → Prop}
    (hs : SR T γ w s a) (h : regionK e inl fid ops false s k = some r) (hk : ∀ s' γ' w' a', k s' = some r → SR T γ' w' s' a' → Ext γ w γ' w' → Fr (dsts ops) s s' → Q .normal a' w') :
    (Code.region id ops false).wp P Q a w := by
  unfold regionK at h
  split at h
  · cases h
  · rename_i hg
    have hg : guardsOk ops = true := by simpa using hg
    simp only [Bool.false_eq_true, if_false] at h
    refine wp_region ?_
    rw [List.range_eq_range'] at h ⊢
    refine runK_wp cx hinl hg ops.size 0 [] s [] _ γ w a (fun j => by simp) hs.ri hs.heap hs.base h ?_
    intro s' lg' γ' w' a' D' q1 q2 q3 q4 q5
    exact hk _ γ' w' a' q1 (q2.clean q3 (by rw [q5.base]; exact Nat.le_trans hs.base q5.ro.len)) q4 (q5.clean fun _ h => h)

end
end Go.Ab

namespace Go.Ab
section
variable {U : Nat → Type} {T : Tab U} {C : Callee U} {n : Nat} {P : Program} {R : Type}

theorem mayAll_tmps (s : St U) (τ : List (AV U)) (id off : Nat) : ∀ m, mayAll { s with tmps := τ } id off m = mayAll s id off m
  | 0 => rfl
  | m + 1 => by simp only [mayAll, mayAll_tmps s τ id off m]; rfl

theorem storeK_tmps {e : Env U} {t : TypeId} {a v : AV U} {s : St U} {τ : List (AV U)} {k : Kont U R} : storeK e t a v { s with tmps := τ } k = storeK e t a v s k := by
  unfold storeK
  simp only [mayAll_tmps]
  rfl

/-- Temporaries that are not looked at do not matter. -/
theorem opK_tmps {e : Env U} {inl : Inl U R} {dr : Bool} (hdr : dr = true) {fid : FuncId} {ops : Array Oper} {ch : List (Nat × Bool)} {g : Option Bool} {sl : Option Nat} {o : Oper} {s : St U} {k : Kont U R} {τ : List (AV U)}
    (h : ∀ x ∈ o.op.operands, ∀ c, opd τ c x = opd s.tmps c x) : opK e inl dr fid ops ch g sl o { s with tmps := τ } k = opK e inl dr fid ops ch g sl o s k := by
  rw [opK_noInl (.inl hdr), opK_noInl (inl := inl) (.inl hdr)]
  obtain ⟨dst, op, type, pos, after, guard⟩ := o
  have hl : ∀ xs : Array Operand, (∀ x ∈ xs, x ∈ op.operands) → xs.toList.map (opd τ ch) = xs.toList.map (opd s.tmps ch) := fun xs hx =>
    List.map_congr_left fun x hm => h x (hx x (Array.mem_toList_iff.1 hm)) ch
  have hp : ∀ ps : Array (Nat × Operand), (∀ x ∈ (ps.toList.map (·.2)).toArray, x ∈ op.operands) → ps.toList.map (fun p => (p.1, opd τ ch p.2)) = ps.toList.map (fun p => (p.1, opd s.tmps ch p.2)) := fun ps hx =>
    List.map_congr_left fun p hm => by
      rw [h p.2 (hx p.2 (by simp only [List.mem_toArray, List.mem_map]; exact ⟨p, hm, rfl⟩)) ch]
  have ho : ∀ lo : Option Operand, (∀ x, lo = some x → x ∈ op.operands) → lo.map (opd τ ch) = lo.map (opd s.tmps ch) := fun lo hx => by
    cases lo with
    | none => rfl
    | some x => simp [h x (hx x rfl) ch]
  cases op with
  | move x => simp only [opK, h x (by simp [Op.operands])]
  | assign x => simp only [opK, h x (by simp [Op.operands])]
  | pick c a b => simp only [opK, h c (by simp [Op.operands]), h a (by simp [Op.operands]), h b (by simp [Op.operands])]
  | alloc t => rfl
  | box t x => simp only [opK, h x (by simp [Op.operands])]
  | build t ps => simp only [opK]; rw [hp ps (fun x hx => by simpa [Op.operands] using hx)]
  | buildSlice t m ps => simp only [opK]; rw [hp ps (fun x hx => by simpa [Op.operands] using hx)]; rfl
  | load t x => simp only [opK, h x (by simp [Op.operands])]
  | store t x y => simp only [opK, h x (by simp [Op.operands]), h y (by simp [Op.operands])]; exact storeK_tmps
  | nilCheck x => simp only [opK, h x (by simp [Op.operands])]
  | binOp op t x y yt => simp only [opK, h x (by simp [Op.operands]), h y (by simp [Op.operands])]
  | unOp op t x => simp only [opK, h x (by simp [Op.operands])]
  | convert a b x => simp only [opK, h x (by simp [Op.operands])]
  | makeFunc fn first captured => simp only [opK]; rw [hl first (fun x hx => by simp [Op.operands, hx]), hl captured (fun x hx => by simp [Op.operands, hx])]
  | makeMap t m => cases m <;> rfl
  | makeSlice t l c => simp only [opK, h l (by simp [Op.operands])]
  | slice t x lo hi mx =>
    simp only [opK, h x (by simp [Op.operands])]
    rw [ho lo (fun y hy => by simp [Op.operands, hy]), ho hi (fun y hy => by simp [Op.operands, hy]), ho mx (fun y hy => by simp [Op.operands, hy])]
    rfl
  | fieldAddr t x f => simp only [opK, h x (by simp [Op.operands])]
  | field t x f => simp only [opK, h x (by simp [Op.operands])]
  | indexAddr t x i => simp only [opK, h x (by simp [Op.operands]), h i (by simp [Op.operands])]
  | index t x i => simp only [opK, h x (by simp [Op.operands]), h i (by simp [Op.operands])]
  | lookup t m key cok => simp only [opK, h m (by simp [Op.operands]), h key (by simp [Op.operands])]
  | mapUpdate t m key x => simp only [opK, h m (by simp [Op.operands]), h key (by simp [Op.operands]), h x (by simp [Op.operands])]; rfl
  | extract x i => simp only [opK, h x (by simp [Op.operands])]
  | call c =>
    obtain ⟨callee, args, argTypes⟩ := c
    cases callee with
    | builtin b => simp only [opK]; rw [hl args (fun x hx => by simp [Op.operands, Call.operands, hx])]; rfl
    | value f => simp only [opK, h f (by simp [Op.operands, Call.operands])]; rw [hl args (fun x hx => by simp [Op.operands, Call.operands, hx])]; rfl
    | invoke _ _ => rfl
  | _ => rfl

theorem opd_same {ops : Array Oper} {i : Nat} {o : Oper} (ho : ops[i]? = some o) {τ τ' : List (AV U)} (h : ∀ t ∈ looks ops i, τ'[t]? = τ[t]?) : ∀ x ∈ o.op.operands, ∀ c, opd τ' c x = opd τ c x := by
  intro x hx c
  cases x with
  | tmp t =>
    have ht : t ∈ looks ops i := by
      unfold looks
      rw [ho]
      exact List.mem_append_left _ (List.mem_filterMap.2 ⟨.tmp t, Array.mem_toList_iff.2 hx, rfl⟩)
    simp only [opd, List.getD_eq_getElem?_getD, h t ht]
  | _ => rfl

theorem look_chain {ops : Array Oper} {i : Nat} {p : Nat × Bool} {d : Tmp} (hp : p ∈ chain ops i) (hd : dstOf ops p.1 = some d) : d ∈ looks ops i :=
  List.mem_append_right _ (List.mem_filterMap.2 ⟨p, hp, hd⟩)

theorem lit_same {ops : Array Oper} {i : Nat} {τ τ' : List (AV U)} (h : ∀ t ∈ looks ops i, τ'[t]? = τ[t]?) {p : Nat × Bool} (hp : p ∈ chain ops i) : litOf ops τ' p = litOf ops τ p := by
  unfold litOf
  cases hd : (ops[p.1]?).bind (·.dst) with
  | none => rfl
  | some d =>
    have := h d (look_chain hp hd)
    simp only [Option.map_some, List.getD_eq_getElem?_getD, this]

theorem all_look {ops : Array Oper} {i : Nat} {τ τ' : List (AV U)} (h : ∀ t ∈ looks ops i, τ'[t]? = τ[t]?) : (chain ops i).all (litOf ops τ') = (chain ops i).all (litOf ops τ) := by
  rw [Bool.eq_iff_iff]
  simp only [List.all_eq_true]
  constructor
  · intro q p hp; rw [← lit_same h hp]; exact q p hp
  · intro q p hp; rw [lit_same h hp]; exact q p hp

theorem told_look {ops : Array Oper} {i : Nat} {τ τ' : List (AV U)} (h : ∀ t ∈ looks ops i, τ'[t]? = τ[t]?) : gTold ops τ' (chain ops i) = gTold ops τ (chain ops i) := by
  unfold gTold
  rw [Bool.eq_iff_iff]
  simp only [List.all_eq_true]
  have key : ∀ p ∈ chain ops i, ((ops[p.1]?).bind (·.dst)).map (fun d => τ'.getD d .top) = ((ops[p.1]?).bind (·.dst)).map (fun d => τ.getD d .top) := by
    intro p hp
    cases hd : (ops[p.1]?).bind (·.dst) with
    | none => rfl
    | some d =>
      have := h d (look_chain hp hd)
      simp only [Option.map_some, List.getD_eq_getElem?_getD, this]
  constructor
  · intro q p hp; have := q p hp; rw [key p hp] at this; exact this
  · intro q p hp; have := q p hp; rw [← key p hp] at this; exact this

/-- What a step of a region whose order is drawn does. -/
structure Step (e : Env U) (fid : FuncId) (n0 : Nat) (ops : Array Oper) (i : Nat) (s : St U) (v : AV U) (W : List (Nat × Obj U)) (ft : Foot) : Prop where
  al : ft.al = false
  all : ft.all = false
  wr : ∀ p ∈ W, p.1 ∈ ft.wr
  run : ∀ s2 : St U, s2.base = s.base → s2.mu = s.mu → s2.heap.length = s.heap.length → (∀ t ∈ looks ops i, s2.tmps[t]? = s.tmps[t]?) → (∀ id, id ∈ ft.rd ∨ id ∈ ft.wr → s2.heap[id]? = s.heap[id]?) →
    ∀ (R : Type) (inl : Inl U R) (k : St U → Foot → Option R), stepK e inl fid (some n0) ops i s2 k = k { s2 with tmps := put s2.tmps (dstOf ops i) v, heap := wrs s2.heap W } ft

theorem step_spec {e : Env U} (ho : e.o = real T C n) {fid : FuncId} {n0 : Nat} {ops : Array Oper} {i : Nat} {s : St U} {inl : Inl U R} {k : St U → Foot → Option R} {r : R}
    (h : stepK e inl fid (some n0) ops i s k = some r) : ∃ v W ft, Step e fid n0 ops i s v W ft := by
  have hsav := h
  unfold stepK at h
  cases hop : ops[i]? with
  | none => rw [hop] at h; cases h
  | some o =>
    rw [hop] at h
    have hd : dstOf ops i = o.dst := by simp [dstOf, hop]
    have hslot : ∃ id, slotOf e.ann ops (some n0) i = some id := ⟨_, rfl⟩
    have hfold : chainOf ops (ops.size + 1) i = chain ops i := rfl
    -- one operation, as told
    have core : ∀ (g : Option Bool) (sl : Option Nat) (vf : AV U → AV U), (turns e fid o.op = true → g = none ∧ ∃ id, sl = some id) →
        (∃ (R : Type) (inl : Inl U R) (k : St U → Foot → Option R) (r : R), opK e inl true fid ops (chain ops i) g sl o s (fun v H ft => k { s with tmps := put s.tmps o.dst (vf v), heap := H } ft) = some r) →
        ∃ v W ft, ft.al = false ∧ ft.all = false ∧ (∀ p ∈ W, p.1 ∈ ft.wr) ∧ ∀ s2 : St U, s2.base = s.base → s2.mu = s.mu → s2.heap.length = s.heap.length → (∀ t ∈ looks ops i, s2.tmps[t]? = s.tmps[t]?) →
          (∀ id, id ∈ ft.rd ∨ id ∈ ft.wr → s2.heap[id]? = s.heap[id]?) →
          ∀ (R : Type) (inl : Inl U R) (k : St U → Foot → Option R), opK e inl true fid ops (chain ops i) g sl o s2 (fun v H ft => k { s2 with tmps := put s2.tmps o.dst (vf v), heap := H } ft) =
            k { s2 with tmps := put s2.tmps o.dst (vf v), heap := wrs s2.heap W } ft := by
      rintro g sl vf hsl ⟨R, inl, k, r, h⟩
      rcases opK_local (H := s.heap) (s := s) ho (dr := true) (fid := fid) (ops := ops) (ch := chain ops i) (g := g) (sl := sl) (o := o) (.inl rfl) hsl with q | ⟨v, W, ft, q1, q2, _, _, q5, q6⟩
      · rw [opK_noInl (.inl rfl)] at h
        exact absurd ((q R _).symm.trans h) (by simp)
      · refine ⟨v, W, ft, q1, q2, q5, fun s2 hb hm hl ht hag R inl k => ?_⟩
        rw [opK_noInl (.inl rfl)]
        have hs2 : s2 = { ({ s with heap := s2.heap } : St U) with tmps := s2.tmps } := by
          obtain ⟨t2, h2, b2, m2⟩ := s2
          simp only at hb hm
          subst hb hm
          rfl
        have := opK_tmps (inl := noInl R) (dr := true) rfl (e := e) (fid := fid) (ops := ops) (ch := chain ops i) (g := g) (sl := sl) (o := o) (s := { s with heap := s2.heap }) (τ := s2.tmps)
          (k := fun v H ft => k { s2 with tmps := put s2.tmps o.dst (vf v), heap := H } ft) (opd_same hop ht)
        rw [← hs2] at this
        rw [this]
        exact q6 s2.heap hl hag R _
    cases hgd : o.guard with
    | none =>
      have hch : chain ops i = [] := chain_nil hop hgd
      simp only [hfold, hch] at h
      obtain ⟨v, W, ft, q1, q2, q3, q4⟩ := core none (slotOf e.ann ops (some n0) i) (fun v => v) (fun _ => ⟨rfl, hslot⟩) ⟨R, inl, k, r, by rw [hch]; exact h⟩
      refine ⟨v, W, ft, q1, q2, q3, fun s2 hb hm hl ht hag R inl k => ?_⟩
      unfold stepK
      rw [hop, hd]
      simp only [hfold, hch]
      have := q4 s2 hb hm hl ht hag R inl k
      rw [hch] at this
      exact this
    | some p =>
      obtain ⟨j, q⟩ := p
      have hne : chain ops i ≠ [] := by
        have hb : (ops[i]?).bind (·.guard) = some (j, q) := by rw [hop]; exact hgd
        unfold chain
        rw [chain_succ hb]
        simp
      obtain ⟨p0, rest, hcons⟩ : ∃ p0 rest, chain ops i = p0 :: rest := by
        cases hq : chain ops i with
        | nil => exact absurd hq hne
        | cons a b => exact ⟨a, b, rfl⟩
      simp only [hfold] at h
      have hform : ∀ (s2 : St U) (R : Type) (inl : Inl U R) (k : St U → Foot → Option R), stepK e inl fid (some n0) ops i s2 k =
          if gTold ops s2.tmps (chain ops i) then
            if turns e fid o.op then
              (if (chain ops i).all (litOf ops s2.tmps) then (opK e inl true fid ops (chain ops i) none (slotOf e.ann ops (some n0) i) o s2 fun v H ft => k { s2 with tmps := put s2.tmps o.dst (.when (chain ops i) v), heap := H } ft)
                else k { s2 with tmps := put s2.tmps o.dst (.when (chain ops i) (dummyOf e.P o.type)) } {})
            else opK e inl true fid ops (chain ops i) (some ((chain ops i).all (litOf ops s2.tmps))) none o s2 fun v H ft => k { s2 with tmps := put s2.tmps o.dst (.when (chain ops i) v), heap := H } ft
          else none := by
        intro s2 R inl k
        unfold stepK
        rw [hop]
        simp only [hfold]
        rw [ho, gOf_real hne]
        rw [hcons]
        simp only [Option.isSome_some]
        split
        · split
          · cases (p0 :: rest).all (litOf ops s2.tmps) <;> rfl
          · rfl
        · rfl
      have h0 := hform s R inl k
      rw [hsav] at h0
      have h0 := h0.symm
      split at h0
      · rename_i htold
        split at h0
        · rename_i hturn
          split at h0
          · rename_i hall
            obtain ⟨v, W, ft, q1, q2, q3, q4⟩ := core none (slotOf e.ann ops (some n0) i) (fun v => .when (chain ops i) v) (fun _ => ⟨rfl, hslot⟩) ⟨R, inl, k, r, h0⟩
            refine ⟨.when (chain ops i) v, W, ft, q1, q2, q3, fun s2 hb hm hl ht hag R inl k => ?_⟩
            rw [hform, told_look ht, if_pos htold, if_pos hturn, all_look ht, if_pos hall, hd]
            exact q4 s2 hb hm hl ht hag R inl k
          · rename_i hall
            refine ⟨.when (chain ops i) (dummyOf e.P o.type), [], {}, rfl, rfl, by simp, fun s2 hb hm hl ht hag R inl k => ?_⟩
            rw [hform, told_look ht, if_pos htold, if_pos hturn, all_look ht, if_neg hall, hd]
            rfl
        · rename_i hturn
          obtain ⟨v, W, ft, q1, q2, q3, q4⟩ := core (some ((chain ops i).all (litOf ops s.tmps))) none (fun v => .when (chain ops i) v) (fun e => absurd e hturn) ⟨R, inl, k, r, h0⟩
          refine ⟨.when (chain ops i) v, W, ft, q1, q2, q3, fun s2 hb hm hl ht hag R inl k => ?_⟩
          rw [hform, told_look ht, if_pos htold, if_neg hturn, all_look ht, hd]
          exact q4 s2 hb hm hl ht hag R inl k
      · cases h0

end
end Go.Ab

namespace Go.Ab
section
variable {U : Nat → Type} {T : Tab U} {C : Callee U} {n : Nat} {P : Program} {R : Type}

def stOf (ops : Array Oper) (i : Nat) (v : AV U) (W : List (Nat × Obj U)) (s : St U) : St U := { s with tmps := put s.tmps (dstOf ops i) v, heap := wrs s.heap W }

theorem Step.move {e : Env U} {fid : FuncId} {n0 : Nat} {ops : Array Oper} {i : Nat} {s s1 : St U} {v : AV U} {W : List (Nat × Obj U)} {ft : Foot} (h : Step e fid n0 ops i s1 v W ft) (h1 : s1.base = s.base) (h2 : s1.mu = s.mu)
    (h3 : s1.heap.length = s.heap.length) (h4 : ∀ t ∈ looks ops i, s1.tmps[t]? = s.tmps[t]?) (h5 : ∀ id, id ∈ ft.rd ∨ id ∈ ft.wr → s1.heap[id]? = s.heap[id]?) : Step e fid n0 ops i s v W ft :=
  ⟨h.al, h.all, h.wr, fun s2 a1 a2 a3 a4 a5 => h.run s2 (a1.trans h1.symm) (a2.trans h2.symm) (a3.trans h3.symm) (fun t ht => (a4 t ht).trans (h4 t ht).symm) (fun id hid => (a5 id hid).trans (h5 id hid).symm)⟩

/-- One does not touch what the other does. -/
def Free (ops : Array Oper) (j : Nat) (fj : Foot) (i : Nat) (fi : Foot) : Prop := fj.indep fi = true ∧ apartOf ops j i = true

theorem Free.spec {ops : Array Oper} {j i : Nat} {fj fi : Foot} (h : Free ops j fj i fi) :
    (∀ id ∈ fj.wr, id ∉ fi.rd ∧ id ∉ fi.wr) ∧ (∀ id ∈ fi.wr, id ∉ fj.rd) ∧ (∀ d, dstOf ops j = some d → d ∉ looks ops i ∧ dstOf ops i ≠ some d) ∧ (∀ d, dstOf ops i = some d → d ∉ looks ops j) := by
  obtain ⟨h1, h2⟩ := h
  simp only [Foot.indep, Bool.and_eq_true, List.all_eq_true, Bool.not_eq_true'] at h1
  obtain ⟨⟨_, h3⟩, h4⟩ := h1
  simp only [apartOf, Bool.and_eq_true] at h2
  obtain ⟨h5, h6⟩ := h2
  refine ⟨fun id hid => ?_, fun id hid => ?_, fun d hd => ?_, fun d hd => ?_⟩
  · obtain ⟨q1, q2⟩ := h3 id hid
    exact ⟨by simpa using q1, by simpa using q2⟩
  · simpa using h4 id hid
  · rw [hd] at h5
    simp only [Bool.and_eq_true, Bool.not_eq_true'] at h5
    obtain ⟨q1, q2⟩ := h5
    exact ⟨by simpa using q1, by simpa using q2⟩
  · rw [hd] at h6
    simpa using h6

theorem put_comm {tmps : List (AV U)} {d d' : Option Tmp} {v v' : AV U} (h : ∀ t, d = some t → d' ≠ some t) : put (put tmps d v) d' v' = put (put tmps d' v') d v := by
  cases d with
  | none => rfl
  | some d =>
    cases d' with
    | none => rfl
    | some d' =>
      have : d ≠ d' := fun e => h d rfl (by rw [e])
      exact List.set_comm _ _ this

theorem Step.swap {e : Env U} {fid : FuncId} {n0 : Nat} {ops : Array Oper} {j i : Nat} {s : St U} {vj vi : AV U} {Wj Wi : List (Nat × Obj U)} {fj fi : Foot} (hj : Step e fid n0 ops j s vj Wj fj) (hi : Step e fid n0 ops i (stOf ops j vj Wj s) vi Wi fi)
    (hf : Free ops j fj i fi) : Step e fid n0 ops i s vi Wi fi ∧ Step e fid n0 ops j (stOf ops i vi Wi s) vj Wj fj ∧ stOf ops j vj Wj (stOf ops i vi Wi s) = stOf ops i vi Wi (stOf ops j vj Wj s) := by
  obtain ⟨h1, h2, h3, h4⟩ := hf.spec
  have hWj : ∀ id, id ∈ Wj.map (·.1) → id ∈ fj.wr := fun id hid => by
    obtain ⟨p, hp, rfl⟩ := List.mem_map.1 hid
    exact hj.wr p hp
  have hWi : ∀ id, id ∈ Wi.map (·.1) → id ∈ fi.wr := fun id hid => by
    obtain ⟨p, hp, rfl⟩ := List.mem_map.1 hid
    exact hi.wr p hp
  refine ⟨hi.move rfl rfl (wrs_len _ _) (fun t ht => ?_) (fun id hid => ?_), hj.move rfl rfl (wrs_len _ _).symm (fun t ht => ?_) (fun id hid => ?_), ?_⟩
  · refine put_other fun hm => ?_
    cases hd : dstOf ops j with
    | none => rw [hd] at hm; cases hm
    | some d =>
      rw [hd] at hm
      simp at hm
      subst hm
      exact (h3 t hd).1 ht
  · refine wrs_out _ _ fun hm => ?_
    obtain ⟨q1, q2⟩ := h1 id (hWj id hm)
    rcases hid with hid | hid
    · exact q1 hid
    · exact q2 hid
  · refine (put_other fun hm => ?_).symm
    cases hd : dstOf ops i with
    | none => rw [hd] at hm; cases hm
    | some d =>
      rw [hd] at hm
      simp at hm
      subst hm
      exact h4 t hd ht
  · refine (wrs_out _ _ fun hm => ?_).symm
    rcases hid with hid | hid
    · exact h2 id (hWi id hm) hid
    · exact (h1 id hid).2 (hWi id hm)
  · unfold stOf
    simp only
    rw [put_comm (fun t ht => (by
      intro e
      exact (h3 t e).2 ht)), wrs_comm (fun id hid hid' => (h1 id (hWj id hid')).2 (hWi id hid))]

/-- A run in an order; what each touches. -/
inductive Runs (e : Env U) (fid : FuncId) (n0 : Nat) (ops : Array Oper) : List Nat → St U → St U → Log → Prop
  | nil (s : St U) : Runs e fid n0 ops [] s s []
  | cons {i : Nat} {l : List Nat} {s s' : St U} {L : Log} {v : AV U} {W : List (Nat × Obj U)} {ft : Foot} (h : Step e fid n0 ops i s v W ft) (k : Runs e fid n0 ops l (stOf ops i v W s) s' L) : Runs e fid n0 ops (i :: l) s s' ((i, ft) :: L)

theorem runs_of {e : Env U} (ho : e.o = real T C n) {fid : FuncId} {n0 : Nat} {ops : Array Oper} {inl : Inl U R} {k : St U → Log → Option R} {r : R} : ∀ {l : List Nat} {s : St U} {lg : Log},
    runK e inl fid (some n0) ops l s lg k = some r → ∃ s' L, Runs e fid n0 ops l s s' L ∧ k s' (L.reverse ++ lg) = some r
  | [], s, lg, h => ⟨s, [], .nil s, h⟩
  | i :: l, s, lg, h => by
    simp only [runK] at h
    obtain ⟨v, W, ft, hst⟩ := step_spec ho h
    have h2 := h
    rw [hst.run s rfl rfl rfl (fun _ _ => rfl) (fun _ _ => rfl)] at h2
    obtain ⟨s', L, h3, h4⟩ := runs_of ho h2
    exact ⟨s', (i, ft) :: L, .cons hst h3, by simpa using h4⟩

theorem Runs.log {e : Env U} {fid : FuncId} {n0 : Nat} {ops : Array Oper} {l : List Nat} {s s' : St U} {L : Log} (h : Runs e fid n0 ops l s s' L) : L.map (·.1) = l := by
  induction h with
  | nil => rfl
  | cons _ _ ih => simp [ih]

theorem Runs.bubble {e : Env U} {fid : FuncId} {n0 : Nat} {ops : Array Oper} {i : Nat} {post : List Nat} : ∀ {pre : List Nat} {s s' : St U} {L : Log}, Runs e fid n0 ops (pre ++ i :: post) s s' L →
    (∀ j ∈ pre, ∀ fj fi, (j, fj) ∈ L → (i, fi) ∈ L → Free ops j fj i fi) → ∃ L', Runs e fid n0 ops (i :: (pre ++ post)) s s' L' ∧ L'.Perm L
  | [], s, s', L, h, _ => ⟨L, h, .refl _⟩
  | j :: pre, s, s', L, h, hf => by
    cases h with
    | cons hj hrest =>
      rename_i L1 vj Wj fj
      obtain ⟨L1', h1, hp⟩ := Runs.bubble hrest (fun j' hj' fj' fi' q1 q2 => hf j' (List.mem_cons_of_mem _ hj') fj' fi' (List.mem_cons_of_mem _ q1) (List.mem_cons_of_mem _ q2))
      cases h1 with
      | cons hi hrest' =>
        rename_i L2 vi Wi fi
        have hmem : (i, fi) ∈ L1 := hp.subset List.mem_cons_self
        obtain ⟨q1, q2, q3⟩ := Step.swap hj hi (hf j List.mem_cons_self fj fi List.mem_cons_self (List.mem_cons_of_mem _ hmem))
        refine ⟨(i, fi) :: (j, fj) :: L2, .cons q1 (.cons q2 ?_), (List.Perm.swap _ _ _).trans (hp.cons _)⟩
        rw [q3]
        exact hrest'

/-- In a log what has no order between it is free of each other. -/
def Ind (ops : Array Oper) (L : Log) : Prop := ∀ j fj i fi, (j, fj) ∈ L → (i, fi) ∈ L → j < i → ((Region.before ops).getD i 0).testBit j = false → Free ops j fj i fi

theorem ind_of {ops : Array Oper} {L : Log} (h : okDraw ops L = true) : Ind ops L := by
  intro j fj i fi hj hi hlt hb
  have := List.all_eq_true.1 h (j, fj) hj
  simp only [Bool.and_eq_true] at this
  have := List.all_eq_true.1 this.2 (i, fi) hi
  simp only [hlt, decide_true, Bool.not_true, Bool.false_or, hb, Bool.and_eq_true] at this
  exact this

theorem Ind.sub {ops : Array Oper} {L L' : Log} (h : Ind ops L) (hs : ∀ x ∈ L', x ∈ L) : Ind ops L' := fun j fj i fi hj hi => h j fj i fi (hs _ hj) (hs _ hi)

end

/-- One operation's mask, of the masks ahead. -/
def maskOf (acc : Array Nat) (o : Oper) : Nat := o.after.foldl (fun s e => if Region.binds .any e then s ||| 2 ^ e.on ||| acc.getD e.on 0 else s) 0

theorem before_fold : ∀ (l : List Oper) (acc : Array Nat),
    (l.foldl (fun acc o => acc.push (maskOf acc o)) acc).size = acc.size + l.length ∧
    (∀ i, i < acc.size → (l.foldl (fun acc o => acc.push (maskOf acc o)) acc).getD i 0 = acc.getD i 0) ∧
    ∀ (m : Nat) o, l[m]? = some o → ∃ acc' : Array Nat, acc'.size = acc.size + m ∧ (∀ i, i < acc'.size → acc'.getD i 0 = (l.foldl (fun acc o => acc.push (maskOf acc o)) acc).getD i 0) ∧
      (l.foldl (fun acc o => acc.push (maskOf acc o)) acc).getD (acc.size + m) 0 = maskOf acc' o
  | [], acc => ⟨by simp, fun _ _ => rfl, fun m o h => by simp at h⟩
  | o :: l, acc => by
    rw [List.foldl_cons]
    obtain ⟨h1, h2, h3⟩ := before_fold l (acc.push (maskOf acc o))
    have hpush : ∀ i, i < acc.size → (acc.push (maskOf acc o)).getD i 0 = acc.getD i 0 := fun i hi => by
      simp [Array.getElem?_push, Nat.ne_of_lt hi]
    refine ⟨by rw [h1]; simp; omega, fun i hi => by rw [h2 i (by simp; omega), hpush i hi], fun m o' hm => ?_⟩
    cases m with
    | zero =>
      simp at hm
      subst hm
      refine ⟨acc, by simp, fun i hi => by rw [h2 i (by simp; omega), hpush i hi], ?_⟩
      rw [Nat.add_zero, h2 acc.size (by simp)]
      simp
    | succ m =>
      obtain ⟨acc', q1, q2, q3⟩ := h3 m o' (by simpa using hm)
      refine ⟨acc', by rw [q1]; simp; omega, q2, ?_⟩
      rw [← q3]
      simp only [Array.size_push]
      congr 1
      omega

theorem mask_bit {acc : Array Nat} {j : Nat} : ∀ (es : List Edge) (s : Nat), (es.foldl (fun s e => if Region.binds .any e then s ||| 2 ^ e.on ||| acc.getD e.on 0 else s) s).testBit j = true →
    s.testBit j = true ∨ ∃ e ∈ es, Region.binds .any e = true ∧ (e.on = j ∨ (acc.getD e.on 0).testBit j = true)
  | [], s, h => .inl h
  | e :: es, s, h => by
    rw [List.foldl_cons] at h
    rcases mask_bit es _ h with h | ⟨e', he', h1, h2⟩
    · split at h
      · rename_i hb
        rw [Nat.testBit_or, Nat.testBit_or, Nat.testBit_two_pow] at h
        simp only [Bool.or_eq_true, decide_eq_true_eq] at h
        rcases h with (h | h) | h
        · exact .inl h
        · exact .inr ⟨e, List.mem_cons_self, hb, .inl h⟩
        · exact .inr ⟨e, List.mem_cons_self, hb, .inr h⟩
      · exact .inl h
    · exact .inr ⟨e', List.mem_cons_of_mem _ he', h1, h2⟩

theorem before_spec {ops : Array Oper} {i j : Nat} {o : Oper} (ho : ops[i]? = some o) (h : ((Region.before ops).getD i 0).testBit j = true) :
    ∃ e ∈ o.after.toList, Region.binds .any e = true ∧ (e.on = j ∨ (e.on < i ∧ ((Region.before ops).getD e.on 0).testBit j = true)) := by
  have hb : Region.before ops = ops.toList.foldl (fun acc o => acc.push (maskOf acc o)) #[] := by
    unfold Region.before
    rw [← Array.foldl_toList]
    rfl
  obtain ⟨_, _, h3⟩ := before_fold ops.toList #[]
  rw [← hb] at h3
  obtain ⟨acc', q1, q2, q3⟩ := h3 i o (by simpa using ho)
  simp only [List.size_toArray, List.length_nil, Nat.zero_add] at q1 q3
  rw [q3] at h
  unfold maskOf at h
  rw [← Array.foldl_toList] at h
  rcases mask_bit _ _ h with h | ⟨e, he, hbd, h⟩
  · simp at h
  · refine ⟨e, he, hbd, ?_⟩
    rcases h with h | h
    · exact .inl h
    · right
      have hlt : e.on < acc'.size := by
        rcases Nat.lt_or_ge e.on acc'.size with q | q
        · exact q
        · rw [Array.getD_eq_getD_getElem?, Array.getElem?_eq_none q] at h
          simp at h
      exact ⟨by omega, by rw [← q2 _ hlt]; exact h⟩

theorem before_in {ops : Array Oper} {D : List Nat} (hc : ∀ j ∈ D, ∀ o, ops[j]? = some o → ∀ e ∈ o.after.toList, Region.binds .any e = true → e.on ∈ D) : ∀ (i : Nat) {j : Nat} {o : Oper}, ops[i]? = some o →
    (∀ e ∈ o.after.toList, Region.binds .any e = true → e.on ∈ D) → ((Region.before ops).getD i 0).testBit j = true → j ∈ D := by
  intro i
  induction i using Nat.strongRecOn with
  | _ i ih =>
    intro j o ho hD h
    obtain ⟨e, he, hb, h⟩ := before_spec ho h
    rcases h with h | ⟨hlt, h⟩
    · exact h ▸ hD e he hb
    · have heD := hD e he hb
      have hlt' : e.on < ops.size := Nat.lt_trans hlt (Array.getElem?_eq_some_iff.1 ho).1
      have ho' : ops[e.on]? = some ops[e.on] := Array.getElem?_eq_getElem hlt'
      exact ih e.on hlt ho' (hc e.on heD _ ho') h

section
variable {U : Nat → Type} {T : Tab U} {C : Callee U} {n : Nat} {P : Program} {R : Type}

theorem HRel.world {γ : Gh} {w w' : World} {H : Heap U} (hH : HRel T γ w H) (hh : w'.heap = w.heap) (h1 : w'.os = w.os) (h2 : w'.tape = w.tape) (h3 : w'.output = w.output) : HRel T γ w' H ∧ Ext γ w γ w' := by
  have hc : ∀ b o, w'.cell? ⟨b, o, none⟩ = w.cell? ⟨b, o, none⟩ := fun b o => World.cell?_of_block (w := w) (w' := w') (by rw [hh])
  have hf : ∀ b o, w'.frozen? ⟨b, o, none⟩ = w.frozen? ⟨b, o, none⟩ := fun b o => World.frozen?_of_block (w := w) (w' := w') (by rw [hh])
  have hx : Ext γ w γ w' := ⟨fun _ _ h => h, fun _ _ _ h => h, fun b o h => ⟨h, hc b o⟩, fun _ _ _ h => h, by rw [hh]; exact Nat.le_refl _, h1, h2, h3, fun b _ _ => by rw [hh]⟩
  exact ⟨⟨fun b o h => by rw [hh]; exact hH.size b o h, hH.blk, hH.sv, hH.ver, fun j ob hj => ORel.keep (hH.objs j ob hj) hx (fun b o h => ⟨h, hc b o, hf b o⟩) (fun b es c _ h => by rw [hh]; exact h) (fun e => by subst e; exact hH.objs j _ hj)⟩, hx⟩

theorem HRel.holes {γ : Gh} {w : World} {H : Heap U} (hH : HRel T γ w H) (c : Nat) : HRel T γ w (H ++ List.replicate c .hole) := by
  refine ⟨hH.size, fun j hj => hH.blk j (by simp at hj; omega), fun j v hj => hH.sv j v (by simp at hj; omega), fun j c' L ver wr hj v hv => ?_, fun j ob hj => ?_⟩
  · rw [List.getElem?_append] at hj
    split at hj
    · exact hH.ver j c' L ver wr hj v hv
    · rw [List.getElem?_replicate] at hj
      split at hj <;> simp at hj
  · rw [List.getElem?_append] at hj
    split at hj
    · exact hH.objs j ob hj
    · rename_i hlt
      rw [List.getElem?_replicate] at hj
      split at hj
      · cases hj
        exact ⟨hH.blk j (by omega), fun v => hH.sv j v (by omega)⟩
      · cases hj

theorem inlOK_none {R : Type} : InlOK P T (noInl R) := fun f as s k r γ w args _ _ _ _ h => by cases h

open Classical in
theorem any_wp {e : Env U} (cx : Cx e T C n P) {fid : FuncId} {n0 : Nat} {ops : Array Oper} {Q : Exit → Act → World → Prop} (hg : guardsOk ops = true) (ha : afterOk ops = true) {send : St U} {base0 : Nat} (hn0 : base0 ≤ n0) :
    ∀ (fuel : Nat) (m D : List Nat) (listed : Array Bool) (s : St U) (L : Log) (γ : Gh) (w : World) (a : Act), m.length = fuel → m.Pairwise (· < ·) → (∀ j, j ∈ m ↔ j < ops.size ∧ j ∉ D) →
      listed.size = ops.size → (∀ j, j < ops.size → (listed.getD j false = true ↔ j ∈ D)) → (∀ j ∈ D, j < ops.size) →
      (∀ j ∈ D, ∀ o, ops[j]? = some o → ∀ e ∈ o.after.toList, Region.binds .any e = true → e.on ∈ D) →
      RI T γ w ops D s a → HRel T γ w s.heap → s.base ≤ s.heap.length → s.base = base0 → Runs e fid n0 ops m s send L → Ind ops L →
      (∀ γ' w' a' D', RI T γ' w' ops D' send a' → HRel T γ' w' send.heap → Ext γ w γ' w' → Fr (dsts ops) s send → Q .normal a' w') →
      wpAny P .any ops Q fuel listed a w := by
  intro fuel
  induction fuel with
  | zero =>
    intro m D listed s L γ w a hl _ hm hls hlD hDs hcl hr hH hb hb0 hruns hind hk
    have hm0 : m = [] := List.eq_nil_of_length_eq_zero hl
    subst hm0
    refine ⟨?_, ?_⟩
    · cases hq : Region.ready .any ops listed with
      | nil => rfl
      | cons i rest =>
        have hi : i ∈ Region.ready .any ops listed := by rw [hq]; exact List.mem_cons_self
        obtain ⟨h0, o, ho, _⟩ := mem_ready.1 hi
        have hlt := (Array.getElem?_eq_some_iff.1 ho).1
        have : i ∈ D := by
          by_cases hd : i ∈ D
          · exact hd
          · exact absurd ((hm i).2 ⟨hlt, hd⟩) (by simp)
        have h1 := (hlD i hlt).2 this
        have hli : i < listed.size := by omega
        simp [Array.getD_eq_getD_getElem?, hli] at h0 h1
        rw [h0] at h1
        cases h1
    · cases hruns
      exact hk γ w a D hr hH (Ext.refl _ _) (Fr.refl _ _)
  | succ fuel ih =>
    intro m D listed s L γ w a hl hsort hm hls hlD hDs hcl hr hH hb hb0 hruns hind hk
    have hready : ∀ i, i ∈ Region.ready .any ops listed ↔ i ∈ m ∧ ∃ o, ops[i]? = some o ∧ ∀ e ∈ o.after.toList, Region.binds .any e = true → e.on < ops.size ∧ e.on ∈ D := by
      intro i
      rw [mem_ready]
      constructor
      · rintro ⟨h0, o, ho, h1⟩
        have hlt := (Array.getElem?_eq_some_iff.1 ho).1
        have hli : i < listed.size := by omega
        refine ⟨(hm i).2 ⟨hlt, fun hd => ?_⟩, o, ho, fun e he hbd => ?_⟩
        · have h2 := (hlD i hlt).2 hd
          simp [Array.getD_eq_getD_getElem?, hli] at h0 h2
          rw [h0] at h2
          cases h2
        · have h3 := h1 e (Array.mem_toList_iff.1 he) hbd
          have hel : e.on < ops.size := by
            rcases Nat.lt_or_ge e.on ops.size with q | q
            · exact q
            · rw [Array.getD_eq_getD_getElem?, Array.getElem?_eq_none (by omega)] at h3
              cases h3
          exact ⟨hel, (hlD _ hel).1 h3⟩
      · rintro ⟨him, o, ho, h1⟩
        have hlt := (Array.getElem?_eq_some_iff.1 ho).1
        have hli : i < listed.size := by omega
        refine ⟨?_, o, ho, fun e he hbd => ?_⟩
        · have h2 : ¬ listed.getD i false = true := fun q => ((hm i).1 him).2 ((hlD i hlt).1 q)
          simp [Array.getD_eq_getD_getElem?, hli] at h2 ⊢
          exact h2
        · obtain ⟨q1, q2⟩ := h1 e (Array.mem_toList_iff.2 he) hbd
          exact (hlD _ q1).2 q2
    have hafter : ∀ (i : Nat) o, ops[i]? = some o → ∀ e ∈ o.after.toList, Region.binds .any e = true → e.on < i := by
      intro i o ho e he hbd
      unfold afterOk at ha
      have := List.all_eq_true.1 ha (o, i) (List.mem_zipIdx_iff_getElem?.2 (by simpa using ho))
      simp only [Bool.and_eq_true] at this
      have := List.all_eq_true.1 this.1 e he
      simpa [hbd] using this
    have hga : ∀ (i : Nat) o p, ops[i]? = some o → o.guard = some p → ∃ e ∈ o.after.toList, e.on = p.1 ∧ Region.binds .any e = true := by
      intro i o p ho hp
      unfold afterOk at ha
      have := List.all_eq_true.1 ha (o, i) (List.mem_zipIdx_iff_getElem?.2 (by simpa using ho))
      simp only [Bool.and_eq_true, hp] at this
      obtain ⟨e, he, h1⟩ := List.any_eq_true.1 this.2
      simp only [Bool.and_eq_true, beq_iff_eq] at h1
      exact ⟨e, he, h1.1, h1.2⟩
    refine ⟨fun hnil => ?_, fun i hi => ?_⟩
    · exfalso
      cases m with
      | nil => simp at hl
      | cons i m' =>
        have hlt := ((hm i).1 List.mem_cons_self).1
        have : i ∈ Region.ready .any ops listed := by
          rw [hready]
          refine ⟨List.mem_cons_self, ops[i], Array.getElem?_eq_getElem hlt, fun e he hbd => ?_⟩
          have h1 := hafter i _ (Array.getElem?_eq_getElem hlt) e he hbd
          refine ⟨by omega, ?_⟩
          by_cases hd : e.on ∈ D
          · exact hd
          · have : e.on ∈ i :: m' := (hm _).2 ⟨by omega, hd⟩
            rcases List.mem_cons.1 this with h | h
            · omega
            · have := (List.pairwise_cons.1 hsort).1 _ h
              omega
        rw [hnil] at this
        cases this
    · obtain ⟨him, o, ho, hdeps⟩ := (hready i).1 hi
      obtain ⟨pre, post, rfl⟩ := List.append_of_mem him
      have hlt := (Array.getElem?_eq_some_iff.1 ho).1
      have hiD : i ∉ D := ((hm i).1 him).2
      have hpre : ∀ j ∈ pre, j < i := fun j hj => (List.pairwise_append.1 hsort).2.2 j hj i List.mem_cons_self
      obtain ⟨L', h1, hperm⟩ := Runs.bubble hruns (fun j hj fj fi q1 q2 => by
        refine hind j fj i fi q1 q2 (hpre j hj) ?_
        cases hb : ((Region.before ops).getD i 0).testBit j with
        | false => rfl
        | true =>
          have hjD := before_in hcl i ho (fun e he hbd => (hdeps e he hbd).2) hb
          exact absurd hjD ((hm j).1 (List.mem_append_left _ hj)).2)
      cases h1 with
      | cons hst hrest =>
        rename_i L2 v W ft
        let s1 := stOf ops i v W s
        have hkk : stepK e (noInl Unit) fid (some n0) ops i s (fun s' _ => if s' = s1 then some () else none) = some () := by
          rw [hst.run s rfl rfl rfl (fun _ _ => rfl) (fun _ _ => rfl)]
          exact if_pos rfl
        have hchain : ∀ p ∈ chain ops i, p.1 ∈ D := by
          -- the guard stands ahead, and what stands ahead of it
          cases hgd : o.guard with
          | none => rw [chain_nil ho hgd]; intro p hp; cases hp
          | some p0 =>
            obtain ⟨j, q⟩ := p0
            rw [chain_cons hg ho hgd]
            obtain ⟨e, he, h1, hbd⟩ := hga i o _ ho hgd
            have hjD : j ∈ D := by have := (hdeps e he hbd).2; rw [h1] at this; exact this
            intro p hp
            rcases List.mem_cons.1 hp with rfl | hp
            · exact hjD
            · exact hr.closed j hjD p hp
        have hwp := stepK_wp cx inlOK_none (Q := Q) hg hr hH hb (fun m hm => by cases hm; rw [hb0]; exact hn0) hiD hchain hkk
        refine wpOp_mono ?_ hwp
        rintro a' w' ⟨s', ft', γ', hk', hr', hH', hx, hfr⟩
        have hs' : s' = s1 := by
          by_cases q : s' = s1
          · exact q
          · exact absurd ((if_neg q).symm.trans hk') (by simp)
        subst hs'
        have hfr' : Fr (dsts ops) s s1 := hfr.mono fun t ht => by
          cases hd : dstOf ops i with
          | none => rw [hd] at ht; cases ht
          | some d =>
            rw [hd] at ht
            simp at ht
            subst ht
            exact dst_mem hd
        have hnd : (pre ++ i :: post).Nodup := hsort.imp (fun h => Nat.ne_of_lt h)
        have hnd' : i ∉ pre ∧ i ∉ post := by
          rw [List.nodup_append] at hnd
          refine ⟨fun q => hnd.2.2 i q i List.mem_cons_self rfl, (List.nodup_cons.1 hnd.2.1).1⟩
        refine ih (pre ++ post) (i :: D) (listed.setIfInBounds i true) s1 L2 γ' w' a' ?_ ?_ ?_ (by simpa using hls) ?_ ?_ ?_ hr' hH' ?_ (hfr.base.trans hb0) hrest ?_ ?_
        · simp at hl ⊢; omega
        · rw [List.pairwise_append] at hsort ⊢
          refine ⟨hsort.1, (List.pairwise_cons.1 hsort.2.1).2, fun a ha b hb => hsort.2.2 a ha b (List.mem_cons_of_mem _ hb)⟩
        · intro j
          have := hm j
          simp only [List.mem_append, List.mem_cons] at this ⊢
          constructor
          · intro hj
            have hne : j ≠ i := by
              rintro rfl
              rcases hj with hj | hj
              · exact hnd'.1 hj
              · exact hnd'.2 hj
            have h2 := this.1 (by rcases hj with hj | hj; exact .inl hj; exact .inr (.inr hj))
            exact ⟨h2.1, fun q => by rcases q with q | q; exact hne q; exact h2.2 q⟩
          · rintro ⟨q1, q2⟩
            have h2 := this.2 ⟨q1, fun q => q2 (.inr q)⟩
            rcases h2 with h2 | h2 | h2
            · exact .inl h2
            · exact absurd (.inl h2) q2
            · exact .inr h2
        · intro j hj
          by_cases e : j = i
          · subst e
            have : j < listed.size := by omega
            simp [this]
          · rw [getD_set_ne false (Ne.symm e)]
            rw [hlD j hj]
            simp [e]
        · intro j hj
          rcases List.mem_cons.1 hj with rfl | hj
          · exact hlt
          · exact hDs j hj
        · intro j hj o' ho' e he hbd
          rcases List.mem_cons.1 hj with rfl | hj
          · rw [ho] at ho'
            cases ho'
            exact List.mem_cons_of_mem _ (hdeps e he hbd).2
          · exact List.mem_cons_of_mem _ (hcl j hj o' ho' e he hbd)
        · rw [hfr.base]; exact Nat.le_trans hb hfr.ro.len
        · exact hind.sub fun x hx => hperm.subset (List.mem_cons_of_mem _ hx)
        · intro γ2 w2 a2 D2 q1 q2 q3 q4
          exact hk γ2 w2 a2 D2 q1 q2 (hx.trans q3) (hfr'.trans q4)

theorem RO.holes (base : Nat) (mu : List (Nat × Nat)) (H : Heap U) (c : Nat) (hb : base ≤ H.length) : RO base mu H (H ++ List.replicate c .hole) :=
  ⟨by simp, fun j cs hj hc => ⟨cs, by rw [List.getElem?_append_left (by omega)]; exact hc, rfl, fun _ _ => rfl⟩, fun j ob hj ho _ _ => by rw [List.getElem?_append_left (by omega)]; exact ho⟩

/-- A region whose order is drawn. -/
theorem region_draw_wp {e : Env U} (cx : Cx e T C n P) (hmix : P.follows .mixedOrders = true) {inl : Inl U R} {fid : FuncId} {id : Nat} {ops : Array Oper} {s : St U} {k : St U → Option R} {r : R} {γ : Gh} {w : World} {a : Act}
    {Q : Exit → Act → World → Prop} (hs : SR T γ w s a) (h : regionK e inl fid ops true s k = some r) (hk : ∀ s' γ' w' a', k s' = some r → SR T γ' w' s' a' → Ext γ w γ' w' → Fr (dsts ops) s s' → Q .normal a' w') :
    (Code.region id ops true).wp P Q a w := by
  unfold regionK at h
  split at h
  · cases h
  · rename_i hg
    have hg : guardsOk ops = true := by simpa using hg
    simp only [if_true] at h
    split at h
    · cases h
    · rename_i ha
      have ha : afterOk ops = true := by simpa using ha
      refine wp_region_any hmix ?_
      obtain ⟨hH, hx0⟩ := hs.heap.world (w' := { w with drawn := w.drawn + 1 }) rfl rfl rfl rfl
      generalize hc : (ops.toList.filter fun o => makes e.ann o.op).length = c at h
      obtain ⟨send, L, hruns, hfin⟩ := runs_of cx.ho h
      split at hfin
      · rename_i hok
        have hind : Ind ops L := (ind_of hok).sub fun x hx => by simp [hx]
        have hHh := hH.holes c
        have hri : RI T γ { w with drawn := w.drawn + 1 } ops [] { s with heap := s.heap ++ List.replicate c .hole } a := by
          have hsr : SR T γ { w with drawn := w.drawn + 1 } { s with heap := s.heap ++ List.replicate c .hole } a :=
            ⟨hHh, by simp; have := hs.base; omega, hs.len, hs.defers, fun t av ht => (hs.rel t av ht).mono hx0⟩
          exact hsr.ri
        refine any_wp cx hg ha (send := send) (base0 := s.base) (n0 := s.heap.length) hs.base ops.size (List.range ops.size) [] (Array.replicate ops.size false) { s with heap := s.heap ++ List.replicate c .hole } L γ _ a
          (by simp) (List.pairwise_lt_range) (fun j => by simp) (by simp) (fun j hj => by simp [hj]) (fun j hj => by cases hj) (fun j hj => by cases hj) hri hHh (by simp; have := hs.base; omega) rfl hruns hind ?_
        intro γ' w' a' D' q1 q2 q3 q4
        have hfr0 : Fr (dsts ops) s { s with heap := s.heap ++ List.replicate c .hole } := ⟨rfl, rfl, RO.holes _ _ _ _ hs.base, fun _ _ => rfl, rfl⟩
        have hfr := hfr0.trans q4
        exact hk _ γ' w' a' hfin (q1.clean q2 (by rw [hfr.base]; exact Nat.le_trans hs.base hfr.ro.len)) (hx0.trans q3) (hfr.clean fun _ h => h)
      · cases hfin

end
end Go.Ab

namespace Go.Ab
section
variable {U : Nat → Type} {T : Tab U} {C : Callee U} {n : Nat} {P : Program} {R : Type}

/-- A row's cells: whose they are, what they hold. -/
def RowOf (T : Tab U) (γ : Gh) (w : World) (tag : Own) (c : Cd) (L : List (den U c)) (wr : Bool) (base : Option Addr) (cap : Nat) : Prop :=
  L.length ≤ cap ∧ (base = none → cap = 0) ∧ ∀ a, base = some a → a.spot = none ∧
    (∀ o, a.off + L.length * c.size T ≤ o → o < a.off + cap * c.size T → γ.own a.block o = tag ∧ w.frozen? ⟨a.block, o, none⟩ = false ∧ (w.cell? ⟨a.block, o, none⟩).isSome = true) ∧
    (∀ (i : Nat) y, L[i]? = some y → ∀ (j : Nat) av, (cellsOf T c y)[j]? = some av →
      (γ.own a.block (a.off + i * c.size T + j) = if wr then tag else .frz) ∧ (wr = true → w.frozen? ⟨a.block, a.off + i * c.size T + j, none⟩ = false) ∧
      ∃ v, w.cell? ⟨a.block, a.off + i * c.size T + j, none⟩ = some v ∧ v.oneCell' = true ∧ VRel T γ w av v)

theorem arr_row {γ : Gh} {w : World} {id ver : Nat} {c : Cd} {L : List (den U c)} {wr : Bool} : ORel T γ w id (.arr c L ver wr) ↔ ∃ base cap, γ.sv id ver = some (base, L.length, cap, c.size T) ∧ RowOf T γ w (.obj id) c L wr base cap :=
  ⟨fun ⟨base, cap, h1, h2, h3, h4⟩ => ⟨base, cap, h1, h2, h3, h4⟩, fun ⟨base, cap, h1, h2, h3, h4⟩ => ⟨base, cap, h1, h2, h3, h4⟩⟩

theorem cells_plain (ok : T.Ok P) {c : Cd} {y : den U c} {av : AV U} (h : av ∈ cellsOf T c y) : (∃ f, av = .func (.func f) [] []) ∨ av.plain = true := by
  cases c with
  | st t => exact .inr (ok.plain t y av h)
  | fnc f => simp [cellsOf, AV.of, AV.cells] at h; exact .inl ⟨f, h⟩
  | int k => simp [cellsOf, AV.of, AV.cells] at h; subst h; exact .inr rfl
  | bool => simp [cellsOf, AV.of, AV.cells] at h; subst h; exact .inr rfl
  | str => simp [cellsOf, AV.of, AV.cells] at h; subst h; exact .inr rfl
  | sl e => simp [cellsOf, AV.of, AV.cells] at h; subst h; exact .inr rfl
  | slt e => simp [cellsOf, AV.of, AV.cells] at h; subst h; exact .inr rfl
  | mapc k v => simp [cellsOf, AV.of, AV.cells] at h

/-- A list's elements hang on what stays alone. -/
theorem VRel.elem (ok : T.Ok P) {γ γ' : Gh} {w w' : World} {c : Cd} {y : den U c} {j : Nat} {av : AV U} {v : Value} (hj : (cellsOf T c y)[j]? = some av) (h : VRel T γ w av v)
    (hf : ∀ b o, γ.own b o = .frz → γ'.own b o = .frz ∧ w'.cell? ⟨b, o, none⟩ = w.cell? ⟨b, o, none⟩) : VRel T γ' w' av v := by
  rcases cells_plain ok (List.mem_of_getElem? hj) with ⟨f, rfl⟩ | hp
  · cases h with
    | func fn f' c' fs cs hf' hc' vf vc => exact .func _ _ _ _ _ hf' hc' (fun i av x h => by simp at h) (fun i av x h => by simp at h)
  · exact VRel.plain (.inl hp) ok.plain h hf

/-- The ghost at a loop's head: of the objects ahead alone; the rows that are taken over have marks of their own. -/
def Gh.low (γ : Gh) (N : Nat) (ids : List Nat) (K : Nat) : Gh :=
  { own := fun b o => match γ.own b o with
      | .obj i => if i ∈ ids then .obj (i + K) else if i < N then .obj i else .free
      | x => x
    blk := fun id => if id < N then γ.blk id else none
    sv := fun id v => if id < N then γ.sv id v else none }

theorem low_frz {γ : Gh} {w : World} {N K : Nat} {ids : List Nat} : ∀ b o, γ.own b o = .frz → (γ.low N ids K).own b o = .frz ∧ w.cell? ⟨b, o, none⟩ = w.cell? ⟨b, o, none⟩ := by
  intro b o h
  exact ⟨by simp only [Gh.low, h], rfl⟩

theorem belowL_get {N : Nat} : ∀ {cs : List (AV U)} {i : Nat} {av : AV U}, belowL N cs = true → cs[i]? = some av → av.lows N = true
  | [], _, _, _, h => by simp at h
  | c :: cs, i, av, h, hi => by
    simp only [belowL, Bool.and_eq_true] at h
    cases i with
    | zero => simp at hi; subst hi; exact h.1
    | succ i => exact belowL_get h.2 (by simpa using hi)

theorem VRel.low (ok : T.Ok P) {γ : Gh} {w : World} {N K : Nat} {ids : List Nat} {v : AV U} {x : Value} (h : VRel T γ w v x) (hl : v.lows N = true) : VRel T (γ.low N ids K) w v x := by
  induction h with
  | top v => exact .top v
  | bool b => exact .bool b
  | int k n => exact .int k n
  | str s => exact .str s
  | ptr id off b h => simp only [AV.lows, decide_eq_true_eq] at hl; exact .ptr _ _ _ (by simp only [Gh.low]; rw [if_pos hl]; exact h)
  | fptr cs off b o0 vs hc _ ih =>
    simp only [AV.lows] at hl
    exact .fptr cs off b o0 vs (fun i av hi => ⟨(low_frz (w := w) _ _ (hc i av hi).1).1, (hc i av hi).2⟩) (fun i av hi => ih i av hi (belowL_get hl hi))
  | aptr id ver i off b o0 len cap size h h0 h1 => simp only [AV.lows, decide_eq_true_eq] at hl; exact .aptr _ _ _ _ _ _ _ _ _ (by simp only [Gh.low]; rw [if_pos hl]; exact h) h0 h1
  | nilptr => exact .nilptr
  | nilsl => exact .nilsl
  | fsl c L sp base len cap vs hl' hcap hsp hn hs hc hv _ => exact VRel.plain (.inl rfl) ok.plain (.fsl c L sp base len cap vs hl' hcap hsp hn hs hc hv) (fun b o h => low_frz (w := w) b o h)
  | sl id ver base len cap size h => simp only [AV.lows, decide_eq_true_eq] at hl; exact .sl _ _ _ _ _ _ (by simp only [Gh.low]; rw [if_pos hl]; exact h)
  | map id b h => simp only [AV.lows, decide_eq_true_eq] at hl; exact .map _ _ (by simp only [Gh.low]; rw [if_pos hl]; exact h)
  | func fn f c fs cs hf hc _ _ ihf ihc =>
    simp only [AV.lows, Bool.and_eq_true] at hl
    exact .func fn f c fs cs hf hc (fun i av x hi hx => ihf i av x hi hx (belowL_get hl.1 hi)) (fun i av x hi hx => ihc i av x hi hx (belowL_get hl.2 hi))
  | agg cs vs hl' h1 _ ih => simp only [AV.lows] at hl; exact .agg cs vs hl' h1 (fun i av x hi hx => ih i av x hi hx (belowL_get hl hi))
  | tuple cs vs hl' _ ih => simp only [AV.lows] at hl; exact .tuple cs vs hl' (fun i av x hi hx => ih i av x hi hx (belowL_get hl hi))

/-- A map's place: whose it is, what it holds. -/
def MapOf (T : Tab U) (γ : Gh) (w : World) (tag : Own) (kc vc : Cd) (M : List (den U kc × den U vc)) (b : Nat) : Prop :=
  ∃ es clock, w.heap[b]? = some (.map es clock) ∧ γ.own b 0 = tag ∧ es.size = M.length ∧
    ∀ (i : Nat) k v en, M[i]? = some (k, v) → es[i]? = some en → VRel T γ w (AV.of T kc k) en.key ∧ VRel T γ w (AV.of T vc v) en.val

theorem MapOf.keep (ok : T.Ok P) {γ γ' : Gh} {w : World} {tag tag' : Own} {kc vc : Cd} {M : List (den U kc × den U vc)} {b : Nat} (h : MapOf T γ w tag kc vc M b)
    (hf : ∀ b o, γ.own b o = .frz → γ'.own b o = .frz ∧ w.cell? ⟨b, o, none⟩ = w.cell? ⟨b, o, none⟩) (ht : γ.own b 0 = tag → γ'.own b 0 = tag') : MapOf T γ' w tag' kc vc M b := by
  obtain ⟨es, clock, h1, h2, h3, h4⟩ := h
  exact ⟨es, clock, h1, ht h2, h3, fun i k v en hi he => ⟨VRel.of_plain ok (h4 i k v en hi he).1 hf, VRel.of_plain ok (h4 i k v en hi he).2 hf⟩⟩

/-- What the rounds leave of the heap that the loop has met. -/
structure BR (s : St U) (ids : List Nat) (mu : List (Nat × Nat)) (H : Heap U) : Prop where
  len : s.heap.length ≤ H.length
  cells : ∀ (id : Nat) cs, s.heap[id]? = some (.cells cs) → ∃ cs', H[id]? = some (.cells cs') ∧ cs'.length = cs.length ∧ ∀ (off : Nat), (id, off) ∉ mu → cs'[off]? = cs[off]?
  other : ∀ (id : Nat) ob, s.heap[id]? = some ob → (∀ cs, ob ≠ .cells cs) → id ∉ ids → H[id]? = some ob

theorem BR.refl (s : St U) (ids : List Nat) (mu : List (Nat × Nat)) : BR s ids mu s.heap := ⟨Nat.le_refl _, fun _ cs h => ⟨cs, h, rfl, fun _ _ => rfl⟩, fun _ _ h _ _ => h⟩

theorem base_get {W : List Tmp} {s : St U} {ids : List Nat} {mu : List (Nat × Nat)} {id : Nat} {ob : Obj U} (h : (baseOf W s ids mu).heap[id]? = some ob) :
    ∃ ob0, s.heap[id]? = some ob0 ∧ ((id ∈ ids ∧ ob = .dead) ∨ (id ∉ ids ∧ ((∃ cs, ob0 = .cells cs ∧ ob = .cells (cs.mapIdx fun off v => if mu.contains (id, off) then .top else v)) ∨ ((∀ cs, ob0 ≠ .cells cs) ∧ ob = ob0)))) := by
  simp only [baseOf, List.getElem?_mapIdx, Option.map_eq_some_iff] at h
  obtain ⟨ob0, h1, h2⟩ := h
  refine ⟨ob0, h1, ?_⟩
  split at h2
  · rename_i hc
    exact .inl ⟨by simpa using hc, h2.symm⟩
  · rename_i hc
    refine .inr ⟨by simpa using hc, ?_⟩
    split at h2
    · exact .inl ⟨_, rfl, h2.symm⟩
    · rename_i hn
      exact .inr ⟨fun cs e => hn cs e, h2.symm⟩

theorem low_ext {γ0 γ : Gh} {w0 w : World} {H0 : Heap U} {N K : Nat} {ids : List Nat} (hH0 : HRel T γ0 w0 H0) (hN : N = H0.length) (hx : Ext γ0 w0 γ w) : Ext γ0 w0 (γ.low N ids K) w := by
  subst hN
  refine ⟨fun id b h => ?_, fun id v y h => ?_, fun b o h => ⟨(low_frz (w := w) _ _ (hx.frz b o h).1).1, (hx.frz b o h).2⟩, fun b o hb h => ?_, hx.size, hx.os, hx.tape, hx.output, hx.same⟩
  · have hlt : id < H0.length := by
      rcases Nat.lt_or_ge id H0.length with q | q
      · exact q
      · rw [hH0.blk id q] at h; cases h
    simp only [Gh.low]; rw [if_pos hlt]; exact hx.blk _ _ h
  · have hlt : id < H0.length := by
      rcases Nat.lt_or_ge id H0.length with q | q
      · exact q
      · rw [hH0.sv id v q] at h; cases h
    simp only [Gh.low]; rw [if_pos hlt]; exact hx.sv _ _ _ h
  · have := hx.free b o hb h
    simp only [Gh.low, this]

theorem low_obj {γ : Gh} {N K b o j : Nat} {ids : List Nat} (h : γ.own b o = .obj j) (h1 : j ∉ ids) (h2 : j < N) : (γ.low N ids K).own b o = .obj j := by
  simp only [Gh.low, h]
  rw [if_neg h1, if_pos h2]

theorem RowOf.low (ok : T.Ok P) {γ : Gh} {w : World} {N K : Nat} {ids : List Nat} {tag tag' : Own} {c : Cd} {L : List (den U c)} {wr : Bool} {base : Option Addr} {cap : Nat} (h : RowOf T γ w tag c L wr base cap)
    (ht : ∀ b o, γ.own b o = tag → (γ.low N ids K).own b o = tag') : RowOf T (γ.low N ids K) w tag' c L wr base cap := by
  obtain ⟨h1, h2, h3⟩ := h
  refine ⟨h1, h2, fun a ha => ?_⟩
  obtain ⟨k1, k2, k3⟩ := h3 a ha
  refine ⟨k1, fun o l1 l2 => ?_, fun i y hy j av hj => ?_⟩
  · obtain ⟨m1, m2, m3⟩ := k2 o l1 l2
    exact ⟨ht _ _ m1, m2, m3⟩
  · obtain ⟨m1, m2, v, m3, m4, m5⟩ := k3 i y hy j av hj
    refine ⟨?_, m2, v, m3, m4, VRel.elem ok hj m5 (fun b o h => low_frz (w := w) b o h)⟩
    cases wr with
    | true => simpa using ht _ _ (by simpa using m1)
    | false => simpa using (low_frz (w := w) (N := N) (K := K) (ids := ids) _ _ (by simpa using m1)).1

/-- The heap at a loop's head. -/
theorem HRel.low (ok : T.Ok P) {γ : Gh} {w : World} {s : St U} {H : Heap U} {W : List Tmp} {ids ids' : List Nat} {mu : List (Nat × Nat)} {K : Nat} (hH : HRel T γ w H) (hB : BR s ids mu H)
    (h1 : ∀ i ∈ ids', s.heap.length ≤ i ∨ i ∈ ids) (h2 : ∀ i ∈ ids', ∀ cs, H[i]? ≠ some (.cells cs)) (hl : (baseOf W s ids mu).heap.all (Obj.lows s.heap.length) = true) :
    HRel T (γ.low s.heap.length ids' K) w (baseOf W s ids mu).heap := by
  have hlen : (baseOf W s ids mu).heap.length = s.heap.length := by simp [baseOf]
  refine ⟨fun b o h => hH.size b o fun e => h ?_, fun j hj => ?_, fun j v hj => ?_, fun j c' L ver wr hj v hv => ?_, fun j ob hj => ?_⟩
  · simp only [Gh.low, e]
  · simp only [Gh.low]; rw [if_neg (by omega)]
  · simp only [Gh.low]; rw [if_neg (by omega)]
  · obtain ⟨ob0, h0, h3⟩ := base_get hj
    rcases h3 with ⟨_, h3⟩ | ⟨h3, h4⟩
    · cases h3
    · rcases h4 with ⟨cs, _, h4⟩ | ⟨h4, h5⟩
      · cases h4
      · subst h5
        have := hB.other j _ h0 h4 h3
        have hlt := (List.getElem?_eq_some_iff.1 h0).1
        simp only [Gh.low]; rw [if_pos hlt]
        exact hH.ver j c' L ver wr this v hv
  · obtain ⟨ob0, h0, h3⟩ := base_get hj
    have hlt := (List.getElem?_eq_some_iff.1 h0).1
    have hlow : ob.lows s.heap.length = true := List.all_eq_true.1 hl ob (List.mem_of_getElem? hj)
    rcases h3 with ⟨_, rfl⟩ | ⟨hni, h4⟩
    · trivial
    · rcases h4 with ⟨cs, rfl, rfl⟩ | ⟨hn, rfl⟩
      · obtain ⟨cs', q1, q2, q3⟩ := hB.cells j cs h0
        obtain ⟨b, p1, p2⟩ := hH.objs j _ q1
        have hj' : j ∉ ids' := fun e => h2 j e cs' q1
        refine ⟨b, by simp only [Gh.low]; rw [if_pos hlt]; exact p1, fun i av hi => ?_⟩
        simp only [List.getElem?_mapIdx, Option.map_eq_some_iff] at hi
        obtain ⟨v0, hv0, hi⟩ := hi
        have hi' : i < cs'.length := by rw [q2]; exact (List.getElem?_eq_some_iff.1 hv0).1
        obtain ⟨m1, m2, x, m3, m4, m5⟩ := p2 i _ (List.getElem?_eq_getElem hi')
        refine ⟨low_obj m1 hj' hlt, m2, x, m3, m4, ?_⟩
        split at hi
        · subst hi; exact .top _
        · rename_i hmu
          subst hi
          have hmu' : (j, i) ∉ mu := by simpa using hmu
          have hcs := q3 i hmu'
          rw [hv0, List.getElem?_eq_getElem hi'] at hcs
          cases hcs
          refine VRel.low ok m5 ?_
          simp only [Obj.lows] at hlow
          refine belowL_get (i := i) hlow ?_
          simp only [List.getElem?_mapIdx, hv0, Option.map_some]
          rw [if_neg hmu]
      · have hob := hB.other j ob h0 hn hni
        have hO := hH.objs j ob hob
        have hj' : j ∉ ids' := fun e => by
          rcases h1 j e with q | q
          · omega
          · exact hni q
        cases ob with
        | cells cs => exact absurd rfl (hn cs)
        | arr c' L ver wr =>
          obtain ⟨base, cap, q1, q2⟩ := arr_row.1 hO
          exact arr_row.2 ⟨base, cap, by simp only [Gh.low]; rw [if_pos hlt]; exact q1, q2.low ok fun b o e => low_obj e hj' hlt⟩
        | mp kc vc M =>
          obtain ⟨b, es, clock, q1, q2, q3, q4, q5⟩ := hO
          refine ⟨b, es, clock, by simp only [Gh.low]; rw [if_pos hlt]; exact q1, q2, low_obj q3 hj' hlt, q4, fun i k v en hi he => ?_⟩
          exact ⟨VRel.of_plain ok (q5 i k v en hi he).1 (fun b o h => low_frz (w := w) b o h), VRel.of_plain ok (q5 i k v en hi he).2 (fun b o h => low_frz (w := w) b o h)⟩
        | dead => trivial
        | hole =>
          obtain ⟨q1, q2⟩ := hO
          exact ⟨by simp only [Gh.low]; rw [if_pos hlt]; exact q1, fun v => by simp only [Gh.low]; rw [if_pos hlt]; exact q2 v⟩

end
end Go.Ab

namespace Go.Ab
section
variable {U : Nat → Type} {T : Tab U} {C : Callee U} {n : Nat} {P : Program} {R : Type}

theorem HRel.cellSet {γ : Gh} {w : World} {H : Heap U} {id i b : Nat} {cs : List (AV U)} {v : AV U} {x : Value} (hH : HRel T γ w H) (ho : H[id]? = some (.cells cs)) (hb : γ.blk id = some b)
    (hx : w.cell? ⟨b, i, none⟩ = some x) (hv : VRel T γ w v x) : HRel T γ w (H.set id (.cells (cs.set i v))) := by
  have hid := (List.getElem?_eq_some_iff.1 ho).1
  refine ⟨hH.size, fun j hj => hH.blk j (by simpa using hj), fun j u hj => hH.sv j u (by simpa using hj), fun j c L ver wr hj u hu => ?_, fun j ob hj => ?_⟩
  · by_cases e : j = id
    · subst e; simp [hid] at hj
    · rw [List.getElem?_set_ne (Ne.symm e)] at hj
      exact hH.ver j c L ver wr hj u hu
  · by_cases e : j = id
    · subst e
      simp [hid] at hj
      subst hj
      obtain ⟨b', h1, h2⟩ := hH.objs j _ ho
      rw [hb] at h1
      cases h1
      refine ⟨b, hb, fun k av hk => ?_⟩
      by_cases e2 : k = i
      · subst e2
        have hlt : k < cs.length := by have := (List.getElem?_eq_some_iff.1 hk).1; simpa using this
        rw [List.getElem?_set_self hlt] at hk
        cases hk
        obtain ⟨m1, m2, y, m3, m4, m5⟩ := h2 k _ (List.getElem?_eq_getElem hlt)
        rw [hx] at m3
        cases m3
        exact ⟨m1, m2, x, hx, m4, hv⟩
      · rw [List.getElem?_set_ne (Ne.symm e2)] at hk
        exact h2 k av hk
    · rw [List.getElem?_set_ne (Ne.symm e)] at hj
      exact hH.objs j ob hj

/-- What lies at a place. -/
def At (γ : Gh) (w : World) (s : St U) (a : Act) : Loc → Value → Prop
  | .tmp t, x => x = a.tmps.getD t undef
  | .cell t off, x => ∃ id o b cs, s.tmps[t]? = some (.ptr id o) ∧ s.heap[id]? = some (.cells cs) ∧ o + off < cs.length ∧ γ.blk id = some b ∧ w.cell? ⟨b, o + off, none⟩ = some x

theorem At.mono {γ γ' : Gh} {w : World} {s s' : St U} {a : Act} {l : Loc} {x : Value} (h : At γ w s a l x) (hx : Ext γ w γ' w) (ht : ∀ t off, l = .cell t off → s'.tmps[t]? = s.tmps[t]?)
    (hh : ∀ (id : Nat) cs, s.heap[id]? = some (.cells cs) → ∃ cs', s'.heap[id]? = some (.cells cs') ∧ cs'.length = cs.length) : At γ' w s' a l x := by
  cases l with
  | tmp t => exact h
  | cell t off =>
    obtain ⟨id, o, b, cs, h1, h2, h3, h4, h5⟩ := h
    obtain ⟨cs', q1, q2⟩ := hh id cs h2
    exact ⟨id, o, b, cs', (ht t off rfl).trans h1, q1, by omega, hx.blk _ _ h4, h5⟩

theorem SR.put {γ : Gh} {w : World} {s : St U} {a : Act} {l : Loc} {v : AV U} {x : Value} (h : SR T γ w s a) (hat : At γ w s a l x) (hv : VRel T γ w v x) : SR T γ w (l.put s v) a := by
  cases l with
  | tmp t =>
    refine ⟨h.heap, h.base, by simpa [Loc.put] using h.len, h.defers, fun u av hu => ?_⟩
    simp only [Loc.put] at hu
    by_cases e : t = u
    · subst e
      have hlt : t < s.tmps.length := by have := (List.getElem?_eq_some_iff.1 hu).1; simpa using this
      rw [List.getElem?_set_self hlt] at hu
      cases hu
      have hat : x = a.tmps.getD t undef := hat
      rw [← hat]
      exact hv
    · rw [List.getElem?_set_ne e] at hu
      exact h.rel u av hu
  | cell t off =>
    obtain ⟨id, o, b, cs, h1, h2, h3, h4, h5⟩ := hat
    simp only [Loc.put, h1, h2]
    exact ⟨h.heap.cellSet h2 h4 h5 hv, by simpa using h.base, h.len, h.defers, h.rel⟩

theorem RowOf.any {γ γ' : Gh} {w : World} (ok : T.Ok P) (hf : ∀ b o, γ.own b o = .frz → γ'.own b o = .frz ∧ w.cell? ⟨b, o, none⟩ = w.cell? ⟨b, o, none⟩) {c : Cd} {L : List (den U c)} {wr : Bool} {base : Option Addr} {cap : Nat}
    (h : ∀ i, RowOf T γ w (.obj i) c L wr base cap) (tag : Own) : RowOf T γ' w tag c L wr base cap := by
  obtain ⟨h1, h2, h3⟩ := h 0
  obtain ⟨_, _, h3'⟩ := h 1
  refine ⟨h1, h2, fun a ha => ?_⟩
  obtain ⟨k1, k2, k3⟩ := h3 a ha
  obtain ⟨_, k2', k3'⟩ := h3' a ha
  refine ⟨k1, fun o l1 l2 => ?_, fun i y hy j av hj => ?_⟩
  · have q1 := (k2 o l1 l2).1
    have q2 := (k2' o l1 l2).1
    rw [q1] at q2
    cases q2
  · obtain ⟨m1, m2, v, m3, m4, m5⟩ := k3 i y hy j av hj
    have m1' := (k3' i y hy j av hj).1
    cases wr with
    | true =>
      simp only [if_true] at m1 m1'
      rw [m1] at m1'
      cases m1'
    | false =>
      simp only [Bool.false_eq_true, if_false] at m1 ⊢
      exact ⟨(hf _ _ m1).1, fun e => e.elim, v, m3, m4, VRel.elem ok hj m5 hf⟩

open Classical in
/-- A row that is taken over. -/
noncomputable def Gh.tag (γ : Gh) (t id : Nat) (x : Option Addr × Nat × Nat × Nat) (fr : Nat → Nat → Prop) : Gh :=
  { own := fun b o => if γ.own b o = .obj t then (if fr b o then .frz else .obj id) else γ.own b o
    blk := γ.blk
    sv := fun j v => if j = id ∧ v = 0 then some x else γ.sv j v }

theorem tag_own {γ : Gh} {t id : Nat} {x : Option Addr × Nat × Nat × Nat} {fr : Nat → Nat → Prop} {b o : Nat} (h : γ.own b o ≠ .obj t) : (γ.tag t id x fr).own b o = γ.own b o := by
  simp only [Gh.tag]; rw [if_neg h]

theorem tag_in {γ : Gh} {t id : Nat} {x : Option Addr × Nat × Nat × Nat} {fr : Nat → Nat → Prop} {b o : Nat} (h : γ.own b o = .obj t) (hf : ¬ fr b o) : (γ.tag t id x fr).own b o = .obj id := by
  simp only [Gh.tag]; rw [if_pos h, if_neg hf]

theorem tag_fr {γ : Gh} {t id : Nat} {x : Option Addr × Nat × Nat × Nat} {fr : Nat → Nat → Prop} {b o : Nat} (h : γ.own b o = .obj t) (hf : fr b o) : (γ.tag t id x fr).own b o = .frz := by
  simp only [Gh.tag]; rw [if_pos h, if_pos hf]

theorem HRel.step2 {γ γ' : Gh} {w : World} {H : Heap U} {ob0 : Obj U} (hH : HRel T γ w H) (hx : Ext γ w γ' w)
    (hsz : ∀ b o, γ'.own b o ≠ .free → b < w.heap.size) (hblk : ∀ j, j ≠ H.length → γ'.blk j = γ.blk j) (hsv : ∀ j v, j ≠ H.length → γ'.sv j v = γ.sv j v)
    (hown : ∀ b o j, j < H.length → γ.own b o = .obj j → γ'.own b o = .obj j)
    (hver : ∀ c L ver wr, ob0 = .arr c L ver wr → ∀ v, ver < v → γ'.sv H.length v = none)
    (hob : ORel T γ' w H.length ob0) : HRel T γ' w (H ++ [ob0]) := by
  refine ⟨hsz, fun j hj => ?_, fun j v hj => ?_, fun j c L ver wr hj v hv => ?_, fun j ob hj => ?_⟩
  · have hl : H.length + 1 ≤ j := by simpa using hj
    rw [hblk j (by omega)]; exact hH.blk j (by omega)
  · have hl : H.length + 1 ≤ j := by simpa using hj
    rw [hsv j v (by omega)]; exact hH.sv j v (by omega)
  · rw [List.getElem?_append] at hj
    split at hj
    · rename_i hlt
      rw [hsv j v (by omega)]
      exact hH.ver j c L ver wr hj v hv
    · rename_i hlt
      have : j = H.length := by
        have := (List.getElem?_eq_some_iff.1 hj).1
        simp at this
        omega
      subst this
      simp at hj
      exact hver c L ver wr hj v hv
  · rw [List.getElem?_append] at hj
    split at hj
    · rename_i hlt
      refine ORel.keep (hH.objs j ob hj) hx (fun b o hb => ⟨hown b o j hlt hb, rfl, rfl⟩) (fun b es c hb hm => hm) (fun e' => ?_)
      subst e'
      obtain ⟨h1, h2⟩ := hH.objs j _ hj
      exact ⟨by rw [hblk j (by omega)]; exact h1, fun v => by rw [hsv j v (by omega)]; exact h2 v⟩
    · rename_i hlt
      have : j = H.length := by
        have := (List.getElem?_eq_some_iff.1 hj).1
        simp at this
        omega
      subst this
      simp at hj
      subst hj
      exact hob

theorem row_tag (ok : T.Ok P) {γ : Gh} {w : World} {H : Heap U} {t : Nat} {c : Cd} {L : List (den U c)} {wr wr' : Bool} {base : Option Addr} {cap : Nat} (hH : HRel T γ w H) (ht : H.length ≤ t)
    (hr : RowOf T γ w (.obj t) c L wr' base cap) (hw : wr = true → wr' = true) :
    ∃ γ', HRel T γ' w (H ++ [.arr c L 0 wr]) ∧ Ext γ w γ' w ∧ VRel T γ' w (.sl H.length 0) (.slice base L.length cap) ∧
      (∀ t', t' ≠ t → ∀ (c2 : Cd) (L2 : List (den U c2)) (wr2 : Bool) (base2 : Option Addr) (cap2 : Nat), RowOf T γ w (.obj t') c2 L2 wr2 base2 cap2 → RowOf T γ' w (.obj t') c2 L2 wr2 base2 cap2) ∧
      (∀ t', t' ≠ t → ∀ (kc vc : Cd) (M : List (den U kc × den U vc)) (b : Nat), MapOf T γ w (.obj t') kc vc M b → MapOf T γ' w (.obj t') kc vc M b) := by
  let fr : Nat → Nat → Prop := fun b o => wr = false ∧ ∃ a, base = some a ∧ a.block = b ∧ a.off ≤ o ∧ o < a.off + L.length * c.size T
  let γ' := γ.tag t H.length (base, L.length, cap, c.size T) fr
  have hfrz : ∀ b o, γ.own b o = .frz → γ'.own b o = .frz ∧ w.cell? ⟨b, o, none⟩ = w.cell? ⟨b, o, none⟩ := fun b o h => ⟨by rw [tag_own (by rw [h]; exact fun e => nomatch e)]; exact h, rfl⟩
  have hx : Ext γ w γ' w := by
    refine ⟨fun _ _ h => h, fun j v y hj => ?_, hfrz, fun b o _ h => by rw [tag_own (by rw [h]; exact fun e => nomatch e)]; exact h, Nat.le_refl _, rfl, rfl, rfl, fun _ _ _ => rfl⟩
    simp only [γ', Gh.tag]
    rw [if_neg]
    · exact hj
    · rintro ⟨rfl, rfl⟩
      rw [hH.sv _ _ (Nat.le_refl _)] at hj
      cases hj
  refine ⟨γ', ?_, hx, .sl _ _ _ _ _ (c.size T) (by simp [γ', Gh.tag]), fun t' hne c2 L2 wr2 base2 cap2 h => ?_, fun t' hne kc vc M b h => h.keep ok hfrz fun q => by rw [tag_own (by rw [q]; exact fun e => hne (by cases e; rfl))]; exact q⟩
  · refine HRel.step2 hH hx (fun b o h => hH.size b o fun e => h ?_) (fun _ _ => rfl) (fun j v hj => ?_) (fun b o j hj hb => ?_) ?_ ?_
    · rw [tag_own (by rw [e]; exact fun q => nomatch q)]; exact e
    · simp only [γ', Gh.tag]; rw [if_neg (fun h => hj h.1)]
    · rw [tag_own (by rw [hb]; exact fun e => by cases e; omega)]; exact hb
    · intro c' L' ver' wr2 hj v hv
      cases hj
      simp only [γ', Gh.tag]
      rw [if_neg (by omega)]
      exact hH.sv _ _ (Nat.le_refl _)
    · obtain ⟨h1, h2, h3⟩ := hr
      refine arr_row.2 ⟨base, cap, by simp [γ', Gh.tag], h1, h2, fun a ha => ?_⟩
      obtain ⟨k1, k2, k3⟩ := h3 a ha
      refine ⟨k1, fun o l1 l2 => ?_, fun i y hy j av hj => ?_⟩
      · obtain ⟨m1, m2, m3⟩ := k2 o l1 l2
        refine ⟨tag_in m1 ?_, m2, m3⟩
        rintro ⟨_, a', ha', _, _, q⟩
        rw [ha] at ha'
        cases ha'
        omega
      · obtain ⟨m1, m2, v, m3, m4, m5⟩ := k3 i y hy j av hj
        have hlt : i * c.size T + j < L.length * c.size T := mul_lt_of (List.getElem?_eq_some_iff.1 hy).1 (by rw [← cellsOf_len ok c y]; exact (List.getElem?_eq_some_iff.1 hj).1)
        cases wr with
        | true =>
          have hw' := hw rfl
          subst hw'
          refine ⟨by simpa using tag_in (by simpa using m1) (fun q => by cases q.1), m2, v, m3, m4, VRel.elem ok hj m5 hfrz⟩
        | false =>
          refine ⟨?_, fun e => (by cases e), v, m3, m4, VRel.elem ok hj m5 hfrz⟩
          simp only [Bool.false_eq_true, if_false]
          cases wr' with
          | true => exact tag_fr (by simpa using m1) ⟨rfl, a, ha, rfl, by omega, by omega⟩
          | false => exact (hfrz _ _ (by simpa using m1)).1
  · obtain ⟨h1, h2, h3⟩ := h
    refine ⟨h1, h2, fun a ha => ?_⟩
    obtain ⟨k1, k2, k3⟩ := h3 a ha
    have hkeep : ∀ b o, γ.own b o = .obj t' → γ'.own b o = .obj t' := fun b o h => by rw [tag_own (by rw [h]; exact fun e => hne (by cases e; rfl))]; exact h
    refine ⟨k1, fun o l1 l2 => ⟨hkeep _ _ (k2 o l1 l2).1, (k2 o l1 l2).2⟩, fun i y hy j av hj => ?_⟩
    obtain ⟨m1, m2, v, m3, m4, m5⟩ := k3 i y hy j av hj
    refine ⟨?_, m2, v, m3, m4, VRel.elem ok hj m5 hfrz⟩
    cases wr2 with
    | true => simpa using hkeep _ _ (by simpa using m1)
    | false => simpa using (hfrz _ _ (by simpa using m1)).1

open Classical in
theorem map_tag (ok : T.Ok P) {γ : Gh} {w : World} {H : Heap U} {t b : Nat} {kc vc : Cd} {M : List (den U kc × den U vc)} (hH : HRel T γ w H) (ht : H.length ≤ t)
    (hm : MapOf T γ w (.obj t) kc vc M b) :
    ∃ γ', HRel T γ' w (H ++ [.mp kc vc M]) ∧ Ext γ w γ' w ∧ VRel T γ' w (.map H.length) (.map (some b)) ∧
      (∀ t', t' ≠ t → ∀ (c2 : Cd) (L2 : List (den U c2)) (wr2 : Bool) (base2 : Option Addr) (cap2 : Nat), RowOf T γ w (.obj t') c2 L2 wr2 base2 cap2 → RowOf T γ' w (.obj t') c2 L2 wr2 base2 cap2) ∧
      (∀ t', t' ≠ t → ∀ (kc vc : Cd) (M : List (den U kc × den U vc)) (b : Nat), MapOf T γ w (.obj t') kc vc M b → MapOf T γ' w (.obj t') kc vc M b) := by
  let γ' : Gh := { own := fun b o => if γ.own b o = .obj t then .obj H.length else γ.own b o, blk := fun j => if j = H.length then some b else γ.blk j, sv := γ.sv }
  have hne : ∀ b o x, γ.own b o = x → x ≠ .obj t → γ'.own b o = x := fun b o x h hx => by
    simp only [γ']; rw [if_neg (by rw [h]; exact hx)]; exact h
  have hfrz : ∀ b o, γ.own b o = .frz → γ'.own b o = .frz ∧ w.cell? ⟨b, o, none⟩ = w.cell? ⟨b, o, none⟩ := fun b o h => ⟨hne b o _ h (fun e => by cases e), rfl⟩
  have hx : Ext γ w γ' w := by
    refine ⟨fun j y hj => ?_, fun _ _ _ h => h, hfrz, fun b o _ h => hne b o _ h (fun e => by cases e), Nat.le_refl _, rfl, rfl, rfl, fun _ _ _ => rfl⟩
    simp only [γ']
    rw [if_neg]
    · exact hj
    · rintro rfl
      rw [hH.blk _ (Nat.le_refl _)] at hj
      cases hj
  refine ⟨γ', ?_, hx, .map _ _ (by simp [γ']), fun t' hne' c2 L2 wr2 base2 cap2 h => ?_, fun t' hne' kc vc M b h => h.keep ok hfrz fun q => hne _ _ _ q (fun e => hne' (by cases e; rfl))⟩
  · refine HRel.step2 hH hx (fun b o h => hH.size b o fun e => h (hne b o _ e (fun q => by cases q))) (fun j hj => by simp only [γ']; rw [if_neg hj]) (fun j v hj => rfl)
      (fun b o j hj hb => hne b o _ hb (fun e => by cases e; omega)) (fun c L ver wr hj => by cases hj) ?_
    obtain ⟨es, clock, h1, h2, h3, h4⟩ := hm
    refine ⟨b, es, clock, by simp [γ'], h1, ?_, h3, fun i k v en hi he => ⟨VRel.of_plain ok (h4 i k v en hi he).1 hfrz, VRel.of_plain ok (h4 i k v en hi he).2 hfrz⟩⟩
    simp only [γ']
    rw [if_pos h2]
  · obtain ⟨h1, h2, h3⟩ := h
    refine ⟨h1, h2, fun a ha => ?_⟩
    obtain ⟨k1, k2, k3⟩ := h3 a ha
    have hkeep : ∀ b o, γ.own b o = .obj t' → γ'.own b o = .obj t' := fun b o h => hne b o _ h (fun e => hne' (by cases e; rfl))
    refine ⟨k1, fun o l1 l2 => ⟨hkeep _ _ (k2 o l1 l2).1, (k2 o l1 l2).2⟩, fun i y hy j av hj => ?_⟩
    obtain ⟨m1, m2, v, m3, m4, m5⟩ := k3 i y hy j av hj
    refine ⟨?_, m2, v, m3, m4, VRel.elem ok hj m5 hfrz⟩
    cases wr2 with
    | true => simpa using hkeep _ _ (by simpa using m1)
    | false => simpa using (hfrz _ _ (by simpa using m1)).1

end
end Go.Ab

namespace Go.Ab
section
variable {U : Nat → Type} {T : Tab U} {C : Callee U} {n : Nat} {P : Program} {R : Type}

/-- What the places hold; which marks the rows have. -/
def Pends (T : Tab U) (γ : Gh) (w : World) (s : St U) (a : Act) : (ls : List (Loc × Mo)) → HL U (ls.map (·.2.code)) → List (Option Nat) → Prop
  | [], _, ts => ts = []
  | (l, .pure c) :: ls, (x, xs), ts => (∃ val, At γ w s a l val ∧ VRel T γ w (AV.of T c x) val) ∧ Pends T γ w s a ls xs ts
  | (_, .asl _ _) :: _, _, [] => False
  | (l, .asl e wr) :: ls, (x, xs), t :: ts => (∃ base cap wr', At γ w s a l (.slice base x.length cap) ∧ (wr = true → wr' = true) ∧ ∀ i, (t = some i ∨ t = none) → RowOf T γ w (.obj i) e x wr' base cap) ∧
      Pends T γ w s a ls xs ts
  | (_, .frz _) :: _, _, [] => False
  | (l, .frz e) :: ls, (x, xs), t :: ts => (∃ val, At γ w s a l val ∧ ((t = none ∧ VRel T γ w (AV.of T (.sl e) x) val) ∨
      ∃ i wr' base cap, t = some i ∧ val = .slice base x.length cap ∧ RowOf T γ w (.obj i) e x wr' base cap)) ∧ Pends T γ w s a ls xs ts
  | (_, .mp _ _) :: _, _, [] => False
  | (l, .mp k v) :: ls, (x, xs), t :: ts => (∃ b i, At γ w s a l (.map (some b)) ∧ t = some i ∧ MapOf T γ w (.obj i) k v x b) ∧ Pends T γ w s a ls xs ts

theorem Pends.mono (ok : T.Ok P) {γ γ' : Gh} {w : World} {s s' : St U} {a : Act} (hx : Ext γ w γ' w) (hh : ∀ (id : Nat) cs, s.heap[id]? = some (.cells cs) → ∃ cs', s'.heap[id]? = some (.cells cs') ∧ cs'.length = cs.length)
    : ∀ {ls : List (Loc × Mo)} {xs : HL U (ls.map (·.2.code))} {ts : List (Option Nat)}, (∀ p ∈ ls, ∀ t off, p.1 = .cell t off → s'.tmps[t]? = s.tmps[t]?) →
      (∀ i ∈ ts.filterMap id, ∀ (c2 : Cd) (L2 : List (den U c2)) (wr2 : Bool) (base2 : Option Addr) (cap2 : Nat), RowOf T γ w (.obj i) c2 L2 wr2 base2 cap2 → RowOf T γ' w (.obj i) c2 L2 wr2 base2 cap2) →
      (∀ i ∈ ts.filterMap id, ∀ (kc vc : Cd) (M : List (den U kc × den U vc)) (b : Nat), MapOf T γ w (.obj i) kc vc M b → MapOf T γ' w (.obj i) kc vc M b) →
      Pends T γ w s a ls xs ts → Pends T γ' w s' a ls xs ts
  | [], _, ts, _, _, _, h => h
  | (l, .pure c) :: ls, (x, xs), ts, ht, hr, hm, h => by
    obtain ⟨⟨val, h1, h2⟩, h3⟩ := h
    exact ⟨⟨val, h1.mono hx (fun t off e => ht _ List.mem_cons_self t off e) hh, h2.mono hx⟩, Pends.mono ok hx hh (fun p hp => ht p (List.mem_cons_of_mem _ hp)) hr hm h3⟩
  | (l, .asl e wr) :: ls, _, [], _, _, _, h => h.elim
  | (l, .asl e wr) :: ls, (x, xs), t :: ts, ht, hr, hm, h => by
    obtain ⟨⟨base, cap, wr', h1, h2, h3⟩, h4⟩ := h
    refine ⟨⟨base, cap, wr', h1.mono hx (fun t off e => ht _ List.mem_cons_self t off e) hh, h2, fun i hi => ?_⟩, Pends.mono ok hx hh (fun p hp => ht p (List.mem_cons_of_mem _ hp)) (fun i hi => hr i ?_) (fun i hi => hm i (by
      cases t with
      | none => simpa using hi
      | some i0 => simp at hi ⊢; exact .inr hi)) h4⟩
    · cases t with
      | some i0 =>
        rcases hi with hi | hi
        · cases hi
          exact hr i (by simp) _ _ _ _ _ (h3 i (.inl rfl))
        · cases hi
      | none => exact RowOf.any ok (fun b o hf => hx.frz b o hf) (fun i => h3 i (.inr rfl)) _
    · cases t with
      | none => simpa using hi
      | some i0 => simp at hi ⊢; exact .inr hi
  | (l, .frz e) :: ls, _, [], _, _, _, h => h.elim
  | (l, .frz e) :: ls, (x, xs), t :: ts, ht, hr, hm, h => by
    obtain ⟨⟨val, h1, h2⟩, h4⟩ := h
    refine ⟨⟨val, h1.mono hx (fun t off e => ht _ List.mem_cons_self t off e) hh, ?_⟩, Pends.mono ok hx hh (fun p hp => ht p (List.mem_cons_of_mem _ hp)) (fun i hi => hr i ?_) (fun i hi => hm i (by
      cases t with
      | none => simpa using hi
      | some i0 => simp at hi ⊢; exact .inr hi)) h4⟩
    · rcases h2 with ⟨rfl, h2⟩ | ⟨i, wr', base, cap, rfl, h3, h5⟩
      · exact .inl ⟨rfl, h2.mono hx⟩
      · exact .inr ⟨i, wr', base, cap, rfl, h3, hr i (by simp) _ _ _ _ _ h5⟩
    · cases t with
      | none => simpa using hi
      | some i0 => simp at hi ⊢; exact .inr hi
  | (l, .mp k v) :: ls, _, [], _, _, _, h => h.elim
  | (l, .mp k v) :: ls, (x, xs), t :: ts, ht, hr, hm, h => by
    obtain ⟨⟨b, i, h1, rfl, h2⟩, h4⟩ := h
    exact ⟨⟨b, i, h1.mono hx (fun t off e => ht _ List.mem_cons_self t off e) hh, rfl, hm i (by simp) _ _ _ _ h2⟩,
      Pends.mono ok hx hh (fun p hp => ht p (List.mem_cons_of_mem _ hp)) (fun j hj => hr j (by simp at hj ⊢; exact .inr hj)) (fun j hj => hm j (by simp at hj ⊢; exact .inr hj)) h4⟩

theorem row_frz (ok : T.Ok P) {γ : Gh} {w : World} {H : Heap U} {t : Nat} {c : Cd} {L : List (den U c)} {wr' : Bool} {base : Option Addr} {cap : Nat} (hH : HRel T γ w H) (ht : H.length ≤ t)
    (hr : RowOf T γ w (.obj t) c L wr' base cap) :
    ∃ γ', HRel T γ' w H ∧ Ext γ w γ' w ∧ VRel T γ' w (AV.of T (.sl c) L) (.slice base L.length cap) ∧
      (∀ t', t' ≠ t → ∀ (c2 : Cd) (L2 : List (den U c2)) (wr2 : Bool) (base2 : Option Addr) (cap2 : Nat), RowOf T γ w (.obj t') c2 L2 wr2 base2 cap2 → RowOf T γ' w (.obj t') c2 L2 wr2 base2 cap2) ∧
      (∀ t', t' ≠ t → ∀ (kc vc : Cd) (M : List (den U kc × den U vc)) (b : Nat), MapOf T γ w (.obj t') kc vc M b → MapOf T γ' w (.obj t') kc vc M b) := by
  let γ' : Gh := { own := fun b o => if γ.own b o = .obj t then .frz else γ.own b o, blk := γ.blk, sv := γ.sv }
  have hne : ∀ b o x, γ.own b o = x → x ≠ .obj t → γ'.own b o = x := fun b o x h hx => by
    simp only [γ']; rw [if_neg (by rw [h]; exact hx)]; exact h
  have hfrz : ∀ b o, γ.own b o = .frz → γ'.own b o = .frz ∧ w.cell? ⟨b, o, none⟩ = w.cell? ⟨b, o, none⟩ := fun b o h => ⟨hne b o _ h (fun e => by cases e), rfl⟩
  have hx : Ext γ w γ' w :=
    ⟨fun _ _ h => h, fun _ _ _ h => h, hfrz, fun b o _ h => hne b o _ h (fun e => by cases e), Nat.le_refl _, rfl, rfl, rfl, fun _ _ _ => rfl⟩
  refine ⟨γ', ⟨fun b o h => hH.size b o fun e => h (hne b o _ e (fun q => by cases q)), hH.blk, hH.sv, hH.ver, fun j ob hj => ?_⟩, hx, ?_, fun t' hne' c2 L2 wr2 base2 cap2 h => ?_, fun t' hne' kc vc M b h => h.keep ok hfrz fun q => hne _ _ _ q (fun e => hne' (by cases e; rfl))⟩
  · have hlt := (List.getElem?_eq_some_iff.1 hj).1
    refine ORel.keep (hH.objs j ob hj) hx (fun b o hb => ⟨hne b o _ hb (fun e => by cases e; omega), rfl, rfl⟩) (fun b es c hb hm => hm) (fun e' => ?_)
    subst e'
    exact hH.objs j _ hj
  · obtain ⟨h1, h2, h3⟩ := hr
    cases base with
    | none =>
      have hc := h2 rfl
      have hL : L = [] := List.eq_nil_of_length_eq_zero (by omega)
      subst hL
      exact .fsl c [] .unk none 0 cap (fun _ _ => undef) rfl h1 trivial h2 (fun a h => by cases h) (fun a h => by cases h) (fun i x h => by simp at h)
    | some a =>
      obtain ⟨k1, k2, k3⟩ := h3 a rfl
      refine .fsl c L .unk (some a) L.length cap (fun i j => (w.cell? ⟨a.block, a.off + i * c.size T + j, none⟩).getD undef) rfl h1 trivial h2 (fun a' ha' => by cases ha'; exact k1) (fun a' ha' i y hy j av hj => ?_) (fun i y hy j av hj => ?_)
      · cases ha'
        obtain ⟨m1, _, v, m3, m4, _⟩ := k3 i y hy j av hj
        refine ⟨?_, by rw [m3]; rfl, by rw [m3]; exact m4⟩
        cases wr' with
        | true =>
          have m1 : γ.own a.block (a.off + i * c.size T + j) = .obj t := m1
          simp only [γ']; rw [if_pos m1]
        | false => exact (hfrz _ _ m1).1
      · obtain ⟨_, _, v, m3, _, m5⟩ := k3 i y hy j av hj
        rw [m3]
        exact VRel.elem ok hj m5 hfrz
  · obtain ⟨h1, h2, h3⟩ := h
    refine ⟨h1, h2, fun a ha => ?_⟩
    obtain ⟨k1, k2, k3⟩ := h3 a ha
    have hkeep : ∀ b o, γ.own b o = .obj t' → γ'.own b o = .obj t' := fun b o h => hne b o _ h (fun e => hne' (by cases e; rfl))
    refine ⟨k1, fun o l1 l2 => ⟨hkeep _ _ (k2 o l1 l2).1, (k2 o l1 l2).2⟩, fun i y hy j av hj => ?_⟩
    obtain ⟨m1, m2, v, m3, m4, m5⟩ := k3 i y hy j av hj
    refine ⟨?_, m2, v, m3, m4, VRel.elem ok hj m5 hfrz⟩
    cases wr2 with
    | true => simpa using hkeep _ _ (by simpa using m1)
    | false => simpa using (hfrz _ _ (by simpa using m1)).1

theorem BR.set {s : St U} {ids : List Nat} {mu : List (Nat × Nat)} {H : Heap U} (h : BR s ids mu H) {id i : Nat} {cs : List (AV U)} {v : AV U} (ho : H[id]? = some (.cells cs)) (hm : (id, i) ∈ mu) : BR s ids mu (H.set id (.cells (cs.set i v))) := by
  have hid := (List.getElem?_eq_some_iff.1 ho).1
  refine ⟨by simpa using h.len, fun j cs0 hj => ?_, fun j ob hj hn hi => ?_⟩
  · obtain ⟨cs', q1, q2, q3⟩ := h.cells j cs0 hj
    by_cases e : j = id
    · subst e
      rw [ho] at q1
      cases q1
      refine ⟨cs.set i v, by simp [hid], by simpa using q2, fun off hoff => ?_⟩
      have : i ≠ off := fun e => hoff (e ▸ hm)
      rw [List.getElem?_set_ne this]
      exact q3 off hoff
    · exact ⟨cs', by rw [List.getElem?_set_ne (Ne.symm e)]; exact q1, q2, q3⟩
  · have q := h.other j ob hj hn hi
    by_cases e : j = id
    · subst e
      rw [ho] at q
      cases q
      exact absurd rfl (hn cs)
    · rw [List.getElem?_set_ne (Ne.symm e)]; exact q

theorem BR.push {s : St U} {ids : List Nat} {mu : List (Nat × Nat)} {H : Heap U} (h : BR s ids mu H) (ob : Obj U) : BR s ids mu (H ++ [ob]) := by
  refine ⟨by have := h.len; simp; omega, fun j cs hj => ?_, fun j ob' hj hn hi => ?_⟩
  · obtain ⟨cs', q1, q2, q3⟩ := h.cells j cs hj
    have hlt := (List.getElem?_eq_some_iff.1 q1).1
    exact ⟨cs', by rw [List.getElem?_append_left hlt]; exact q1, q2, q3⟩
  · have q := h.other j ob' hj hn hi
    have hlt := (List.getElem?_eq_some_iff.1 q).1
    rw [List.getElem?_append_left hlt]; exact q

/-- A place of a loop, as it was met. -/
def LocOK (W : List Tmp) (s : St U) (mu : List (Nat × Nat)) : Loc → Prop
  | .tmp t => t ∈ W
  | .cell t off => t ∉ W ∧ ∀ id o, s.tmps[t]? = some (.ptr id o) → (id, o + off) ∈ mu

/-- What a state at a loop's head has in common with the state that the loop has met. -/
structure Hd (W : List Tmp) (s : St U) (ids : List Nat) (mu : List (Nat × Nat)) (base : Nat) (muB : List (Nat × Nat)) (s1 : St U) : Prop where
  br : BR s ids mu s1.heap
  tmps : ∀ t, t ∉ W → s1.tmps[t]? = s.tmps[t]?
  len : s1.tmps.length = s.tmps.length
  base : s1.base = base
  mu : s1.mu = muB

theorem Hd.put {W : List Tmp} {s : St U} {ids : List Nat} {mu : List (Nat × Nat)} {base : Nat} {muB : List (Nat × Nat)} {s1 : St U} (h : Hd W s ids mu base muB s1) {l : Loc} (hl : LocOK W s mu l) (v : AV U) : Hd W s ids mu base muB (l.put s1 v) := by
  cases l with
  | tmp t =>
    refine ⟨h.br, fun u hu => ?_, by simpa [Loc.put] using h.len, h.base, h.mu⟩
    have : t ≠ u := fun e => hu (e ▸ hl)
    simp only [Loc.put]
    rw [List.getElem?_set_ne this]
    exact h.tmps u hu
  | cell t off =>
    obtain ⟨h1, h2⟩ := hl
    simp only [Loc.put]
    split
    · rename_i id o hq
      split
      · rename_i cs ho
        refine ⟨h.br.set ho (h2 id o ((h.tmps t h1).symm.trans hq)), h.tmps, h.len, h.base, h.mu⟩
      · exact h
    · exact h

theorem put_cells {s : St U} {l : Loc} {v : AV U} : (l.put s v).heap.length = s.heap.length ∧ ∀ (id : Nat) cs, s.heap[id]? = some (.cells cs) → ∃ cs', (l.put s v).heap[id]? = some (.cells cs') ∧ cs'.length = cs.length := by
  cases l with
  | tmp t => exact ⟨rfl, fun id cs h => ⟨cs, h, rfl⟩⟩
  | cell t off =>
    simp only [Loc.put]
    split
    · rename_i id0 o hq
      split
      · rename_i cs0 ho
        refine ⟨by simp, fun id cs h => ?_⟩
        by_cases e : id = id0
        · subst e
          rw [ho] at h
          cases h
          exact ⟨cs0.set (o + off) v, by simp [(List.getElem?_eq_some_iff.1 ho).1], by simp⟩
        · exact ⟨cs, by rw [List.getElem?_set_ne (Ne.symm e)]; exact h, rfl⟩
      · exact ⟨rfl, fun id cs h => ⟨cs, h, rfl⟩⟩
    · exact ⟨rfl, fun id cs h => ⟨cs, h, rfl⟩⟩

theorem putLocs_sr (ok : T.Ok P) {W : List Tmp} {s : St U} {ids : List Nat} {mu : List (Nat × Nat)} {base : Nat} {muB : List (Nat × Nat)} {w : World} {a : Act} : ∀ {ls : List (Loc × Mo)} {xs : HL U (ls.map (·.2.code))} {ts : List (Option Nat)} {s1 : St U} {γ : Gh},
    SR T γ w s1 a → Hd W s ids mu base muB s1 → (∀ p ∈ ls, LocOK W s mu p.1) → Pends T γ w s1 a ls xs ts → (ts.filterMap id).Nodup → (∀ i ∈ ts.filterMap id, s1.heap.length + ls.length ≤ i) →
    ∃ γ', SR T γ' w (putLocs T ls xs s1) a ∧ Ext γ w γ' w ∧ Hd W s ids mu base muB (putLocs T ls xs s1)
  | [], xs, ts, s1, γ, hs, hd, _, _, _, _ => ⟨γ, hs, Ext.refl _ _, hd⟩
  | (l, .pure c) :: ls, (x, xs), ts, s1, γ, hs, hd, hl, hp, hn, hK => by
    obtain ⟨⟨val, h1, h2⟩, h3⟩ := hp
    have hlo := hl _ List.mem_cons_self
    have hd' := hd.put hlo (AV.of T c x)
    obtain ⟨hlen, hcells⟩ := put_cells (s := s1) (l := l) (v := AV.of T c x)
    have hp' := Pends.mono ok (s' := l.put s1 (AV.of T c x)) (Ext.refl γ w) hcells (ls := ls) (xs := xs) (ts := ts) (fun p hp t off e => by
      have ht : t ∉ W := by
        have := hl p (List.mem_cons_of_mem _ hp)
        rw [e] at this
        exact this.1
      rw [hd'.tmps t ht, hd.tmps t ht]) (fun _ _ _ _ _ _ _ h => h) (fun _ _ _ _ _ _ h => h) h3
    obtain ⟨γ', q1, q2, q3⟩ := putLocs_sr ok (ls := ls) (xs := xs) (ts := ts) (hs.put h1 h2) hd' (fun p hp => hl p (List.mem_cons_of_mem _ hp)) hp' hn (fun i hi => by
      have := hK i hi
      simp only [List.length_cons] at this
      rw [hlen]; omega)
    exact ⟨γ', q1, q2, q3⟩
  | (l, .frz e) :: ls, _, [], s1, γ, hs, hd, hl, hp, hn, hK => hp.elim
  | (l, .frz e) :: ls, (x, xs), t :: ts, s1, γ, hs, hd, hl, hp, hn, hK => by
    obtain ⟨⟨val, h1, h2⟩, h3⟩ := hp
    have hlo := hl _ List.mem_cons_self
    have hd' := hd.put hlo (AV.of T (.sl e) x)
    obtain ⟨hlen, hcells⟩ := put_cells (s := s1) (l := l) (v := AV.of T (.sl e) x)
    have hmem : ∀ j ∈ ts.filterMap id, j ∈ (t :: ts).filterMap id := fun j hj => by
      cases t with
      | none => simpa using hj
      | some i0 => simp at hj ⊢; exact .inr hj
    have htn : (ts.filterMap id).Nodup := by
      cases t with
      | none => simpa using hn
      | some i0 => simp at hn; exact hn.2
    have main : ∃ γ1, SR T γ1 w s1 a ∧ Ext γ w γ1 w ∧ VRel T γ1 w (AV.of T (.sl e) x) val ∧ (∀ j ∈ ts.filterMap id, ∀ (c2 : Cd) (L2 : List (den U c2)) (wr2 : Bool) (base2 : Option Addr) (cap2 : Nat),
        RowOf T γ w (.obj j) c2 L2 wr2 base2 cap2 → RowOf T γ1 w (.obj j) c2 L2 wr2 base2 cap2) ∧ ∀ j ∈ ts.filterMap id, ∀ (kc vc : Cd) (M : List (den U kc × den U vc)) (b : Nat),
        MapOf T γ w (.obj j) kc vc M b → MapOf T γ1 w (.obj j) kc vc M b := by
      rcases h2 with ⟨rfl, h2⟩ | ⟨i, wr', bs, cap, rfl, rfl, h5⟩
      · exact ⟨γ, hs, Ext.refl _ _, h2, fun _ _ _ _ _ _ _ h => h, fun _ _ _ _ _ _ h => h⟩
      · have hi : s1.heap.length ≤ i := by have := hK i (by simp); omega
        obtain ⟨γ1, r1, r2, r3, r4, r5⟩ := row_frz ok hs.heap hi h5
        have hji : ∀ j ∈ ts.filterMap id, j ≠ i := by
          rintro j hj rfl
          simp at hn
          exact hn.1 (by simpa using hj)
        exact ⟨γ1, ⟨r1, hs.base, hs.len, hs.defers, fun t av ht => (hs.rel t av ht).mono r2⟩, r2, r3, fun j hj c2 L2 wr2 base2 cap2 h => r4 j (hji j hj) c2 L2 wr2 base2 cap2 h, fun j hj kc vc M b h => r5 j (hji j hj) kc vc M b h⟩
    obtain ⟨γ1, r1, r2, r3, r4, r5⟩ := main
    have hat := h1.mono (s' := s1) r2 (fun _ _ _ => rfl) (fun id cs h => ⟨cs, h, rfl⟩)
    have hp' := Pends.mono ok (s' := l.put s1 (AV.of T (.sl e) x)) r2 hcells (ls := ls) (xs := xs) (ts := ts) (fun p hp t off e => by
      have ht : t ∉ W := by
        have := hl p (List.mem_cons_of_mem _ hp)
        rw [e] at this
        exact this.1
      rw [hd'.tmps t ht, hd.tmps t ht]) r4 r5 h3
    obtain ⟨γ', q1, q2, q3⟩ := putLocs_sr ok (ls := ls) (xs := xs) (ts := ts) (r1.put hat r3) hd' (fun p hp => hl p (List.mem_cons_of_mem _ hp)) hp' htn (fun i hi => by
      have := hK i (hmem i hi)
      simp only [List.length_cons] at this
      rw [hlen]; omega)
    exact ⟨γ', q1, r2.trans q2, q3⟩
  | (l, .asl e wr) :: ls, _, [], s1, γ, hs, hd, hl, hp, hn, hK => hp.elim
  | (l, .asl e wr) :: ls, (x, xs), t :: ts, s1, γ, hs, hd, hl, hp, hn, hK => by
    obtain ⟨⟨bs, cap, wr', h1, h2, h3⟩, h4⟩ := hp
    have hlo := hl _ List.mem_cons_self
    let i := t.getD s1.heap.length
    have hi : s1.heap.length ≤ i := by
      cases t with
      | none => exact Nat.le_refl _
      | some i0 => have := hK i0 (by simp); show s1.heap.length ≤ i0; omega
    have hrow : RowOf T γ w (.obj i) e x wr' bs cap := h3 i (by
      cases t with
      | none => exact .inr rfl
      | some i0 => exact .inl rfl)
    obtain ⟨γ1, r1, r2, r3, r4, r5⟩ := row_tag ok (wr := wr) hs.heap hi hrow h2
    let s2 : St U := { s1 with heap := s1.heap ++ [.arr e x 0 wr] }
    have hs2 : SR T γ1 w s2 a := ⟨r1, by have := hs.base; simp [s2]; omega, hs.len, hs.defers, fun t av ht => (hs.rel t av ht).mono r2⟩
    have hd2 : Hd W s ids mu base muB s2 := ⟨hd.br.push _, hd.tmps, hd.len, hd.base, hd.mu⟩
    have hat2 : At γ1 w s2 a l (.slice bs x.length cap) := h1.mono r2 (fun _ _ _ => rfl) (fun id cs h => ⟨cs, by
      have hlt := (List.getElem?_eq_some_iff.1 h).1
      show (s1.heap ++ _)[id]? = _
      rw [List.getElem?_append_left hlt]; exact h, rfl⟩)
    have hs3 := hs2.put hat2 r3
    have hd3 := hd2.put hlo (.sl s1.heap.length 0)
    obtain ⟨hlen2, hcells2⟩ := put_cells (s := s2) (l := l) (v := .sl s1.heap.length 0)
    have hlen : (l.put s2 (.sl s1.heap.length 0)).heap.length = s1.heap.length + 1 := by rw [hlen2]; simp [s2]
    have hcells : ∀ (id : Nat) cs, s1.heap[id]? = some (.cells cs) → ∃ cs', (l.put s2 (.sl s1.heap.length 0)).heap[id]? = some (.cells cs') ∧ cs'.length = cs.length := by
      intro id cs hid
      refine hcells2 id cs ?_
      have hlt := (List.getElem?_eq_some_iff.1 hid).1
      show (s1.heap ++ _)[id]? = _
      rw [List.getElem?_append_left hlt]; exact hid
    have hmem : ∀ j ∈ ts.filterMap id, j ∈ (t :: ts).filterMap id := fun j hj => by
      cases t with
      | none => simpa using hj
      | some i0 => simp at hj ⊢; exact .inr hj
    have hji : ∀ j ∈ ts.filterMap id, j ≠ i := by
      intro j hj
      cases t with
      | none =>
        have := hK j (hmem j hj)
        simp only [List.length_cons] at this
        show j ≠ s1.heap.length
        omega
      | some i0 =>
        show j ≠ i0
        rintro rfl
        simp at hn
        exact hn.1 (by simpa using hj)
    have hp' := Pends.mono ok (s' := l.put s2 (.sl s1.heap.length 0)) r2 hcells (ls := ls) (xs := xs) (ts := ts) (fun p hp t off e => by
      have ht : t ∉ W := by
        have := hl p (List.mem_cons_of_mem _ hp)
        rw [e] at this
        exact this.1
      rw [hd3.tmps t ht, hd.tmps t ht]) (fun j hj c2 L2 wr2 base2 cap2 h => r4 j (hji j hj) c2 L2 wr2 base2 cap2 h) (fun j hj kc vc M b h => r5 j (hji j hj) kc vc M b h) h4
    obtain ⟨γ', q1, q2, q3⟩ := putLocs_sr ok (ls := ls) (xs := xs) (ts := ts) hs3 hd3 (fun p hp => hl p (List.mem_cons_of_mem _ hp)) hp'
      (by
        cases t with
        | none => simpa using hn
        | some i0 => simp at hn; exact hn.2)
      (fun j hj => by
        have := hK j (hmem j hj)
        simp only [List.length_cons] at this
        rw [hlen]; omega)
    exact ⟨γ', q1, r2.trans q2, q3⟩
  | (l, .mp k v) :: ls, _, [], s1, γ, hs, hd, hl, hp, hn, hK => hp.elim
  | (l, .mp k v) :: ls, (x, xs), t :: ts, s1, γ, hs, hd, hl, hp, hn, hK => by
    obtain ⟨⟨b, i, h1, rfl, h3⟩, h4⟩ := hp
    have hlo := hl _ List.mem_cons_self
    have hi : s1.heap.length ≤ i := by have := hK i (by simp); omega
    obtain ⟨γ1, r1, r2, r3, r4, r5⟩ := map_tag ok hs.heap hi h3
    let s2 : St U := { s1 with heap := s1.heap ++ [.mp k v x] }
    have hs2 : SR T γ1 w s2 a := ⟨r1, by have := hs.base; simp [s2]; omega, hs.len, hs.defers, fun t av ht => (hs.rel t av ht).mono r2⟩
    have hd2 : Hd W s ids mu base muB s2 := ⟨hd.br.push _, hd.tmps, hd.len, hd.base, hd.mu⟩
    have hat2 : At γ1 w s2 a l (.map (some b)) := h1.mono r2 (fun _ _ _ => rfl) (fun id cs h => ⟨cs, by
      have hlt := (List.getElem?_eq_some_iff.1 h).1
      show (s1.heap ++ _)[id]? = _
      rw [List.getElem?_append_left hlt]; exact h, rfl⟩)
    have hs3 := hs2.put hat2 r3
    have hd3 := hd2.put hlo (.map s1.heap.length)
    obtain ⟨hlen2, hcells2⟩ := put_cells (s := s2) (l := l) (v := .map s1.heap.length)
    have hlen : (l.put s2 (.map s1.heap.length)).heap.length = s1.heap.length + 1 := by rw [hlen2]; simp [s2]
    have hcells : ∀ (id : Nat) cs, s1.heap[id]? = some (.cells cs) → ∃ cs', (l.put s2 (.map s1.heap.length)).heap[id]? = some (.cells cs') ∧ cs'.length = cs.length := by
      intro id cs hid
      refine hcells2 id cs ?_
      have hlt := (List.getElem?_eq_some_iff.1 hid).1
      show (s1.heap ++ _)[id]? = _
      rw [List.getElem?_append_left hlt]; exact hid
    have hmem : ∀ j ∈ ts.filterMap id, j ∈ (some i :: ts).filterMap id := fun j hj => by simp at hj ⊢; exact .inr hj
    have hji : ∀ j ∈ ts.filterMap id, j ≠ i := by
      rintro j hj rfl
      simp at hn
      exact hn.1 (by simpa using hj)
    have hp' := Pends.mono ok (s' := l.put s2 (.map s1.heap.length)) r2 hcells (ls := ls) (xs := xs) (ts := ts) (fun p hp t off e => by
      have ht : t ∉ W := by
        have := hl p (List.mem_cons_of_mem _ hp)
        rw [e] at this
        exact this.1
      rw [hd3.tmps t ht, hd.tmps t ht]) (fun j hj c2 L2 wr2 base2 cap2 h => r4 j (hji j hj) c2 L2 wr2 base2 cap2 h) (fun j hj kc vc M b h => r5 j (hji j hj) kc vc M b h) h4
    obtain ⟨γ', q1, q2, q3⟩ := putLocs_sr ok (ls := ls) (xs := xs) (ts := ts) hs3 hd3 (fun p hp => hl p (List.mem_cons_of_mem _ hp)) hp'
      (by simp at hn; exact hn.2)
      (fun j hj => by
        have := hK j (hmem j hj)
        simp only [List.length_cons] at this
        rw [hlen]; omega)
    exact ⟨γ', q1, r2.trans q2, q3⟩

end
end Go.Ab

namespace Go.Ab
section
variable {U : Nat → Type} {T : Tab U} {C : Callee U} {n : Nat} {P : Program} {R : Type}

/-- A row that is read: its cells. -/
theorem read_row {γ : Gh} {w : World} {H : Heap U} {v : AV U} {val : Value} {e : Cd} {wr : Bool} {x : List (den U e)} {idk : List Nat} (hH : HRel T γ w H) (hv : VRel T γ w v val)
    (h : (Mo.asl e wr).read T H v = some (x, idk)) : ∃ base cap wr', val = .slice base x.length cap ∧ (wr = true → wr' = true) ∧
      ((∃ id, idk = [id] ∧ (∀ cs, H[id]? ≠ some (.cells cs)) ∧ RowOf T γ w (.obj id) e x wr' base cap) ∨ (idk = [] ∧ ∀ i, RowOf T γ w (.obj i) e x wr' base cap)) := by
  simp only [Mo.read] at h
  split at h
  · cases h
    cases hv
    exact ⟨none, 0, true, rfl, fun _ => rfl, .inr ⟨rfl, fun i => ⟨Nat.le_refl _, fun _ => rfl, fun a h => by cases h⟩⟩⟩
  · rename_i c L
    split at h
    · rename_i hc
      subst hc
      cases h
      cases hv with
      | fsl c L sp base len cap vs hl hcap hsp hn hs hcell hvs =>
        subst hl
        simp only [spOk] at hsp
        subst hsp
        have hL : L = [] := List.eq_nil_of_length_eq_zero (by omega)
        subst hL
        refine ⟨base, 0, true, rfl, fun _ => rfl, .inr ⟨rfl, fun i => ⟨Nat.le_refl _, fun _ => rfl, fun a ha => ⟨hs a ha, fun o l1 l2 => ?_, fun i y hy => by simp at hy⟩⟩⟩⟩
        simp at l1 l2
        omega
    · cases h
  · rename_i c L
    split at h
    · rename_i hc
      subst hc
      split at h
      · cases h
      · rename_i hw
        cases h
        have hw : wr = false := by simpa using hw
        subst hw
        cases hv with
        | fsl c L sp base len cap vs hl hcap hsp hn hs hcell hvs =>
          subst hl
          simp only [spOk] at hsp
          subst hsp
          refine ⟨base, L.length, false, rfl, fun e => (by cases e), .inr ⟨rfl, fun i => ⟨Nat.le_refl _, hn, fun a ha => ⟨hs a ha, fun o l1 l2 => (by
            have l1 : a.off + L.length * c.size T ≤ o := l1
            omega), fun k y hy j av hj => ?_⟩⟩⟩⟩
          obtain ⟨q1, q2, q3⟩ := hcell a ha k y hy j av hj
          exact ⟨by simpa using q1, fun e => (by cases e), _, q2, q3, hvs k y hy j av hj⟩
    · cases h
  · rename_i id ver
    split at h
    · rename_i c L ver' w' ho
      split at h
      · rename_i hc
        subst hc
        split at h
        · rename_i hvw
          obtain ⟨rfl, hw⟩ := hvw
          cases h
          obtain ⟨base, cap, q1, q2⟩ := arr_row.1 (hH.objs _ _ ho)
          cases hv with
          | sl _ _ base' len cap' size hs =>
            rw [q1] at hs
            cases hs
            refine ⟨base, cap, w', rfl, fun e => ?_, .inl ⟨id, rfl, (fun cs e => by rw [ho] at e; cases e), q2⟩⟩
            rcases hw with hw | hw
            · rw [e] at hw; cases hw
            · exact hw
        · cases h
      · cases h
    · cases h
  · cases h

theorem read_pure {H : Heap U} {v : AV U} {cd : Cd} {x : den U cd} {idk : List Nat} (h : (Mo.pure cd).read T H v = some (x, idk)) : v.to T cd = some x ∧ idk = [] := by
  have h2 : (v.to T cd).map (fun x => (x, ([] : List Nat))) = some (x, idk) := h
  cases hq : v.to T cd with
  | none => rw [hq] at h2; cases h2
  | some y =>
    rw [hq] at h2
    have h3 : some (y, ([] : List Nat)) = some (x, idk) := h2
    simp only [Option.some.injEq, Prod.mk.injEq] at h3
    exact ⟨by rw [h3.1], h3.2.symm⟩

/-- A row that is read for good. -/
theorem read_frz (ok : T.Ok P) {γ : Gh} {w : World} {H : Heap U} {v : AV U} {val : Value} {e : Cd} {x : List (den U e)} {idk : List Nat} (hH : HRel T γ w H) (hv : VRel T γ w v val)
    (h : (Mo.frz e).read T H v = some (x, idk)) : (∃ id wr' base cap, idk = [id] ∧ val = .slice base x.length cap ∧ (∀ cs, H[id]? ≠ some (.cells cs)) ∧ RowOf T γ w (.obj id) e x wr' base cap) ∨
      (idk = [] ∧ VRel T γ w (AV.of T (.sl e) x) val) := by
  simp only [Mo.read] at h
  split at h
  · rename_i id ver
    split at h
    · rename_i c L ver' w' ho
      split at h
      · rename_i hc
        subst hc
        split at h
        · rename_i hvw
          subst hvw
          cases h
          obtain ⟨base, cap, q1, q2⟩ := arr_row.1 (hH.objs _ _ ho)
          cases hv with
          | sl _ _ base' len cap' size hs =>
            rw [q1] at hs
            cases hs
            exact .inl ⟨id, w', base, cap, rfl, rfl, (fun cs e => by rw [ho] at e; cases e), q2⟩
        · cases h
      · cases h
    · cases h
  · cases hq : v.to T (.sl e) with
    | none => rw [hq] at h; cases h
    | some y =>
      rw [hq] at h
      have h3 : some (y, ([] : List Nat)) = some (x, idk) := h
      obtain ⟨h4, h5⟩ := Prod.mk.inj (Option.some.inj h3)
      subst h4 h5
      exact .inr ⟨rfl, to_rel ok hq hv⟩

/-- A map that is read: what it holds. -/
theorem read_map {γ : Gh} {w : World} {H : Heap U} {v : AV U} {val : Value} {k v' : Cd} {x : List (den U k × den U v')} {idk : List Nat} (hH : HRel T γ w H) (hv : VRel T γ w v val)
    (h : (Mo.mp k v').read T H v = some (x, idk)) : ∃ id b, idk = [id] ∧ val = .map (some b) ∧ (∀ cs, H[id]? ≠ some (.cells cs)) ∧ MapOf T γ w (.obj id) k v' x b := by
  simp only [Mo.read] at h
  split at h
  · rename_i id
    split at h
    · rename_i kc vc M ho
      split at h
      · rename_i hc
        obtain ⟨hc1, hc2⟩ := hc
        subst hc1 hc2
        cases h
        obtain ⟨b, es, clock, q1, q2, q3, q4, q5⟩ := hH.objs _ _ ho
        cases hv with
        | map id b' hb =>
          rw [q1] at hb
          cases hb
          exact ⟨id, b, rfl, rfl, (fun cs e => by rw [ho] at e; cases e), es, clock, q2, q3, q4, q5⟩
      · cases h
    · cases h
  · cases h

/-- A place of a cell, as the loop has met it. -/
def CellOK (s : St U) : Loc → Prop
  | .tmp _ => True
  | .cell t off => ∃ id o cs, s.tmps[t]? = some (.ptr id o) ∧ s.heap[id]? = some (.cells cs) ∧ o + off < cs.length

theorem look_cell {s : St U} {l : Loc} {v : AV U} (h : l.look s = some v) : CellOK s l := by
  cases l with
  | tmp t => trivial
  | cell t off =>
    simp only [Loc.look] at h
    split at h
    · rename_i id o hq
      split at h
      · rename_i cs ho
        exact ⟨id, o, cs, hq, ho, (List.getElem?_eq_some_iff.1 h).1⟩
      · cases h
    · cases h

theorem read_cells {s : St U} : ∀ {ls : List (Loc × Mo)} {xs : HL U (ls.map (·.2.code))} {ids : List Nat}, readLocs T s ls = some (xs, ids) → ∀ p ∈ ls, CellOK s p.1
  | [], _, _, _, p, hp => by cases hp
  | (l, m) :: ls, xs, ids, h, p, hp => by
    simp only [readLocs] at h
    split at h
    · cases h
    · rename_i v hv
      split at h
      · cases h
      · split at h
        · cases h
        · rename_i xs1 ids1 h1
          rcases List.mem_cons.1 hp with rfl | hp
          · exact look_cell hv
          · exact read_cells h1 p hp

theorem read_pends (ok : T.Ok P) {γ : Gh} {w : World} {s s' : St U} {a : Act} {W : List Tmp} {ids idsAll : List Nat} {mu : List (Nat × Nat)} {K : Nat} (hs : SR T γ w s' a) (hB : BR s ids mu s'.heap)
    (ht : ∀ t, t ∉ W → s'.tmps[t]? = s.tmps[t]?) (hlow : belowL s.heap.length (baseOf W s ids mu).tmps = true) (hids : ∀ i ∈ ids, ∀ cs, s.heap[i]? ≠ some (.cells cs)) :
    ∀ {ls : List (Loc × Mo)} {xs : HL U (ls.map (·.2.code))} {ids' : List Nat}, (∀ p ∈ ls, CellOK s p.1) → locsOk W ls = true → (∀ i ∈ ids', i ∈ idsAll) → readLocs T s' ls = some (xs, ids') →
      (∀ i ∈ ids', ∀ cs, s'.heap[i]? ≠ some (.cells cs)) ∧ ∃ ts, ts.filterMap id = ids'.map (· + K) ∧ Pends T (γ.low s.heap.length idsAll K) w (baseOf W s ids mu) a ls xs ts
  | [], xs, ids', _, _, _, h => by
    simp only [readLocs, Option.some.injEq, Prod.mk.injEq] at h
    obtain ⟨_, rfl⟩ := h
    exact ⟨(fun i hi => by cases hi), [], rfl, rfl⟩
  | (l, m) :: ls, xs, ids', hc, hlo, hsub, h => by
    simp only [readLocs] at h
    split at h
    · cases h
    · rename_i v hv
      split at h
      · cases h
      · rename_i x idk hx
        split at h
        · cases h
        · rename_i xs1 ids1 h1
          cases h
          have hlo1 : locsOk W ls = true := by
            unfold locsOk at hlo ⊢
            simp only [List.all_cons, Bool.and_eq_true] at hlo
            exact hlo.2
          obtain ⟨r1, ts, r2, r3⟩ := read_pends (K := K) ok hs hB ht hlow hids (fun p hp => hc p (List.mem_cons_of_mem _ hp)) hlo1 (fun i hi => hsub i (List.mem_append_right _ hi)) h1
          -- what lies there
          have hat : ∃ val, At (γ.low s.heap.length idsAll K) w (baseOf W s ids mu) a l val ∧ VRel T γ w v val := by
            cases l with
            | tmp t => exact ⟨_, rfl, hs.rel t v hv⟩
            | cell t off =>
              obtain ⟨id, o, cs, q1, q2, q3⟩ := hc _ List.mem_cons_self
              have htw : t ∉ W := by
                unfold locsOk at hlo
                simp only [List.all_cons, Bool.and_eq_true, Bool.not_eq_true'] at hlo
                simpa using hlo.1
              have ht0 : (baseOf W s ids mu).tmps[t]? = some (.ptr id o) := by
                have htw' : W.contains t = false := by simpa using htw
                simp [baseOf, q1, htw]
              have hidlt : id < s.heap.length := by
                have := belowL_get hlow ht0
                simpa [AV.lows] using this
              obtain ⟨cs', p1, p2, _⟩ := hB.cells id cs q2
              have hst : s'.tmps[t]? = some (.ptr id o) := (ht t htw).trans q1
              simp only [Loc.look, hst, p1] at hv
              obtain ⟨b, m1, m2⟩ := hs.heap.objs id _ p1
              obtain ⟨_, _, y, m3, _, m5⟩ := m2 (o + off) v hv
              refine ⟨y, ⟨id, o, b, cs.mapIdx fun off v => if mu.contains (id, off) then .top else v, ht0, ?_, by simpa using q3, by simp only [Gh.low]; rw [if_pos hidlt]; exact m1, m3⟩, m5⟩
              have hni : id ∉ ids := fun e => hids id e cs q2
              have hni' : ids.contains id = false := by simpa using hni
              simp [baseOf, q2, hni]
          obtain ⟨val, ha, hval⟩ := hat
          cases m with
          | pure cd =>
            obtain ⟨hx', rfl⟩ := read_pure hx
            exact ⟨r1, ts, r2, ⟨val, ha, VRel.of_plain ok (to_rel ok hx' hval) (fun b o h => low_frz (w := w) b o h)⟩, r3⟩
          | asl e wr =>
            obtain ⟨base, cap, wr', rfl, hw, hrow⟩ := read_row hs.heap hval hx
            rcases hrow with ⟨id, rfl, hnc, hrow⟩ | ⟨rfl, hrow⟩
            · refine ⟨fun i hi => ?_, some (id + K) :: ts, by simp [r2], ⟨base, cap, wr', ha, hw, fun i hi => ?_⟩, r3⟩
              · rcases List.mem_append.1 hi with hi | hi
                · simp at hi; subst hi; exact hnc
                · exact r1 i hi
              · rcases hi with hi | hi
                · cases hi
                  refine hrow.low ok fun b o ho => ?_
                  simp only [Gh.low, ho]
                  rw [if_pos (hsub id (by simp))]
                · cases hi
            · exact ⟨by simpa using r1, none :: ts, by simpa using r2, ⟨base, cap, wr', ha, hw, fun i _ => RowOf.any ok (fun b o h => low_frz (w := w) b o h) hrow _⟩, r3⟩
          | frz e =>
            rcases read_frz ok hs.heap hval hx with ⟨id, wr', base, cap, rfl, rfl, hnc, hrow⟩ | ⟨rfl, hv'⟩
            · refine ⟨fun i hi => ?_, some (id + K) :: ts, by simp [r2], ⟨_, ha, .inr ⟨id + K, wr', base, cap, rfl, rfl, ?_⟩⟩, r3⟩
              · rcases List.mem_append.1 hi with hi | hi
                · simp at hi; subst hi; exact hnc
                · exact r1 i hi
              · refine hrow.low ok fun b o ho => ?_
                simp only [Gh.low, ho]
                rw [if_pos (hsub id (by simp))]
            · exact ⟨by simpa using r1, none :: ts, by simpa using r2, ⟨_, ha, .inl ⟨rfl, VRel.of_plain ok hv' (fun b o h => low_frz (w := w) b o h)⟩⟩, r3⟩
          | mp k v' =>
            obtain ⟨id, b, rfl, rfl, hnc, hm⟩ := read_map hs.heap hval hx
            refine ⟨fun i hi => ?_, some (id + K) :: ts, by simp [r2], ⟨b, id + K, ha, rfl, ?_⟩, r3⟩
            · rcases List.mem_append.1 hi with hi | hi
              · simp at hi; subst hi; exact hnc
              · exact r1 i hi
            · refine hm.keep ok (fun b o h => low_frz (w := w) b o h) fun ho => ?_
              simp only [Gh.low, ho]
              rw [if_pos (hsub id (by simp))]

theorem mut_spec {s : St U} : ∀ {ls : List (Loc × Mo)} {mu : List (Nat × Nat)}, mutOf s ls = some mu →
    (∀ p ∈ ls, ∀ t off, p.1 = .cell t off → ∀ id o, s.tmps[t]? = some (.ptr id o) → (id, o + off) ∈ mu) ∧ ∀ q ∈ mu, ∃ p ∈ ls, ∃ t off o, p.1 = .cell t off ∧ s.tmps[t]? = some (.ptr q.1 o)
  | [], mu, h => by
    simp only [mutOf, Option.some.injEq] at h
    subst h
    exact ⟨(fun p hp => by cases hp), (fun q hq => by cases hq)⟩
  | (.tmp t, m) :: ls, mu, h => by
    simp only [mutOf] at h
    obtain ⟨h1, h2⟩ := mut_spec h
    refine ⟨fun p hp t' off e => ?_, fun q hq => ?_⟩
    · rcases List.mem_cons.1 hp with rfl | hp
      · cases e
      · exact h1 p hp t' off e
    · obtain ⟨p, hp, r⟩ := h2 q hq
      exact ⟨p, List.mem_cons_of_mem _ hp, r⟩
  | (.cell t off, m) :: ls, mu, h => by
    simp only [mutOf] at h
    split at h
    · rename_i id o hq
      cases hm : mutOf s ls with
      | none => rw [hm] at h; cases h
      | some mu1 =>
        rw [hm] at h
        cases h
        obtain ⟨h1, h2⟩ := mut_spec hm
        refine ⟨fun p hp t' off' e id' o' hq' => ?_, fun q hqm => ?_⟩
        · rcases List.mem_cons.1 hp with rfl | hp
          · cases e
            rw [hq] at hq'
            cases hq'
            exact List.mem_cons_self
          · exact List.mem_cons_of_mem _ (h1 p hp t' off' e id' o' hq')
        · rcases List.mem_cons.1 hqm with rfl | hqm
          · exact ⟨_, List.mem_cons_self, t, off, o, rfl, hq⟩
          · obtain ⟨p, hp, r⟩ := h2 q hqm
            exact ⟨p, List.mem_cons_of_mem _ hp, r⟩
    · cases h

end
end Go.Ab

namespace Go.Ab
section
variable {U : Nat → Type} {T : Tab U} {C : Callee U} {n : Nat} {P : Program} {R : Type}

def exitOf : AEx → Exit
  | .normal => .normal
  | .exit id => .exit id
  | .ret => .ret
  | .goto l => .goto l

theorem SR.opd {γ : Gh} {w : World} {s : St U} {a : Act} (h : SR T γ w s a) (x : Operand) : VRel T γ w (opd s.tmps [] x) (a.eval x) :=
  (h.ri (ops := #[])).opd (ch := []) rfl x

/-- The states at a loop's head stay within what the loop may turn. -/
theorem out_ro {s : St U} {ids : List Nat} {mu : List (Nat × Nat)} {H : Heap U} (hB : BR s ids mu H) (h1 : mu.all (fun p => s.may p.1 p.2) = true) (h2 : ids.all (fun j => s.may j 0) = true) : RO s.base s.mu s.heap H := by
  refine ⟨hB.len, fun id cs hid hc => ?_, fun id ob hid ho hn hm => ?_⟩
  · obtain ⟨cs', q1, q2, q3⟩ := hB.cells id cs hc
    refine ⟨cs', q1, q2, fun off hoff => q3 off fun hmu => ?_⟩
    have := List.all_eq_true.1 h1 _ hmu
    rcases may_iff this with h | h
    · exact absurd h (by simp; omega)
    · exact hoff h
  · refine hB.other id ob ho hn fun hi => ?_
    have := List.all_eq_true.1 h2 _ hi
    rcases may_iff this with h | h
    · omega
    · exact hm h

theorem BR.trans {s : St U} {ids : List Nat} {mu : List (Nat × Nat)} {H H' : Heap U} (hB : BR s ids mu H) (hmu : ∀ q ∈ mu, ∃ cs, s.heap[q.1]? = some (.cells cs)) (h : RO s.heap.length mu H H') : BR s ids mu H' := by
  refine ⟨Nat.le_trans hB.len h.len, fun id cs hc => ?_, fun id ob ho hn hi => ?_⟩
  · have hlt := (List.getElem?_eq_some_iff.1 hc).1
    obtain ⟨cs', q1, q2, q3⟩ := hB.cells id cs hc
    obtain ⟨cs'', r1, r2, r3⟩ := h.cells id cs' hlt q1
    exact ⟨cs'', r1, r2.trans q2, fun off hoff => (r3 off hoff).trans (q3 off hoff)⟩
  · have hlt := (List.getElem?_eq_some_iff.1 ho).1
    refine h.other id ob hlt (hB.other id ob ho hn hi) hn fun hm => ?_
    obtain ⟨cs, hcs⟩ := hmu _ hm
    rw [ho] at hcs
    cases hcs
    exact hn cs rfl

/-- What is proved of a body. -/
def CodeOK (P : Program) (T : Tab U) (e : Env U) (inl : Inl U R) (fid : FuncId) (lid : Nat) (c : Code) : Prop :=
  ∀ (s : St U) (k : AEx → St U → Option R) (r : R) (γ : Gh) (w : World) (a : Act) (Q : Exit → Act → World → Prop), SR T γ w s a → execK e inl fid lid c s k = some r →
    (∀ x s' γ' w' a', k x s' = some r → SR T γ' w' s' a' → Ext γ w γ' w' → Fr (wrote e.ann fid lid c) s s' → Q (exitOf x) a' w') → c.wp P Q a w

/-- A state is taken over at a head. -/
theorem head_sr (ok : T.Ok P) {W : List Tmp} {ls : List (Loc × Mo)} {s : St U} {xs : HL U (ls.map (·.2.code))} {ids : List Nat} {mu : List (Nat × Nat)} {γ : Gh} {w : World} {a : Act} (hs : SR T γ w s a)
    (hread : readLocs T s ls = some (xs, ids)) (hmut : mutOf s ls = some mu) (hlo : locsOk W ls = true) (hlow : belowL s.heap.length (baseOf W s ids mu).tmps = true)
    (hlowH : (baseOf W s ids mu).heap.all (Obj.lows s.heap.length) = true) :
    (∀ q ∈ mu, ∃ cs, s.heap[q.1]? = some (.cells cs)) ∧ ∀ (s' : St U) (xs' : HL U (ls.map (·.2.code))) (ids' : List Nat) (γ' : Gh) (w' : World) (a' : Act), readLocs T s' ls = some (xs', ids') → ids'.Nodup → (∀ i ∈ ids', s.heap.length ≤ i ∨ i ∈ ids) → SR T γ' w' s' a' → BR s ids mu s'.heap →
      (∀ t, t ∉ W → s'.tmps[t]? = s.tmps[t]?) → s'.tmps.length = s.tmps.length → Ext γ w γ' w' →
      ∃ γ1, SR T γ1 w' (putLocs T ls xs' (baseOf W s ids mu)) a' ∧ Ext γ w γ1 w' ∧ Hd W s ids mu s.heap.length mu (putLocs T ls xs' (baseOf W s ids mu)) := by
  let N := s.heap.length
  have hcell := read_cells hread
  obtain ⟨hmu1, hmu2⟩ := mut_spec hmut
  have hmuc : ∀ q ∈ mu, ∃ cs, s.heap[q.1]? = some (.cells cs) := by
    intro q hq
    obtain ⟨p, hp, t, off, o, e1, e2⟩ := hmu2 q hq
    have := hcell p hp
    rw [e1] at this
    obtain ⟨id, o', cs, q1, q2, _⟩ := this
    rw [e2] at q1
    cases q1
    exact ⟨cs, q2⟩
  have hidsc : ∀ i ∈ ids, ∀ cs, s.heap[i]? ≠ some (.cells cs) :=
    (read_pends (W := W) (idsAll := ids) (K := 0) ok hs (BR.refl s [] []) (fun _ _ => rfl) (by
      -- no matter: nothing is taken from it
      exact (by simpa [baseOf] using hlow)) (fun i hi => by cases hi) hcell hlo (fun i hi => hi) hread).1
  have hlocs : ∀ p ∈ ls, LocOK W s mu p.1 := by
    intro p hp
    obtain ⟨l, m⟩ := p
    have hl := List.all_eq_true.1 hlo _ hp
    cases l with
    | tmp t => simpa [LocOK] using hl
    | cell t off => exact ⟨by simpa using hl, fun id o hq => hmu1 _ hp t off rfl id o hq⟩
  refine ⟨hmuc, ?_⟩
  intro s' xs' ids' γ' w' a' hr hnd' hfresh hs' hB ht hlen hx
  let K := N + ls.length
  obtain ⟨hnc, ts, hts, hp⟩ := read_pends (K := K) (idsAll := ids') ok hs' hB ht hlow hidsc hcell hlo (fun i hi => hi) hr
  have hH1 := HRel.low (K := K) (W := W) ok hs'.heap hB hfresh hnc hlowH
  have hx1 : Ext γ w (γ'.low N ids' K) w' := low_ext hs.heap rfl hx
  have hblen : (baseOf W s ids mu).heap.length = N := by simp [baseOf, N]
  have hs0 : SR T (γ'.low N ids' K) w' (baseOf W s ids mu) a' := by
    refine ⟨hH1, by rw [hblen]; exact Nat.le_refl _, ?_, hs'.defers, fun t av ht0 => ?_⟩
    · have : (baseOf W s ids mu).tmps.length = s.tmps.length := by simp [baseOf]
      rw [this, ← hlen]; exact hs'.len
    · have hl := belowL_get hlow ht0
      simp only [baseOf, List.getElem?_mapIdx, Option.map_eq_some_iff] at ht0
      obtain ⟨av0, h0, h1⟩ := ht0
      split at h1
      · subst h1; exact .top _
      · rename_i hw
        subst h1
        have hw' : t ∉ W := by simpa using hw
        exact VRel.low ok (hs'.rel t av0 ((ht t hw').trans h0)) hl
  have hd0 : Hd W s ids mu N mu (baseOf W s ids mu) := by
    refine ⟨⟨by rw [hblen]; exact Nat.le_refl _, fun id cs hc => ?_, fun id ob ho hn hi => ?_⟩, fun t ht => ?_, by simp [baseOf], rfl, rfl⟩
    · have hni : id ∉ ids := fun e => hidsc id e cs hc
      refine ⟨cs.mapIdx fun off v => if mu.contains (id, off) then .top else v, by simp [baseOf, hc, hni], by simp, fun off hoff => ?_⟩
      simp only [List.getElem?_mapIdx]
      have : mu.contains (id, off) = false := by simpa using hoff
      rw [this]
      cases cs[off]? <;> rfl
    · simp only [baseOf, List.getElem?_mapIdx, ho, Option.map_some]
      have : ids.contains id = false := by simpa using hi
      rw [this]
      cases ob with
      | cells cs => exact absurd rfl (hn cs)
      | _ => rfl
    · have : W.contains t = false := by simpa using ht
      simp only [baseOf, List.getElem?_mapIdx, this]
      cases s.tmps[t]? <;> rfl
  obtain ⟨γ1, q1, q2, q3⟩ := putLocs_sr ok (ls := ls) (xs := xs') (ts := ts) hs0 hd0 hlocs hp
    (by rw [hts]; exact List.Pairwise.map (· + K) (fun a b h e => h (by omega)) hnd')
    (fun i hi => by
      rw [hts] at hi
      obtain ⟨j, _, rfl⟩ := List.mem_map.1 hi
      rw [hblen]
      omega)
  exact ⟨γ1, q1, hx1.trans q2, q3⟩

theorem loop_wp {e : Env U} (cx : Cx e T C n P) {inl : Inl U R} {fid : FuncId} {lid : Nat} {c : Code} (ih : CodeOK P T e inl fid lid c) : CodeOK P T e inl fid lid (.loop c) := by
  intro s k r γ w a Q hs h hk
  simp only [execK] at h
  split at h
  · rename_i xs ids mu hread hmut
    split at h
    · rename_i hcond
      obtain ⟨hlo, hnd, hndl, hmay, hmayi, hlow, hlowH⟩ := hcond
      let ls := e.ann.loop fid lid
      let N := s.heap.length
      let W := wrote e.ann fid lid (.loop c)
      have hsub : ∀ t, t ∉ W → t ∉ wrote e.ann fid lid c := fun t ht hm => ht (List.mem_append_right _ hm)
      rw [cx.ho, cx.hT] at h
      rw [cx.hT] at hread
      obtain ⟨hmuc, head⟩ := head_sr cx.ok hs hread hmut hlo hlow hlowH
      -- the rounds
      have rounds : ∀ (m : Nat) (xs' : HL U (ls.map (·.2.code))) (γ1 : Gh) (w1 : World) (a1 : Act), SR T γ1 w1 (putLocs T ls xs' (baseOf W s ids mu)) a1 → Ext γ w γ1 w1 → Hd W s ids mu N mu (putLocs T ls xs' (baseOf W s ids mu)) →
          iter (fun next xs => execK e inl fid lid c (putLocs T ls xs (baseOf W s ids mu)) fun x s' => match x with
            | .normal => match readLocs T s' ls with
              | some (xs', ids') => if ids'.Nodup ∧ ids'.all (fun j => decide (s.heap.length ≤ j)) then next xs' else none
              | none => none
            | x => k x { s' with base := s.base, mu := s.mu }) m xs' = some r → Code.rounds P c Q m a1 w1 := by
        intro m
        induction m with
        | zero => intro xs' γ1 w1 a1 _ _ _ h; cases h
        | succ m ihm =>
          intro xs' γ1 w1 a1 hs1 hx1 hd1 h
          rw [rounds_succ]
          refine ih _ _ r γ1 w1 a1 _ hs1 h ?_
          intro x s' γ2 w2 a2 hkk hs2 hx2 hfr
          have hro : RO N mu (putLocs T ls xs' (baseOf W s ids mu)).heap s'.heap := by
            have := hfr.ro
            rw [hd1.base, hd1.mu] at this
            exact this
          have hB2 := hd1.br.trans hmuc hro
          have ht2 : ∀ t, t ∉ W → s'.tmps[t]? = s.tmps[t]? := fun t ht => (hfr.tmps t (hsub t ht)).trans (hd1.tmps t ht)
          have hl2 : s'.tmps.length = s.tmps.length := hfr.len.trans hd1.len
          have hout : ∀ (y : AEx), k y { s' with base := s.base, mu := s.mu } = some r → Q (exitOf y) a2 w2 := fun y hy =>
            hk y _ γ2 w2 a2 hy ⟨hs2.heap, Nat.le_trans hs.base hB2.len, hs2.len, hs2.defers, hs2.rel⟩ (hx1.trans hx2)
              ⟨rfl, rfl, out_ro hB2 hmay hmayi, ht2, hl2⟩
          cases x with
          | normal =>
            simp only at hkk
            split at hkk
            · rename_i xs2 ids2 hr2
              split at hkk
              · rename_i hc2
                obtain ⟨γ3, q1, q2, q3⟩ := head s' xs2 ids2 γ2 w2 a2 hr2 hc2.1 (fun i hi => .inl (by simpa using List.all_eq_true.1 hc2.2 i hi)) hs2 hB2 ht2 hl2 (hx1.trans hx2)
                exact ihm xs2 γ3 w2 a2 q1 q2 q3 hkk
              · cases hkk
            · cases hkk
          | exit id => exact hout _ hkk
          | ret => exact hout _ hkk
          | goto l => exact hout _ hkk
      obtain ⟨γ1, q1, q2, q3⟩ := head s xs ids γ w a hread hnd (fun i hi => .inr hi) hs (BR.refl _ _ _) (fun _ _ => rfl) rfl (Ext.refl _ _)
      exact wp_loop_rounds n (rounds n xs γ1 w a q1 q2 q3 h)
    · cases h
  · cases h

theorem block_wp {e : Env U} (cx : Cx e T C n P) {inl : Inl U R} {fid : FuncId} {lid id : Nat} {c : Code} (ih : CodeOK P T e inl fid id c) : CodeOK P T e inl fid lid (.block id c) := by
  intro s k r γ w a Q hs h hk
  simp only [execK] at h
  split at h
  · refine wp_block (ih s _ r γ w a _ hs h ?_)
    intro ex s' γ' w' a' hkk hs' hx' hfr0
    have hfr' : Fr (wrote e.ann fid lid (.block id c)) s s' := hfr0.mono fun t ht => by simp [wrote, ht]
    cases ex with
    | exit id' =>
      simp only at hkk
      simp only [exitOf, Exit.inBlock]
      split at hkk
      · rename_i he
        rw [if_pos he]
        exact hk .normal s' γ' w' a' hkk hs' hx' hfr'
      · rename_i he
        rw [if_neg he]
        exact hk (.exit id') s' γ' w' a' hkk hs' hx' hfr'
    | normal => exact hk _ s' γ' w' a' hkk hs' hx' hfr'
    | ret => exact hk _ s' γ' w' a' hkk hs' hx' hfr'
    | goto l => exact hk _ s' γ' w' a' hkk hs' hx' hfr'
  · rename_i ls hjoin
    rw [cx.hT, cx.ho] at h
    split at h
    · rename_i xs ids mu hread hmut
      split at h
      · rename_i hcond
        obtain ⟨hlo, hnd, hndl, hmay, hmayi, hlow, hlowH⟩ := hcond
        let W := wrote e.ann fid lid (.block id c)
        have hsub : ∀ t, t ∉ W → t ∉ wrote e.ann fid id c := fun t ht hm => ht (List.mem_append_right _ hm)
        obtain ⟨hmuc, head⟩ := head_sr cx.ok hs hread hmut hlo hlow hlowH
        obtain ⟨γ1, p1, p2, p3⟩ := head s xs ids γ w a hread hnd (fun i hi => .inr hi) hs (BR.refl _ _ _) (fun _ _ => rfl) rfl (Ext.refl _ _)
        refine wp_block (ih _ _ r γ1 w a _ p1 h ?_)
        intro x s' γ2 w2 a2 hkk hs2 hx2 hfr
        have hro : RO s.heap.length mu (putLocs T ls xs (baseOf W s ids mu)).heap s'.heap := by
          have := hfr.ro
          rw [p3.base, p3.mu] at this
          exact this
        have hB2 := p3.br.trans hmuc hro
        have ht2 : ∀ t, t ∉ W → s'.tmps[t]? = s.tmps[t]? := fun t ht => (hfr.tmps t (hsub t ht)).trans (p3.tmps t ht)
        have hl2 : s'.tmps.length = s.tmps.length := hfr.len.trans p3.len
        have hout : ∀ (y : AEx), k y { s' with base := s.base, mu := s.mu } = some r → Q (exitOf y) a2 w2 := fun y hy =>
          hk y _ γ2 w2 a2 hy ⟨hs2.heap, Nat.le_trans hs.base hB2.len, hs2.len, hs2.defers, hs2.rel⟩ (p2.trans hx2)
            ⟨rfl, rfl, out_ro hB2 hmay hmayi, ht2, hl2⟩
        have hmeet : (match readLocs T s' ls with
            | some (xs', ids') => if ids'.Nodup ∧ ids'.all (fun j => decide (s.heap.length ≤ j)) then k .normal { putLocs T ls xs' (baseOf W s ids mu) with base := s.base, mu := s.mu } else none
            | none => none) = some r → Q .normal a2 w2 := by
          intro hm
          split at hm
          · rename_i xs2 ids2 hr2
            split at hm
            · rename_i hc2
              obtain ⟨γ3, q1, q2, q3⟩ := head s' xs2 ids2 γ2 w2 a2 hr2 hc2.1 (fun i hi => .inl (by simpa using List.all_eq_true.1 hc2.2 i hi)) hs2 hB2 ht2 hl2 (p2.trans hx2)
              exact hk .normal _ γ3 w2 a2 hm ⟨q1.heap, Nat.le_trans hs.base q3.br.len, q1.len, q1.defers, q1.rel⟩ q2 ⟨rfl, rfl, out_ro q3.br hmay hmayi, q3.tmps, q3.len⟩
            · cases hm
          · cases hm
        cases x with
        | normal => exact hmeet hkk
        | exit id' =>
          simp only [exitOf, Exit.inBlock]
          by_cases he : id' = id
          · rw [if_pos he]
            have hb : meets id (.exit id') = true := decide_eq_true he
            rw [hb] at hkk
            exact hmeet hkk
          · rw [if_neg he]
            have hb : meets id (.exit id') = false := decide_eq_false he
            rw [hb] at hkk
            exact hout (.exit id') hkk
        | ret => exact hout _ hkk
        | goto l => exact hout _ hkk
      · cases h
    · cases h

theorem code_wp {e : Env U} (cx : Cx e T C n P) (hmix : P.follows .mixedOrders = true) {inl : Inl U R} (hinl : InlOK P T inl) {fid : FuncId} : ∀ (c : Code) (lid : Nat), CodeOK P T e inl fid lid c
  | .skip, lid => fun s k r γ w a Q hs h hk => wp_skip (hk .normal s γ w a h hs (Ext.refl _ _) (Fr.refl _ _))
  | .label l, lid => fun s k r γ w a Q hs h hk => wp_label (hk .normal s γ w a h hs (Ext.refl _ _) (Fr.refl _ _))
  | .region id ops draw, lid => fun s k r γ w a Q hs h hk => by
    simp only [execK] at h
    cases draw with
    | false => exact region_wp cx hinl hs h fun s' γ' w' a' q1 q2 q3 q4 => hk .normal s' γ' w' a' q1 q2 q3 q4
    | true => exact region_draw_wp cx hmix hs h fun s' γ' w' a' q1 q2 q3 q4 => hk .normal s' γ' w' a' q1 q2 q3 q4
  | .seq x y, lid => fun s k r γ w a Q hs h hk => by
    simp only [execK] at h
    refine wp_seq (code_wp cx hmix hinl x lid s _ r γ w a _ hs h ?_)
    intro ex s' γ' w' a' hkk hs' hx' hfr'
    have hfr1 : Fr (wrote e.ann fid lid (.seq x y)) s s' := hfr'.mono fun t ht => by simp [wrote, ht]
    cases ex with
    | normal =>
      simp only at hkk
      refine code_wp cx hmix hinl y lid s' _ r γ' w' a' Q hs' hkk ?_
      intro ex2 s2 γ2 w2 a2 q1 q2 q3 q4
      exact hk ex2 s2 γ2 w2 a2 q1 q2 (hx'.trans q3) (hfr1.trans (q4.mono fun t ht => by simp [wrote, ht]))
    | exit id => exact hk _ s' γ' w' a' hkk hs' hx' hfr1
    | ret => exact hk _ s' γ' w' a' hkk hs' hx' hfr1
    | goto l => exact hk _ s' γ' w' a' hkk hs' hx' hfr1
  | .cond c x y, lid => fun s k r γ w a Q hs h hk => by
    simp only [execK] at h
    split at h
    · rename_i t hc
      have hv := hs.opd c
      rw [hc] at hv
      have hev : a.eval c = .bool t := by
        generalize a.eval c = z at hv
        cases hv
        rfl
      rw [cx.ho] at h
      cases t with
      | true =>
        have h' : execK e inl fid lid x s k = some r := by simpa [real] using h
        exact wp_cond_true hev (code_wp cx hmix hinl x lid s k r γ w a Q hs h' fun ex s' γ' w' a' q1 q2 q3 q4 => hk ex s' γ' w' a' q1 q2 q3 (q4.mono fun t ht => by simp [wrote, ht]))
      | false =>
        have h' : execK e inl fid lid y s k = some r := by simpa [real] using h
        exact wp_cond_false hev (code_wp cx hmix hinl y lid s k r γ w a Q hs h' fun ex s' γ' w' a' q1 q2 q3 q4 => hk ex s' γ' w' a' q1 q2 q3 (q4.mono fun t ht => by simp [wrote, ht]))
    · cases h
  | .block id c, lid => block_wp cx (code_wp cx hmix hinl c id)
  | .loop c, lid => loop_wp cx (code_wp cx hmix hinl c lid)
  | .exit id, lid => fun s k r γ w a Q hs h hk => wp_exit (hk (.exit id) s γ w a h hs (Ext.refl _ _) (Fr.refl _ _))
  | .scope c, lid => fun s k r γ w a Q hs h hk => by
    simp only [execK] at h
    refine wp_scope_straight (code_wp cx hmix hinl c lid s _ r γ w a _ hs h ?_)
    intro ex s' γ' w' a' hkk hs' hx' hfr'
    cases ex with
    | goto l => cases hkk
    | normal => exact hk _ s' γ' w' a' hkk hs' hx' hfr'
    | ret => exact hk _ s' γ' w' a' hkk hs' hx' hfr'
    | exit id => exact hk _ s' γ' w' a' hkk hs' hx' hfr'
  | .ret, lid => fun s k r γ w a Q hs h hk => wp_ret (hk .ret s γ w a h hs (Ext.refl _ _) (Fr.refl _ _))
  | .rangeFunc _ _ _ _, lid => fun s k r γ w a Q hs h hk => by simp [execK] at h
  | .goto _, lid => fun s k r γ w a Q hs h hk => by simp [execK] at h
  | .refuse _, lid => fun s k r γ w a Q hs h hk => by simp [execK] at h

end
end Go.Ab

namespace Go.Ab
open Go.RowKit (Below)
section
variable {U : Nat → Type} {T : Tab U} {C : Callee U} {n : Nat} {P : Program} {R : Type}

/-- Values and what is told of them, one by one. -/
def LRel (T : Tab U) (γ : Gh) (w : World) (vs : List (AV U)) (us : List Value) : Prop :=
  vs.length = us.length ∧ ∀ (i : Nat) av x, vs[i]? = some av → us[i]? = some x → VRel T γ w av x

theorem LRel.mono {γ γ' : Gh} {w w' : World} {vs : List (AV U)} {us : List Value} (h : LRel T γ w vs us) (x : Ext γ w γ' w') : LRel T γ' w' vs us :=
  ⟨h.1, fun i av y hi hy => (h.2 i av y hi hy).mono x⟩

theorem LRel.cons {γ : Gh} {w : World} {v : AV U} {u : Value} {vs : List (AV U)} {us : List Value} (h : VRel T γ w v u) (k : LRel T γ w vs us) : LRel T γ w (v :: vs) (u :: us) := by
  refine ⟨by simp [k.1], fun i av y hi hy => ?_⟩
  cases i with
  | zero => simp at hi hy; subst hi hy; exact h
  | succ i => exact k.2 i av y (by simpa using hi) (by simpa using hy)

def resC (tmps : Array Value) : ResultVar → Sem Value
  | .tmp t => Pure.pure (tmps.getD t undef)
  | .cell c t => do loadVar t (← asAddr (tmps.getD c undef))

theorem results_list {e : Env U} (ho : e.o = real T C n) (hT : e.T = T) (hP : e.P = P) {γ : Gh} {w : World} {s : St U} {a : Act} (hs : SR T γ w s a) : ∀ {rs : List ResultVar} {vs : List (AV U)},
    rs.mapM (resA e s) = some vs → ∃ us, (rs.mapM (resC a.tmps)).run P w = .ok us w ∧ LRel T γ w vs us
  | [], vs, h => by
    simp at h
    subst h
    exact ⟨[], by simp, rfl, fun i av x hi => by simp at hi⟩
  | rv :: rs, vs, h => by
    simp only [List.mapM_cons, Option.bind_eq_bind, Option.pure_def, Option.bind_eq_some_iff] at h
    obtain ⟨v, hv, vs', hvs, he⟩ := h
    cases he
    obtain ⟨us, h1, h2⟩ := results_list ho hT hP hs hvs
    have hone : ∃ u, (resC a.tmps rv).run P w = .ok u w ∧ VRel T γ w v u := by
      have tmp : ∀ t, VRel T γ w (s.tmps.getD t .top) (a.tmps.getD t undef) := by
        intro t
        rw [List.getD_eq_getElem?_getD]
        cases hq : s.tmps[t]? with
        | none => exact .top _
        | some av => exact hs.rel t av hq
      cases rv with
      | tmp t =>
        simp only [resA, Option.some.injEq] at hv
        subst hv
        exact ⟨_, rfl, tmp t⟩
      | cell c t =>
        simp only [resA] at hv
        rw [ho, hT, hP] at hv
        split at hv
        · rename_i cs off ft hq
          obtain ⟨b, o0, hx, hc⟩ := cellsAt_rel hq (tmp c) hs.heap
          obtain ⟨x, q1, q2⟩ := loadVar_run hc hv
          refine ⟨x, ?_, q2⟩
          simp only [resC, Sem.run_bind, hx]
          simp [asAddr, q1]
        · cases hv
    obtain ⟨u, q1, q2⟩ := hone
    refine ⟨u :: us, ?_, LRel.cons q2 h2⟩
    simp only [List.mapM_cons, Sem.run_bind, q1, Result.andThen_ok, h1, Sem.run_pure]

/-- What a function gives of its results. -/
def valOf (us : List Value) : Value := match us with
  | [u] => u
  | us => .tuple us.toArray

theorem results_run {e : Env U} (ho : e.o = real T C n) (hT : e.T = T) (hP : e.P = P) {γ : Gh} {w : World} {s : St U} {a : Act} (hs : SR T γ w s a) {fn : Func} {vs : List (AV U)} (h : resultsA e fn s = some vs) :
    ∃ us, (results fn a.tmps).run P w = .ok (valOf us) w ∧ LRel T γ w vs us := by
  obtain ⟨us, h1, h2⟩ := results_list ho hT hP hs h
  refine ⟨us, ?_, h2⟩
  unfold results
  change Sem.run P (do
    let vs ← fn.results.mapM (resC a.tmps)
    Pure.pure (if h : vs.size = 1 then vs[0] else .tuple vs)) w = _
  rw [Array.mapM_eq_mapM_toList]
  simp only [Sem.run_bind, Sem.run_map, h1, Result.andThen_ok, Sem.run_pure]
  congr 1
  match us with
  | [] => rfl
  | [u] => rfl
  | u :: v :: us => rfl

theorem enter_calls {e : Env U} (cx : Cx e T C n P) (hmix : P.follows .mixedOrders = true) {inl : Inl U R} (hinl : InlOK P T inl) {f : FuncId} {as : List (AV U)} {s : St U} {k : List (AV U) → Heap U → Option R} {r : R} {γ : Gh} {w : World} {args : Array Value}
    (hH : HRel T γ w s.heap) (hl : as.length = args.size) (ha : ∀ (i : Nat) av x, as[i]? = some av → args[i]? = some x → VRel T γ w av x) (hb : s.base ≤ s.heap.length) (h : enterK e inl f as s k = some r) :
    (∃ fn, P.funcs[f]? = some fn ∧ fn.body.isNone = false) ∧ Calls P f args w fun en w' => ∃ vs us H' γ', en = .returned (valOf us) ∧ k vs H' = some r ∧ LRel T γ' w' vs us ∧ HRel T γ' w' H' ∧ Ext γ w γ' w' ∧ RO s.base s.mu s.heap H' := by
  unfold enterK at h
  rw [cx.hP] at h
  split at h
  · cases h
  · rename_i fn hf
    split at h
    · cases h
    · rename_i c hc
      refine ⟨⟨fn, hf, by rw [hc]; rfl⟩, calls_of_wp hf hc ?_⟩
      have hs : SR T γ w { s with tmps := as ++ List.replicate (fn.ntmps - as.length) .top } { tmps := args ++ Array.replicate (fn.ntmps - args.size) undef, defers := [] } := by
        refine ⟨hH, hb, by simp [hl], rfl, fun t av ht => ?_⟩
        simp only at ht
        rw [List.getElem?_append] at ht
        split at ht
        · rename_i hlt
          have hlt' : t < args.size := by omega
          have : (args ++ Array.replicate (fn.ntmps - args.size) undef).getD t undef = args[t] := by
            simp [Array.getElem?_append, hlt']
          rw [this]
          exact ha t av _ ht (Array.getElem?_eq_getElem hlt')
        · rw [List.getElem?_replicate] at ht
          split at ht
          · cases ht; exact .top _
          · cases ht
      refine code_wp cx hmix hinl c 0 _ _ r γ w _ _ hs h ?_
      intro x s' γ' w' a' hk hs' hx hfr
      have hend : ∀ vs, resultsA e fn s' = some vs → k vs s'.heap = some r → a'.defers = [] ∧ ∃ v, (results fn a'.tmps).run P w' = .ok v w' ∧
          ∃ vs us H' γ', (Ending.returned v) = .returned (valOf us) ∧ k vs H' = some r ∧ LRel T γ' w' vs us ∧ HRel T γ' w' H' ∧ Ext γ w γ' w' ∧ RO s.base s.mu s.heap H' := by
        intro vs hvs hkv
        obtain ⟨us, q1, q2⟩ := results_run cx.ho cx.hT cx.hP hs' hvs
        exact ⟨hs'.defers, _, q1, vs, us, s'.heap, γ', rfl, hkv, q2, hs'.heap, hx, hfr.ro⟩
      cases x with
      | normal =>
        simp only at hk
        split at hk
        · rename_i vs hvs; exact hend vs hvs hk
        · cases hk
      | ret =>
        simp only at hk
        split at hk
        · rename_i vs hvs; exact hend vs hvs hk
        · cases hk
      | exit id => cases hk
      | goto l => cases hk

theorem valOf_rel {γ : Gh} {w : World} {vs : List (AV U)} {us : List Value} (h : LRel T γ w vs us) : VRel T γ w (tupOf vs) (valOf us) := by
  match vs, us, h with
  | [], [], h => exact .tuple _ _ rfl fun i av x hi => by simp at hi
  | [v], [u], h => exact h.2 0 v u rfl rfl
  | v :: v' :: vs, u :: u' :: us, h => exact .tuple _ _ (by have := h.1; simpa using this) fun i av x hi hx => h.2 i av x hi (by simpa using hx)
  | [], _ :: _, h => have := h.1; simp at this
  | _ :: _, [], h => have := h.1; simp at this
  | [_], _ :: _ :: _, h => have := h.1; simp at this
  | _ :: _ :: _, [_], h => have := h.1; simp at this

theorem inl_ok {e : Env U} (cx : Cx e T C n P) (hmix : P.follows .mixedOrders = true) : ∀ d : Nat, InlOK P T (inlK (R := R) e d)
  | 0 => fun f as s k r γ w args _ _ _ _ h => by cases h
  | d + 1 => fun f as s k r γ w args hH hl ha hb h => by
    obtain ⟨h1, h2⟩ := enter_calls cx hmix (inl_ok cx hmix d) hH hl ha hb h
    refine ⟨h1, Calls.imp h2 ?_⟩
    rintro en w' ⟨vs, us, H', γ', rfl, q1, q2, q3, q4, q5⟩
    exact ⟨valOf us, rfl, _, H', γ', q1, valOf_rel q2, q3, q4, q5⟩

/-- Rows stay rows. -/
def RowsStay (H H' : Heap U) : Prop := ∀ (id : Nat) c L ver wr, H[id]? = some (.arr c L ver wr) → ∃ wr', H'[id]? = some (.arr c L ver wr')

theorem RowsStay.refl (H : Heap U) : RowsStay H H := fun _ _ _ _ wr h => ⟨wr, h⟩
theorem RowsStay.trans {H H' H'' : Heap U} (h : RowsStay H H') (k : RowsStay H' H'') : RowsStay H H'' := fun id c L ver wr q => let ⟨_, q'⟩ := h id c L ver wr q; k id c L ver _ q'

theorem purify1_rows {H H' : Heap U} {v v' : AV U} {ids : List Nat} (h : purify1 H v = some (v', H', ids)) : RowsStay H H' := by
  unfold purify1 at h
  split at h
  · split at h
    · rename_i id ver _ c L ver' w hid
      split at h
      · split at h
        · cases h
          intro j c' L' v'' wr hj
          by_cases e : j = id
          · subst e
            rw [hid] at hj
            cases hj
            exact ⟨false, by rw [List.getElem?_set_self (List.getElem?_eq_some_iff.1 hid).1]⟩
          · exact ⟨wr, by rw [List.getElem?_set_ne (Ne.symm e)]; exact hj⟩
        · cases h; exact RowsStay.refl _
      · cases h
    · cases h
  · cases h
  · cases h
  · cases h
  · cases h; exact RowsStay.refl _

theorem purifyL_rows : ∀ {cs cs' : List (AV U)} {H H' : Heap U} {ids : List Nat}, purifyL H cs = some (cs', H', ids) → RowsStay H H'
  | [], _, H, H', ids, h => by
    simp only [purifyL, Option.some.injEq, Prod.mk.injEq] at h
    obtain ⟨_, rfl, _⟩ := h
    exact RowsStay.refl _
  | v :: cs, cs', H, H', ids, h => by
    simp only [purifyL] at h
    split at h
    · cases h
    · rename_i v' H1 ids1 h1
      split at h
      · cases h
      · rename_i cs1 H2 ids2 h2
        simp only [Option.some.injEq, Prod.mk.injEq] at h
        obtain ⟨_, rfl, _⟩ := h
        exact (purify1_rows h1).trans (purifyL_rows h2)

theorem purify_rows {H H' : Heap U} {v v' : AV U} {ids : List Nat} (h : purify H v = some (v', H', ids)) : RowsStay H H' := by
  unfold purify at h
  split at h
  · split at h
    · rename_i h1
      cases h
      exact purifyL_rows h1
    · cases h
  · exact purify1_rows h

theorem typedHL_rel (ok : T.Ok P) {w : World} : ∀ {rc : List Cd} {vs : List (AV U)} {H : Heap U} {γ : Gh} {r : HL U rc} {us : List Value}, typedHL T rc vs H = some r → HRel T γ w H → LRel T γ w vs us →
    ∃ γ' H', HRel T γ' w H' ∧ Ext γ w γ' w ∧ LRel T γ' w (avs T rc r) us ∧ RowsStay H H'
  | [], [], H, γ, r, us, h, hH, hv => ⟨γ, H, hH, Ext.refl _ _, by simpa [avs] using hv, RowsStay.refl _⟩
  | c :: rc, v :: vs, H, γ, r, us, h, hH, hv => by
    simp only [typedHL] at h
    split at h
    · cases h
    · rename_i v' H1 ids h1
      split at h
      · cases h
      · rename_i x hx
        split at h
        · cases h
        · rename_i xs h2
          cases h
          cases us with
          | nil => have := hv.1; simp at this
          | cons u us =>
            obtain ⟨γ1, pur, hv'⟩ := purify_rel ok h1 hH (hv.2 0 v u rfl rfl)
            have hrest : LRel T γ1 w vs us := ⟨by have := hv.1; simpa using this, fun i av y hi hy => (hv.2 (i + 1) av y (by simpa using hi) (by simpa using hy)).mono pur.ext⟩
            obtain ⟨γ2, H2, q1, q2, q3, q4⟩ := typedHL_rel ok h2 pur.rel hrest
            exact ⟨γ2, H2, q1, pur.ext.trans q2, LRel.cons ((to_rel ok hx hv').mono q2) q3, (purify_rows h1).trans q4⟩
  | [], _ :: _, _, _, _, _, h, _, _ => by simp [typedHL] at h
  | _ :: _, [], _, _, _, _, h, _, _ => by simp [typedHL] at h

theorem ofHL_rel {γ : Gh} {w : World} : ∀ {rc : List Cd} {r : HL U rc} {us : List Value}, LRel T γ w (avs T rc r) us → VRel T γ w (AV.ofHL T rc r) (valOf us)
  | [], r, us, h => valOf_rel h
  | [c], (x, _), us, h => valOf_rel h
  | c :: c' :: rc, (x, y, r), us, h => valOf_rel h

theorem ofHL_tup : ∀ (rc : List Cd) (r : HL U rc), AV.ofHL T rc r = tupOf (avs T rc r)
  | [], r => rfl
  | [c], (x, _) => rfl
  | c :: c' :: rc, (x, y, r) => rfl

theorem avs_get {i : Nat} {c c' : Cd} {L : List (den U c)} {sp : Sp} : ∀ {rc : List Cd} {r : HL U rc} {i : Nat}, (avs T rc r)[i]? = some (.fsl c L sp) → rc[i]? = some (.sl c') → c = c'
  | [], r, i, h, _ => by simp [avs] at h
  | d :: rc, (x, r), 0, h, h' => by
    simp only [List.getElem?_cons_zero, Option.some.injEq] at h'
    subst h'
    simp only [avs, List.getElem?_cons_zero, Option.some.injEq] at h
    cases h
    rfl
  | d :: rc, (x, r), i + 1, h, h' => avs_get (i := i) (rc := rc) (r := r) (by simpa [avs] using h) (by simpa using h')

theorem avs_no_tuple {vs : List (AV U)} : ∀ {rc : List Cd} {r : HL U rc} {i : Nat}, (avs T rc r)[i]? ≠ some (.tuple vs)
  | [], r, i => by simp [avs]
  | d :: rc, (x, r), 0 => by
    simp only [avs, List.getElem?_cons_zero, ne_eq, Option.some.injEq]
    cases d <;> simp [AV.of]
  | d :: rc, (x, r), i + 1 => by
    simp only [avs, List.getElem?_cons_succ]
    exact avs_no_tuple

theorem comp_get {γ : Gh} {w : World} {rc : List Cd} {r : HL U rc} {us : List Value} {i : Nat} {c : Cd} {L : List (den U c)} {sp : Sp} {x : Value} (h : LRel T γ w (avs T rc r) us)
    (h1 : compAV (AV.ofHL T rc r) i = some (.fsl c L sp)) (h2 : compOf (valOf us) i = some x) : (avs T rc r)[i]? = some (.fsl c L sp) ∧ us[i]? = some x := by
  rw [ofHL_tup] at h1
  have hnt := fun (vs : List (AV U)) (i : Nat) => avs_no_tuple (T := T) (vs := vs) (rc := rc) (r := r) (i := i)
  generalize avs T rc r = vs at *
  match vs, us, h with
  | [], [], h => simp [tupOf, compAV] at h1
  | [v], [u], h =>
    have hv := h.2 0 v u rfl rfl
    have h1 : compAV v i = some (.fsl c L sp) := h1
    have h2 : compOf u i = some x := h2
    cases v with
    | tuple ws => exact absurd rfl (hnt ws 0)
    | fsl c' L' sp' =>
      have h0 : i = 0 := by
        refine Classical.byContradiction fun h => ?_
        simp [compAV, h] at h1
      subst h0
      cases hv
      exact ⟨h1, h2⟩
    | _ =>
      by_cases h0 : i = 0
      · subst h0; have h1 := Option.some.inj h1; cases h1
      · simp [compAV, h0] at h1
  | v :: v' :: vs, u :: u' :: us, h => exact ⟨h1, by simpa [valOf, compOf] using h2⟩
  | [], _ :: _, h => have := h.1; simp at this
  | _ :: _, [], h => have := h.1; simp at this
  | [_], _ :: _ :: _, h => have := h.1; simp at this
  | _ :: _ :: _, [_], h => have := h.1; simp at this

/-- The room behind a result that is given with it is no one's. -/
theorem spare_of {A : Ann} {f : FuncId} {i : Nat} {rc : List Cd} {r : HL U rc} {vs : List (AV U)} {us : List Value} {H' H2 : Heap U} {γ' γ2 γ0 : Gh} {w w' : World} (hso : A.slo f = some i) (how : ownOk A f rc vs H' = true)
    (hv : LRel T γ' w' vs us) (hx : Ext γ0 w γ2 w') (h0 : ∀ b o j, γ0.own b o ≠ .obj j) (r1 : HRel T γ2 w' H2) (r2 : Ext γ' w' γ2 w') (r4 : RowsStay H' H2) (r3 : LRel T γ2 w' (avs T rc r) us)
    {c : Cd} {L : List (den U c)} {sp : Sp} {x : Value} (h1 : (avs T rc r)[i]? = some (.fsl c L sp)) (h2 : us[i]? = some x) :
    Spare { γ2 with own := fun b o => if γ2.own b o = .frz then .frz else .free } w w' (c.size T) x := by
  have hrel := r3.2 i _ _ h1 h2
  cases hrel with
  | fsl _ _ _ base len cap vs' hl hcap hsp hn hs hc hv' =>
    cases base with
    | none => trivial
    | some a =>
      unfold ownOk at how
      rw [hso] at how
      simp only at how
      split at how
      · rename_i id ver hvi
        split at how
        · rename_i c' L' ver' wr hid
          simp only [Bool.and_eq_true, beq_iff_eq] at how
          obtain ⟨rfl, hrc⟩ := how
          have hcc := avs_get (i := i) h1 hrc
          subst hcc
          have hvr := (hv.2 i _ _ hvi h2).mono r2
          obtain ⟨wr', hid2⟩ := r4 id c L' ver' wr hid
          obtain ⟨base2, cap2, s1, s2, s3, s4⟩ := r1.objs id _ hid2
          cases hvr with
          | sl _ _ _ _ _ size hs =>
            rw [hs] at s1
            have s1 := Option.some.inj s1
            have e1 : some a = base2 := congrArg (·.1) s1
            have e2 : len = L'.length := congrArg (·.2.1) s1
            have e3 : cap = cap2 := congrArg (·.2.2.1) s1
            subst e1 e2 e3
            intro o q1 q2
            obtain ⟨g1, g2, g3⟩ := (s4 a rfl).2.1 o q1 q2
            refine ⟨?_, by simp [g1], g2, g3⟩
            refine Classical.byContradiction fun hlt => ?_
            have hlt : a.block < w.heap.size := by omega
            cases hq : γ0.own a.block o with
            | free => rw [hx.free _ _ hlt hq] at g1; cases g1
            | frz => rw [(hx.frz _ _ hq).1] at g1; cases g1
            | obj j => exact h0 _ _ _ hq
        · cases how
      · rename_i hvi
        have hvr := hv.2 i _ _ hvi h2
        cases hvr
      · rename_i hvi
        have hvr := hv.2 i _ _ hvi h2
        cases hvr with
        | fsl _ _ _ _ _ _ _ _ _ hsp2 =>
          have hsp2 : cap = len := hsp2
          subst hsp2
          intro o q1 q2
          omega
      · rename_i hvi
        have hvr := hv.2 i _ _ hvi h2
        cases hvr with
        | fsl _ _ _ _ _ _ _ _ _ hsp2 =>
          have hsp2 : cap = 0 := hsp2
          subst hsp2
          intro o q1 q2
          have : 0 * c.size T = 0 := Nat.zero_mul _
          omega
      · cases how

/-- WHAT THE ABSTRACT MACHINE COMPUTES OF PLAIN DATA IS WHAT A CALL GIVES. -/
theorem pure_call {e : Env U} (cx : Cx e T C n P) (hmix : P.follows .mixedOrders = true) {d : Nat} {f : FuncId} {xs : List (Σ c, den U c)} {rc : List Cd} {r : HL U rc} (h : pure e d f xs rc = some r) : PureCall P T e.ann f xs rc r := by
  intro γ w args hsz hlen hargs
  let γ0 : Gh := { own := fun b o => if γ.own b o = .frz then .frz else .free, blk := fun _ => none, sv := fun _ _ => none }
  have hfrz : ∀ b o, γ.own b o = .frz → γ0.own b o = .frz ∧ w.cell? ⟨b, o, none⟩ = w.cell? ⟨b, o, none⟩ := fun b o h => ⟨by simp only [γ0]; rw [if_pos h], rfl⟩
  have hH : HRel T γ0 w ([] : Heap U) := by
    refine ⟨fun b o h => hsz b o fun e => h ?_, fun _ _ => rfl, fun _ _ _ => rfl, fun _ _ _ _ _ h => by simp at h, fun _ _ h => by simp at h⟩
    simp only [γ0, e]
    rfl
  unfold Ab.pure at h
  rw [cx.hT] at h
  obtain ⟨_, hc⟩ := enter_calls cx hmix (inl_ok cx hmix d) (args := args) (γ := γ0) (w := w) hH (by simp [hlen]) (fun i av x hi hx => by
    simp only [List.getElem?_map, Option.map_eq_some_iff] at hi
    obtain ⟨y, hy, rfl⟩ := hi
    exact VRel.of_plain cx.ok (hargs i y x hy hx) hfrz) (Nat.le_refl _) h
  refine Calls.imp hc ?_
  rintro en w' ⟨vs, us, H', γ', rfl, q1, q2, q3, q4, q5⟩
  have hcond : ownOk e.ann f rc vs H' = true ∧ typedHL T rc vs H' = some r := by
    cases hq : ownOk e.ann f rc vs H' with
    | true => rw [hq] at q1; exact ⟨rfl, q1⟩
    | false => rw [hq] at q1; cases q1
  obtain ⟨how, q1⟩ := hcond
  obtain ⟨γ2, H2, r1, r2, r3, r4⟩ := typedHL_rel cx.ok q1 q3 q2
  have hx := q4.trans r2
  have hno : ∀ b o j, γ0.own b o ≠ .obj j := by
    intro b o j e
    simp only [γ0] at e
    split at e <;> cases e
  have hfin : ∀ b o, ({ γ2 with own := fun b o => if γ2.own b o = .frz then .frz else .free } : Gh).own b o = .frz → γ2.own b o = .frz := by
    intro b o hz
    simp only at hz
    split at hz
    · assumption
    · cases hz
  refine ⟨valOf us, { γ2 with own := fun b o => if γ2.own b o = .frz then .frz else .free }, rfl, ⟨hx.os, hx.tape, hx.output, hx.size, fun k hk => hx.same k hk fun o id e => ?_⟩, fun b o hb hf => ?_, fun b o hf => r1.size b o (by rw [hfin b o hf]; exact fun e => nomatch e),
    ofHL_plain cx.ok (fun b o hz => ⟨by simp [hz], rfl⟩) _ _ _ (ofHL_rel r3), fun i hso c L sp x h1 h2 => ?_⟩
  · simp only [γ0] at e
    split at e <;> cases e
  · have hf := hfin b o hf
    cases hq : γ.own b o with
    | frz => rfl
    | free =>
      have : γ0.own b o = .free := by simp only [γ0, hq]; rfl
      rw [hx.free b o hb this] at hf
      cases hf
    | obj j =>
      have : γ0.own b o = .free := by simp only [γ0, hq]; rfl
      rw [hx.free b o hb this] at hf
      cases hf
  · obtain ⟨g1, g2⟩ := comp_get r3 h1 h2
    exact spare_of hso how q2 hx hno r1 r2 r4 r3 g1 g2

end
end Go.Ab
