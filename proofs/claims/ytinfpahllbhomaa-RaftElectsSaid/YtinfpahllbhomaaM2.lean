/-
  Memory that turns: a new block, cells that are written; what stays told.
  Memory that turns: a new block for a new object; cells of an object that are written.
  Memory that turns: what is written into an object; a row that stays from now on.
  Values made plain; what is stored; what callees are given.
  What is stored.
  Slices that are made: written out, by a length.
  Rows that grow: the same row, longer; a row at a new block.
-/
import Derived.Test.YtinfpahllbhomaaM1
import Derived.Laws.Tables
import Derived.Laws.AppendOwn
set_option linter.unusedVariables false
set_option linter.unusedSimpArgs false

namespace Go.Ab
section
variable {U : Nat → Type} {T : Tab U} {C : Callee U} {n : Nat} {P : Program} {R : Type}

/-- Cells and what is told of them. -/
def CRel (T : Tab U) (γ : Gh) (w : World) (cs : List (AV U)) (vs : List Value) : Prop :=
  cs.length = vs.length ∧ ∀ (i : Nat) c x, cs[i]? = some c → vs[i]? = some x → x.oneCell' = true ∧ VRel T γ w c x

theorem CRel.mono {γ γ' : Gh} {w w' : World} {cs : List (AV U)} {vs : List Value} (h : CRel T γ w cs vs) (x : Ext γ w γ' w') : CRel T γ' w' cs vs :=
  ⟨h.1, fun i c y hc hy => ⟨(h.2 i c y hc hy).1, (h.2 i c y hc hy).2.mono x⟩⟩

theorem ofValue_rel (γ : Gh) (w : World) (v : Value) : VRel T γ w (ofValue v) v := by
  unfold ofValue
  split
  · exact .bool _
  · exact .int _ _
  · exact .str _
  · exact .nilsl
  · exact .nilptr
  · exact .top _

theorem zeroOf_rel {t : TypeId} {z : List (AV U)} (h : zeroOf P t = some z) (γ : Gh) (w : World) :
    ∃ i v, P.info? t = some i ∧ i.zero = some v ∧ z = ofCells v ∧ CRel T γ w z v.cells.toList := by
  unfold zeroOf at h
  split at h
  · rename_i v hv
    split at h
    · rename_i h1
      cases h
      cases hi : P.info? t with
      | none => simp [hi] at hv
      | some i =>
        simp [hi] at hv
        refine ⟨i, v, rfl, hv, rfl, by simp [ofCells], fun j c x hc hx => ?_⟩
        simp only [ofCells, List.getElem?_map, hx, Option.map_some, Option.some.injEq] at hc
        subst hc
        exact ⟨List.all_eq_true.1 h1 _ (List.mem_of_getElem? hx), ofValue_rel γ w x⟩
    · cases h
  · cases h

theorem okv_cells {γ : Gh} {w : World} {v : AV U} {x : Value} (h : VRel T γ w v x) (ho : v.okv = true) : CRel T γ w v.cells x.cells.toList := by
  cases h with
  | top => cases ho
  | agg cs vs hl h1 hv =>
    refine ⟨by simpa [AV.cells, Value.cells] using hl, fun i c y hc hy => ?_⟩
    simp [AV.cells, Value.cells] at hc hy
    exact ⟨h1 i y (by simpa using hy), hv i c y hc (by simpa using hy)⟩
  | tuple => cases ho
  | _ =>
    refine ⟨rfl, fun i c y hc hy => ?_⟩
    cases i with
    | succ i => simp [AV.cells] at hc
    | zero =>
      simp [AV.cells, Value.cells] at hc hy
      subst hc hy
      exact ⟨rfl, by first | exact .bool _ | exact .int _ _ | exact .str _ | (exact .ptr _ _ _ (by assumption)) | exact .nilptr | exact .nilsl | assumption | (constructor <;> assumption)⟩

theorem putCells_rel {γ : Gh} {w : World} {cs cs' vs : List (AV U)} {xs ys : List Value} {off : Nat} (h : CRel T γ w cs xs) (k : CRel T γ w vs ys) (hp : putCells cs off vs = some cs') :
    off + ys.length ≤ xs.length ∧ CRel T γ w cs' (xs.take off ++ ys ++ xs.drop (off + ys.length)) := by
  unfold putCells at hp
  split at hp
  · rename_i hle
    cases hp
    have h1 := h.1
    have k1 := k.1
    refine ⟨by omega, by simp; omega, fun i c x hc hx => ?_⟩
    rw [← k1] at hx
    by_cases h2 : i < off
    · rw [List.append_assoc, List.getElem?_append_left (by simp; omega), List.getElem?_take_of_lt h2] at hc hx
      exact h.2 i c x hc hx
    · by_cases h3 : i < off + vs.length
      · rw [List.append_assoc, List.getElem?_append_right (by simp; omega), List.getElem?_append_left (by simp; omega)] at hc hx
        have e1 : (List.take off cs).length = off := by simp; omega
        have e2 : (List.take off xs).length = off := by simp; omega
        rw [e1] at hc
        rw [e2] at hx
        exact k.2 _ c x hc hx
      · rw [List.getElem?_append_right (by simp; omega), List.getElem?_drop] at hc hx
        simp only [List.length_append, List.length_take] at hc hx
        have e1 : off + vs.length + (i - (min off cs.length + vs.length)) = i := by omega
        have e2 : off + vs.length + (i - (min off xs.length + ys.length)) = i := by omega
        rw [e1] at hc
        rw [e2] at hx
        exact h.2 i c x hc hx
  · cases hp

theorem fold_set (ys : List Value) : ∀ (off : Nat) (xs : List Value), off + ys.length ≤ xs.length →
    ((ys.toArray.zipIdx).foldl (fun (cs : Array Value) (p : Value × Nat) => cs.setIfInBounds (off + p.2) p.1) xs.toArray).toList = xs.take off ++ ys ++ xs.drop (off + ys.length) := by
  have gen : ∀ (ys : List Value) (s off : Nat) (xs : List Value), off + s + ys.length ≤ xs.length →
      (((ys.zipIdx s)).foldl (fun (cs : Array Value) (p : Value × Nat) => cs.setIfInBounds (off + p.2) p.1) xs.toArray).toList = xs.take (off + s) ++ ys ++ xs.drop (off + s + ys.length) := by
    intro ys
    induction ys with
    | nil => intro s off xs h; simp
    | cons y ys ih =>
      intro s off xs h
      simp only [List.zipIdx_cons, List.foldl_cons, List.setIfInBounds_toArray]
      rw [ih (s + 1) off (xs.set (off + s) y) (by simp at h ⊢; omega)]
      simp at h
      have m1 : min (off + s) xs.length = off + s := Nat.min_eq_left (by omega)
      have m2 : min (off + (s + 1)) xs.length = off + (s + 1) := Nat.min_eq_left (by omega)
      apply List.ext_getElem?
      intro i
      simp only [List.getElem?_append, List.length_append, List.length_take, List.length_set, List.length_cons, List.getElem?_take, List.getElem?_drop, List.getElem?_set, m1, m2]
      by_cases h1 : i < off + s
      · have h2 : i < off + (s + 1) := by omega
        have h3 : ¬ off + s = i := by omega
        have h4 : i < off + (s + 1) + ys.length := by omega
        have h5 : i < off + s + (ys.length + 1) := by omega
        simp [h1, h2, h3, h4, h5]
      · by_cases h2 : i = off + s
        · subst h2
          have h3 : off + s < off + (s + 1) := by omega
          have h4 : off + s < xs.length := by omega
          have h5 : off + s < off + (s + 1) + ys.length := by omega
          have h6 : off + s < off + s + (ys.length + 1) := by omega
          simp [h3, h4, h5, h6]
        · have h3 : ¬ i < off + (s + 1) := by omega
          simp only [h1, h3, if_false]
          by_cases h6 : i < off + s + (ys.length + 1)
          · have h7 : i < off + (s + 1) + ys.length := by omega
            have e1 : i - (off + s) = (i - (off + (s + 1))) + 1 := by omega
            simp only [h6, h7, if_true, e1, List.getElem?_cons_succ]
          · have h7 : ¬ i < off + (s + 1) + ys.length := by omega
            simp only [h6, h7, if_false]
            have e1 : off + (s + 1) + ys.length + (i - (off + (s + 1) + ys.length)) = off + s + (ys.length + 1) + (i - (off + s + (ys.length + 1))) := by omega
            rw [e1]
            have h8 : ¬ off + s = off + s + (ys.length + 1) + (i - (off + s + (ys.length + 1))) := by omega
            simp [h8]
  intro off xs h
  have := gen ys 0 off xs (by omega)
  simp only [Nat.add_zero] at this
  rw [← this]
  rw [← Array.foldl_toList]
  simp

theorem fill_rel {γ : Gh} {w : World} {pl : Nat → Option (Nat × Nat)} : ∀ {parts : List (Nat × AV U)} {vparts : List (Nat × Value)} {cs cs' : List (AV U)} {xs : List Value},
    CRel T γ w cs xs → parts.length = vparts.length → (∀ (i : Nat) p q, parts[i]? = some p → vparts[i]? = some q → p.1 = q.1 ∧ VRel T γ w p.2 q.2) → (parts.all fun p => p.2.okv) = true →
    fillA pl cs parts = some cs' → ∃ ys, Instr.fill pl xs.toArray vparts = some ys ∧ CRel T γ w cs' ys.toList
  | [], [], cs, cs', xs, h, _, _, _, hf => by
    cases hf
    exact ⟨xs.toArray, rfl, by simpa using h⟩
  | [], _ :: _, _, _, _, _, hl, _, _, _ => by cases hl
  | _ :: _, [], _, _, _, _, hl, _, _, _ => by cases hl
  | (i, v) :: parts, (i', x) :: vparts, cs, cs', xs, h, hl, hp, hok, hf => by
    obtain ⟨hi, hv⟩ := hp 0 _ _ rfl rfl
    simp at hi
    subst hi
    simp only [List.all_cons, Bool.and_eq_true] at hok
    simp only [fillA] at hf
    split at hf
    · cases hf
    · rename_i off size hpl
      split at hf
      · rename_i hsz
        split at hf
        · rename_i c hc
          have hvc := okv_cells hv hok.1
          obtain ⟨hle, hrel⟩ := putCells_rel h hvc hc
          have hcl : x.cells.size = size := by rw [← hsz, hvc.1]; simp
          obtain ⟨ys, hy, hys⟩ := fill_rel (vparts := vparts) hrel (by simpa using hl) (fun j p q hp1 hq1 => hp (j + 1) p q (by simpa using hp1) (by simpa using hq1)) hok.2 hf
          refine ⟨ys, ?_, hys⟩
          simp only [Instr.fill, hpl]
          have hle' : ¬ (off + x.cells.size > xs.toArray.size) := by simp at hle ⊢; omega
          have hcl' : ¬ (x.cells.size ≠ size) := by simp [hcl]
          simp only [hcl', hle', decide_false, Bool.or_false, Bool.false_eq_true, if_false]
          have hfs := fold_set x.cells.toList off xs hle
          have hfs' : (x.cells.zipIdx.foldl (fun (cs : Array Value) (p : Value × Nat) => cs.setIfInBounds (off + p.2) p.1) xs.toArray) = (xs.take off ++ x.cells.toList ++ xs.drop (off + x.cells.toList.length)).toArray := by
            apply Array.ext'
            rw [← hfs]
          rw [← hy]
          congr 1
        · cases hf
      · cases hf

theorem buildK_two {e : Env U} (ho : e.o = real T C n) (hP : e.P = P) (t : TypeId) (parts : List (Nat × AV U)) (vparts : Array (Nat × Value)) (γ : Gh) (w : World) (g : Option Bool) (H : Heap U)
    (kk : Kont U R) (r : R) (hl : parts.length = vparts.size)
    (hp : ∀ (i : Nat) p q, parts[i]? = some p → vparts[i]? = some q → p.1 = q.1 ∧ VRel T γ w p.2 q.2) (h : buildK e g t parts H kk = some r) :
    Two kk r g H (Reads P T γ w (Instr.build t vparts) kk r H) := by
  unfold buildK at h
  rw [ho, hP] at h
  split at h
  · rename_i z pl hz hpl
    split at h
    · rename_i hok
      split at h
      · rename_i cs hcs
        obtain ⟨i, v, hi, hv, rfl, hz'⟩ := zeroOf_rel (T := T) hz γ w
        obtain ⟨ys, hy, hys⟩ := fill_rel (vparts := vparts.toList) hz' (by simpa using hl) (fun j p q h1 h2 => hp j p q h1 (by simpa using h2)) hok hcs
        refine Two.mk h ⟨.agg ys, .agg cs, _, run_build w t vparts ys ?_, h, ?_⟩
        · unfold Program.built
          unfold placesOf at hpl
          split at hpl
          · rename_i m el ht
            cases hel : P.info? el with
            | none => simp [hel] at hpl
            | some ie =>
              simp [hel] at hpl
              subst hpl
              simp [hi, ht, hv, hel]
              simpa using hy
          · rename_i fields ht
            cases hpp : fields.toList.mapM (fun f => (P.info? f.type).map fun i => (f.offset, i.size)) with
            | none => simp [hpp] at hpl
            | some places =>
              simp [hpp] at hpl
              subst hpl
              simp only [hi, ht, hv, hpp]
              simpa using hy
          · cases hpl
        · exact .agg cs ys (by simpa using hys.1) (fun j x hx => by
            have hlt : j < cs.length := by
              have := (Array.getElem?_eq_some_iff.1 hx).1
              have := hys.1
              simp at this
              omega
            exact (hys.2 j _ x (List.getElem?_eq_getElem hlt) (by simpa using hx)).1) (fun j c x hc hx => (hys.2 j c x hc (by simpa using hx)).2)
      · exact Two.bad h
    · exact Two.bad h
  · exact Two.bad h

end
end Go.Ab

namespace Go.Ab
section
variable {U : Nat → Type} {T : Tab U} {C : Callee U} {n : Nat} {P : Program} {R : Type}

/-- What may not be written is as it was. -/
structure RO (base : Nat) (mu : List (Nat × Nat)) (H H' : Heap U) : Prop where
  len : H.length ≤ H'.length
  cells : ∀ (id : Nat) cs, id < base → H[id]? = some (.cells cs) → ∃ cs', H'[id]? = some (.cells cs') ∧ cs'.length = cs.length ∧ ∀ (off : Nat), (id, off) ∉ mu → cs'[off]? = cs[off]?
  other : ∀ (id : Nat) ob, id < base → H[id]? = some ob → (∀ cs, ob ≠ .cells cs) → (id, 0) ∉ mu → H'[id]? = some ob

theorem RO.refl (base : Nat) (mu : List (Nat × Nat)) (H : Heap U) : RO base mu H H :=
  ⟨Nat.le_refl _, fun _ cs _ h => ⟨cs, h, rfl, fun _ _ => rfl⟩, fun _ _ _ h _ _ => h⟩

theorem RO.trans {base : Nat} {mu : List (Nat × Nat)} {H H' H'' : Heap U} (h : RO base mu H H') (k : RO base mu H' H'') : RO base mu H H'' :=
  ⟨Nat.le_trans h.len k.len, fun id cs hb hc => by
    obtain ⟨cs', h1, h2, h3⟩ := h.cells id cs hb hc
    obtain ⟨cs'', k1, k2, k3⟩ := k.cells id cs' hb h1
    exact ⟨cs'', k1, k2.trans h2, fun off ho => (k3 off ho).trans (h3 off ho)⟩,
   fun id ob hb ho hn hm => k.other id ob hb (h.other id ob hb ho hn hm) hn hm⟩

/-- A run turns memory: the abstract machine goes on with the value and the heap that then are. -/
def Turns (P : Program) (T : Tab U) (base : Nat) (mu : List (Nat × Nat)) (γ : Gh) (w : World) (m : Sem Value) (k : Kont U R) (r : R) (H : Heap U) : Prop :=
  ∃ x w' v H' ft γ', m.run P w = .ok x w' ∧ k v H' ft = some r ∧ VRel T γ' w' v x ∧ HRel T γ' w' H' ∧ Ext γ w γ' w' ∧ RO base mu H H'

theorem Reads.turns {base : Nat} {mu : List (Nat × Nat)} {γ : Gh} {w : World} {m : Sem Value} {k : Kont U R} {r : R} {H : Heap U} (hH : HRel T γ w H) (h : Reads P T γ w m k r H) :
    Turns P T base mu γ w m k r H :=
  let ⟨x, v, ft, h1, h2, h3⟩ := h
  ⟨x, w, v, H, ft, γ, h1, h2, h3, hH, Ext.refl _ _, RO.refl _ _ _⟩

/-- An object stays told where what it owns is as it was. -/
theorem ORel.keep {γ γ' : Gh} {w w' : World} {id : Nat} {ob : Obj U} (h : ORel T γ w id ob) (x : Ext γ w γ' w')
    (hb : ∀ b o, γ.own b o = .obj id → γ'.own b o = .obj id ∧ w'.cell? ⟨b, o, none⟩ = w.cell? ⟨b, o, none⟩ ∧ w'.frozen? ⟨b, o, none⟩ = w.frozen? ⟨b, o, none⟩)
    (hm : ∀ b es c, γ.own b 0 = .obj id → w.heap[b]? = some (.map es c) → w'.heap[b]? = some (.map es c))
    (hh : ob = .hole → γ'.blk id = none ∧ ∀ ver, γ'.sv id ver = none) : ORel T γ' w' id ob := by
  cases ob with
  | cells cs =>
    obtain ⟨b, h1, h2⟩ := h
    refine ⟨b, x.blk _ _ h1, fun i av hi => ?_⟩
    obtain ⟨k1, k2, y, k3, k4, k5⟩ := h2 i av hi
    obtain ⟨m1, m2, m3⟩ := hb _ _ k1
    exact ⟨m1, m3.trans k2, y, m2.trans k3, k4, k5.mono x⟩
  | arr c L ver wr =>
    obtain ⟨base, cap, h1, h2, h3, h4⟩ := h
    refine ⟨base, cap, x.sv _ _ _ h1, h2, h3, fun a ha => ?_⟩
    obtain ⟨k1, k2, k3⟩ := h4 a ha
    refine ⟨k1, fun o l1 l2 => ?_, fun i y hy j av hj => ?_⟩
    · obtain ⟨m1, m2, m3⟩ := k2 o l1 l2
      obtain ⟨n1, n2, n3⟩ := hb _ _ m1
      exact ⟨n1, n3.trans m2, by rw [n2]; exact m3⟩
    · obtain ⟨m1, m2, v, m3, m4, m5⟩ := k3 i y hy j av hj
      cases wr with
      | true =>
        simp only [if_true] at m1 ⊢
        obtain ⟨n1, n2, n3⟩ := hb _ _ m1
        exact ⟨n1, fun _ => n3.trans (m2 rfl), v, n2.trans m3, m4, m5.mono x⟩
      | false =>
        simp only [Bool.false_eq_true, if_false] at m1 ⊢
        obtain ⟨n1, n2⟩ := x.frz _ _ m1
        exact ⟨n1, fun e => e.elim, v, n2.trans m3, m4, m5.mono x⟩
  | mp kc vc M =>
    obtain ⟨b, es, clock, h1, h2, h3, h4, h5⟩ := h
    exact ⟨b, es, clock, x.blk _ _ h1, hm _ _ _ h3 h2, (hb _ _ h3).1, h4, fun i k v en hk he => ⟨((h5 i k v en hk he).1).mono x, ((h5 i k v en hk he).2).mono x⟩⟩
  | dead => trivial
  | hole => exact hh rfl

/-- A new object at a new block. -/
def Gh.new (γ : Gh) (id b : Nat) (own : Nat → Own) (blk : Option Nat) (sv : Option (Option Addr × Nat × Nat × Nat)) : Gh :=
  { own := fun b' o => if b' = b then own o else γ.own b' o
    blk := fun j => if j = id then blk else γ.blk j
    sv := fun j v => if j = id ∧ v = 0 then sv else γ.sv j v }

/-- The heap with a new object at id. -/
structure NewAt (H H' : Heap U) (id : Nat) (ob : Obj U) : Prop where
  at_ : H'[id]? = some ob
  other : ∀ j, j ≠ id → H'[j]? = H[j]?
  len : H.length ≤ H'.length
  was : H.length ≤ id ∨ H[id]? = some .hole

theorem NewAt.push (H : Heap U) (ob : Obj U) : NewAt H (H ++ [ob]) H.length ob :=
  ⟨by simp, fun j hj => by
    rcases Nat.lt_or_ge j H.length with h | h
    · rw [List.getElem?_append_left h]
    · rw [List.getElem?_eq_none (by simp; omega), List.getElem?_eq_none h], by simp, .inl (Nat.le_refl _)⟩

theorem NewAt.set {H : Heap U} {id : Nat} {ob : Obj U} (h : H[id]? = some .hole) : NewAt H (H.set id ob) id ob :=
  ⟨by simp [(List.getElem?_eq_some_iff.1 h).1], fun j hj => List.getElem?_set_ne (Ne.symm hj), by simp, .inr h⟩

theorem NewAt.fresh {γ : Gh} {w : World} {H H' : Heap U} {id : Nat} {ob : Obj U} (h : NewAt H H' id ob) (hH : HRel T γ w H) : γ.blk id = none ∧ ∀ ver, γ.sv id ver = none := by
  rcases h.was with h | h
  · exact ⟨hH.blk _ h, fun ver => hH.sv _ _ h⟩
  · exact hH.objs _ _ h

theorem NewAt.ro {H H' : Heap U} {id : Nat} {ob : Obj U} {base : Nat} {mu : List (Nat × Nat)} (h : NewAt H H' id ob) (hb : base ≤ id) : RO base mu H H' :=
  ⟨h.len, fun j cs hj hc => ⟨cs, (h.other j (by omega)).trans hc, rfl, fun _ _ => rfl⟩, fun j ob' hj ho _ _ => (h.other j (by omega)).trans ho⟩

theorem Ext.new {γ : Gh} {w w' : World} {O : Go.Obj} {id : Nat} {own : Nat → Own} {blk : Option Nat} {sv : Option (Option Addr × Nat × Nat × Nat)}
    (hf : γ.blk id = none ∧ ∀ ver, γ.sv id ver = none) (hs : ∀ b o, γ.own b o ≠ .free → b < w.heap.size)
    (hh : w'.heap = w.heap.push O) (h1 : w'.os = w.os) (h2 : w'.tape = w.tape) (h3 : w'.output = w.output) : Ext γ w (γ.new id w.heap.size own blk sv) w' := by
  have hold : ∀ b, b < w.heap.size → w'.heap[b]? = w.heap[b]? := fun b hb => by rw [hh, Array.getElem?_push, if_neg (by omega)]
  refine ⟨?_, ?_, ?_, ?_, by rw [hh]; simp, h1, h2, h3, fun b hb _ => hold b hb⟩
  · intro j b hj
    have : j ≠ id := fun e => by rw [e, hf.1] at hj; cases hj
    simp [Gh.new, this, hj]
  · intro j v y hj
    have : j ≠ id := fun e => by rw [e, hf.2] at hj; cases hj
    simp [Gh.new, this, hj]
  · intro b o hb
    have hlt := hs b o (by rw [hb]; exact fun e => nomatch e)
    refine ⟨by simp only [Gh.new]; rw [if_neg (by omega)]; exact hb, World.cell?_of_block (w := w) (w' := w') (hold b hlt)⟩
  · intro b o hlt hb
    simp only [Gh.new]; rw [if_neg (by omega)]; exact hb

theorem HRel.new {γ : Gh} {w w' : World} {O : Go.Obj} {H H' : Heap U} {id : Nat} {ob : Obj U} {own : Nat → Own} {blk : Option Nat} {sv : Option (Option Addr × Nat × Nat × Nat)}
    (hH : HRel T γ w H) (hN : NewAt H H' id ob) (hown : ∀ o, own o = .free ∨ own o = .obj id ∨ own o = .frz)
    (hver : ∀ c L ver wr, ob = .arr c L ver wr → ver = 0)
    (hh : w'.heap = w.heap.push O) (h1 : w'.os = w.os) (h2 : w'.tape = w.tape) (h3 : w'.output = w.output)
    (hob : ORel T (γ.new id w.heap.size own blk sv) w' id ob) : HRel T (γ.new id w.heap.size own blk sv) w' H' := by
  have hf := hN.fresh hH
  have hx := Ext.new (own := own) (blk := blk) (sv := sv) (O := O) hf hH.size hh h1 h2 h3
  have hold : ∀ b, b < w.heap.size → w'.heap[b]? = w.heap[b]? := fun b hb => by rw [hh, Array.getElem?_push, if_neg (by omega)]
  have hid : id < H'.length := (List.getElem?_eq_some_iff.1 hN.at_).1
  refine ⟨?_, ?_, ?_, ?_, ?_⟩
  · intro b o hb
    rw [hh]
    simp only [Gh.new] at hb
    split at hb
    · simp; omega
    · have := hH.size b o hb; simp; omega
  · intro j hj
    simp only [Gh.new]
    rw [if_neg (by omega)]
    exact hH.blk j (Nat.le_trans hN.len hj)
  · intro j v hj
    simp only [Gh.new]
    rw [if_neg (by omega)]
    exact hH.sv j v (Nat.le_trans hN.len hj)
  · intro j c L ver wr hj v hv
    by_cases e : j = id
    · subst e
      rw [hN.at_] at hj
      cases hj
      have := hver c L ver wr rfl
      subst this
      simp only [Gh.new]
      rw [if_neg (by omega)]
      exact hf.2 v
    · rw [hN.other j e] at hj
      simp only [Gh.new]
      rw [if_neg (fun h => e h.1)]
      exact hH.ver j c L ver wr hj v hv
  · intro j ob' hj
    by_cases e : j = id
    · subst e
      rw [hN.at_] at hj
      cases hj
      exact hob
    · rw [hN.other j e] at hj
      refine ORel.keep (hH.objs j ob' hj) hx ?_ ?_ ?_
      · intro b o hb
        have hlt := hH.size b o (by rw [hb]; exact fun e => nomatch e)
        refine ⟨by simp only [Gh.new]; rw [if_neg (by omega)]; exact hb, World.cell?_of_block (w := w) (w' := w') (hold b hlt), World.frozen?_of_block (w := w) (w' := w') (hold b hlt)⟩
      · intro b es c hb hm
        have hlt := hH.size b 0 (by rw [hb]; exact fun e => nomatch e)
        rw [hold b hlt]; exact hm
      · intro e'
        subst e'
        have := hH.objs j _ hj
        simp only [Gh.new]
        rw [if_neg e]
        exact ⟨this.1, fun ver => by rw [if_neg (fun h => e h.1)]; exact this.2 ver⟩

theorem newK_some {sl : Option Nat} {ob : Obj U} {v : Nat → AV U} {H : Heap U} {kk : Kont U R} {r : R} (h : newK sl ob v H kk = some r) :
    ∃ id H' ft, NewAt H H' id ob ∧ kk (v id) H' ft = some r ∧ (H.length ≤ id ∨ sl = some id) := by
  unfold newK at h
  split at h
  · exact ⟨_, _, _, NewAt.push H ob, h, .inl (Nat.le_refl _)⟩
  · rename_i id
    split at h
    · rename_i ho
      exact ⟨id, _, _, NewAt.set ho, h, .inr rfl⟩
    · cases h

/-- A new variable. -/
theorem newVar_turns {sl : Option Nat} {cs : List (AV U)} {base : Nat} {mu : List (Nat × Nat)} {γ : Gh} {w : World} {H : Heap U} {kk : Kont U R} {r : R} {t : TypeId} {x : Value}
    (hH : HRel T γ w H) (hb : base ≤ H.length) (hsl : ∀ id, sl = some id → base ≤ id) (hc : CRel T γ w cs x.cells.toList) (h : newK sl (.cells cs) (fun id => .ptr id 0) H kk = some r) :
    Turns P T base mu γ w (do Pure.pure (Value.pointer (some (← newVar t x)))) kk r H := by
  obtain ⟨id, H', ft, hN, hk, hid⟩ := newK_some h
  have hbase : base ≤ id := by rcases hid with h | h; omega; exact hsl _ h
  let w' : World := w.alloc (.cells x.cells t)
  let own : Nat → Own := fun o => if o < cs.length then .obj id else .free
  have hf := hN.fresh hH
  have hx := Ext.new (own := own) (blk := some w.heap.size) (sv := none) (O := .cells x.cells t) (w := w) (w' := w') hf hH.size rfl rfl rfl rfl
  refine ⟨.pointer (some ⟨w.heap.size, 0, none⟩), w', .ptr id 0, H', ft, γ.new id w.heap.size own (some w.heap.size) none, ?_, hk, ?_, ?_, hx, hN.ro hbase⟩
  · simp [newVar, newRow, w']
  · exact .ptr _ _ _ (by simp [Gh.new])
  · refine hH.new hN ?_ (fun c L ver wr e => nomatch e) rfl rfl rfl rfl ?_
    · intro o; simp only [own]; split <;> simp
    · refine ⟨w.heap.size, by simp [Gh.new], fun i av hi => ?_⟩
      have hlt : i < cs.length := (List.getElem?_eq_some_iff.1 hi).1
      have hlt' : i < x.cells.size := by have := hc.1; simp at this; omega
      have hy : x.cells.toList[i]? = some x.cells[i] := by simp [hlt']
      obtain ⟨h1, h2⟩ := hc.2 i av _ hi hy
      refine ⟨by simp [Gh.new, own, hlt], by simp [w'], x.cells[i], by simp [w', hlt'], h1, h2.mono hx⟩

theorem allocK_turns {e : Env U} (hP : e.P = P) {sl : Option Nat} {base : Nat} {mu : List (Nat × Nat)} {γ : Gh} {w : World} {H : Heap U} {kk : Kont U R} {r : R} {t : TypeId}
    (hH : HRel T γ w H) (hb : base ≤ H.length) (hsl : ∀ id, sl = some id → base ≤ id) (h : allocK e sl t H kk = some r) :
    Turns P T base mu γ w (Instr.alloc t true (.tuple #[])) kk r H := by
  unfold allocK at h
  rw [hP] at h
  split at h
  · rename_i z hz
    obtain ⟨i, v, hi, hv, rfl, hz'⟩ := zeroOf_rel (T := T) hz γ w
    obtain ⟨x, w', v', H', ft, γ', h1, hrest⟩ := newVar_turns (P := P) (mu := mu) (t := t) hH hb hsl hz' h
    refine ⟨x, w', v', H', ft, γ', ?_, hrest⟩
    simp [Instr.alloc, zeroValue, typeInfo, hi, hv] at h1 ⊢
    exact h1
  · cases h

theorem boxK_turns {e : Env U} {sl : Option Nat} {base : Nat} {mu : List (Nat × Nat)} {γ : Gh} {w : World} {H : Heap U} {kk : Kont U R} {r : R} {t : TypeId} {v : AV U} {x : Value}
    (hH : HRel T γ w H) (hb : base ≤ H.length) (hsl : ∀ id, sl = some id → base ≤ id) (hv : VRel T γ w v x) (h : boxK e sl v H kk = some r) :
    Turns P T base mu γ w (Instr.box t x) kk r H := by
  unfold boxK at h
  split at h
  · rename_i ho
    exact newVar_turns (P := P) (mu := mu) (t := t) hH hb hsl (okv_cells hv ho) h
  · cases h

end
end Go.Ab

namespace Go.Ab
section
variable {U : Nat → Type} {T : Tab U} {C : Callee U} {n : Nat} {P : Program} {R : Type}

theorem setCells_heap (b : Nat) : ∀ (vs : List Value) (o : Nat) (w : World) (k : Nat), k ≠ b → (w.setCells b o vs).heap[k]? = w.heap[k]?
  | [], _, _, _, _ => rfl
  | v :: r, o, w, k, h => by rw [World.setCells, setCells_heap b r (o + 1) _ k h]; exact RowKit.Below.heap_setCell w _ v k h

theorem setCells_same (b : Nat) : ∀ (vs : List Value) (o : Nat) (w : World),
    (w.setCells b o vs).heap.size = w.heap.size ∧ (w.setCells b o vs).os = w.os ∧ (w.setCells b o vs).tape = w.tape ∧ (w.setCells b o vs).output = w.output
  | [], _, _ => ⟨rfl, rfl, rfl, rfl⟩
  | v :: r, o, w => by
    obtain ⟨h1, h2, h3, h4⟩ := setCells_same b r (o + 1) (w.setCell ⟨b, o, none⟩ v)
    exact ⟨h1.trans (by simp [World.setCell]), h2, h3, h4⟩

/-- The cells that are written: each is there, is the object's, is not frozen. -/
def Region (γ : Gh) (w : World) (id b off k : Nat) : Prop :=
  ∀ j, j < k → γ.own b (off + j) = .obj id ∧ (w.cell? ⟨b, off + j, none⟩).isSome = true ∧ w.frozen? ⟨b, off + j, none⟩ = false

theorem Region.out {γ : Gh} {w : World} {id b off : Nat} {ys : List Value} (h : Region γ w id b off ys.length) (b' o : Nat) (hn : γ.own b' o ≠ .obj id) :
    (w.setCells b off ys).cell? ⟨b', o, none⟩ = w.cell? ⟨b', o, none⟩ := by
  refine World.cell?_setCells_out b ys off w _ fun e _ => ?_
  simp at e ⊢
  subst e
  by_cases h1 : o < off
  · exact .inl h1
  · by_cases h2 : o < off + ys.length
    · have := (h (o - off) (by omega)).1
      rw [show off + (o - off) = o by omega] at this
      exact absurd this hn
    · exact .inr (by omega)

theorem Ext.write {γ : Gh} {w : World} {id b off : Nat} {ys : List Value} (h : Region γ w id b off ys.length) : Ext γ w γ (w.setCells b off ys) := by
  obtain ⟨h1, h2, h3, h4⟩ := setCells_same b ys off w
  refine ⟨fun _ _ h => h, fun _ _ _ h => h, fun b' o hf => ⟨hf, h.out b' o (by rw [hf]; exact fun e => nomatch e)⟩, fun _ _ _ h => h, by rw [h1]; exact Nat.le_refl _, h2, h3, h4, fun b' _ hn => ?_⟩
  by_cases e : b' = b
  · cases ys with
    | nil => rfl
    | cons y ys => exact absurd (h 0 (by simp)).1 (by subst e; exact hn _ _)
  · exact setCells_heap b ys off w b' e

theorem HRel.write {γ : Gh} {w : World} {H : Heap U} {id b off : Nat} {ys : List Value} {ob' : Obj U} (hH : HRel T γ w H) (hid : id < H.length)
    (h : Region γ w id b off ys.length) (hver : ∀ c L ver wr, ob' = .arr c L ver wr → ∀ v, ver < v → γ.sv id v = none)
    (hob : ORel T γ (w.setCells b off ys) id ob') : HRel T γ (w.setCells b off ys) (H.set id ob') := by
  obtain ⟨h1, h2, h3, h4⟩ := setCells_same b ys off w
  refine ⟨fun b' o hb => by rw [h1]; exact hH.size b' o hb, fun j hj => hH.blk j (by simpa using hj), fun j v hj => hH.sv j v (by simpa using hj), ?_, ?_⟩
  · intro j c L ver wr hj v hv
    by_cases e : j = id
    · subst e
      simp [hid] at hj
      exact hver c L ver wr hj v hv
    · rw [List.getElem?_set_ne (Ne.symm e)] at hj
      exact hH.ver j c L ver wr hj v hv
  · intro j ob hj
    by_cases e : j = id
    · subst e
      simp [hid] at hj
      subst hj
      exact hob
    · rw [List.getElem?_set_ne (Ne.symm e)] at hj
      refine ORel.keep (hH.objs j ob hj) (Ext.write h) ?_ ?_ ?_
      · intro b' o hb
        exact ⟨hb, h.out b' o (by rw [hb]; exact fun q => e (by cases q; rfl)), World.frozen?_setCells b ys off w _⟩
      · intro b' es c hb hm
        by_cases e' : b' = b
        · cases ys with
          | nil => exact hm
          | cons y ys =>
            have := (h 0 (by simp)).2.1
            subst e'
            simp [World.cell?, hm] at this
        · rw [setCells_heap b ys off w b' e']; exact hm
      · intro e'
        subst e'
        exact hH.objs j _ hj

theorem RO.set {base : Nat} {mu : List (Nat × Nat)} {H : Heap U} {id : Nat} {ob' : Obj U} (h : base ≤ id ∨ ((id, 0) ∈ mu ∧ ∀ cs, H[id]? ≠ some (.cells cs))) : RO base mu H (H.set id ob') := by
  refine ⟨by simp, fun j cs hj hc => ?_, fun j ob hj ho hn hm => ?_⟩
  · by_cases e : j = id
    · subst e
      rcases h with h | h
      · omega
      · exact absurd hc (h.2 cs)
    · exact ⟨cs, by rw [List.getElem?_set_ne (Ne.symm e)]; exact hc, rfl, fun _ _ => rfl⟩
  · by_cases e : j = id
    · subst e
      rcases h with h | h
      · omega
      · exact absurd h.1 hm
    · rw [List.getElem?_set_ne (Ne.symm e)]; exact ho

theorem may_iff {s : St U} {id off : Nat} (h : s.may id off = true) : s.base ≤ id ∨ (id, off) ∈ s.mu := by
  simpa [St.may] using h

theorem RO.setArr {s : St U} {H : Heap U} {id : Nat} {ob' : Obj U} (h : s.may id 0 = true) (hn : ∀ cs, H[id]? ≠ some (.cells cs)) : RO s.base s.mu H (H.set id ob') := by
  rcases may_iff h with h | h
  · exact .set (.inl h)
  · exact .set (.inr ⟨h, hn⟩)

theorem mayAll_iff {s : St U} {id off : Nat} : ∀ {k : Nat}, mayAll s id off k = true → ∀ j, j < k → s.may id (off + j) = true
  | 0, _, j, hj => by omega
  | k + 1, h, j, hj => by
    simp only [mayAll, Bool.and_eq_true] at h
    by_cases e : j = k
    · subst e; exact h.1
    · exact mayAll_iff h.2 j (by omega)

theorem RO.setCells {s : St U} {H : Heap U} {id off : Nat} {cs cs' vs : List (AV U)} (hc : H[id]? = some (.cells cs)) (h : mayAll s id off vs.length = true) (hp : putCells cs off vs = some cs') :
    RO s.base s.mu H (H.set id (.cells cs')) := by
  unfold putCells at hp
  split at hp
  · rename_i hle
    cases hp
    refine ⟨by simp, fun j cs0 hj hc0 => ?_, fun j ob hj ho hn hm => ?_⟩
    · by_cases e : j = id
      · subst e
        rw [hc] at hc0
        cases hc0
        have hlt := (List.getElem?_eq_some_iff.1 hc).1
        refine ⟨cs.take off ++ vs ++ cs.drop (off + vs.length), by simp [hlt], by simp; omega, fun o ho => ?_⟩
        by_cases h2 : o < off
        · rw [List.append_assoc, List.getElem?_append_left (by simp; omega), List.getElem?_take_of_lt h2]
        · by_cases h3 : o < off + vs.length
          · have := mayAll_iff h (o - off) (by omega)
            rw [show off + (o - off) = o by omega] at this
            rcases may_iff this with h4 | h4
            · omega
            · exact absurd h4 ho
          · rw [List.getElem?_append_right (by simp; omega), List.getElem?_drop]
            simp only [List.length_append, List.length_take]
            rw [show off + vs.length + (o - (min off cs.length + vs.length)) = o by omega]
      · exact ⟨cs0, by rw [List.getElem?_set_ne (Ne.symm e)]; exact hc0, rfl, fun _ _ => rfl⟩
    · by_cases e : j = id
      · subst e
        rw [hc] at ho
        cases ho
        exact absurd rfl (hn cs)
      · rw [List.getElem?_set_ne (Ne.symm e)]; exact ho
  · cases hp

theorem cellsOf_len (ok : T.Ok P) (c : Cd) (x : den U c) : (cellsOf T c x).length = c.size T := by
  cases c with
  | st t => exact ok.size t x
  | _ => rfl

/-- A row stays as it is from now on. -/
def Gh.freeze (γ : Gh) (id : Nat) (base : Option Addr) (k : Nat) : Gh :=
  { γ with own := fun b o => if γ.own b o = .obj id ∧ (∃ a, base = some a ∧ a.block = b ∧ a.off ≤ o ∧ o < a.off + k) then .frz else γ.own b o }

open Classical in
theorem freeze_own {γ : Gh} {id : Nat} {base : Option Addr} {k b o : Nat} : (γ.freeze id base k).own b o = γ.own b o ∨ (γ.own b o = .obj id ∧ (γ.freeze id base k).own b o = .frz) := by
  simp only [Gh.freeze]
  split
  · rename_i h; exact .inr ⟨h.1, rfl⟩
  · exact .inl rfl

theorem freeze_rel (ok : T.Ok P) {γ : Gh} {w : World} {H : Heap U} {id ver : Nat} {c : Cd} {L : List (den U c)} {x : Value} (hH : HRel T γ w H) (ho : H[id]? = some (.arr c L ver true))
    (hx : VRel T γ w (.sl id ver) x) :
    ∃ γ', HRel T γ' w (H.set id (.arr c L ver false)) ∧ Ext γ w γ' w ∧ VRel T γ' w (.fsl c L .unk) x ∧ γ'.sv = γ.sv ∧ γ'.blk = γ.blk := by
  obtain ⟨base, cap, h1, h2, h3, h4⟩ := hH.objs _ _ ho
  have hid := (List.getElem?_eq_some_iff.1 ho).1
  let γ' := γ.freeze id base (L.length * c.size T)
  have hfrz : ∀ b o, γ.own b o = .frz → γ'.own b o = .frz := fun b o hb => by
    rcases freeze_own (γ := γ) (id := id) (base := base) (k := L.length * c.size T) (b := b) (o := o) with h | ⟨h, _⟩
    · exact h.trans hb
    · rw [h] at hb; cases hb
  have hx' : Ext γ w γ' w := by
    refine ⟨fun _ _ h => h, fun _ _ _ h => h, fun b o hb => ⟨hfrz b o hb, rfl⟩, fun b o _ hb => ?_, Nat.le_refl _, rfl, rfl, rfl, fun _ _ _ => rfl⟩
    rcases freeze_own (γ := γ) (id := id) (base := base) (k := L.length * c.size T) (b := b) (o := o) with h | ⟨h, _⟩
    · exact h.trans hb
    · rw [h] at hb; cases hb
  have hel : ∀ a, base = some a → ∀ (i : Nat) y, L[i]? = some y → ∀ (j : Nat) av, (cellsOf T c y)[j]? = some av →
      γ'.own a.block (a.off + i * c.size T + j) = .frz ∧ ∃ v, w.cell? ⟨a.block, a.off + i * c.size T + j, none⟩ = some v ∧ v.oneCell' = true ∧ VRel T γ' w av v := by
    intro a ha i y hy j av hj
    obtain ⟨_, _, k3⟩ := h4 a ha
    obtain ⟨m1, m2, v, m3, m4, m5⟩ := k3 i y hy j av hj
    simp only [if_true] at m1
    refine ⟨?_, v, m3, m4, m5.mono hx'⟩
    have hj' : j < c.size T := by rw [← cellsOf_len ok c y]; exact (List.getElem?_eq_some_iff.1 hj).1
    have hi' : i < L.length := (List.getElem?_eq_some_iff.1 hy).1
    have hlt : i * c.size T + j < L.length * c.size T := by
      calc i * c.size T + j < i * c.size T + c.size T := by omega
        _ = (i + 1) * c.size T := by rw [Nat.add_mul, Nat.one_mul]
        _ ≤ L.length * c.size T := Nat.mul_le_mul_right _ hi'
    simp only [γ', Gh.freeze]
    rw [if_pos ⟨m1, a, ha, rfl, by omega, by omega⟩]
  refine ⟨γ', ⟨fun b o hb => hH.size b o fun e => hb ?_, fun j hj => hH.blk j (by simpa using hj), fun j v hj => hH.sv j v (by simpa using hj), ?_, ?_⟩, hx', ?_, rfl, rfl⟩
  · rcases freeze_own (γ := γ) (id := id) (base := base) (k := L.length * c.size T) (b := b) (o := o) with h | ⟨h, _⟩
    · exact h.trans e
    · rw [h] at e; cases e
  · intro j c' L' ver' wr hj v hv
    by_cases e : j = id
    · subst e
      simp [hid] at hj
      obtain ⟨rfl, _, rfl, _⟩ := hj
      exact hH.ver _ _ _ _ _ ho v hv
    · rw [List.getElem?_set_ne (Ne.symm e)] at hj
      exact hH.ver j c' L' ver' wr hj v hv
  · intro j ob hj
    by_cases e : j = id
    · subst e
      simp [hid] at hj
      subst hj
      refine ⟨base, cap, h1, h2, h3, fun a ha => ?_⟩
      obtain ⟨k1, k2, k3⟩ := h4 a ha
      refine ⟨k1, fun o l1 l2 => ?_, fun i y hy jj av hjj => ?_⟩
      · obtain ⟨m1, m2, m3⟩ := k2 o l1 l2
        refine ⟨?_, m2, m3⟩
        simp only [γ', Gh.freeze]
        rw [if_neg]
        · exact m1
        · rintro ⟨_, a', ha', _, _, q⟩
          rw [ha] at ha'
          cases ha'
          omega
      · obtain ⟨m1, m2⟩ := hel a ha i y hy jj av hjj
        exact ⟨by simpa using m1, (by intro e; cases e), m2⟩
    · rw [List.getElem?_set_ne (Ne.symm e)] at hj
      refine ORel.keep (hH.objs j ob hj) hx' ?_ (fun b es c _ h => h) ?_
      · intro b o hb
        refine ⟨?_, rfl, rfl⟩
        rcases freeze_own (γ := γ) (id := id) (base := base) (k := L.length * c.size T) (b := b) (o := o) with h | ⟨h, _⟩
        · exact h.trans hb
        · rw [h] at hb; cases hb; exact absurd rfl e
      · intro e'
        subst e'
        exact hH.objs j _ hj
  · cases hx with
    | sl id ver base' len cap' size hs =>
      rw [h1] at hs
      cases hs
      have hex : ∀ i j, ∃ v, ∀ a, base = some a → ∀ y, L[i]? = some y → ∀ av, (cellsOf T c y)[j]? = some av →
          w.cell? ⟨a.block, a.off + i * c.size T + j, none⟩ = some v ∧ v.oneCell' = true ∧ VRel T γ' w av v := by
        intro i j
        by_cases hq : ∃ a y av, base = some a ∧ L[i]? = some y ∧ (cellsOf T c y)[j]? = some av
        · obtain ⟨a, y, av, ha, hy, hj⟩ := hq
          obtain ⟨_, v, m3, m4, m5⟩ := hel a ha i y hy j av hj
          refine ⟨v, fun a' ha' y' hy' av' hj' => ?_⟩
          rw [ha] at ha'; cases ha'
          rw [hy] at hy'; cases hy'
          rw [hj] at hj'; cases hj'
          exact ⟨m3, m4, m5⟩
        · exact ⟨undef, fun a ha y hy av hj => absurd ⟨a, y, av, ha, hy, hj⟩ hq⟩
      cases hb : base with
      | none =>
        have hL : L = [] := List.eq_nil_of_length_eq_zero (by have := h3 hb; omega)
        subst hL
        exact .fsl c [] .unk none 0 cap (fun _ _ => undef) rfl (Nat.zero_le _) trivial (fun _ => h3 hb) (fun a h => by cases h) (fun a h => by cases h) (fun i x h => by simp at h)
      | some a =>
        refine .fsl c L .unk (some a) _ cap (fun i j => Classical.choose (hex i j)) rfl h2 trivial (fun h => by cases h) (fun a' h => by cases h; exact (h4 a hb).1) ?_ ?_
        · intro a' ha' i y hy j av hj
          cases ha'
          have hs := Classical.choose_spec (hex i j) a hb y hy av hj
          exact ⟨(hel a hb i y hy j av hj).1, hs.1, hs.2.1⟩
        · intro i y hy j av hj
          exact (Classical.choose_spec (hex i j) a hb y hy av hj).2.2

end
end Go.Ab

namespace Go.Ab
section
variable {U : Nat → Type} {T : Tab U} {C : Callee U} {n : Nat} {P : Program} {R : Type}

/-- What making plain leaves: the same memory, told otherwise. -/
structure Pur (T : Tab U) (γ : Gh) (w : World) (H H' : Heap U) (ids : List Nat) (γ' : Gh) : Prop where
  rel : HRel T γ' w H'
  ext : Ext γ w γ' w
  ro : ∀ s : St U, (∀ j ∈ ids, s.may j 0 = true) → RO s.base s.mu H H'
  sv : γ'.sv = γ.sv
  blk : γ'.blk = γ.blk
  len : H'.length = H.length

theorem Pur.refl {γ : Gh} {w : World} {H : Heap U} (h : HRel T γ w H) (ids : List Nat) : Pur T γ w H H ids γ :=
  ⟨h, Ext.refl _ _, fun _ _ => RO.refl _ _ _, rfl, rfl, rfl⟩

theorem Pur.trans {γ γ' γ'' : Gh} {w : World} {H H' H'' : Heap U} {ids ids' : List Nat} (h : Pur T γ w H H' ids γ') (k : Pur T γ' w H' H'' ids' γ'') : Pur T γ w H H'' (ids ++ ids') γ'' :=
  ⟨k.rel, h.ext.trans k.ext, fun s hs => (h.ro s fun j hj => hs j (List.mem_append_left _ hj)).trans (k.ro s fun j hj => hs j (List.mem_append_right _ hj)),
   k.sv.trans h.sv, k.blk.trans h.blk, k.len.trans h.len⟩

theorem purify1_rel (ok : T.Ok P) {γ : Gh} {w : World} {H H' : Heap U} {v v' : AV U} {x : Value} {ids : List Nat} (h : purify1 H v = some (v', H', ids)) (hH : HRel T γ w H) (hx : VRel T γ w v x) :
    ∃ γ', Pur T γ w H H' ids γ' ∧ VRel T γ' w v' x := by
  unfold purify1 at h
  split at h
  · rename_i id ver
    split at h
    · rename_i c L ver' wr ho
      split at h
      · rename_i hv
        subst hv
        split at h
        · rename_i hw
          subst hw
          cases h
          obtain ⟨γ', h1, h2, h3, h4, h5⟩ := freeze_rel ok hH ho hx
          exact ⟨γ', ⟨h1, h2, fun s hs => RO.setArr (hs id (by simp)) (fun cs e => by rw [ho] at e; cases e), h4, h5, by simp⟩, h3⟩
        · rename_i hw
          have hw' : wr = false := by simpa using hw
          subst hw'
          cases h
          refine ⟨γ, Pur.refl hH _, ?_⟩
          obtain ⟨base, cap, h1, h2, h3, h4⟩ := hH.objs _ _ ho
          cases hx with
          | sl id ver base' len cap' size hs =>
            rw [h1] at hs
            cases hs
            have hex : ∀ i j, ∃ v, ∀ a, base = some a → ∀ y, L[i]? = some y → ∀ av, (cellsOf T c y)[j]? = some av →
                γ.own a.block (a.off + i * c.size T + j) = .frz ∧ w.cell? ⟨a.block, a.off + i * c.size T + j, none⟩ = some v ∧ v.oneCell' = true ∧ VRel T γ w av v := by
              intro i j
              by_cases hq : ∃ a y av, base = some a ∧ L[i]? = some y ∧ (cellsOf T c y)[j]? = some av
              · obtain ⟨a, y, av, ha, hy, hj⟩ := hq
                obtain ⟨m1, _, v, m3, m4, m5⟩ := (h4 a ha).2.2 i y hy j av hj
                refine ⟨v, fun a' ha' y' hy' av' hj' => ?_⟩
                rw [ha] at ha'; cases ha'
                rw [hy] at hy'; cases hy'
                rw [hj] at hj'; cases hj'
                exact ⟨by simpa using m1, m3, m4, m5⟩
              · exact ⟨undef, fun a ha y hy av hj => absurd ⟨a, y, av, ha, hy, hj⟩ hq⟩
            cases hb : base with
            | none =>
              have hL : L = [] := List.eq_nil_of_length_eq_zero (by have := h3 hb; omega)
              subst hL
              exact .fsl c [] .unk none 0 cap (fun _ _ => undef) rfl (Nat.zero_le _) trivial (fun _ => h3 hb) (fun a h => by cases h) (fun a h => by cases h) (fun i x h => by simp at h)
            | some a =>
              refine .fsl c L .unk (some a) _ cap (fun i j => Classical.choose (hex i j)) rfl h2 trivial (fun h => by cases h) (fun a' h => by cases h; exact (h4 a hb).1) ?_ ?_
              · intro a' ha' i y hy j av hj
                cases ha'
                have hs := Classical.choose_spec (hex i j) a hb y hy av hj
                exact ⟨hs.1, hs.2.1, hs.2.2.1⟩
              · intro i y hy j av hj
                exact (Classical.choose_spec (hex i j) a hb y hy av hj).2.2.2
      · cases h
    · cases h
  · cases h
  · cases h
  · cases h
  · cases h
    exact ⟨γ, Pur.refl hH _, hx⟩

theorem purifyL_rel (ok : T.Ok P) {γ : Gh} {w : World} : ∀ {cs cs' : List (AV U)} {H H' : Heap U} {γ : Gh} {vs : List Value} {ids : List Nat}, purifyL H cs = some (cs', H', ids) → HRel T γ w H → CRel T γ w cs vs →
    ∃ γ', Pur T γ w H H' ids γ' ∧ CRel T γ' w cs' vs
  | [], _, H, H', γ, vs, ids, h, hH, hc => by
    simp only [purifyL, Option.some.injEq, Prod.mk.injEq] at h
    obtain ⟨rfl, rfl, rfl⟩ := h
    exact ⟨γ, Pur.refl hH _, hc⟩
  | v :: cs, cs', H, H', γ, vs, ids, h, hH, hc => by
    simp only [purifyL] at h
    split at h
    · cases h
    · rename_i v' H1 ids1 h1
      split at h
      · cases h
      · rename_i cs1 H2 ids2 h2
        cases h
        cases vs with
        | nil => have := hc.1; simp at this
        | cons x vs =>
          obtain ⟨x1, hx⟩ := hc.2 0 v x rfl rfl
          obtain ⟨γ1, p1, hv'⟩ := purify1_rel ok h1 hH hx
          have hc' : CRel T γ1 w cs vs := ⟨by simpa using hc.1, fun i c y hi hy => by
            obtain ⟨q1, q2⟩ := hc.2 (i + 1) c y (by simpa using hi) (by simpa using hy)
            exact ⟨q1, q2.mono p1.ext⟩⟩
          obtain ⟨γ2, p2, hcs⟩ := purifyL_rel (γ := γ) ok h2 p1.rel hc'
          refine ⟨γ2, p1.trans p2, by simpa using hcs.1, fun i c y hi hy => ?_⟩
          cases i with
          | zero =>
            simp at hi hy
            subst hi hy
            exact ⟨x1, hv'.mono p2.ext⟩
          | succ i => exact hcs.2 i c y (by simpa using hi) (by simpa using hy)

theorem purify_rel (ok : T.Ok P) {γ : Gh} {w : World} {H H' : Heap U} {v v' : AV U} {x : Value} {ids : List Nat} (h : purify H v = some (v', H', ids)) (hH : HRel T γ w H) (hx : VRel T γ w v x) :
    ∃ γ', Pur T γ w H H' ids γ' ∧ VRel T γ' w v' x := by
  unfold purify at h
  split at h
  · rename_i cs
    split at h
    · rename_i cs' H1 ids' hp
      cases h
      cases hx with
      | agg cs vs hl h1 hv =>
        obtain ⟨γ', p, hc⟩ := purifyL_rel (γ := γ) ok hp hH (vs := vs.toList) ⟨by simpa using hl, fun i c y hi hy => ⟨h1 i y (by simpa using hy), hv i c y hi (by simpa using hy)⟩⟩
        exact ⟨γ', p, .agg cs' vs (by simpa using hc.1) h1 fun i c y hi hy => (hc.2 i c y hi (by simpa using hy)).2⟩
    · cases h
  · exact purify1_rel ok h hH hx

theorem CRel.weak (ok : T.Ok P) {t : Nat} {cs : List (AV U)} {x : U t} {vs : List Value} {γ : Gh} {w : World} (h : T.of t cs = some x) (hc : CRel T γ w cs vs) : CRel T γ w (T.cells t x) vs := by
  obtain ⟨h1, h2⟩ := ok.weak t cs x h
  refine ⟨h1.symm.trans hc.1, fun i c y hi hy => ?_⟩
  have hlt : i < cs.length := by rw [h1]; exact (List.getElem?_eq_some_iff.1 hi).1
  obtain ⟨q1, q2⟩ := hc.2 i _ y (List.getElem?_eq_getElem hlt) hy
  exact ⟨q1, VRel.weak (h2 i _ c (List.getElem?_eq_getElem hlt) hi) q2⟩

theorem toSl_rel {e : Cd} {v : AV U} {L : List (den U e)} {x : Value} {γ : Gh} {w : World} (h : toSl e v = some L) (hx : VRel T γ w v x) : VRel T γ w (.fsl e L .unk) x := by
  unfold toSl at h
  split at h
  · cases h; exact VRel.weak (.nil e) hx
  · split at h
    · rename_i c L' sp hc
      subst hc
      cases h
      exact VRel.weak (.sl c L' sp) hx
    · cases h
  · cases h

theorem to_rel (ok : T.Ok P) {c : Cd} {v : AV U} {x : den U c} {y : Value} {γ : Gh} {w : World} (h : v.to T c = some x) (hx : VRel T γ w v y) : VRel T γ w (AV.of T c x) y := by
  cases c with
  | int k =>
    change toInt k v = some x at h
    unfold toInt at h
    split at h
    · split at h
      · rename_i hk
        subst hk
        cases h
        exact hx
      · cases h
    · cases h
  | bool =>
    change toBool v = some x at h
    unfold toBool at h
    split at h
    · cases h; exact hx
    · cases h
  | str =>
    change toStr v = some x at h
    unfold toStr at h
    split at h
    · cases h; exact hx
    · cases h
  | sl e => exact toSl_rel h hx
  | st t =>
    change toSt T t v = some x at h
    unfold toSt at h
    split at h
    · rename_i cs
      cases hx with
      | agg _ vs hl h1 hv =>
        have hc : CRel T γ w cs vs.toList := ⟨by simpa using hl, fun i c y hi hy => ⟨h1 i y (by simpa using hy), hv i c y hi (by simpa using hy)⟩⟩
        have hc' := CRel.weak ok h hc
        exact .agg _ vs (by simpa using hc'.1) h1 fun i c y hi hy => (hc'.2 i c y hi (by simpa using hy)).2
    · cases h
  | slt e =>
    change toSlt e v = some x at h
    unfold toSlt at h
    split at h
    · split at h
      · rename_i hc
        subst hc
        cases h
        exact hx
      · cases h
    · split at h
      · rename_i hc
        subst hc
        cases h
        cases hx with
        | fsl c L sp base len cap vs hl hcap hsp hn hs hcell hv =>
          simp only [spOk] at hsp
          exact .fsl _ _ .tight base len cap vs hl hcap (by simp only [spOk]; omega) hn hs hcell hv
      · cases h
    · cases h
  | mapc k v => cases h
  | fnc f =>
    change toFnc f v = some x at h
    unfold toFnc at h
    split at h
    · split at h
      · rename_i hf
        subst hf
        exact hx
      · cases h
    · cases h

theorem AV.of_plain (T : Tab U) (hT : ∀ t x av, av ∈ T.cells t x → av.plain = true) (c : Cd) (x : den U c) :
    (∃ f, c = .fnc f) ∨ (AV.of T c x).plain = true ∨ ∃ cs, AV.of T c x = .agg cs ∧ ∀ y ∈ cs, y.plain = true := by
  cases c with
  | fnc f => exact .inl ⟨f, rfl⟩
  | st t => exact .inr (.inr ⟨_, rfl, hT t x⟩)
  | mapc k v => exact .inr (.inr ⟨[], rfl, by simp⟩)
  | _ => exact .inr (.inl rfl)

/-- Data hang on the memory that stays alone. -/
theorem VRel.of_plain (ok : T.Ok P) {γ γ' : Gh} {w w' : World} {c : Cd} {x : den U c} {v : Value} (h : VRel T γ w (AV.of T c x) v)
    (hf : ∀ b o, γ.own b o = .frz → γ'.own b o = .frz ∧ w'.cell? ⟨b, o, none⟩ = w.cell? ⟨b, o, none⟩) : VRel T γ' w' (AV.of T c x) v := by
  rcases AV.of_plain T ok.plain c x with ⟨f, rfl⟩ | h1 | h1
  · generalize hv : AV.of T (.fnc f) x = av at h ⊢
    cases h <;> simp [AV.of] at hv
    rename_i fn f' c' fs cs hf' hc' vf vc
    obtain ⟨rfl, rfl, rfl⟩ := hv
    exact .func _ _ _ _ _ hf' hc' (fun i av x h => by simp at h) (fun i av x h => by simp at h)
  · exact VRel.plain (.inl h1) ok.plain h hf
  · exact VRel.plain (.inr h1) ok.plain h hf

theorem typed_rel (ok : T.Ok P) {w : World} : ∀ {pc : List Cd} {vs : List (AV U)} {H H' : Heap U} {γ : Gh} {xs : List (Σ c, den U c)} {ids : List Nat} {as : List Value},
    typed T pc vs H = some (xs, H', ids) → HRel T γ w H → vs.length = as.length → (∀ (i : Nat) av x, vs[i]? = some av → as[i]? = some x → VRel T γ w av x) →
    ∃ γ', Pur T γ w H H' ids γ' ∧ xs.length = as.length ∧ ∀ (i : Nat) y x, xs[i]? = some y → as[i]? = some x → VRel T γ' w (AV.of T y.1 y.2) x
  | [], [], H, H', γ, xs, ids, as, h, hH, hl, hv => by
    simp only [typed, Option.some.injEq, Prod.mk.injEq] at h
    obtain ⟨rfl, rfl, rfl⟩ := h
    exact ⟨γ, Pur.refl hH _, hl, fun i y x hy => by simp at hy⟩
  | c :: pc, v :: vs, H, H', γ, xs, ids, as, h, hH, hl, hv => by
    simp only [typed] at h
    split at h
    · cases h
    · rename_i v' H1 ids1 h1
      split at h
      · cases h
      · rename_i x0 h2
        split at h
        · cases h
        · rename_i xs1 H2 ids2 h3
          cases h
          cases as with
          | nil => simp at hl
          | cons a as =>
            obtain ⟨γ1, p1, hv'⟩ := purify_rel ok h1 hH (hv 0 v a rfl rfl)
            obtain ⟨γ2, p2, hl2, hr⟩ := typed_rel (γ := γ1) ok h3 p1.rel (by simpa using hl) (fun i av x hi hx => (hv (i + 1) av x (by simpa using hi) (by simpa using hx)).mono p1.ext)
            refine ⟨γ2, p1.trans p2, by simp [hl2], fun i y x hy hx => ?_⟩
            cases i with
            | zero =>
              simp at hy hx
              subst hy hx
              exact (to_rel ok h2 hv').mono p2.ext
            | succ i => exact hr i y x (by simpa using hy) (by simpa using hx)
  | [], _ :: _, _, _, _, _, _, _, h, _, _, _ => by simp [typed] at h
  | _ :: _, [], _, _, _, _, _, _, h, _, _, _ => by simp [typed] at h

theorem ofCellsTo_rel (ok : T.Ok P) {c : Cd} {cs : List (AV U)} {x : den U c} {vs : List Value} {γ : Gh} {w : World} (h : ofCellsTo T c cs = some x) (hc : CRel T γ w cs vs) :
    CRel T γ w (cellsOf T c x) vs := by
  cases c with
  | st t => exact CRel.weak ok h hc
  | mapc k v =>
    unfold ofCellsTo at h
    dsimp only at h
    split at h
    · cases h
    · cases h
  | _ =>
    unfold ofCellsTo at h
    dsimp only at h
    split at h
    · rename_i v
      have hl := hc.1
      match vs, hl with
      | [y], _ =>
        obtain ⟨h1, h2⟩ := hc.2 0 v y rfl rfl
        have h3 := to_rel ok h h2
        refine ⟨rfl, fun i c z hi hz => ?_⟩
        cases i with
        | zero =>
          simp [cellsOf, AV.of, AV.cells] at hi hz
          subst hi hz
          exact ⟨h1, h3⟩
        | succ i => simp at hz
    · cases h

end
end Go.Ab

namespace Go.Ab
section
variable {U : Nat → Type} {T : Tab U} {C : Callee U} {n : Nat} {P : Program} {R : Type}

/-- As Turns, of a run that gives nothing. -/
def TurnsU (P : Program) (T : Tab U) (base : Nat) (mu : List (Nat × Nat)) (γ : Gh) (w : World) (m : Sem Unit) (k : Kont U R) (r : R) (H : Heap U) : Prop :=
  ∃ w' v H' ft γ', m.run P w = .ok () w' ∧ k v H' ft = some r ∧ VRel T γ' w' v undef ∧ HRel T γ' w' H' ∧ Ext γ w γ' w' ∧ RO base mu H H'

theorem putCells_get {cs cs' vs : List (AV U)} {off i : Nat} (h : putCells cs off vs = some cs') :
    off + vs.length ≤ cs.length ∧ cs'.length = cs.length ∧ cs'[i]? = if off ≤ i ∧ i < off + vs.length then vs[i - off]? else cs[i]? := by
  unfold putCells at h
  split at h
  · rename_i hle
    cases h
    refine ⟨hle, by simp; omega, ?_⟩
    by_cases h1 : i < off
    · rw [if_neg (by omega), List.append_assoc, List.getElem?_append_left (by simp; omega), List.getElem?_take_of_lt h1]
    · by_cases h2 : i < off + vs.length
      · rw [if_pos ⟨by omega, h2⟩, List.append_assoc, List.getElem?_append_right (by simp; omega), List.getElem?_append_left (by simp; omega)]
        congr 1
        simp; omega
      · rw [if_neg (by omega), List.getElem?_append_right (by simp; omega), List.getElem?_drop]
        congr 1
        simp; omega
  · cases h

/-- The cells behind an address, once some of them are written. -/
theorem Cells.write {γ : Gh} {w : World} {id b o0 off : Nat} {cs cs' vs : List (AV U)} {ys : List Value} (h : Cells T γ w b o0 cs) (hv : CRel T γ w vs ys)
    (hp : putCells cs off vs = some cs') (hr : Region γ w id b (o0 + off) ys.length) : Cells T γ (w.setCells b (o0 + off) ys) b o0 cs' := by
  intro i c hc
  obtain ⟨h1, h2, h3⟩ := putCells_get (i := i) hp
  have hx := Ext.write hr
  rw [h3] at hc
  split at hc
  · rename_i hi
    have hlt : i - off < ys.length := by have := hv.1; omega
    have hy : ys[i - off]? = some ys[i - off] := List.getElem?_eq_getElem hlt
    obtain ⟨q1, q2⟩ := hv.2 _ c _ hc hy
    refine ⟨_, ?_, q1, q2.mono hx⟩
    have := World.cell?_setCells_in b ys (o0 + off) w (fun j hj => (hr j hj).2.1) (i - off) hlt
    rw [show o0 + off + (i - off) = o0 + i by omega] at this
    exact this
  · rename_i hi
    obtain ⟨y, q1, q2, q3⟩ := h i c hc
    refine ⟨y, ?_, q2, q3.mono hx⟩
    rw [World.cell?_setCells_out b ys (o0 + off) w _ (fun _ _ => by have := hv.1; simp; omega)]
    exact q1

theorem storeVar_run {t : TypeId} {γ : Gh} {w : World} {id b off : Nat} {x : Value} {i : TypeInfo} (hi : P.info? t = some i) (hs : x.cells.size = i.size)
    (h1 : ∀ y ∈ x.cells.toList, y.oneCell' = true) (hr : Region γ w id b off x.cells.toList.length) :
    (Instr.storeAt t (.pointer (some ⟨b, off, none⟩)) x).run P w = .ok () (w.setCells b off x.cells.toList) := by
  have := run_storeCells_cells (P := P) b off x.cells.toList 0 w (fun j hj => (hr j hj).2.1) (fun j hj => (hr j hj).2.2) h1
  simp [Instr.storeAt, Instr.sureAddr, storeVar, sizeOf_run hi, hs, this]

theorem CRel.one {γ : Gh} {w : World} {cs : List (AV U)} {ys : List Value} (h : CRel T γ w cs ys) : ∀ y ∈ ys, y.oneCell' = true := by
  intro y hy
  obtain ⟨i, hi, rfl⟩ := List.getElem_of_mem hy
  have hlt : i < cs.length := by rw [h.1]; exact hi
  exact (h.2 i _ _ (List.getElem?_eq_getElem hlt) (List.getElem?_eq_getElem hi)).1

theorem purify_okv {H H' : Heap U} {v v' : AV U} {ids : List Nat} (h : purify H v = some (v', H', ids)) (ho : v.okv = true) : v'.okv = true := by
  have h1 : ∀ v, v.okv = true → purify1 H v = some (v', H', ids) → v'.okv = true := by
    intro v hv h
    unfold purify1 at h
    split at h
    · split at h
      · split at h
        · split at h <;> (cases h; rfl)
        · cases h
      · cases h
    · cases h
    · cases h
    · cases h
    · cases h; exact hv
  unfold purify at h
  split at h
  · split at h
    · cases h; rfl
    · cases h
  · exact h1 _ ho h

theorem mul_lt_of {i k s o : Nat} (h : i < k) (ho : o < s) : i * s + o < k * s := by
  calc i * s + o < i * s + s := by omega
    _ = (i + 1) * s := by rw [Nat.add_mul, Nat.one_mul]
    _ ≤ k * s := Nat.mul_le_mul_right _ h

theorem mul_le_of {i k s o : Nat} (h : i < k) (ho : o ≤ s) : i * s + o ≤ k * s := by
  calc i * s + o ≤ i * s + s := by omega
    _ = (i + 1) * s := by rw [Nat.add_mul, Nat.one_mul]
    _ ≤ k * s := Nat.mul_le_mul_right _ h

theorem storeK_turns {e : Env U} (ho : e.o = real T C n) (hT : e.T = T) (hP : e.P = P) (ok : T.Ok P) (t : TypeId) (a v : AV U) (va vx : Value) (γ : Gh) (w : World) (s : St U)
    (kk : Kont U R) (r : R) (ha : VRel T γ w a va) (hv : VRel T γ w v vx) (hH : HRel T γ w s.heap) (h : storeK e t a v s kk = some r) :
    TurnsU P T s.base s.mu γ w (Instr.storeAt t va vx) kk r s.heap := by
  unfold storeK at h
  rw [ho, hT, hP] at h
  split at h
  · rename_i hc
    obtain ⟨hsz, hz, hok⟩ := hc
    obtain ⟨i, hi, his⟩ := cellsOf_info hz
    split at h
    · rename_i id off
      split at h
      · rename_i cs hob
        split at h
        · rename_i hmay
          split at h
          · rename_i cs' hp
            cases ha with
            | ptr id off b hb =>
              obtain ⟨b', hb', hcs⟩ := hH.objs _ _ hob
              rw [hb] at hb'
              cases hb'
              have hvc := okv_cells hv hok
              obtain ⟨hle, hlen, _⟩ := putCells_get (i := 0) hp
              have hreg : Region γ w id b off vx.cells.toList.length := by
                intro j hj
                have hlt : off + j < cs.length := by have := hvc.1; omega
                obtain ⟨q1, q2, y, q3, _⟩ := hcs (off + j) _ (List.getElem?_eq_getElem hlt)
                exact ⟨q1, by rw [q3]; rfl, q2⟩
              have hrun := storeVar_run hi (by have := hvc.1; simp at this; omega) hvc.one hreg
              have hcells : Cells T γ w b 0 cs := fun i c hi => by
                obtain ⟨_, _, y, q3, q4, q5⟩ := hcs i c hi
                exact ⟨y, by simpa using q3, q4, q5⟩
              have hw := Cells.write hcells hvc hp (by simpa using hreg)
              simp only [Nat.zero_add] at hw
              refine ⟨_, .tuple [], _, _, γ, hrun, h, .tuple _ _ rfl (fun i av x h => by simp at h), ?_, Ext.write hreg, RO.setCells hob hmay hp⟩
              refine hH.write (List.getElem?_eq_some_iff.1 hob).1 hreg (fun c L ver wr e => nomatch e) ⟨b, hb, fun j c hj => ?_⟩
              have hlt : j < cs.length := by rw [← hlen]; exact (List.getElem?_eq_some_iff.1 hj).1
              obtain ⟨q1, q2, _⟩ := hcs j _ (List.getElem?_eq_getElem hlt)
              obtain ⟨y, p1, p2, p3⟩ := hw j c hj
              simp only [Nat.zero_add] at p1
              exact ⟨q1, by rw [World.frozen?_setCells]; exact q2, y, p1, p2, p3⟩
          · cases h
        · cases h
      · cases h
    · rename_i id ver i0 off
      split at h
      · cases h
      · rename_i v' H1 ids hpur
        split at h
        · rename_i c L ver' hob
          split at h
          · rename_i hcond
            obtain ⟨rfl, hmay, hids⟩ := hcond
            split at h
            · rename_i cs' hp
              split at h
              · rename_i x hx
                obtain ⟨γ1, pur, hv'⟩ := purify_rel ok hpur hH hv
                have hH1 := pur.rel
                cases ha with
                | aptr id ver i0 off b o0 len cap size hs h0 h1 =>
                  obtain ⟨base, cap', k1, k2, k3, k4⟩ := hH1.objs _ _ hob
                  rw [pur.sv, hs] at k1
                  cases k1
                  obtain ⟨_, hspare, hel⟩ := k4 _ rfl
                  simp only at hspare hel
                  have hget : L[i0.toNat]? = some ((real T C n).get c L i0) := getD_in (d := zero T c) h0 h1
                  have hi0 : i0.toNat < L.length := by omega
                  have hvc := okv_cells hv' (purify_okv hpur hok)
                  obtain ⟨hle, hlen, _⟩ := putCells_get (i := 0) hp
                  rw [cellsOf_len ok] at hle hlen
                  have hk : vx.cells.toList.length = v'.cells.length := hvc.1.symm
                  have hcells : Cells T γ1 w b (o0 + i0.toNat * c.size T) (cellsOf T c ((real T C n).get c L i0)) := fun j cj hj => by
                    obtain ⟨_, _, y, q3, q4, q5⟩ := hel _ _ hget j cj hj
                    exact ⟨y, q3, q4, q5⟩
                  have hown : ∀ j, j < c.size T → γ1.own b (o0 + i0.toNat * c.size T + j) = .obj id ∧ w.frozen? ⟨b, o0 + i0.toNat * c.size T + j, none⟩ = false ∧ (w.cell? ⟨b, o0 + i0.toNat * c.size T + j, none⟩).isSome = true := by
                    intro j hj
                    have hlt : j < (cellsOf T c ((real T C n).get c L i0)).length := by rw [cellsOf_len ok]; exact hj
                    obtain ⟨q1, q2, y, q3, _⟩ := hel _ _ hget j _ (List.getElem?_eq_getElem hlt)
                    exact ⟨by simpa using q1, q2 trivial, by rw [q3]; rfl⟩
                  have hreg : Region γ1 w id b (o0 + i0.toNat * c.size T + off) vx.cells.toList.length := by
                    intro j hj
                    obtain ⟨q1, q2, q3⟩ := hown (off + j) (by omega)
                    rw [← Nat.add_assoc] at q1 q2 q3
                    exact ⟨q1, q3, q2⟩
                  have hszx : vx.cells.size = i.size := by have := (okv_cells hv hok).1; simp at this; omega
                  have hrun := storeVar_run (P := P) (t := t) hi hszx hvc.one hreg
                  have hw := Cells.write hcells hvc hp hreg
                  have hext := Ext.write hreg
                  refine ⟨_, .tuple [], _, _, γ1, hrun, h, .tuple _ _ rfl (fun i av x h => by simp at h), ?_, pur.ext.trans hext, ?_⟩
                  · refine hH1.write (List.getElem?_eq_some_iff.1 hob).1 hreg (fun c' L' ver wr e => by (cases e; exact hH1.ver _ _ _ _ _ hob)) ?_
                    refine ⟨some ⟨b, o0, none⟩, cap, by rw [pur.sv]; simp only [real, List.length_set]; exact hs, by simp only [real, List.length_set]; exact k2, (fun e => by cases e), fun a' ha' => ?_⟩
                    cases ha'
                    refine ⟨rfl, fun o l1 l2 => ?_, fun i' y hy j av hj => ?_⟩
                    · simp only [real, List.length_set] at l1
                      obtain ⟨q1, q2, q3⟩ := hspare o l1 l2
                      refine ⟨q1, by rw [World.frozen?_setCells]; exact q2, ?_⟩
                      rw [World.cell?_setCells_out _ _ _ _ _ (fun _ _ => by
                        have := mul_le_of (o := off + vx.cells.toList.length) (s := c.size T) hi0 (by omega)
                        simp at this ⊢; omega)]
                      exact q3
                    · simp only [if_true]
                      have hj' : j < c.size T := by rw [← cellsOf_len ok c y]; exact (List.getElem?_eq_some_iff.1 hj).1
                      simp only [real] at hy
                      by_cases e : i' = i0.toNat
                      · subst e
                        rw [List.getElem?_set_self hi0] at hy
                        cases hy
                        obtain ⟨q1, q2, q3⟩ := hown j hj'
                        refine ⟨q1, fun _ => by rw [World.frozen?_setCells]; exact q2, ?_⟩
                        let zs : List Value := (List.range (c.size T)).map fun j => ((w.setCells b (o0 + i0.toNat * c.size T + off) vx.cells.toList).cell? ⟨b, o0 + i0.toNat * c.size T + j, none⟩).getD undef
                        have hzs : CRel T γ1 (w.setCells b (o0 + i0.toNat * c.size T + off) vx.cells.toList) cs' zs := by
                          refine ⟨by simp [zs]; exact hlen, fun jj cc z hcc hz => ?_⟩
                          obtain ⟨y, p1, p2, p3⟩ := hw jj cc hcc
                          have hjj : jj < c.size T := by rw [← hlen]; exact (List.getElem?_eq_some_iff.1 hcc).1
                          simp [zs, hjj, p1] at hz
                          subst hz
                          exact ⟨p2, p3⟩
                        have hzc := ofCellsTo_rel ok hx hzs
                        have hjz : j < zs.length := by simp [zs]; exact hj'
                        obtain ⟨r1, r2⟩ := hzc.2 j av _ hj (List.getElem?_eq_getElem hjz)
                        refine ⟨zs[j], ?_, r1, r2⟩
                        have hex : ((w.setCells b (o0 + i0.toNat * c.size T + off) vx.cells.toList).cell? ⟨b, o0 + i0.toNat * c.size T + j, none⟩).isSome = true := by
                          have hjc : j < cs'.length := by rw [hlen]; exact hj'
                          obtain ⟨y, p1, _⟩ := hw j _ (List.getElem?_eq_getElem hjc)
                          rw [p1]; rfl
                        obtain ⟨z, hz⟩ := Option.isSome_iff_exists.1 hex
                        simp [zs, hz]
                      · rw [List.getElem?_set_ne (Ne.symm e)] at hy
                        have hi' : i' < L.length := (List.getElem?_eq_some_iff.1 hy).1
                        obtain ⟨q1, q2, z, q3, q4, q5⟩ := hel i' y hy j av hj
                        refine ⟨by simpa using q1, fun _ => by rw [World.frozen?_setCells]; exact q2 trivial, z, ?_, q4, q5.mono hext⟩
                        rw [World.cell?_setCells_out _ _ _ _ _ (fun _ _ => by
                          simp only
                          rcases Nat.lt_or_gt_of_ne e with hlt | hgt
                          · have := mul_lt_of (o := j) (s := c.size T) hlt hj'
                            left; omega
                          · have := mul_le_of (o := off + vx.cells.toList.length) (s := c.size T) hgt (by omega)
                            right; omega)]
                        exact q3
                  · exact (pur.ro s fun j hj => by simpa using List.all_eq_true.1 hids j hj).trans (RO.setArr hmay fun cs e => by rw [hob] at e; cases e)
              · cases h
            · cases h
          · cases h
        · cases h
    · cases h
  · cases h

end
end Go.Ab

namespace Go.Ab
section
variable {U : Nat → Type} {T : Tab U} {C : Callee U} {n : Nat} {P : Program} {R : Type}

/-- What a list's elements are, cell by cell. -/
def Flat (T : Tab U) (γ : Gh) (w : World) (c : Cd) (L : List (den U c)) (news : List Value) : Prop :=
  news.length = L.length * c.size T ∧ (∀ u ∈ news, u.oneCell' = true) ∧
  ∀ (i : Nat) y, L[i]? = some y → ∀ (j : Nat) av, (cellsOf T c y)[j]? = some av → ∃ u, news[i * c.size T + j]? = some u ∧ VRel T γ w av u

/-- A slice's cells are these. -/
def SAt (w : World) (base : Option Addr) (news : List Value) : Prop :=
  ∀ (j : Nat) u, news[j]? = some u → ∃ a, base = some a ∧ a.spot = none ∧ w.cell? ⟨a.block, a.off + j, none⟩ = some u

theorem Flat.mono {γ γ' : Gh} {w w' : World} {c : Cd} {L : List (den U c)} {news : List Value} (h : Flat T γ w c L news) (x : Ext γ w γ' w') : Flat T γ' w' c L news :=
  ⟨h.1, h.2.1, fun i y hy j av hj => let ⟨u, h1, h2⟩ := h.2.2 i y hy j av hj; ⟨u, h1, h2.mono x⟩⟩

theorem Flat.append (ok : T.Ok P) {γ : Gh} {w : World} {c : Cd} {L M : List (den U c)} {l m : List Value} (h : Flat T γ w c L l) (k : Flat T γ w c M m) : Flat T γ w c (L ++ M) (l ++ m) := by
  refine ⟨by rw [List.length_append, List.length_append, h.1, k.1, Nat.add_mul], fun u hu => ?_, fun i y hy j av hj => ?_⟩
  · rcases List.mem_append.1 hu with hu | hu
    · exact h.2.1 u hu
    · exact k.2.1 u hu
  · have hj' : j < c.size T := by rw [← cellsOf_len ok c y]; exact (List.getElem?_eq_some_iff.1 hj).1
    rw [List.getElem?_append] at hy
    split at hy
    · rename_i hi
      obtain ⟨u, h1, h2⟩ := h.2.2 i y hy j av hj
      refine ⟨u, ?_, h2⟩
      rw [List.getElem?_append_left (by rw [h.1]; exact mul_lt_of hi hj')]
      exact h1
    · rename_i hi
      obtain ⟨u, h1, h2⟩ := k.2.2 (i - L.length) y hy j av hj
      refine ⟨u, ?_, h2⟩
      have e : i * c.size T = (i - L.length) * c.size T + L.length * c.size T := by rw [← Nat.add_mul]; congr 1; omega
      rw [List.getElem?_append_right (by rw [h.1, e]; omega), h.1, e]
      rw [show (i - L.length) * c.size T + L.length * c.size T + j - L.length * c.size T = (i - L.length) * c.size T + j by omega]
      exact h1

theorem Flat.nil {γ : Gh} {w : World} {c : Cd} : Flat T γ w c [] [] := ⟨by simp, fun u hu => by simp at hu, fun i y hy => by simp at hy⟩

theorem Flat.cons (ok : T.Ok P) {γ : Gh} {w : World} {c : Cd} {x : den U c} {L : List (den U c)} {l m : List Value} (h : CRel T γ w (cellsOf T c x) l) (k : Flat T γ w c L m) : Flat T γ w c (x :: L) (l ++ m) := by
  have hl : l.length = c.size T := by rw [← h.1, cellsOf_len ok]
  have h1 : Flat T γ w c [x] l := by
    refine ⟨by simp [hl], h.one, fun i y hy j av hj => ?_⟩
    cases i with
    | succ i => simp at hy
    | zero =>
      simp at hy
      subst hy
      have hlt : j < l.length := by rw [← h.1]; exact (List.getElem?_eq_some_iff.1 hj).1
      exact ⟨l[j], by simp [hlt], (h.2 j av _ hj (List.getElem?_eq_getElem hlt)).2⟩
  exact Flat.append ok h1 k

/-- A block of cells that stays from its making on. -/
def Gh.block (γ : Gh) (b k : Nat) : Gh := { γ with own := fun b' o => if b' = b then (if o < k then .frz else .free) else γ.own b' o }

theorem Ext.block {γ : Gh} {w w' : World} {O : Go.Obj} {k : Nat} (hs : ∀ b o, γ.own b o ≠ .free → b < w.heap.size)
    (hh : w'.heap = w.heap.push O) (h1 : w'.os = w.os) (h2 : w'.tape = w.tape) (h3 : w'.output = w.output) : Ext γ w (γ.block w.heap.size k) w' := by
  have hold : ∀ b, b < w.heap.size → w'.heap[b]? = w.heap[b]? := fun b hb => by rw [hh, Array.getElem?_push, if_neg (by omega)]
  refine ⟨fun _ _ h => h, fun _ _ _ h => h, fun b o hb => ?_, fun b o hlt hb => ?_, by rw [hh]; simp, h1, h2, h3, fun b hb _ => hold b hb⟩
  · have hlt := hs b o (by rw [hb]; exact fun e => nomatch e)
    exact ⟨by simp only [Gh.block]; rw [if_neg (by omega)]; exact hb, World.cell?_of_block (w := w) (w' := w') (hold b hlt)⟩
  · simp only [Gh.block]; rw [if_neg (by omega)]; exact hb

theorem HRel.block {γ : Gh} {w w' : World} {O : Go.Obj} {H : Heap U} {k : Nat} (hH : HRel T γ w H)
    (hh : w'.heap = w.heap.push O) (h1 : w'.os = w.os) (h2 : w'.tape = w.tape) (h3 : w'.output = w.output) : HRel T (γ.block w.heap.size k) w' H := by
  have hx := Ext.block (k := k) (O := O) hH.size hh h1 h2 h3
  have hold : ∀ b, b < w.heap.size → w'.heap[b]? = w.heap[b]? := fun b hb => by rw [hh, Array.getElem?_push, if_neg (by omega)]
  refine ⟨fun b o hb => ?_, hH.blk, hH.sv, hH.ver, fun j ob hj => ?_⟩
  · rw [hh]
    simp only [Gh.block] at hb
    split at hb
    · simp; omega
    · have := hH.size b o hb; simp; omega
  · refine ORel.keep (hH.objs j ob hj) hx (fun b o hb => ?_) (fun b es c hb hm => ?_) (fun e => by subst e; exact hH.objs j _ hj)
    · have hlt := hH.size b o (by rw [hb]; exact fun e => nomatch e)
      exact ⟨by simp only [Gh.block]; rw [if_neg (by omega)]; exact hb, World.cell?_of_block (w := w) (w' := w') (hold b hlt), World.frozen?_of_block (w := w) (w' := w') (hold b hlt)⟩
    · have hlt := hH.size b 0 (by rw [hb]; exact fun e => nomatch e)
      rw [hold b hlt]; exact hm

/-- A slice over a block that stays. -/
theorem VRel.ofBlock (ok : T.Ok P) {γ : Gh} {w w' : World} {c : Cd} {L : List (den U c)} {cs : Array Value} {et : TypeId} {news : List Value} {sp : Sp} {cap : Nat}
    (hf : Flat T γ w c L news) (hx : Ext γ w (γ.block w.heap.size cs.size) w') (hh : w'.heap = w.heap.push (.cells cs et)) (hcs : ∀ (j : Nat) u, news[j]? = some u → cs[j]? = some u)
    (hcap : L.length ≤ cap) (hsp : spOk sp L.length cap) : VRel T (γ.block w.heap.size cs.size) w' (.fsl c L sp) (.slice (some ⟨w.heap.size, 0, none⟩) L.length cap) := by
  refine .fsl c L sp _ _ cap (fun i j => (news[i * c.size T + j]?).getD undef) rfl hcap hsp (fun e => by cases e) (fun a e => by cases e; rfl) ?_ ?_
  · intro a ha i y hy j av hj
    cases ha
    obtain ⟨u, h1, h2⟩ := hf.2.2 i y hy j av hj
    have hc := hcs _ u h1
    have hlt : i * c.size T + j < cs.size := (Array.getElem?_eq_some_iff.1 hc).1
    refine ⟨by simp [Gh.block, hlt], ?_, by rw [h1]; exact hf.2.1 u (List.mem_of_getElem? h1)⟩
    simp [World.cell?, hh, hc, h1]
  · intro i y hy j av hj
    obtain ⟨u, h1, h2⟩ := hf.2.2 i y hy j av hj
    rw [h1]
    exact h2.mono hx

theorem elemsA_rel (ok : T.Ok P) {c : Cd} {w : World} : ∀ {vs : List (AV U)} {H H' : Heap U} {γ : Gh} {xs : List (den U c)} {ids : List Nat} {as : List Value},
    elemsA T c vs H = some (xs, H', ids) → HRel T γ w H → vs.length = as.length → (∀ (i : Nat) av x, vs[i]? = some av → as[i]? = some x → VRel T γ w av x) →
    ∃ γ', Pur T γ w H H' ids γ' ∧ xs.length = as.length ∧ ∀ (i : Nat) y x, xs[i]? = some y → as[i]? = some x → VRel T γ' w (AV.of T c y) x
  | [], H, H', γ, xs, ids, as, h, hH, hl, hv => by
    simp only [elemsA, Option.some.injEq, Prod.mk.injEq] at h
    obtain ⟨rfl, rfl, rfl⟩ := h
    exact ⟨γ, Pur.refl hH _, hl, fun i y x hy => by simp at hy⟩
  | v :: vs, H, H', γ, xs, ids, as, h, hH, hl, hv => by
    simp only [elemsA] at h
    split at h
    · cases h
    · rename_i v' H1 ids1 h1
      split at h
      · cases h
      · rename_i x0 h2
        split at h
        · cases h
        · rename_i xs1 H2 ids2 h3
          cases h
          cases as with
          | nil => simp at hl
          | cons a as =>
            obtain ⟨γ1, p1, hv'⟩ := purify_rel ok h1 hH (hv 0 v a rfl rfl)
            obtain ⟨γ2, p2, hl2, hr⟩ := elemsA_rel (γ := γ1) ok h3 p1.rel (by simpa using hl) (fun i av x hi hx => (hv (i + 1) av x (by simpa using hi) (by simpa using hx)).mono p1.ext)
            refine ⟨γ2, p1.trans p2, by simp [hl2], fun i y x hy hx => ?_⟩
            cases i with
            | zero =>
              simp at hy hx
              subst hy hx
              exact (to_rel ok h2 hv').mono p2.ext
            | succ i => exact hr i y x (by simpa using hy) (by simpa using hx)

theorem of_okv (T : Tab U) (c : Cd) (x : den U c) : (AV.of T c x).okv = true := by cases c <;> rfl

theorem flat_of (ok : T.Ok P) {γ : Gh} {w : World} {c : Cd} : ∀ {xs : List (den U c)} {as : List Value}, xs.length = as.length →
    (∀ (i : Nat) y x, xs[i]? = some y → as[i]? = some x → VRel T γ w (AV.of T c y) x) → Flat T γ w c xs (as.flatMap fun x => x.cells.toList) ∧ ∀ x ∈ as, x.cells.size = c.size T
  | [], [], _, _ => ⟨Flat.nil, fun x h => by simp at h⟩
  | y :: xs, x :: as, hl, h => by
    obtain ⟨h1, h2⟩ := flat_of ok (xs := xs) (as := as) (by simpa using hl) (fun i y x hy hx => h (i + 1) y x (by simpa using hy) (by simpa using hx))
    have hc := okv_cells (h 0 y x rfl rfl) (of_okv T c y)
    refine ⟨Flat.cons ok hc h1, fun z hz => ?_⟩
    rcases List.mem_cons.1 hz with rfl | hz
    · have := hc.1
      change (cellsOf T c y).length = _ at this
      rw [cellsOf_len ok] at this
      simpa using this.symm
    · exact h2 z hz
  | [], _ :: _, hl, _ => by cases hl
  | _ :: _, [], hl, _ => by cases hl

theorem fill_seq {size : Nat} : ∀ (as : List Value) (k : Nat) (xs : List Value), (∀ x ∈ as, x.cells.size = size) → xs.length = (k + as.length) * size →
    Instr.fill (fun i => some (i * size, size)) xs.toArray ((List.range' k as.length).zip as) = some (xs.take (k * size) ++ as.flatMap fun x => x.cells.toList).toArray
  | [], k, xs, _, hl => by
    simp only [List.length_nil, Nat.add_zero] at hl
    simp [Instr.fill, ← hl]
  | x :: as, k, xs, hs, hl => by
    have hx := hs x (by simp)
    simp only [List.length_cons, List.range'_succ, List.zip_cons_cons, Instr.fill]
    have hle : k * size + x.cells.toList.length ≤ xs.length := by
      rw [hl]; simp only [Array.length_toList, hx, List.length_cons]
      have := mul_le_of (i := k) (k := k + (as.length + 1)) (s := size) (o := size) (by omega) (Nat.le_refl _)
      omega
    have h1 : ¬ (x.cells.size ≠ size) := by simp [hx]
    have h2 : ¬ (k * size + x.cells.size > xs.toArray.size) := by simp at hle ⊢; omega
    simp only [h1, h2, decide_false, Bool.or_false, Bool.false_eq_true, if_false]
    have hfs := fold_set x.cells.toList (k * size) xs hle
    have hfs' : (x.cells.zipIdx.foldl (fun (cs : Array Value) (p : Value × Nat) => cs.setIfInBounds (k * size + p.2) p.1) xs.toArray) = (xs.take (k * size) ++ x.cells.toList ++ xs.drop (k * size + x.cells.toList.length)).toArray := by
      apply Array.ext'
      rw [← hfs]
    have ih := fill_seq (size := size) as (k + 1) (xs.take (k * size) ++ x.cells.toList ++ xs.drop (k * size + x.cells.toList.length)) (fun z hz => hs z (by simp [hz])) (by
      simp only [List.length_append, List.length_take, List.length_drop, Array.length_toList, hx] at hle ⊢
      rw [Nat.min_eq_left (by omega), hl]
      simp only [List.length_cons]
      rw [show k + 1 + as.length = k + (as.length + 1) by omega]
      have := mul_le_of (i := k) (k := k + (as.length + 1)) (s := size) (o := size) (by omega) (Nat.le_refl _)
      omega)
    have hk : (k + 1) * size = k * size + x.cells.toList.length := by simp [hx, Nat.add_mul]
    have htake : List.take ((k + 1) * size) (xs.take (k * size) ++ x.cells.toList ++ xs.drop (k * size + x.cells.toList.length)) = xs.take (k * size) ++ x.cells.toList := by
      rw [hk]
      apply List.take_left'
      simp; omega
    rw [htake] at ih
    rw [List.flatMap_cons, ← List.append_assoc]
    rw [← ih]
    congr 1

theorem zip_self {α β : Type} : ∀ l : List (α × β), l = (l.map (·.1)).zip (l.map (·.2))
  | [] => rfl
  | a :: l => by simp only [List.map_cons, List.zip_cons_cons, ← zip_self l]

theorem buildSlice_run {t el : TypeId} {inf : TypeInfo} {m : Nat} {vparts : Array (Nat × Value)} {w : World} {cs : List Value} (ht : P.underlying t = some (.slice el)) (hinf : P.info? el = some inf)
    (hle : m * inf.size ≤ 2 ^ 24) (hz : m * inf.size = 0 ∨ ∃ zv, (zeroValue el).run P w = .ok zv w)
    (hf : ∀ zs : List Value, zs.length = m * inf.size → Instr.fill (fun i => some (i * inf.size, inf.size)) zs.toArray vparts.toList = some cs.toArray) :
    (Instr.buildSlice t m vparts).run P w = .ok (.slice (some ⟨w.heap.size, 0, none⟩) m m) (w.alloc (.cells cs.toArray el)) := by
  have hle' : ¬ (m * inf.size > 2 ^ 24) := by omega
  have hf' : ∀ zs : Array Value, zs.size = m * inf.size → Instr.fill (fun i => some (i * inf.size, inf.size)) zs vparts.toList = some cs.toArray := fun zs h => by
    have := hf zs.toList (by simpa using h)
    simpa using this
  simp only [Instr.buildSlice, Sem.run_bind, run_underlying ht, Result.andThen_ok, sizeOf_run hinf, if_neg hle', Sem.run_pure]
  by_cases hz0 : m * inf.size = 0
  · have h0 := hf' #[] (by simp [hz0])
    simp only [hz0, if_true, Sem.run_bind, Sem.run_pure, Result.andThen_ok]
    rw [hf' (Array.map _ (Array.range 0)) (by simp [hz0])]
    simp [newRow]
  · rcases hz with h | ⟨zv, h⟩
    · exact absurd h hz0
    · simp only [if_neg hz0, Sem.run_bind, h, Sem.run_pure, Result.andThen_ok]
      rw [hf' _ (by simp)]
      simp [newRow]

theorem buildSliceK_turns {e : Env U} (ho : e.o = real T C n) (hT : e.T = T) (hP : e.P = P) (ok : T.Ok P) (t : TypeId) (m : Nat) (parts : List (Nat × AV U)) (vparts : Array (Nat × Value)) (γ : Gh) (w : World) (s : St U)
    (kk : Kont U R) (r : R) (hl : parts.length = vparts.size)
    (hp : ∀ (i : Nat) p q, parts[i]? = some p → vparts[i]? = some q → p.1 = q.1 ∧ VRel T γ w p.2 q.2) (hH : HRel T γ w s.heap) (h : buildSliceK e t m parts s kk = some r) :
    Turns P T s.base s.mu γ w (Instr.buildSlice t m vparts) kk r s.heap := by
  unfold buildSliceK at h
  rw [hT] at h
  split at h
  · cases h
  · rename_i el c hel
    unfold elemCd at hel
    rw [hP, hT] at hel
    split at hel
    · rename_i el' ht
      cases hcd : T.cd el' with
      | none => simp [hcd] at hel
      | some c' =>
        simp [hcd] at hel
        obtain ⟨rfl, rfl⟩ := hel
        obtain ⟨inf, hinf, hsz⟩ := cd_size ok hcd
        split at h
        · rename_i hm
          obtain ⟨rfl, hm2⟩ := hm
          have hm2 : parts = [] := by simpa using hm2
          subst hm2
          have hv0 : vparts = #[] := by
            apply Array.eq_empty_of_size_eq_zero
            simpa using hl.symm
          subst hv0
          have hrun : (Instr.buildSlice t 0 #[]).run P w = .ok (.slice (some ⟨w.heap.size, 0, none⟩) 0 0) (w.alloc (.cells #[] el')) := by
            exact buildSlice_run (cs := []) ht hinf (by simp) (.inl (by simp)) (fun zs hz => by
              have : zs = [] := by simpa using hz
              subst this; rfl)
          have hx := Ext.block (k := 0) (O := .cells #[] el') (w' := w.alloc (.cells #[] el')) hH.size rfl rfl rfl rfl
          exact ⟨_, _, _, _, _, _, hrun, h, VRel.ofBlock (cs := #[]) ok Flat.nil hx rfl (fun j u hu => by simp at hu) (Nat.le_refl _) rfl, hH.block rfl rfl rfl rfl, hx, RO.refl _ _ _⟩
        · split at h
          · cases h
          · rename_i hm hc
            split at h
            · cases h
            · rename_i xs H1 ids hels
              split at h
              · rename_i hmay
                have hc1 : m * c'.size T ≤ 2 ^ 20 := by
                  rcases Nat.lt_or_ge (2 ^ 20) (m * c'.size T) with h | h
                  · exact absurd (.inl h) hc
                  · exact h
                have hc2 : parts.map (·.1) = List.range m := Classical.byContradiction fun h => hc (.inr (.inl h))
                have hc3 : ¬ (zeroOf (U := U) e.P el').isNone = true := fun h => hc (.inr (.inr h))
                rw [hP] at hc3
                have hc4 : ∃ z, zeroOf (U := U) P el' = some z := by
                  cases hz : zeroOf (U := U) P el' with
                  | none => rw [hz] at hc3; exact absurd rfl hc3
                  | some z => exact ⟨z, rfl⟩
                obtain ⟨z, hz⟩ := hc4
                obtain ⟨inf', zv, hi', hzv, _, _⟩ := zeroOf_rel (T := T) hz γ w
                rw [hinf] at hi'
                cases hi'
                have hlm : parts.length = m := by have := congrArg List.length hc2; simpa using this
                let as : List Value := vparts.toList.map (·.2)
                have has : as.length = parts.length := by simp [as, hl]
                obtain ⟨γ1, pur, hlx, hrel⟩ := elemsA_rel ok (as := as) hels hH (by simp [has]) (fun i av x hi hx => by
                  simp only [List.getElem?_map, Option.map_eq_some_iff, as] at hi hx
                  obtain ⟨p, hp1, rfl⟩ := hi
                  obtain ⟨q, hq1, rfl⟩ := hx
                  exact (hp i p q hp1 (by simpa using hq1)).2)
                obtain ⟨hflat, hsizes⟩ := flat_of ok hlx hrel
                have hidx : vparts.toList = (List.range' 0 as.length).zip as := by
                  have h1 : vparts.toList.map (·.1) = List.range m := by
                    rw [← hc2]
                    apply List.ext_getElem?
                    intro i
                    simp only [List.getElem?_map]
                    cases hq : vparts.toList[i]? with
                    | none =>
                      have : parts[i]? = none := by
                        rw [List.getElem?_eq_none_iff] at hq ⊢
                        simp at hq
                        omega
                      simp [this]
                    | some q =>
                      have hlt : i < parts.length := by
                        have := (List.getElem?_eq_some_iff.1 hq).1
                        simp at this
                        omega
                      have hp1 := List.getElem?_eq_getElem hlt
                      rw [hp1]
                      simp [(hp i _ q hp1 (by simpa using hq)).1]
                  rw [has, hlm, ← List.range_eq_range', ← h1]
                  exact zip_self _
                have hfill : ∀ zs : List Value, zs.length = m * c'.size T → Instr.fill (fun i => some (i * c'.size T, c'.size T)) zs.toArray vparts.toList = some (as.flatMap fun x => x.cells.toList).toArray := by
                  intro zs hz
                  rw [hidx]
                  have := fill_seq as 0 zs hsizes (by rw [hz, has, hlm]; simp)
                  simpa using this
                let cs : Array Value := (as.flatMap fun x => x.cells.toList).toArray
                have hrun : (Instr.buildSlice t m vparts).run P w = .ok (.slice (some ⟨w.heap.size, 0, none⟩) m m) (w.alloc (.cells cs el')) := by
                  have hzr : (zeroValue el').run P w = .ok zv w := by simp [zeroValue, typeInfo, hinf, hzv]
                  exact buildSlice_run ht hinf (by rw [hsz]; omega) (.inr ⟨zv, hzr⟩) (fun zs hz => by rw [hsz]; exact hfill zs (by rw [hz, hsz]))
                have hx := Ext.block (k := cs.size) (O := .cells cs el') (w' := w.alloc (.cells cs el')) pur.rel.size rfl rfl rfl rfl
                have hlen : xs.length = m := by rw [hlx, has, hlm]
                refine ⟨_, _, _, _, _, _, hrun, h, ?_, pur.rel.block rfl rfl rfl rfl, pur.ext.trans hx, pur.ro s fun j hj => by simpa using List.all_eq_true.1 hmay j hj⟩
                have := VRel.ofBlock (cs := cs) (sp := .tight) (cap := xs.length) ok hflat hx rfl (fun j u hu => by simpa [cs] using hu) (Nat.le_refl _) rfl
                rw [hlen] at this
                exact this
              · cases h
    · cases hel

end
end Go.Ab

namespace Go.Ab
section
variable {U : Nat → Type} {T : Tab U} {C : Callee U} {n : Nat} {P : Program} {R : Type}

theorem HRel.step {γ γ' : Gh} {w w' : World} {H H' : Heap U} {id : Nat} (hH : HRel T γ w H) (hx : Ext γ w γ' w') (hlen : H.length ≤ H'.length)
    (hsz : ∀ b o, γ'.own b o ≠ .free → b < w'.heap.size) (hid : id < H'.length)
    (_hids : ∀ b o j, γ'.own b o = .obj j → γ.own b o = .obj j ∨ j = id) (hblk : γ'.blk = γ.blk) (hsv : ∀ j v, j ≠ id → γ'.sv j v = γ.sv j v)
    (hoth : ∀ j, j ≠ id → H'[j]? = H[j]?)
    (hown : ∀ b o j, j ≠ id → γ.own b o = .obj j → γ'.own b o = .obj j ∧ w'.cell? ⟨b, o, none⟩ = w.cell? ⟨b, o, none⟩ ∧ w'.frozen? ⟨b, o, none⟩ = w.frozen? ⟨b, o, none⟩)
    (hmap : ∀ b es c j, j ≠ id → γ.own b 0 = .obj j → w.heap[b]? = some (.map es c) → w'.heap[b]? = some (.map es c))
    (hver : ∀ c L ver wr, H'[id]? = some (.arr c L ver wr) → ∀ v, ver < v → γ'.sv id v = none)
    (hob : ∀ ob, H'[id]? = some ob → ORel T γ' w' id ob) : HRel T γ' w' H' := by
  refine ⟨hsz, fun j hj => ?_, fun j v hj => ?_, fun j c L ver wr hj v hv => ?_, fun j ob hj => ?_⟩
  · rw [hblk]; exact hH.blk j (Nat.le_trans hlen hj)
  · rw [hsv j v (by omega)]; exact hH.sv j v (Nat.le_trans hlen hj)
  · by_cases e : j = id
    · subst e; exact hver c L ver wr hj v hv
    · rw [hsv j v e]
      rw [hoth j e] at hj
      exact hH.ver j c L ver wr hj v hv
  · by_cases e : j = id
    · subst e; exact hob ob hj
    · rw [hoth j e] at hj
      refine ORel.keep (hH.objs j ob hj) hx (fun b o hb => hown b o j e hb) (fun b es c hb hm => hmap b es c j e hb hm) (fun e' => ?_)
      subst e'
      obtain ⟨h1, h2⟩ := hH.objs j _ hj
      exact ⟨by rw [hblk]; exact h1, fun v => by rw [hsv j v e]; exact h2 v⟩

/-- A row's slice at a version; who owns what. -/
def Gh.row (γ : Gh) (id ver : Nat) (x : Option Addr × Nat × Nat × Nat) (own : Nat → Nat → Own) : Gh :=
  { own := own, blk := γ.blk, sv := fun j v => if j = id ∧ v = ver then some x else γ.sv j v }

/-- The cells that a list's elements lie in. -/
theorem flat_mk (ok : T.Ok P) {γ : Gh} {w : World} {c : Cd} {L : List (den U c)} {base : Option Addr}
    (h : ∀ (i : Nat) y, L[i]? = some y → ∀ (j : Nat) av, (cellsOf T c y)[j]? = some av → ∃ a v, base = some a ∧ a.spot = none ∧
      w.cell? ⟨a.block, a.off + i * c.size T + j, none⟩ = some v ∧ v.oneCell' = true ∧ VRel T γ w av v) :
    ∃ news, Flat T γ w c L news ∧ SAt w base news := by
  let f : Nat → Value := fun k => ((base.bind fun a => w.cell? ⟨a.block, a.off + k, none⟩).getD undef)
  have key : ∀ (i : Nat) y, L[i]? = some y → ∀ (j : Nat) av, (cellsOf T c y)[j]? = some av → ∃ a, base = some a ∧ a.spot = none ∧
      w.cell? ⟨a.block, a.off + (i * c.size T + j), none⟩ = some (f (i * c.size T + j)) ∧ (f (i * c.size T + j)).oneCell' = true ∧ VRel T γ w av (f (i * c.size T + j)) := by
    intro i y hy j av hj
    obtain ⟨a, v, ha, hs, hc, h1, hv⟩ := h i y hy j av hj
    have hf : f (i * c.size T + j) = v := by
      simp only [f, ha, Option.bind_some]
      rw [← Nat.add_assoc, hc]; rfl
    refine ⟨a, ha, hs, ?_, by rw [hf]; exact h1, by rw [hf]; exact hv⟩
    rw [hf, ← Nat.add_assoc]; exact hc
  have part : ∀ k, k < L.length * c.size T → ∃ i j y av, k = i * c.size T + j ∧ L[i]? = some y ∧ (cellsOf T c y)[j]? = some av := by
    intro k hk
    have hpos : 0 < c.size T := by
      rcases Nat.eq_zero_or_pos (c.size T) with e | e
      · rw [e] at hk; simp at hk
      · exact e
    have hi : k / c.size T < L.length := Nat.div_lt_of_lt_mul (by rw [Nat.mul_comm]; exact hk)
    have hj : k % c.size T < (cellsOf T c L[k / c.size T]).length := by rw [cellsOf_len ok]; exact Nat.mod_lt _ hpos
    exact ⟨k / c.size T, k % c.size T, _, _, (Nat.div_add_mod' k _).symm, List.getElem?_eq_getElem hi, List.getElem?_eq_getElem hj⟩
  refine ⟨(List.range (L.length * c.size T)).map f, ⟨by simp, fun u hu => ?_, fun i y hy j av hj => ?_⟩, fun k u hu => ?_⟩
  · obtain ⟨k, hk, rfl⟩ := List.mem_map.1 hu
    obtain ⟨i, j, y, av, rfl, hy, hj⟩ := part k (by simpa using hk)
    obtain ⟨_, _, _, _, h1, _⟩ := key i y hy j av hj
    exact h1
  · have hlt : i * c.size T + j < L.length * c.size T := mul_lt_of (List.getElem?_eq_some_iff.1 hy).1 (by rw [← cellsOf_len ok c y]; exact (List.getElem?_eq_some_iff.1 hj).1)
    obtain ⟨_, _, _, _, _, hv⟩ := key i y hy j av hj
    exact ⟨_, by simp [hlt], hv⟩
  · have hlt : k < L.length * c.size T := by
      have := (List.getElem?_eq_some_iff.1 hu).1
      simpa using this
    obtain ⟨i, j, y, av, rfl, hy, hj⟩ := part k hlt
    obtain ⟨a, ha, hs, hc, _, _⟩ := key i y hy j av hj
    simp [hlt] at hu
    subst hu
    exact ⟨a, ha, hs, hc⟩

/-- A slice that stays: its cells. -/
theorem fsl_flat (ok : T.Ok P) {γ : Gh} {w : World} {c : Cd} {L : List (den U c)} {sp : Sp} {x : Value} (h : VRel T γ w (.fsl c L sp) x) :
    ∃ base cap news, x = .slice base L.length cap ∧ L.length ≤ cap ∧ spOk sp L.length cap ∧ (base = none → cap = 0) ∧ (∀ a, base = some a → a.spot = none) ∧
      Flat T γ w c L news ∧ SAt w base news ∧
      ∀ a, base = some a → ∀ (i : Nat) y, L[i]? = some y → ∀ (j : Nat) av, (cellsOf T c y)[j]? = some av → γ.own a.block (a.off + i * c.size T + j) = .frz := by
  cases h with
  | fsl c L sp base len cap vs hl hcap hsp hn hs hc hv =>
    subst hl
    have : ∃ news, Flat T γ w c L news ∧ SAt w base news := flat_mk ok fun i y hy j av hj => by
      cases hb : base with
      | none =>
        have := hn hb
        have := (List.getElem?_eq_some_iff.1 hy).1
        omega
      | some a =>
        obtain ⟨_, q2, q3⟩ := hc a hb i y hy j av hj
        exact ⟨a, _, rfl, hs a hb, q2, q3, hv i y hy j av hj⟩
    obtain ⟨news, h1, h2⟩ := this
    exact ⟨base, cap, news, rfl, hcap, hsp, hn, hs, h1, h2, fun a ha i y hy j av hj => (hc a ha i y hy j av hj).1⟩

/-- A row: its cells. -/
theorem arr_flat (ok : T.Ok P) {γ : Gh} {w : World} {H : Heap U} {id ver : Nat} {c : Cd} {L : List (den U c)} {wr : Bool} {x : Value} (hH : HRel T γ w H)
    (ho : H[id]? = some (.arr c L ver wr)) (h : VRel T γ w (.sl id ver) x) :
    ∃ base cap news, x = .slice base L.length cap ∧ γ.sv id ver = some (base, L.length, cap, c.size T) ∧ L.length ≤ cap ∧ (base = none → cap = 0) ∧ Flat T γ w c L news ∧ SAt w base news ∧
      ∀ a, base = some a → a.spot = none ∧
        (∀ o, a.off + L.length * c.size T ≤ o → o < a.off + cap * c.size T →
          γ.own a.block o = .obj id ∧ w.frozen? ⟨a.block, o, none⟩ = false ∧ (w.cell? ⟨a.block, o, none⟩).isSome = true) ∧
        (∀ (i : Nat) y, L[i]? = some y → ∀ (j : Nat) av, (cellsOf T c y)[j]? = some av →
          (γ.own a.block (a.off + i * c.size T + j) = if wr then .obj id else .frz) ∧ (wr = true → w.frozen? ⟨a.block, a.off + i * c.size T + j, none⟩ = false) ∧
          ∃ v, w.cell? ⟨a.block, a.off + i * c.size T + j, none⟩ = some v ∧ v.oneCell' = true ∧ VRel T γ w av v) := by
  obtain ⟨base, cap, h1, h2, h3, h4⟩ := hH.objs _ _ ho
  cases h with
  | sl id ver base' len cap' size hs =>
    rw [h1] at hs
    cases hs
    have : ∃ news, Flat T γ w c L news ∧ SAt w base news := flat_mk ok fun i y hy j av hj => by
      cases hb : base with
      | none =>
        have := h3 hb
        have := (List.getElem?_eq_some_iff.1 hy).1
        omega
      | some a =>
        obtain ⟨k1, _, k3⟩ := h4 a hb
        obtain ⟨_, _, v, q1, q2, q3⟩ := k3 i y hy j av hj
        exact ⟨a, v, rfl, k1, q1, q2, q3⟩
    obtain ⟨news, n1, n2⟩ := this
    exact ⟨base, cap, news, rfl, h1, h2, h3, n1, n2, h4⟩

/-- What is appended: its cells. -/
theorem listOf_flat (ok : T.Ok P) {γ : Gh} {w : World} {H : Heap U} {c : Cd} {x : AV U} {vx : Value} {ys : List (den U c)} {rd : List Nat} (hH : HRel T γ w H)
    (h : listOf c H x = some (ys, rd)) (hx : VRel T γ w x vx) : ∃ base cap news, vx = .slice base ys.length cap ∧ Flat T γ w c ys news ∧ SAt w base news := by
  unfold listOf at h
  split at h
  · rename_i id ver
    split at h
    · rename_i c' L ver' wr ho
      split at h
      · rename_i hv
        subst hv
        split at h
        · rename_i hc
          subst hc
          cases h
          obtain ⟨base, cap, news, h1, _, _, _, h2, h3, _⟩ := arr_flat ok hH ho hx
          exact ⟨base, cap, news, h1, h2, h3⟩
        · cases h
      · cases h
    · cases h
  · cases hs : toSl c x with
    | none => rw [hs] at h; cases h
    | some L =>
      rw [hs] at h
      cases h
      obtain ⟨base, cap, news, h1, _, _, _, _, h2, h3, _⟩ := fsl_flat ok (toSl_rel hs hx)
      exact ⟨base, cap, news, h1, h2, h3⟩

/-- A row at a new block. -/
theorem row_grow (ok : T.Ok P) {γ : Gh} {w w' : World} {H H' : Heap U} {id ver cap : Nat} {c : Cd} {L : List (den U c)} {wr : Bool} {flat rest : List Value} {et : TypeId}
    (hH : HRel T γ w H) (hlen : H.length ≤ H'.length) (hat : H'[id]? = some (.arr c L ver wr)) (hoth : ∀ j, j ≠ id → H'[j]? = H[j]?) (hfresh : ∀ v, ver ≤ v → γ.sv id v = none)
    (hf : Flat T γ w c L flat) (hh : w'.heap = w.heap.push (.cells (flat ++ rest).toArray et)) (h1 : w'.os = w.os) (h2 : w'.tape = w.tape) (h3 : w'.output = w.output)
    (hcap : L.length ≤ cap) (hsize : cap * c.size T = flat.length + rest.length) :
    ∃ γ', HRel T γ' w' H' ∧ Ext γ w γ' w' ∧ VRel T γ' w' (.sl id ver) (.slice (some ⟨w.heap.size, 0, none⟩) L.length cap) := by
  let own : Nat → Nat → Own := fun b o => if b = w.heap.size then (if o < flat.length then (if wr then .obj id else .frz) else if o < flat.length + rest.length then .obj id else .free) else γ.own b o
  let γ' := γ.row id ver (some ⟨w.heap.size, 0, none⟩, L.length, cap, c.size T) own
  have hold : ∀ b, b < w.heap.size → w'.heap[b]? = w.heap[b]? := fun b hb => by rw [hh, Array.getElem?_push, if_neg (by omega)]
  have hoo : ∀ b o, b < w.heap.size → γ'.own b o = γ.own b o := fun b o hb => by simp only [γ', Gh.row, own]; rw [if_neg (by omega)]
  have hid : id < H'.length := (List.getElem?_eq_some_iff.1 hat).1
  have hsz : w'.heap.size = w.heap.size + 1 := by rw [hh]; simp
  have hx : Ext γ w γ' w' := by
    refine ⟨fun _ _ h => h, fun j v y hj => ?_, fun b o hb => ?_, fun b o hb hf => ?_, by omega, h1, h2, h3, fun b hb _ => hold b hb⟩
    · simp only [γ', Gh.row]
      rw [if_neg]
      · exact hj
      · rintro ⟨rfl, rfl⟩
        rw [hfresh _ (Nat.le_refl _)] at hj
        cases hj
    · have hlt := hH.size b o (by rw [hb]; exact fun e => nomatch e)
      exact ⟨(hoo b o hlt).trans hb, World.cell?_of_block (w := w) (w' := w') (hold b hlt)⟩
    · exact (hoo b o hb).trans hf
  have hcell : ∀ k, k < flat.length + rest.length → w'.cell? ⟨w.heap.size, k, none⟩ = (flat ++ rest)[k]? := by
    intro k hk
    simp [World.cell?, hh]
  have hfr : ∀ k, w'.frozen? ⟨w.heap.size, k, none⟩ = false := by
    intro k
    simp [World.frozen?, hh]
  refine ⟨γ', ?_, hx, .sl id ver _ _ _ (c.size T) (by simp [γ', Gh.row])⟩
  refine HRel.step (id := id) hH hx hlen ?_ hid ?_ rfl ?_ hoth ?_ ?_ ?_ ?_
  · intro b o hb
    by_cases e : b = w.heap.size
    · omega
    · have : γ'.own b o = γ.own b o := by simp only [γ', Gh.row, own]; rw [if_neg e]
      rw [this] at hb
      have := hH.size b o hb
      omega
  · intro b o j hb
    simp only [γ', Gh.row, own] at hb
    split at hb
    · right
      repeat' split at hb
      all_goals first | (cases hb; rfl) | cases hb
    · exact .inl hb
  · intro j v hj
    simp only [γ', Gh.row]
    rw [if_neg (fun h => hj h.1)]
  · intro b o j hj hb
    have hlt := hH.size b o (by rw [hb]; exact fun e => nomatch e)
    exact ⟨(hoo b o hlt).trans hb, World.cell?_of_block (w := w) (w' := w') (hold b hlt), World.frozen?_of_block (w := w) (w' := w') (hold b hlt)⟩
  · intro b es c j hj hb hm
    have hlt := hH.size b 0 (by rw [hb]; exact fun e => nomatch e)
    rw [hold b hlt]; exact hm
  · intro c' L' ver' wr' hj v hv
    rw [hat] at hj
    cases hj
    simp only [γ', Gh.row]
    rw [if_neg (by omega)]
    exact hfresh v (by omega)
  · intro ob hj
    rw [hat] at hj
    cases hj
    refine ⟨some ⟨w.heap.size, 0, none⟩, cap, by simp [γ', Gh.row], hcap, (fun e => by cases e), fun a ha => ?_⟩
    cases ha
    have hfl := hf.1
    refine ⟨rfl, fun o l1 l2 => ?_, fun i y hy j av hj => ?_⟩
    · simp only [Nat.zero_add] at l1 l2
      refine ⟨?_, hfr o, ?_⟩
      · simp only [γ', Gh.row, own, if_true]
        rw [if_neg (by omega), if_pos (by omega)]
      · rw [hcell o (by omega)]
        simp; omega
    · obtain ⟨u, q1, q2⟩ := hf.2.2 i y hy j av hj
      have hlt := (List.getElem?_eq_some_iff.1 q1).1
      simp only [Nat.zero_add]
      refine ⟨?_, fun _ => hfr _, u, ?_, hf.2.1 u (List.mem_of_getElem? q1), q2.mono hx⟩
      · simp only [γ', Gh.row, own, if_true]
        rw [if_pos hlt]
      · rw [hcell _ (by omega), List.getElem?_append_left hlt]
        exact q1

/-- A row over cells that stay, without room; or over nothing. -/
theorem row_view {γ : Gh} {w : World} {H H' : Heap U} {id cap : Nat} {c : Cd} {L : List (den U c)} {wr : Bool} {base : Option Addr}
    (hH : HRel T γ w H) (hN : NewAt H H' id (.arr c L 0 wr)) (hcap : cap = L.length) (hn : base = none → cap = 0) (hs : ∀ a, base = some a → a.spot = none) (hwr : wr = true → L = [])
    (hel : ∀ a, base = some a → ∀ (i : Nat) y, L[i]? = some y → ∀ (j : Nat) av, (cellsOf T c y)[j]? = some av →
      γ.own a.block (a.off + i * c.size T + j) = .frz ∧ ∃ v, w.cell? ⟨a.block, a.off + i * c.size T + j, none⟩ = some v ∧ v.oneCell' = true ∧ VRel T γ w av v) :
    ∃ γ', HRel T γ' w H' ∧ Ext γ w γ' w ∧ VRel T γ' w (.sl id 0) (.slice base L.length cap) := by
  let γ' := γ.row id 0 (base, L.length, cap, c.size T) γ.own
  have hf := hN.fresh hH
  have hx : Ext γ w γ' w := by
    refine ⟨fun _ _ h => h, fun j v y hj => ?_, fun b o hb => ⟨hb, rfl⟩, fun b o _ hb => hb, Nat.le_refl _, rfl, rfl, rfl, fun _ _ _ => rfl⟩
    simp only [γ', Gh.row]
    rw [if_neg]
    · exact hj
    · rintro ⟨rfl, rfl⟩
      rw [hf.2] at hj
      cases hj
  refine ⟨γ', ?_, hx, .sl id 0 _ _ _ (c.size T) (by simp [γ', Gh.row])⟩
  refine HRel.step (id := id) hH hx hN.len hH.size (List.getElem?_eq_some_iff.1 hN.at_).1 (fun b o j hb => .inl hb) rfl ?_ hN.other (fun b o j _ hb => ⟨hb, rfl, rfl⟩) (fun b es c j _ _ hm => hm) ?_ ?_
  · intro j v hj
    simp only [γ', Gh.row]
    rw [if_neg (fun h => hj h.1)]
  · intro c' L' ver' wr' hj v hv
    rw [hN.at_] at hj
    cases hj
    simp only [γ', Gh.row]
    rw [if_neg (by omega)]
    exact hf.2 v
  · intro ob hj
    rw [hN.at_] at hj
    cases hj
    refine ⟨base, cap, by simp [γ', Gh.row], by omega, hn, fun a ha => ⟨hs a ha, fun o l1 l2 => ?_, fun i y hy j av hj => ?_⟩⟩
    · subst hcap; omega
    · cases wr with
      | true => rw [hwr rfl] at hy; simp at hy
      | false =>
        obtain ⟨q1, v, q2, q3, q4⟩ := hel a ha i y hy j av hj
        exact ⟨by simp only [γ', Gh.row]; exact q1, (fun e => by cases e), v, q2, q3, q4.mono hx⟩

/-- What a slice's block holds once cells behind it are written. -/
def wrote? (w : World) (base : Option Addr) (k : Nat) (news : List Value) : World :=
  match base with
  | some a => w.setCells a.block (a.off + k) news
  | none => w

/-- The same row, longer, in its own room. -/
theorem row_bump (ok : T.Ok P) {γ : Gh} {w : World} {H : Heap U} {id ver cap : Nat} {c : Cd} {L ys : List (den U c)} {wr : Bool} {base : Option Addr} {news : List Value}
    (hH : HRel T γ w H) (ho : H[id]? = some (.arr c L ver wr)) (hsv : γ.sv id ver = some (base, L.length, cap, c.size T)) (hn : base = none → cap = 0)
    (hel : ∀ a, base = some a → a.spot = none ∧
        (∀ o, a.off + L.length * c.size T ≤ o → o < a.off + cap * c.size T →
          γ.own a.block o = .obj id ∧ w.frozen? ⟨a.block, o, none⟩ = false ∧ (w.cell? ⟨a.block, o, none⟩).isSome = true) ∧
        (∀ (i : Nat) y, L[i]? = some y → ∀ (j : Nat) av, (cellsOf T c y)[j]? = some av →
          (γ.own a.block (a.off + i * c.size T + j) = if wr then .obj id else .frz) ∧ (wr = true → w.frozen? ⟨a.block, a.off + i * c.size T + j, none⟩ = false) ∧
          ∃ v, w.cell? ⟨a.block, a.off + i * c.size T + j, none⟩ = some v ∧ v.oneCell' = true ∧ VRel T γ w av v))
    (hf : Flat T γ w c ys news) (hcap : L.length + ys.length ≤ cap) :
    ∃ γ', HRel T γ' (wrote? w base (L.length * c.size T) news) (H.set id (.arr c (L ++ ys) (ver + 1) wr)) ∧ Ext γ w γ' (wrote? w base (L.length * c.size T) news) ∧
      VRel T γ' (wrote? w base (L.length * c.size T) news) (.sl id (ver + 1)) (.slice base (L.length + ys.length) cap) ∧
      (∀ a, base = some a → Region γ w id a.block (a.off + L.length * c.size T) news.length) := by
  have hid := (List.getElem?_eq_some_iff.1 ho).1
  have hmul : L.length * c.size T + news.length ≤ cap * c.size T := by
    rw [hf.1, ← Nat.add_mul]
    exact Nat.mul_le_mul_right _ hcap
  have hreg : ∀ a, base = some a → Region γ w id a.block (a.off + L.length * c.size T) news.length := by
    intro a ha j hj
    obtain ⟨_, k2, _⟩ := hel a ha
    obtain ⟨m1, m2, m3⟩ := k2 (a.off + L.length * c.size T + j) (by omega) (by omega)
    exact ⟨m1, m3, m2⟩
  generalize hw' : wrote? w base (L.length * c.size T) news = w'
  -- the world alone
  have hxw : Ext γ w γ w' := by
    subst hw'
    cases hb : base with
    | none => exact Ext.refl _ _
    | some a => exact Ext.write (hreg a hb)
  have hsz : w'.heap.size = w.heap.size := by
    subst hw'
    cases base with
    | none => rfl
    | some a => exact (setCells_same _ _ _ _).1
  have hout : ∀ b o, γ.own b o ≠ .obj id → w'.cell? ⟨b, o, none⟩ = w.cell? ⟨b, o, none⟩ := by
    intro b o hne
    subst hw'
    cases hb : base with
    | none => rfl
    | some a => exact (hreg a hb).out b o hne
  have hfro : ∀ x, w'.frozen? x = w.frozen? x := by
    intro x
    subst hw'
    cases base with
    | none => rfl
    | some a => exact World.frozen?_setCells _ _ _ _ _
  let own : Nat → Nat → Own := fun b o => if wr = false ∧ (∃ a, base = some a ∧ a.block = b ∧ a.off + L.length * c.size T ≤ o ∧ o < a.off + L.length * c.size T + news.length) then .frz else γ.own b o
  let γ' := γ.row id (ver + 1) (base, L.length + ys.length, cap, c.size T) own
  have hown : ∀ b o, γ'.own b o = γ.own b o ∨ (γ.own b o = .obj id ∧ γ'.own b o = .frz) := by
    intro b o
    simp only [γ', Gh.row, own]
    split
    · rename_i h
      obtain ⟨_, a, ha, rfl, l1, l2⟩ := h
      have := (hreg a ha (o - (a.off + L.length * c.size T)) (by omega)).1
      rw [show a.off + L.length * c.size T + (o - (a.off + L.length * c.size T)) = o by omega] at this
      exact .inr ⟨this, rfl⟩
    · exact .inl rfl
  have hxg : Ext γ w' γ' w' := by
    refine ⟨fun _ _ h => h, fun j v y hj => ?_, fun b o hb => ⟨?_, rfl⟩, fun b o _ hb => ?_, Nat.le_refl _, rfl, rfl, rfl, fun _ _ _ => rfl⟩
    · simp only [γ', Gh.row]
      rw [if_neg]
      · exact hj
      · rintro ⟨rfl, rfl⟩
        rw [hH.ver _ _ _ _ _ ho _ (Nat.lt_succ_self _)] at hj
        cases hj
    · rcases hown b o with h | ⟨h, _⟩
      · exact h.trans hb
      · rw [h] at hb; cases hb
    · rcases hown b o with h | ⟨h, _⟩
      · exact h.trans hb
      · rw [h] at hb; cases hb
  have hx := hxw.trans hxg
  refine ⟨γ', ?_, hx, .sl id (ver + 1) _ _ _ (c.size T) (by simp [γ', Gh.row]), hreg⟩
  refine HRel.step (id := id) hH hx (by simp) ?_ (by simpa using hid) ?_ rfl ?_ ?_ ?_ ?_ ?_ ?_
  · intro b o hb
    rw [hsz]
    refine hH.size b o fun e => hb ?_
    rcases hown b o with h | ⟨h, _⟩
    · exact h.trans e
    · rw [h] at e; cases e
  · intro b o j hb
    rcases hown b o with h | ⟨_, h⟩
    · exact .inl (h.symm.trans hb)
    · rw [h] at hb; cases hb
  · intro j v hj
    simp only [γ', Gh.row]
    rw [if_neg (fun h => hj h.1)]
  · intro j hj
    exact List.getElem?_set_ne (Ne.symm hj)
  · intro b o j hj hb
    refine ⟨?_, hout b o (by rw [hb]; exact fun e => hj (by cases e; rfl)), hfro _⟩
    rcases hown b o with h | ⟨h, _⟩
    · exact h.trans hb
    · rw [h] at hb; cases hb; exact absurd rfl hj
  · intro b es cl j hj hb hm
    subst hw'
    cases hbs : base with
    | none => exact hm
    | some a =>
      simp only [wrote?]
      by_cases e : b = a.block
      · cases hnn : news with
        | nil => exact hm
        | cons y ns =>
          have := (hreg a hbs 0 (by simp [hnn])).2.1
          subst e
          simp [World.cell?, hm] at this
      · rw [setCells_heap _ _ _ _ _ e]; exact hm
  · intro c' L' ver' wr' hj v hv
    simp [hid] at hj
    obtain ⟨_, _, rfl, _⟩ := hj
    simp only [γ', Gh.row]
    rw [if_neg (by omega)]
    exact hH.ver _ _ _ _ _ ho v (by omega)
  · intro ob hj
    simp [hid] at hj
    subst hj
    refine ⟨base, cap, by simp [γ', Gh.row], by simpa using hcap, hn, fun a ha => ?_⟩
    obtain ⟨k1, k2, k3⟩ := hel a ha
    have hw2 : w' = w.setCells a.block (a.off + L.length * c.size T) news := by rw [← hw', ha]; rfl
    refine ⟨k1, fun o l1 l2 => ?_, fun i y hy j av hj => ?_⟩
    · rw [List.length_append, Nat.add_mul, ← hf.1] at l1
      obtain ⟨m1, m2, m3⟩ := k2 o (by omega) l2
      refine ⟨?_, (hfro _).trans m2, ?_⟩
      · simp only [γ', Gh.row, own]
        rw [if_neg]
        · exact m1
        · rintro ⟨_, a', ha', _, _, q⟩
          rw [ha] at ha'
          cases ha'
          omega
      · rw [hw2, World.cell?_setCells_out _ _ _ _ _ (fun _ _ => .inr (by simpa using by omega))]
        exact m3
    · have hj' : j < c.size T := by rw [← cellsOf_len ok c y]; exact (List.getElem?_eq_some_iff.1 hj).1
      rw [List.getElem?_append] at hy
      split at hy
      · rename_i hi
        obtain ⟨q1, q2, v, q3, q4, q5⟩ := k3 i y hy j av hj
        have hlt := mul_lt_of hi hj'
        refine ⟨?_, fun e => (hfro _).trans (q2 e), v, ?_, q4, q5.mono hx⟩
        · simp only [γ', Gh.row, own]
          rw [if_neg]
          · exact q1
          · rintro ⟨_, a', ha', _, q, _⟩
            rw [ha] at ha'
            cases ha'
            omega
        · rw [hw2, World.cell?_setCells_out _ _ _ _ _ (fun _ _ => .inl (by simpa using by omega))]
          exact q3
      · rename_i hi
        obtain ⟨u, q1, q2⟩ := hf.2.2 (i - L.length) y hy j av hj
        have hlt := (List.getElem?_eq_some_iff.1 q1).1
        have e : i * c.size T = (i - L.length) * c.size T + L.length * c.size T := by rw [← Nat.add_mul]; congr 1; omega
        have ea : a.off + i * c.size T + j = a.off + L.length * c.size T + ((i - L.length) * c.size T + j) := by omega
        obtain ⟨m1, m2, m3⟩ := hreg a ha _ hlt
        rw [ea]
        refine ⟨?_, fun _ => (hfro _).trans m3, u, ?_, hf.2.1 u (List.mem_of_getElem? q1), q2.mono hx⟩
        · simp only [γ', Gh.row, own]
          cases wr with
          | true => simpa using m1
          | false =>
            rw [if_pos ⟨rfl, a, ha, rfl, by omega, by omega⟩]
            rfl
        · rw [hw2]
          have := World.cell?_setCells_in a.block news (a.off + L.length * c.size T) w (fun j hj => (hreg a ha j hj).2.1) _ hlt
          rw [this]
          exact (List.getElem?_eq_getElem hlt).symm.trans q1

end
end Go.Ab
