/-
  What is appended.
  Slices of rows; slices and maps that are made; maps.
  Slices and maps that are made; maps that are asked, that are written.
  What a callee computes: its contract; a call of it.
  One operation: what the abstract machine says of it is what the machine does.
  Regions: chains of guards; what is told of temporaries while a region runs.
  What an operation looks at, what it writes: nothing else turns it.
  What an operation looks at, continued: each operation.
  What an operation looks at, continued: all operations.
-/
import Derived.Test.YtinfpahllbhomaaM2
import Derived.MapKept
import Derived.ChangeMaps4
import Derived.Orders
set_option linter.unusedVariables false
set_option linter.unusedSimpArgs false

namespace Go.Ab
section
variable {U : Nat → Type} {T : Tab U} {C : Callee U} {n : Nat} {P : Program} {R : Type}

theorem firstCells_run {w : World} {base : Option Addr} {k size cap : Nat} {news : List Value} (hl : news.length = k * size) (hs : SAt w base news) (m : Nat) :
    (Builtin.firstCells size k (.slice base m cap)).run P w = .ok news.toArray w := by
  cases base with
  | none =>
    cases news with
    | nil => simp [Builtin.firstCells]
    | cons u us => obtain ⟨a, h, _⟩ := hs 0 u rfl; cases h
  | some b =>
    refine run_firstCells_some (P := P) w size k b m cap news hl fun j v hj => ?_
    obtain ⟨a, h, h1, h2⟩ := hs j v hj
    cases h
    obtain ⟨b, o, s⟩ := b
    simp at h1
    subst h1
    rw [addr_add]
    exact h2

theorem isSliceD_some {t : TypeId} (h : isSliceD (P.underlying t) = true) : ∃ el, P.underlying t = some (.slice el) := by
  unfold isSliceD at h
  split at h
  · rename_i d hd
    exact ⟨_, hd⟩
  · cases h

theorem append_fit_run {st xt ty el : TypeId} {inf : TypeInfo} {w : World} {base xb : Option Addr} {len cap k xc : Nat} {news : List Value} {id : Nat} {γ : Gh}
    (ht : P.underlying st = some (.slice el)) (hxt : ∃ el', P.underlying xt = some (.slice el')) (hinf : P.info? el = some inf)
    (hl : news.length = k * inf.size) (hs : SAt w xb news) (h1 : ∀ u ∈ news, u.oneCell' = true) (hfit : len + k ≤ cap) (hsp : ∀ a, base = some a → a.spot = none)
    (hreg : ∀ a, base = some a → Region γ w id a.block (a.off + len * inf.size) news.length) :
    (Builtin.append_ #[st, xt] ty #[.slice base len cap, .slice xb k xc]).run P w = .ok (.slice base (len + k) cap) (wrote? w base (len * inf.size) news) := by
  obtain ⟨el', hxt⟩ := hxt
  have hf := firstCells_run (P := P) (cap := xc) hl hs k
  cases base with
  | none =>
    simp [Builtin.append_, run_underlying ht, run_underlying hxt, sizeOf, typeInfo, hinf, Builtin.lenOf, hf, hfit, wrote?]
  | some a =>
    obtain ⟨b, o, s⟩ := a
    have := hsp _ rfl
    simp at this
    subst this
    have hr := hreg _ rfl
    simp only at hr
    have hst := run_storeCells_cells (P := P) b (o + len * inf.size) news 0 w (fun j hj => (hr j hj).2.1) (fun j hj => (hr j hj).2.2) h1
    rw [Nat.add_zero] at hst
    simp [Builtin.append_, run_underlying ht, run_underlying hxt, sizeOf, typeInfo, hinf, Builtin.lenOf, hf, hfit, wrote?]
    rw [addr_add, hst]
    rfl

theorem append_grow_run {st xt ty el : TypeId} {inf : TypeInfo} {z : Value} {w : World} {base xb : Option Addr} {len cap k xc : Nat} {olds news : List Value}
    (ht : P.underlying st = some (.slice el)) (hxt : ∃ el', P.underlying xt = some (.slice el')) (hinf : P.info? el = some inf) (hz : inf.zero = some z)
    (hlo : olds.length = len * inf.size) (hso : SAt w base olds) (hl : news.length = k * inf.size) (hs : SAt w xb news) (hg : cap < len + k) (hcap : len ≤ cap)
    (hfit : (len + k) * inf.bytes ≤ 2 ^ 47) (h62 : len + k ≤ 2 ^ 62) :
    (Builtin.append_ #[st, xt] ty #[.slice base len cap, .slice xb k xc]).run P w =
      .ok (.slice (some ⟨w.heap.size, 0, none⟩) (len + k) (grownCap w (len + k) cap el))
        (w.drew.alloc (.cells (olds ++ news ++ (Builtin.zeroCells z.cells (grownCap w (len + k) cap el - (len + k))).toList).toArray el)) := by
  obtain ⟨el', hxt⟩ := hxt
  have hn : ¬ (len + k ≤ cap) := by omega
  have h63' : ¬ (9223372036854775807 < ((len : Int) + (k : Int))) := by omega
  have h48' : ¬ (281474976710656 < Builtin.nextslicecap (len + k) cap * inf.bytes) := by
    have := growslice_fits (need := len + k) (old := cap) (bytes := inf.bytes) hg (by omega)
    omega
  have hf := firstCells_run (P := P) (w := w.drew) (cap := xc) hl (fun j u hj => by simpa using hs j u hj) k
  have hfo := firstCells_run (P := P) (w := w.drew) (cap := cap) hlo (fun j u hj => by simpa using hso j u hj) len
  simp [Builtin.append_, run_underlying ht, run_underlying hxt, sizeOf, typeInfo, zeroValue, hinf, hz, Builtin.lenOf, hn, h63', h48', Question.forced, hf, hfo, newRow, grownCap]
  congr 2
  apply Array.ext'
  simp [List.append_assoc]

theorem zeroCells_len (z : Array Value) (k : Nat) : (Builtin.zeroCells z k).toList.length = k * z.size := by simp [Builtin.zeroCells]

/-- What is known of the element type. -/
theorem elemCd_some {e : Env U} (hT : e.T = T) (hP : e.P = P) (ok : T.Ok P) {st el : TypeId} {c : Cd} (h : elemCd e st = some (el, c)) :
    P.underlying st = some (.slice el) ∧ T.cd el = some c ∧ ∃ inf, P.info? el = some inf ∧ inf.size = c.size T := by
  unfold elemCd at h
  rw [hP, hT] at h
  split at h
  · rename_i el' ht
    cases hcd : T.cd el' with
    | none => simp [hcd] at h
    | some c' =>
      simp [hcd] at h
      obtain ⟨rfl, rfl⟩ := h
      obtain ⟨inf, hinf, hsz⟩ := cd_size ok hcd
      exact ⟨ht, hcd, inf, hinf, hsz⟩
  · cases h

theorem zero_some {el : TypeId} {k : Nat} {inf : TypeInfo} (hinf : P.info? el = some inf) (h : (zeroOf (U := U) P el).map List.length = some k) : ∃ z, inf.zero = some z ∧ z.cells.size = k := by
  cases hz : zeroOf (U := U) P el with
  | none => rw [hz] at h; cases h
  | some z =>
    rw [hz] at h
    cases h
    have γ : Gh := ⟨fun _ _ => .free, fun _ => none, fun _ _ => none⟩
    unfold zeroOf at hz
    split at hz
    · rename_i v hv
      split at hz
      · cases hz
        rw [hinf] at hv
        exact ⟨v, by simpa using hv, by simp [ofCells]⟩
      · cases hz
    · cases hz

/-- A row that is new: over what was told of a slice without room. -/
theorem append_new {st xt ty el : TypeId} {inf : TypeInfo} {z : Value} {γ : Gh} {w : World} {H : Heap U} {c : Cd} {L ys : List (den U c)} {wr : Bool} {base xb : Option Addr} {k xc : Nat} {olds news : List Value}
    {S : St U} {sl : Option Nat} {kk : Kont U R} {r : R} (ok : T.Ok P)
    (ht : P.underlying st = some (.slice el)) (hxt : ∃ el', P.underlying xt = some (.slice el')) (hinf : P.info? el = some inf) (hz : inf.zero = some z) (hzs : z.cells.size = c.size T) (hsz : inf.size = c.size T)
    (hH : HRel T γ w H) (hb : S.base ≤ H.length) (hsl : ∀ id, sl = some id → S.base ≤ id)
    (hn : ∀ a, base = some a → a.spot = none) (hfo : Flat T γ w c L olds) (hso : SAt w base olds) (hfn : Flat T γ w c ys news) (hsn : SAt w xb news) (hk : k = ys.length)
    (hel : ∀ a, base = some a → ∀ (i : Nat) y, L[i]? = some y → ∀ (j : Nat) av, (cellsOf T c y)[j]? = some av → γ.own a.block (a.off + i * c.size T + j) = .frz)
    (hwr : wr = true → L = [])
    (hfit : (L.length + ys.length) * inf.bytes ≤ 2 ^ 47) (h62 : L.length + ys.length ≤ 2 ^ 62)
    (h : newK sl (.arr c (L ++ ys) 0 wr) (fun id => .sl id 0) H kk = some r) (hbn : base = none → L.length = 0) :
    Turns P T S.base S.mu γ w (Builtin.append_ #[st, xt] ty #[.slice base L.length L.length, .slice xb k xc]) kk r H := by
  subst hk
  obtain ⟨id, H', ft, hN, hk, hid⟩ := newK_some h
  have hbase : S.base ≤ id := by rcases hid with h | h; omega; exact hsl _ h
  have hfall := Flat.append ok hfo hfn
  by_cases hfits : L.length + ys.length ≤ L.length
  · have hys : ys = [] := List.eq_nil_of_length_eq_zero (by omega)
    subst hys
    have hnil : news = [] := List.eq_nil_of_length_eq_zero (by rw [hfn.1]; simp)
    subst hnil
    have hrun := append_fit_run (P := P) (ty := ty) (xb := xb) (xc := xc) (k := 0) (len := L.length) (cap := L.length) (base := base) (w := w) (id := 0) (γ := γ) ht hxt hinf (news := []) (by simp) hsn (by simp) (by simp) hn
      (fun a _ j hj => by simp at hj)
    have hw : wrote? w base (L.length * inf.size) [] = w := by cases base <;> rfl
    rw [hw] at hrun
    obtain ⟨γ', q1, q2, q3⟩ := row_view (cap := L.length) (base := base) hH hN (by simp) hbn hn (fun e => by rw [hwr e]; rfl) (fun a ha i y hy j av hj => by
      rw [List.append_nil] at hy
      refine ⟨hel a ha i y hy j av hj, ?_⟩
      obtain ⟨u, m1, m2⟩ := hfo.2.2 i y hy j av hj
      obtain ⟨a', ha', _, m3⟩ := hso _ u m1
      rw [ha] at ha'
      cases ha'
      exact ⟨u, by rw [Nat.add_assoc]; exact m3, hfo.2.1 u (List.mem_of_getElem? m1), m2⟩)
    refine ⟨_, w, _, H', ft, γ', hrun, hk, ?_, q1, q2, hN.ro hbase⟩
    simpa using q3
  · have hrun := append_grow_run (P := P) (ty := ty) (xb := xb) (xc := xc) (k := ys.length) (len := L.length) (cap := L.length) (base := base) (w := w) ht hxt hinf hz (by rw [hsz]; exact hfo.1) hso (by rw [hsz]; exact hfn.1) hsn
      (by omega) (Nat.le_refl _) hfit h62
    have hge := grownCap_ge w (L.length + ys.length) L.length el
    obtain ⟨γ', q1, q2, q3⟩ := row_grow (cap := grownCap w (L.length + ys.length) L.length el) (flat := olds ++ news)
      (rest := (Builtin.zeroCells z.cells (grownCap w (L.length + ys.length) L.length el - (L.length + ys.length))).toList) (et := el)
      (w' := w.drew.alloc (.cells (olds ++ news ++ (Builtin.zeroCells z.cells (grownCap w (L.length + ys.length) L.length el - (L.length + ys.length))).toList).toArray el))
      ok hH hN.len hN.at_ hN.other (fun v _ => (hN.fresh hH).2 v) hfall rfl rfl rfl rfl (by simpa using hge) (by
        rw [zeroCells_len, hfall.1, hzs, List.length_append, ← Nat.add_mul]; congr 1; omega)
    refine ⟨_, _, _, H', ft, γ', hrun, hk, ?_, q1, q2, hN.ro hbase⟩
    simpa using q3

theorem appendK_turns {e : Env U} (ho : e.o = real T C n) (hT : e.T = T) (hP : e.P = P) (ok : T.Ok P) (sl : Option Nat) (st xt ty : TypeId) (s x : AV U) (vs vx : Value) (γ : Gh) (w : World) (S : St U)
    (kk : Kont U R) (r : R) (hs : VRel T γ w s vs) (hx : VRel T γ w x vx) (hH : HRel T γ w S.heap) (hb : S.base ≤ S.heap.length) (hsl : ∀ id, sl = some id → S.base ≤ id)
    (h : appendK e sl st xt s x S kk = some r) : Turns P T S.base S.mu γ w (Builtin.append_ #[st, xt] ty #[vs, vx]) kk r S.heap := by
  unfold appendK at h
  rw [ho, hP, hT] at h
  split at h
  · cases h
  · rename_i el c hel
    obtain ⟨ht, hcd, inf, hinf, hsz⟩ := elemCd_some hT hP ok hel
    have hbytes : P.bytesOf el = inf.bytes := by simp [Program.bytesOf, hinf]
    rw [hbytes] at h
    split at h
    · cases h
    · rename_i hc0
      have hc1 : isSliceD (P.underlying xt) = true := by
        cases hq : isSliceD (P.underlying xt) <;> simp [hq] at hc0 ⊢
      have hc2 : (zeroOf (U := U) P el).map List.length = some (c.size T) := by
        rw [hc1] at hc0
        simpa using hc0
      have hxt := isSliceD_some hc1
      obtain ⟨z, hz, hzs⟩ := zero_some hinf hc2
      split at h
      · cases h
      · rename_i ys rd hlo
        obtain ⟨xb, xc, news, rfl, hfn, hsn⟩ := listOf_flat ok hH hlo hx
        have hnil : ∀ base : Option Addr, Flat T γ w c ([] : List (den U c)) [] ∧ SAt w base [] := fun base => ⟨Flat.nil, fun j u hu => by simp at hu⟩
        split at h
        · -- nil
          obtain ⟨h, hfits⟩ := chk_some h
          have hfits := hfits (by simp)
          have hfits : (ys.length : Int) * inf.bytes ≤ 2 ^ 47 ∧ (ys.length : Int) ≤ 2 ^ 62 := by simpa [real] using hfits
          cases hs
          have := append_new (S := S) (base := none) (L := []) (olds := []) (ty := ty) (xc := xc) ok ht hxt hinf hz hzs hsz hH hb hsl (fun a e => by cases e) (hnil none).1 (hnil none).2 hfn hsn rfl (fun a e => by cases e) (fun _ => rfl)
            (by simp; have := hfits.1; norm_cast at this) (by simp; omega) h (fun _ => rfl)
          obtain ⟨x, w', v, H', ft, γ', q1, q2, q3⟩ := this
          exact ⟨x, w', v, H', _, γ', q1, q2, q3⟩
        · -- without room
          rename_i c' L
          split at h
          · rename_i hcc
            subst hcc
            obtain ⟨h, hfits⟩ := chk_some h
            have hfits := hfits (by simp)
            have hfits : (ys.length : Int) * inf.bytes ≤ 2 ^ 47 ∧ (ys.length : Int) ≤ 2 ^ 62 := by simpa [real] using hfits
            obtain ⟨base, cap, olds, rfl, k1, k2, k3, k4, k5, k6, k7⟩ := fsl_flat ok hs
            simp only [spOk] at k2
            subst k2
            have hL : L = [] := List.eq_nil_of_length_eq_zero (by omega)
            subst hL
            have := append_new (S := S) (base := base) (L := []) (olds := olds) (ty := ty) (xc := xc) ok ht hxt hinf hz hzs hsz hH hb hsl k4 k5 k6 hfn hsn rfl k7 (fun _ => rfl)
              (by simp; have := hfits.1; norm_cast at this) (by simp; omega) h (fun _ => rfl)
            obtain ⟨x, w', v, H', ft, γ', q1, q2, q3⟩ := this
            exact ⟨x, w', v, H', _, γ', q1, q2, q3⟩
          · cases h
        · -- tight
          rename_i c' L
          split at h
          · rename_i hcc
            subst hcc
            obtain ⟨h, hfits⟩ := chk_some h
            have hfits := hfits (by simp)
            have hfits : ((L.length : Int) + ys.length) * inf.bytes ≤ 2 ^ 47 ∧ (L.length : Int) + ys.length ≤ 2 ^ 62 := by simpa [real] using hfits
            obtain ⟨base, cap, olds, rfl, k1, k2, k3, k4, k5, k6, k7⟩ := fsl_flat ok hs
            simp only [spOk] at k2
            subst k2
            have := append_new (S := S) (base := base) (L := L) (olds := olds) (ty := ty) (xc := xc) ok ht hxt hinf hz hzs hsz hH hb hsl k4 k5 k6 hfn hsn rfl k7 (fun e => by cases e)
              (by have := hfits.1; norm_cast at this) (by omega) h (fun e => k3 e)
            obtain ⟨x, w', v, H', ft, γ', q1, q2, q3⟩ := this
            exact ⟨x, w', v, H', _, γ', q1, q2, q3⟩
          · cases h
        · -- a row
          rename_i id ver
          split at h
          · rename_i c' L ver' wr hob
            split at h
            · rename_i hcc
              subst hcc
              split at h
              · rename_i hvm
                obtain ⟨rfl, hmay⟩ := hvm
                obtain ⟨h, hfits⟩ := chk_some h
                have hfits := hfits (by simp)
                have hfits : ((L.length : Int) + ys.length) * inf.bytes ≤ 2 ^ 47 ∧ (L.length : Int) + ys.length ≤ 2 ^ 62 := by simpa [real] using hfits
                obtain ⟨base, cap, olds, rfl, hsv, k1, k3, k5, k6, k7⟩ := arr_flat ok hH hob hs
                have hro : ∀ ob', RO S.base S.mu S.heap (S.heap.set id ob') := fun ob' => RO.setArr hmay (fun cs e => by rw [hob] at e; cases e)
                by_cases hfit : L.length + ys.length ≤ cap
                · obtain ⟨γ', q1, q2, q3, q4⟩ := row_bump ok hH hob hsv k3 k7 hfn hfit
                  have hrun := append_fit_run (P := P) (ty := ty) (xb := xb) (xc := xc) (k := ys.length) (len := L.length) (cap := cap) (base := base) (w := w) (id := id) (γ := γ) ht hxt hinf (news := news) (by rw [hsz]; exact hfn.1) hsn hfn.2.1 hfit
                    (fun a ha => (k7 a ha).1) (fun a ha => by rw [hsz]; exact q4 a ha)
                  rw [hsz] at hrun
                  exact ⟨_, _, _, _, _, γ', hrun, h, q3, q1, q2, hro _⟩
                · have hrun := append_grow_run (P := P) (ty := ty) (xb := xb) (xc := xc) (k := ys.length) (len := L.length) (cap := cap) (base := base) (w := w) ht hxt hinf hz (by rw [hsz]; exact k5.1) k6 (by rw [hsz]; exact hfn.1) hsn
                    (by omega) k1 (by have := hfits.1; norm_cast at this) (by omega)
                  have hge := grownCap_ge w (L.length + ys.length) cap el
                  have hid := (List.getElem?_eq_some_iff.1 hob).1
                  have hfall := Flat.append ok k5 hfn
                  obtain ⟨γ', q1, q2, q3⟩ := row_grow (cap := grownCap w (L.length + ys.length) cap el) (flat := olds ++ news) (ver := ver' + 1) (id := id) (L := L ++ ys) (wr := wr)
                    (H' := S.heap.set id (.arr c' (L ++ ys) (ver' + 1) wr))
                    (rest := (Builtin.zeroCells z.cells (grownCap w (L.length + ys.length) cap el - (L.length + ys.length))).toList) (et := el)
                    (w' := w.drew.alloc (.cells (olds ++ news ++ (Builtin.zeroCells z.cells (grownCap w (L.length + ys.length) cap el - (L.length + ys.length))).toList).toArray el))
                    ok hH (by simp) (by simp [hid]) (fun j hj => List.getElem?_set_ne (Ne.symm hj)) (fun v hv => hH.ver _ _ _ _ _ hob v (by omega)) hfall rfl rfl rfl rfl (by simpa using hge) (by
                      rw [zeroCells_len, hfall.1, hzs, List.length_append, ← Nat.add_mul]; congr 1; omega)
                  refine ⟨_, _, _, _, _, γ', hrun, h, ?_, q1, q2, hro _⟩
                  simpa using q3
              · cases h
            · cases h
          · cases h
        · cases h

end
end Go.Ab

namespace Go.Ab
section
variable {U : Nat → Type} {T : Tab U} {C : Callee U} {n : Nat} {P : Program} {R : Type}

theorem Two.imp {k : Kont U R} {r : R} {g : Option Bool} {H : Heap U} {p q : Prop} (h : Two k r g H p) (f : p → q) : Two k r g H q := ⟨h.1, fun e => f (h.2 e)⟩

theorem Two.out {k : Kont U R} {r : R} {H : Heap U} {p : Prop} (h : Two k r none H p) : p := h.2 (by simp)

theorem Two.sure {k : Kont U R} {r : R} {H : Heap U} {p : Prop} (h : p) : Two k r none H p := ⟨fun e => (by cases e), fun _ => h⟩

/-- A row's slice as it stays. -/
theorem row_plain (ok : T.Ok P) {γ : Gh} {w : World} {S : St U} {id ver : Nat} {c : Cd} {L : List (den U c)} {wr : Bool} {x : Value} (hH : HRel T γ w S.heap)
    (ho : S.heap[id]? = some (.arr c L ver wr)) (hx : VRel T γ w (.sl id ver) x) (hmay : S.may id 0 = true ∨ wr = false) :
    ∃ γ', HRel T γ' w (if wr then S.heap.set id (.arr c L ver false) else S.heap) ∧ Ext γ w γ' w ∧ VRel T γ' w (.fsl c L .unk) x ∧
      RO S.base S.mu S.heap (if wr then S.heap.set id (.arr c L ver false) else S.heap) := by
  cases wr with
  | true =>
    obtain ⟨γ', h1, h2, h3, _, _⟩ := freeze_rel ok hH ho hx
    refine ⟨γ', by simpa using h1, h2, h3, ?_⟩
    rcases hmay with h | h
    · simpa using RO.setArr h (fun cs e => by rw [ho] at e; cases e)
    · cases h
  | false =>
    have hp : purify1 S.heap (.sl id ver) = some (.fsl c L .unk, S.heap, []) := by simp [purify1, ho]
    obtain ⟨γ', p, hv⟩ := purify1_rel ok hp hH hx
    exact ⟨γ', by simpa using p.rel, p.ext, hv, RO.refl _ _ _⟩

/-- A part of a row, by itself. -/
theorem row_tail (ok : T.Ok P) {γ : Gh} {w : World} {H : Heap U} {id ver cap l h : Nat} {c : Cd} {L : List (den U c)} {wr : Bool} {base : Option Addr}
    (hH : HRel T γ w H) (ho : H[id]? = some (.arr c L ver wr)) (hsv : γ.sv id ver = some (base, L.length, cap, c.size T)) (hcap : L.length ≤ cap) (hn : base = none → cap = 0)
    (hel : ∀ a, base = some a → a.spot = none ∧
        (∀ o, a.off + L.length * c.size T ≤ o → o < a.off + cap * c.size T →
          γ.own a.block o = .obj id ∧ w.frozen? ⟨a.block, o, none⟩ = false ∧ (w.cell? ⟨a.block, o, none⟩).isSome = true) ∧
        (∀ (i : Nat) y, L[i]? = some y → ∀ (j : Nat) av, (cellsOf T c y)[j]? = some av →
          (γ.own a.block (a.off + i * c.size T + j) = if wr then .obj id else .frz) ∧ (wr = true → w.frozen? ⟨a.block, a.off + i * c.size T + j, none⟩ = false) ∧
          ∃ v, w.cell? ⟨a.block, a.off + i * c.size T + j, none⟩ = some v ∧ v.oneCell' = true ∧ VRel T γ w av v))
    (hl : l ≤ h) (hh : h ≤ L.length) (hw : h = L.length ∨ wr = true) :
    ∃ γ', HRel T γ' w (H.set id (.arr c ((L.take h).drop l) (ver + 1) wr)) ∧ Ext γ w γ' w ∧
      VRel T γ' w (.sl id (ver + 1)) (.slice (if cap = l then base else base.map (·.add (l * c.size T))) (h - l) (cap - l)) := by
  have hid := (List.getElem?_eq_some_iff.1 ho).1
  let γ' := γ.row id (ver + 1) (if cap = l then base else base.map (·.add (l * c.size T)), h - l, cap - l, c.size T) γ.own
  have hx : Ext γ w γ' w := by
    refine ⟨fun _ _ h => h, fun j v y hj => ?_, fun b o hb => ⟨hb, rfl⟩, fun b o _ hb => hb, Nat.le_refl _, rfl, rfl, rfl, fun _ _ _ => rfl⟩
    simp only [γ', Gh.row]
    rw [if_neg]
    · exact hj
    · rintro ⟨rfl, rfl⟩
      rw [hH.ver _ _ _ _ _ ho _ (Nat.lt_succ_self _)] at hj
      cases hj
  refine ⟨γ', ?_, hx, .sl id (ver + 1) _ _ _ (c.size T) (by simp [γ', Gh.row])⟩
  refine HRel.step (id := id) hH hx (by simp) hH.size (by simpa using hid) (fun b o j hb => .inl hb) rfl ?_ (fun j hj => List.getElem?_set_ne (Ne.symm hj)) (fun b o j _ hb => ⟨hb, rfl, rfl⟩) (fun b es c j _ _ hm => hm) ?_ ?_
  · intro j v hj
    simp only [γ', Gh.row]
    rw [if_neg (fun h => hj h.1)]
  · intro c' L' ver' wr' hj v hv
    simp [hid] at hj
    obtain ⟨_, _, rfl, _⟩ := hj
    simp only [γ', Gh.row]
    rw [if_neg (by omega)]
    exact hH.ver _ _ _ _ _ ho v (by omega)
  · intro ob hj
    simp [hid] at hj
    subst hj
    refine ⟨(if cap = l then base else base.map (·.add (l * c.size T))), cap - l, by simp [γ', Gh.row, Nat.min_eq_left hh], by simp; omega, ?_, fun a ha => ?_⟩
    · intro e
      split at e
      · rename_i hc; omega
      · simp at e; have := hn e; omega
    · split at ha
      · rename_i hc
        obtain ⟨k1, _, _⟩ := hel a ha
        refine ⟨k1, fun o l1 l2 => ?_, fun i y hy j av hj => ?_⟩
        · rw [hc] at l2; simp at l2; omega
        · have := (List.getElem?_eq_some_iff.1 hy).1
          simp at this
          omega
      · rename_i hc
        simp at ha
        obtain ⟨a0, ha0, rfl⟩ := ha
        obtain ⟨k1, k2, k3⟩ := hel a0 ha0
        obtain ⟨b, o0, s⟩ := a0
        simp at k1
        subst k1
        simp only [addr_add]
        refine ⟨trivial, fun o l1 l2 => ?_, fun i y hy j av hj => ?_⟩
        · have e1 : ((L.take h).drop l).length * c.size T + l * c.size T = h * c.size T := by rw [← Nat.add_mul]; congr 1; simp; omega
          have e2 : (cap - l) * c.size T + l * c.size T = cap * c.size T := by rw [← Nat.add_mul]; congr 1; omega
          by_cases hlt : o < o0 + L.length * c.size T
          · have hw' : wr = true := by
              rcases hw with rfl | hw
              · omega
              · exact hw
            subst hw'
            have hq : o - o0 < L.length * c.size T := by omega
            have hs : 0 < c.size T := by
              rcases Nat.eq_zero_or_pos (c.size T) with e | e
              · rw [e] at hq; omega
              · exact e
            have hi : (o - o0) / c.size T < L.length := (Nat.div_lt_iff_lt_mul hs).2 hq
            have hj : (o - o0) % c.size T < (cellsOf T c L[(o - o0) / c.size T]).length := by rw [cellsOf_len ok]; exact Nat.mod_lt _ hs
            obtain ⟨q1, q2, v, q3, _, _⟩ := k3 _ _ (List.getElem?_eq_getElem hi) _ _ (List.getElem?_eq_getElem hj)
            simp only at q1 q2 q3
            have e3 : o0 + (o - o0) / c.size T * c.size T + (o - o0) % c.size T = o := by
              have := Nat.div_add_mod (o - o0) (c.size T)
              rw [Nat.mul_comm] at this
              omega
            rw [e3] at q1 q2 q3
            have q1 : γ.own b o = .obj id := by simpa using q1
            exact ⟨q1, q2 trivial, by rw [q3]; rfl⟩
          · exact k2 o (by simp only; omega) (by simp only; omega)
        · rw [List.getElem?_drop] at hy
          have hy : L[l + i]? = some y := by
            rw [List.getElem?_take] at hy
            split at hy
            · exact hy
            · cases hy
          obtain ⟨q1, q2, v, q3, q4, q5⟩ := k3 (l + i) y hy j av hj
          simp only at q1 q2 q3
          have e1 : o0 + (l + i) * c.size T + j = o0 + l * c.size T + i * c.size T + j := by rw [Nat.add_mul]; omega
          rw [e1] at q1 q2 q3
          exact ⟨q1, q2, v, q3, q4, q5.mono hx⟩

theorem sliceK_turns {e : Env U} (ho : e.o = real T C n) (hT : e.T = T) (hP : e.P = P) (ok : T.Ok P) (g : Option Bool) (plain : Bool) (t : TypeId) (x : AV U) (vx : Value) (lo hi mx : Option (AV U)) (lo' hi' mx' : Option Value)
    (γ : Gh) (w : World) (S : St U) (kk : Kont U R) (r : R) (hx : VRel T γ w x vx) (rl : ORelV T γ w lo lo') (rh : ORelV T γ w hi hi') (rm : ORelV T γ w mx mx') (hH : HRel T γ w S.heap)
    (h : sliceK e g plain t x lo hi mx S kk = some r) : Two kk r g S.heap (Turns P T S.base S.mu γ w (Instr.sliceAt t vx lo' hi' mx') kk r S.heap) := by
  unfold sliceK at h
  rw [ho, hP, hT] at h
  split at h
  · rename_i ht
    split at h
    · cases hx
      exact (sliceStrK_two _ t lo hi mx lo' hi' mx' γ w g S.heap kk r ht rl rh rm h).imp (Reads.turns hH)
    · exact Two.bad h
  · rename_i el ht
    split at h
    · split at h
      · rename_i hcd
        obtain ⟨c, hcd⟩ := Option.isSome_iff_exists.1 hcd
        obtain ⟨inf, hinf, _⟩ := cd_size ok hcd
        cases hx
        exact (sliceNilK_two t el inf lo hi mx lo' hi' mx' γ w g S.heap kk r ht hinf rl rh rm h).imp (Reads.turns hH)
      · exact Two.bad h
    · rename_i c L sp
      split at h
      · rename_i hcd
        exact (sliceFslK_two ok t el c L sp vx lo hi mx lo' hi' mx' γ w g S.heap {} kk r ht hcd hx rl rh rm h).imp (Reads.turns hH)
      · exact Two.bad h
    · rename_i id ver
      split at h
      · exact Two.bad h
      · split at h
        · rename_i c L ver' wr hob
          split at h
          · rename_i hvc
            obtain ⟨rfl, hcd⟩ := hvc
            refine Two.sure ?_
            unfold sliceSlK at h
            split at h
            · split at h
              · rename_i hmay
                obtain ⟨γ', h1, h2, h3, h4⟩ := row_plain ok hH hob hx hmay
                have mono : ∀ {a : Option (AV U)} {b : Option Value}, ORelV T γ w a b → ORelV T γ' w a b := by
                  intro a b hab
                  cases a <;> cases b <;> first | trivial | exact hab.elim | exact VRel.mono hab h2
                have := (sliceFslK_two ok t el c L .unk vx lo hi mx lo' hi' mx' γ' w none _ (if wr then { wr := [id] } else { rd := [id] }) kk r ht hcd h3 (mono rl) (mono rh) (mono rm) h).out
                obtain ⟨y, v, ft, q1, q2, q3⟩ := this
                exact ⟨y, w, v, _, ft, γ', q1, q2, q3, h1, h2, h4⟩
              · cases h
            · rename_i hpl
              split at h
              · rename_i hmay
                split at h
                · rename_i l h9 hbl hbh
                  obtain ⟨h, hc⟩ := chk_some h
                  have hc := hc (by simp)
                  obtain ⟨c1, c2⟩ := band_true hc
                  obtain ⟨c2, c3⟩ := band_true c2
                  have h0 : 0 ≤ l := by simpa [real] using c1
                  have h1 : l ≤ h9 := by simpa [real] using c2
                  have h2 : h9 ≤ (L.length : Int) := by simpa [real] using c3
                  obtain ⟨base, cap, news, rfl, hsv, k1, k3, k5, k6, k7⟩ := arr_flat ok hH hob hx
                  obtain ⟨inf, hinf, hsz⟩ := cd_size ok hcd
                  have hmx : mx = none := by cases mx with | none => rfl | some _ => simp at hpl
                  subst hmx
                  have hw9 : h9.toNat = L.length ∨ wr = true := by
                    cases hi with
                    | none => simp [bound, real] at hbh; omega
                    | some _ => simp at hpl; exact .inr hpl.2
                  have hmx' : mx' = none := by cases mx' with | none => rfl | some _ => exact rm.elim
                  subst hmx'
                  have hb := bounds_run (P := P) (isS := true) (h := h9) hbl hbh rl rh h0 h1 h2 k1
                  obtain ⟨γ', q1, q2, q3⟩ := row_tail ok hH hob hsv k1 k3 k7 (l := l.toNat) (h := h9.toNat) (by omega) (by omega) hw9
                  refine ⟨_, w, _, _, _, γ', slice_run ht hinf hb, h, ?_, ?_, q2, RO.setArr hmay (fun cs e => by rw [hob] at e; cases e)⟩
                  · rw [hsz]; simpa using q3
                  · exact q1
                · cases h
              · cases h
          · cases h
        · cases h
    · exact Two.bad h
  · exact Two.bad h

end
end Go.Ab

namespace Go.Ab
open Go.MapKept (IsKey)
section
variable {U : Nat → Type} {T : Tab U} {C : Callee U} {n : Nat} {P : Program} {R : Type}

theorem zeroAt_rel (ok : T.Ok P) {e : Env U} (hT : e.T = T) (hP : e.P = P) {el : TypeId} {c : Cd} {z : den U c} (h : zeroAt e el c = some z) (γ : Gh) (w : World) :
    ∃ i v, P.info? el = some i ∧ i.zero = some v ∧ CRel T γ w (cellsOf T c z) v.cells.toList := by
  unfold zeroAt at h
  rw [hT, hP] at h
  split at h
  · rename_i z0 hz
    obtain ⟨i, v, h1, h2, rfl, h3⟩ := zeroOf_rel (T := T) hz γ w
    exact ⟨i, v, h1, h2, ofCellsTo_rel ok h h3⟩
  · cases h

/-- The same element over and over. -/
theorem flat_rep (ok : T.Ok P) {γ : Gh} {w : World} {c : Cd} {z : den U c} {zs : List Value} (h : CRel T γ w (cellsOf T c z) zs) : ∀ k : Nat,
    Flat T γ w c (List.replicate k z) ((List.range (k * zs.length)).map fun i => zs[i % zs.length]!)
  | 0 => by simpa using Flat.nil
  | k + 1 => by
    have hl : zs.length = c.size T := by rw [← h.1, cellsOf_len ok]
    refine ⟨by simp [hl], fun u hu => ?_, fun i y hy j av hj => ?_⟩
    · obtain ⟨i, hi, rfl⟩ := List.mem_map.1 hu
      have hpos : 0 < zs.length := by
        rcases Nat.eq_zero_or_pos zs.length with e | e
        · rw [e] at hi; simp at hi
        · exact e
      have hlt := Nat.mod_lt i hpos
      rw [getElem!_pos zs _ hlt]
      exact h.one _ (List.getElem_mem hlt)
    · have hi : i < k + 1 := by simpa using (List.getElem?_eq_some_iff.1 hy).1
      have hyz : y = z := by
        rw [List.getElem?_replicate, if_pos hi] at hy
        simpa using hy.symm
      subst hyz
      have hj' : j < c.size T := by rw [← cellsOf_len ok c y]; exact (List.getElem?_eq_some_iff.1 hj).1
      have hlt : i * c.size T + j < (k + 1) * c.size T := mul_lt_of hi hj'
      have hmod : (i * c.size T + j) % c.size T = j := by
        rw [Nat.mul_comm, Nat.mul_add_mod, Nat.mod_eq_of_lt hj']
      have hjl : j < zs.length := by omega
      refine ⟨zs[j], ?_, (h.2 j av _ hj (List.getElem?_eq_getElem hjl)).2⟩
      rw [List.getElem?_map, List.getElem?_range (by rw [hl]; exact hlt)]
      simp only [Option.map_some, Option.some.injEq]
      rw [hl, hmod]
      exact getElem!_pos zs _ hjl

theorem makeSlice_run {t el : TypeId} {inf : TypeInfo} {z : Value} {k : Int} {w : World} (ht : P.underlying t = some (.slice el)) (hinf : P.info? el = some inf) (hz : inf.zero = some z) (hs : z.cells.size = inf.size)
    (h0 : 0 ≤ k) (h1 : k * inf.bytes ≤ 2 ^ 47) (h2 : k ≤ 2 ^ 62) :
    (Instr.makeSlice t (.int .i64 k) (.int .i64 k)).run P w = .ok (.slice (some ⟨w.heap.size, 0, none⟩) k.toNat k.toNat)
      (w.alloc (.cells ((List.range (k.toNat * z.cells.toList.length)).map fun i => z.cells.toList[i % z.cells.toList.length]!).toArray el)) := by
  have hw : IntKind.i64.wrap k = k := by
    have e : k % 2 ^ 64 = k := Int.emod_eq_of_lt h0 (by omega)
    have e2 : ¬ (k ≥ 2 ^ 63) := by omega
    simp [IntKind.wrap, IntKind.bits, IntKind.signed, e]
    omega
  have h3 : ¬ (k < 0) := by omega
  have h4 : ¬ ((inf.bytes : Int) * k > 2 ^ 48) := by rw [Int.mul_comm]; omega
  have h5 : ¬ (k > k) := by omega
  have hti : (typeInfo el).run P w = .ok inf w := by simp [typeInfo, hinf]
  have hai : ∀ w : World, (asIntOf (Value.int IntKind.i64 k)).run P w = .ok (.i64, k) w := fun _ => rfl
  by_cases hz0 : k.toNat * inf.size = 0
  · have e : k.toNat * z.cells.toList.length = 0 := by simpa [hs] using hz0
    simp only [Instr.makeSlice, Sem.run_bind, run_underlying ht, Result.andThen_ok, asInt, Sem.run_pure, hai, hti, hw, h3, h4, h5, decide_false, Bool.or_false, Bool.false_eq_true, if_false, run_askRoom, sizeOf_run hinf, hz0, if_true, e]
    have er : Array.range 0 = #[] := rfl
    simp [newRow, er]
  · have hzv : (zeroValue el).run P w = .ok z w := by simp [zeroValue, typeInfo, hinf, hz]
    simp only [Instr.makeSlice, Sem.run_bind, run_underlying ht, Result.andThen_ok, asInt, Sem.run_pure, hai, hti, hw, h3, h4, h5, decide_false, Bool.or_false, Bool.false_eq_true, if_false, run_askRoom, sizeOf_run hinf, if_neg hz0, hzv]
    simp only [newRow, Sem.run_bind, run_newObj, Result.andThen_ok, Sem.run_pure, World.alloc]
    congr 4
    apply Array.ext'
    simp [hs, ← Array.getElem!_toList]

theorem makeSliceK_turns {e : Env U} (ho : e.o = real T C n) (hT : e.T = T) (hP : e.P = P) (ok : T.Ok P) (sl : Option Nat) (plain : Bool) (t : TypeId) (x : AV U) (vx : Value) (γ : Gh) (w : World) (base : Nat) (mu : List (Nat × Nat)) (H : Heap U)
    (kk : Kont U R) (r : R) (hx : VRel T γ w x vx) (hH : HRel T γ w H) (hb : base ≤ H.length) (hsl : ∀ id, sl = some id → base ≤ id)
    (h : makeSliceK e sl plain t true x H kk = some r) : Turns P T base mu γ w (Instr.makeSlice t vx vx) kk r H := by
  unfold makeSliceK at h
  rw [ho, hP] at h
  split at h
  · rename_i el c k hel
    obtain ⟨ht, hcd, inf, hinf, hsz⟩ := elemCd_some hT hP ok hel
    have hbytes : P.bytesOf el = inf.bytes := by simp [Program.bytesOf, hinf]
    rw [hbytes] at h
    split at h
    · cases h
    · rename_i z hz
      obtain ⟨inf', zv, hinf', hzv, hcr⟩ := zeroAt_rel ok hT hP hz γ w
      rw [hinf] at hinf'
      cases hinf'
      simp only [if_true] at h
      obtain ⟨h, hc⟩ := chk_some h
      have hc := hc (by simp)
      have hc : 0 ≤ k ∧ k * inf.bytes ≤ 2 ^ 47 ∧ k ≤ 2 ^ 62 := of_decide_eq_true hc
      obtain ⟨h0, h1, h2⟩ := hc
      cases hx
      have hzl : zv.cells.size = inf.size := by
        have := hcr.1
        rw [cellsOf_len ok, ← hsz] at this
        simpa using this.symm
      have hrun := makeSlice_run (w := w) ht hinf hzv hzl h0 h1 h2
      have hfl := flat_rep ok hcr k.toNat
      have hrep : (real T C n).rep c k z = List.replicate k.toNat z := rfl
      rw [hrep] at h
      generalize hnews : (List.range (k.toNat * zv.cells.toList.length)).map (fun i => zv.cells.toList[i % zv.cells.toList.length]!) = news at hrun hfl
      cases plain with
      | true =>
        simp only [if_true] at h
        have hx' := Ext.block (k := news.toArray.size) (O := .cells news.toArray el) (w' := w.alloc (.cells news.toArray el)) hH.size rfl rfl rfl rfl
        refine ⟨_, _, _, _, _, _, hrun, h, ?_, hH.block rfl rfl rfl rfl, hx', RO.refl _ _ _⟩
        have := VRel.ofBlock (cs := news.toArray) (sp := .tight) (cap := k.toNat) ok hfl hx' rfl (fun j u hu => by simpa using hu) (by simp) (by simp [spOk])
        simpa using this
      | false =>
        simp only [Bool.false_eq_true, if_false] at h
        obtain ⟨id, H', ft, hN, hk, hid⟩ := newK_some h
        have hbase : base ≤ id := by rcases hid with h | h; omega; exact hsl _ h
        obtain ⟨γ', q1, q2, q3⟩ := row_grow (cap := k.toNat) (flat := news) (rest := []) (et := el) (w' := w.alloc (.cells news.toArray el)) ok hH hN.len hN.at_ hN.other (fun v _ => (hN.fresh hH).2 v) hfl
          (by rw [List.append_nil]; rfl) rfl rfl rfl (by simp) (by rw [hfl.1]; simp)
        refine ⟨_, _, _, _, _, γ', hrun, hk, ?_, q1, q2, hN.ro hbase⟩
        simpa using q3
  · cases h

theorem mapTy_some {e : Env U} (hT : e.T = T) (hP : e.P = P) {t : TypeId} {kc vc : Cd} (h : mapTy e t = some (kc, vc)) :
    ∃ kt vt d, P.underlying t = some (.map kt vt) ∧ P.underlying kt = some d ∧ T.cd vt = some vc ∧ ((∃ k, d = .int k ∧ kc = .int k) ∨ (d = .string ∧ kc = .str)) := by
  unfold mapTy at h
  rw [hP, hT] at h
  split at h
  · rename_i kt vt ht
    split at h
    · rename_i kd vc' hk hv
      cases h
      exact ⟨kt, vt, _, ht, hk, hv, .inl ⟨_, rfl, rfl⟩⟩
    · rename_i vc' hk hv
      cases h
      exact ⟨kt, vt, _, ht, hk, hv, .inr ⟨rfl, rfl⟩⟩
    · cases h
  · cases h

theorem makeMapK_turns {e : Env U} {sl : Option Nat} {base : Nat} {mu : List (Nat × Nat)} {γ : Gh} {w : World} {H : Heap U} {kk : Kont U R} {r : R} {t : TypeId}
    (hH : HRel T γ w H) (hb : base ≤ H.length) (hsl : ∀ id, sl = some id → base ≤ id) (h : makeMapK e sl t H kk = some r) : Turns P T base mu γ w (Instr.makeMap t none) kk r H := by
  unfold makeMapK at h
  split at h
  · rename_i kc vc hm
    obtain ⟨id, H', ft, hN, hk, hid⟩ := newK_some h
    have hbase : base ≤ id := by rcases hid with h | h; omega; exact hsl _ h
    let own : Nat → Own := fun o => if o = 0 then .obj id else .free
    have hf := hN.fresh hH
    have hx := Ext.new (own := own) (blk := some w.heap.size) (sv := none) (O := .map #[] 0) (w := w) (w' := w.alloc (.map #[] 0)) hf hH.size rfl rfl rfl rfl
    refine ⟨.map (some w.heap.size), w.alloc (.map #[] 0), .map id, H', ft, γ.new id w.heap.size own (some w.heap.size) none, by simp [Instr.makeMap], hk, .map _ _ (by simp [Gh.new]), ?_, hx, hN.ro hbase⟩
    refine hH.new hN ?_ (fun c L ver wr e => nomatch e) rfl rfl rfl rfl ?_
    · intro o; simp only [own]; split <;> simp
    · exact ⟨w.heap.size, #[], 0, by simp [Gh.new], (by show (w.heap.push _)[w.heap.size]? = _; simp), by simp [Gh.new, own], rfl, fun i k v en hi => by simp at hi⟩
  · cases h

/-- Keys, by their codes. -/
theorem key_rel {kc : Cd} {d : TypeDesc} {x : den U kc} {v : Value} {γ : Gh} {w : World} (hk : (∃ k, d = .int k ∧ kc = .int k) ∨ (d = .string ∧ kc = .str)) (h : VRel T γ w (AV.of T kc x) v) :
    IsKey d v ∧ ∀ (y : den U kc) (u : Value) (γ' : Gh) (w' : World), VRel T γ' w' (AV.of T kc y) u → (keyEq kc x y = true ↔ u = v) := by
  rcases hk with ⟨k, rfl, rfl⟩ | ⟨rfl, rfl⟩
  · cases h
    refine ⟨rfl, fun y u γ' w' hu => ?_⟩
    cases hu
    simp only [keyEq, decide_eq_true_eq]
    constructor
    · intro e; rw [show x = y from e]
    · intro e; cases e; rfl
  · cases h
    refine ⟨trivial, fun y u γ' w' hu => ?_⟩
    cases hu
    exact (Go.MapKept.bytes_beq x y).trans ⟨fun e => by rw [show x = y from e], fun e => by cases e; rfl⟩

/-- The entries of a map. -/
def Ents (T : Tab U) (γ : Gh) (w : World) (kc vc : Cd) (M : List (den U kc × den U vc)) (es : List MapEntry) : Prop :=
  es.length = M.length ∧ ∀ (i : Nat) k v en, M[i]? = some (k, v) → es[i]? = some en → VRel T γ w (AV.of T kc k) en.key ∧ VRel T γ w (AV.of T vc v) en.val

theorem Ents.mono {γ γ' : Gh} {w w' : World} {kc vc : Cd} {M : List (den U kc × den U vc)} {es : List MapEntry} (h : Ents T γ w kc vc M es) (x : Ext γ w γ' w') : Ents T γ' w' kc vc M es :=
  ⟨h.1, fun i k v en hi he => ⟨(h.2 i k v en hi he).1.mono x, (h.2 i k v en hi he).2.mono x⟩⟩

theorem find_rel {kc vc : Cd} {d : TypeDesc} {x : den U kc} {kv : Value} {γ : Gh} {w : World} (hk : (∃ k, d = .int k ∧ kc = .int k) ∨ (d = .string ∧ kc = .str)) (hx : VRel T γ w (AV.of T kc x) kv) :
    ∀ {M : List (den U kc × den U vc)} {es : List MapEntry} (i : Nat), Ents T γ w kc vc M es →
      (Instr.findNow d kv es i = some none ∧ mfind kc x M = none ∧ ∀ y, mput kc x y M = M ++ [(x, y)]) ∨
      (∃ j en v, Instr.findNow d kv es i = some (some (i + j, en.val)) ∧ es[j]? = some en ∧ en.key = kv ∧ mfind kc x M = some v ∧ VRel T γ w (AV.of T vc v) en.val ∧ ∀ y, mput kc x y M = M.set j (x, y))
  | [], [], i, _ => .inl ⟨rfl, rfl, fun y => rfl⟩
  | [], _ :: _, _, h => by have := h.1; simp at this
  | _ :: _, [], _, h => by have := h.1; simp at this
  | (k, v) :: M, en :: es, i, h => by
    obtain ⟨h1, h2⟩ := key_rel hk hx
    obtain ⟨q1, q2⟩ := h.2 0 k v en rfl rfl
    obtain ⟨h3, _⟩ := key_rel hk q1
    obtain ⟨b, hb, hiff⟩ := Go.MapKept.sameNow_of_keys h1 h3
    have hh := h2 k en.key γ w q1
    cases b with
    | true =>
      have e := hiff.1 rfl
      have e2 := hh.2 e.symm
      refine .inr ⟨0, en, v, by simp [Instr.findNow, hb], rfl, e.symm, by simp [mfind, e2], q2, fun y => by simp [mput, e2]⟩
    | false =>
      have e2 : keyEq kc x k = false := by
        cases hq : keyEq kc x k with
        | false => rfl
        | true => have := hiff.2 (hh.1 hq).symm; cases this
      have h' : Ents T γ w kc vc M es := ⟨by simpa using h.1, fun j k v en hi he => h.2 (j + 1) k v en (by simpa using hi) (by simpa using he)⟩
      rcases find_rel hk hx (i + 1) h' with ⟨m1, m2, m3⟩ | ⟨j, en', v', m1, m2, m3, m4, m5, m6⟩
      · exact .inl ⟨by simp [Instr.findNow, hb, m1], by simp [mfind, e2, m2], fun y => by simp [mput, e2, m3]⟩
      · exact .inr ⟨j + 1, en', v', by simp [Instr.findNow, hb, m1]; omega, by simpa using m2, m3, by simp [mfind, e2, m4], m5, fun y => by simp [mput, e2, m6]⟩

theorem zeroFor_rel (ok : T.Ok P) {e : Env U} (hT : e.T = T) (hP : e.P = P) {t kt vt : TypeId} {vc : Cd} {z : den U vc} (ht : P.underlying t = some (.map kt vt)) (h : zeroFor e t vc = some z) (γ : Gh) (w : World) :
    ∃ zv, (zeroValue vt).run P w = .ok zv w ∧ VRel T γ w (AV.of T vc z) zv := by
  unfold zeroFor at h
  rw [hP, ht, hT] at h
  simp only at h
  cases hi : P.info? vt with
  | none => simp [hi] at h
  | some inf =>
    cases hz : inf.zero with
    | none => simp [hi, hz] at h
    | some zv =>
      refine ⟨zv, by simp [zeroValue, typeInfo, hi, hz], ?_⟩
      simp only [hi, hz, Option.bind_some] at h
      split at h
      · rename_i cs hcs
        cases hcs
        split at h
        · rename_i h1
          refine to_rel ok h (.agg _ cs (by simp) (fun i x hx => ?_) (fun i av x hi hx => ?_))
          · exact List.all_eq_true.1 h1 x (by simpa using Array.mem_of_getElem? hx)
          · simp [hx] at hi
            subst hi
            exact ofValue_rel γ w x
        · cases h
      · rename_i z' hn hz'
        cases hz'
        exact to_rel ok h (ofValue_rel γ w _)
      · rename_i hz'
        cases hz'

theorem lookupK_two {e : Env U} (ho : e.o = real T C n) (hT : e.T = T) (hP : e.P = P) (ok : T.Ok P) (t : TypeId) (m key : AV U) (vm vk : Value) (cok : Bool) (γ : Gh) (w : World) (g : Option Bool) (H : Heap U)
    (kk : Kont U R) (r : R) (hm : VRel T γ w m vm) (hk : VRel T γ w key vk) (hH : HRel T γ w H) (h : lookupK e g t m key cok H kk = some r) :
    Two kk r g H (Reads P T γ w (Instr.lookup t vm vk cok) kk r H) := by
  unfold lookupK at h
  rw [ho] at h
  split at h
  · rename_i kc vc id hmt
    obtain ⟨kt, vt, d, ht, hkt, hvt, hkd⟩ := mapTy_some hT hP hmt
    split at h
    · rename_i kc' vc' M hob
      split at h
      · rename_i hcc
        obtain ⟨rfl, rfl⟩ := hcc
        split at h
        · rename_i x z hx hz
          rw [hT] at hx h
          obtain ⟨b, es, clock, k1, k2, k3, k4, k5⟩ := hH.objs _ _ hob
          cases hm with
          | map _ b' hb =>
            rw [k1] at hb
            cases hb
            have hkx := to_rel ok hx hk
            have hents : Ents T γ w kc' vc' M es.toList := ⟨by simpa using k4, fun i k v en hi he => k5 i k v en hi (by simpa using he)⟩
            obtain ⟨hkey, _⟩ := key_rel hkd hkx
            rcases find_rel hkd hkx 0 hents with ⟨m1, m2, m3⟩ | ⟨j, en, v, m1, m2, m3, m4, m5, m6⟩
            · obtain ⟨zv, hzv, hzr⟩ := zeroFor_rel ok hT hP ht hz γ w
              refine Two.mk h ⟨(if cok then .tuple #[zv, .bool false] else zv), _, _, ?_, h, ?_⟩
              · have hzv' : Sem.run P (zeroValue vt) w = .ok zv w := hzv
                simp [Instr.lookup, run_underlying ht, Go.MapKept.run_getObj_map k2, Go.MapKept.run_checkKey hkt hkey, Go.MapKept.run_findKey hkt m1, hzv']
              · simp only [real, m2, Option.getD_none, Option.isSome_none]
                cases cok with
                | false => exact hzr
                | true =>
                  refine .tuple _ _ rfl fun i av x hi hx => ?_
                  match i, hi, hx with
                  | 0, hi, hx => simp at hi hx; subst hi hx; exact hzr
                  | 1, hi, hx => simp at hi hx; subst hi hx; exact .bool _
            · refine Two.mk h ⟨(if cok then .tuple #[en.val, .bool true] else en.val), _, _, ?_, h, ?_⟩
              · simp [Instr.lookup, run_underlying ht, Go.MapKept.run_getObj_map k2, Go.MapKept.run_checkKey hkt hkey, Go.MapKept.run_findKey hkt m1]
              · simp only [real, m4, Option.getD_some, Option.isSome_some]
                cases cok with
                | false => exact m5
                | true =>
                  refine .tuple _ _ rfl fun i av x hi hx => ?_
                  match i, hi, hx with
                  | 0, hi, hx => simp at hi hx; subst hi hx; exact m5
                  | 1, hi, hx => simp at hi hx; subst hi hx; exact .bool _
        · exact Two.badAt h
      · exact Two.badAt h
    · exact Two.badAt h
  · exact Two.bad h

/-- A map's entries, once one is written. -/
theorem Ents.put {γ : Gh} {w : World} {kc vc : Cd} {M : List (den U kc × den U vc)} {es : List MapEntry} {x : den U kc} {y : den U vc} {kv vv : Value}
    (h : Ents T γ w kc vc M es) (hx : VRel T γ w (AV.of T kc x) kv) (hy : VRel T γ w (AV.of T vc y) vv) (b : Nat) : Ents T γ w kc vc (M ++ [(x, y)]) (es ++ [⟨kv, vv, b⟩]) := by
  refine ⟨by simp [h.1], fun i k v en hi he => ?_⟩
  rw [List.getElem?_append] at hi he
  rw [h.1] at he
  split at hi
  · rename_i hlt
    rw [if_pos hlt] at he
    exact h.2 i k v en hi he
  · rename_i hlt
    rw [if_neg hlt] at he
    cases hq : i - M.length with
    | zero =>
      rw [hq] at hi he
      simp at hi he
      obtain ⟨rfl, rfl⟩ := hi
      subst he
      exact ⟨hx, hy⟩
    | succ q => rw [hq] at hi; simp at hi

theorem Ents.set {γ : Gh} {w : World} {kc vc : Cd} {M : List (den U kc × den U vc)} {es es' : List MapEntry} {x : den U kc} {y : den U vc} {kv vv : Value} {j : Nat}
    (h : Ents T γ w kc vc M es) (hx : VRel T γ w (AV.of T kc x) kv) (hy : VRel T γ w (AV.of T vc y) vv) (hl : es'.length = es.length)
    (hj : ∀ en, es'[j]? = some en → en.key = kv ∧ en.val = vv) (ho : ∀ i, i ≠ j → es'[i]? = es[i]?) : Ents T γ w kc vc (M.set j (x, y)) es' := by
  refine ⟨by simp [h.1, hl], fun i k v en hi he => ?_⟩
  by_cases e : i = j
  · subst e
    have hlt : i < M.length := by have := (List.getElem?_eq_some_iff.1 hi).1; simpa using this
    simp [hlt] at hi
    obtain ⟨rfl, rfl⟩ := hi
    obtain ⟨e1, e2⟩ := hj en he
    rw [e1, e2]
    exact ⟨hx, hy⟩
  · rw [List.getElem?_set_ne (Ne.symm e)] at hi
    rw [ho i e] at he
    exact h.2 i k v en hi he

/-- A map's block that is written. -/
theorem map_step {γ : Gh} {w : World} {H : Heap U} {id b : Nat} {kc vc : Cd} {M M' : List (den U kc × den U vc)} {es es' : Array MapEntry} {clock clock' : Nat} (hH : HRel T γ w H)
    (ho : H[id]? = some (.mp kc vc M)) (hb : γ.blk id = some b) (hm : w.heap[b]? = some (.map es clock)) (hown : γ.own b 0 = .obj id) (he : Ents T γ w kc vc M' es'.toList) :
    HRel T γ { w with heap := w.heap.setIfInBounds b (.map es' clock') } (H.set id (.mp kc vc M')) ∧ Ext γ w γ { w with heap := w.heap.setIfInBounds b (.map es' clock') } := by
  have hid := (List.getElem?_eq_some_iff.1 ho).1
  have hlt : b < w.heap.size := (Array.getElem?_eq_some_iff.1 hm).1
  generalize hw' : ({ w with heap := w.heap.setIfInBounds b (.map es' clock') } : World) = w'
  have hheap : w'.heap = w.heap.setIfInBounds b (.map es' clock') := by rw [← hw']
  have hoth : ∀ k, k ≠ b → w'.heap[k]? = w.heap[k]? := fun k hk => by rw [hheap]; simp [Ne.symm hk]
  have hat : w'.heap[b]? = some (.map es' clock') := by rw [hheap]; simp [hlt]
  have hcell : ∀ k o, w'.cell? ⟨k, o, none⟩ = w.cell? ⟨k, o, none⟩ := by
    intro k o
    by_cases e : k = b
    · subst e
      simp [World.cell?, hat, hm]
    · exact World.cell?_of_block (w := w) (w' := w') (hoth k e)
  have hfro : ∀ k o, w'.frozen? ⟨k, o, none⟩ = w.frozen? ⟨k, o, none⟩ := by
    intro k o
    by_cases e : k = b
    · subst e
      simp [World.frozen?, hat, hm]
    · exact World.frozen?_of_block (w := w) (w' := w') (hoth k e)
  have hx : Ext γ w γ w' := by
    refine ⟨fun _ _ h => h, fun _ _ _ h => h, fun k o hk => ⟨hk, hcell k o⟩, fun _ _ _ h => h, by rw [hheap]; simp, by rw [← hw'], by rw [← hw'], by rw [← hw'], fun k _ hn => hoth k fun e => ?_⟩
    subst e
    exact hn 0 id hown
  refine ⟨?_, hx⟩
  refine HRel.step (id := id) hH hx (by simp) (fun k o hk => by rw [hheap]; simpa using hH.size k o hk) (by simpa using hid) (fun k o j hk => .inl hk) rfl (fun _ _ _ => rfl) (fun j hj => List.getElem?_set_ne (Ne.symm hj))
    (fun k o j _ hk => ⟨hk, hcell k o, hfro k o⟩) ?_ ?_ ?_
  · intro k es0 c j hj hk hmk
    by_cases e : k = b
    · subst e
      rw [hown] at hk
      cases hk
      exact absurd rfl hj
    · rw [hoth k e]; exact hmk
  · intro c L ver wr hj
    simp [hid] at hj
  · intro ob hj
    simp [hid] at hj
    subst hj
    have he' := he.mono hx
    exact ⟨b, es', clock', hb, hat, hown, by simpa using he'.1, fun i k v en hi hen => he'.2 i k v en hi (by simpa using hen)⟩

theorem mapUpdateK_turns {e : Env U} (ho : e.o = real T C n) (hT : e.T = T) (hP : e.P = P) (ok : T.Ok P) (t : TypeId) (m key v : AV U) (vm vk vv : Value) (γ : Gh) (w : World) (S : St U)
    (kk : Kont U R) (r : R) (hm : VRel T γ w m vm) (hk : VRel T γ w key vk) (hv : VRel T γ w v vv) (hH : HRel T γ w S.heap) (h : mapUpdateK e t m key v S kk = some r) :
    TurnsU P T S.base S.mu γ w (Instr.mapUpdate t vm vk vv) kk r S.heap := by
  unfold mapUpdateK at h
  rw [ho] at h
  split at h
  · rename_i kc vc id hmt
    obtain ⟨kt, vt, d, ht, hkt, hvt, hkd⟩ := mapTy_some hT hP hmt
    split at h
    · cases h
    · rename_i v' H1 ids hp
      obtain ⟨γ1, pur, hv'⟩ := purify_rel ok hp hH hv
      split at h
      · rename_i kc' vc' M hob
        split at h
        · rename_i hcc
          obtain ⟨rfl, rfl⟩ := hcc
          split at h
          · rename_i hmay
            obtain ⟨hmay, hmays⟩ := hmay
            split at h
            · rename_i x y hx hy
              rw [hT] at hx hy
              obtain ⟨b, es, clock, k1, k2, k3, k4, k5⟩ := pur.rel.objs _ _ hob
              cases hm with
              | map _ b' hb =>
                have hb := pur.ext.blk _ _ hb
                rw [k1] at hb
                cases hb
                have hkx := to_rel ok hx (hk.mono pur.ext)
                have hvy := to_rel ok hy hv'
                have hents : Ents T γ1 w kc' vc' M es.toList := ⟨by simpa using k4, fun i k v en hi he => k5 i k v en hi (by simpa using he)⟩
                obtain ⟨hkey, _⟩ := key_rel hkd hkx
                have hro : RO S.base S.mu S.heap (H1.set id (.mp kc' vc' ((real T C n).mset kc' vc' M x y))) :=
                  (pur.ro S fun j hj => List.all_eq_true.1 hmays j hj).trans (RO.setArr hmay (fun cs e => by rw [hob] at e; cases e))
                rcases find_rel hkd hkx 0 hents with ⟨m1, m2, m3⟩ | ⟨j, en, v0, m1, m2, m3, m4, m5, m6⟩
                · have he : Ents T γ1 w kc' vc' ((real T C n).mset kc' vc' M x y) (es.push ⟨vk, vv, clock⟩).toList := by
                    have : (real T C n).mset kc' vc' M x y = M ++ [(x, y)] := m3 y
                    rw [this]
                    simpa using hents.put hkx hvy clock
                  obtain ⟨q1, q2⟩ := map_step (clock' := clock + 1) pur.rel hob k1 k2 k3 he
                  refine ⟨_, .tuple [], _, _, γ1, ?_, h, .tuple _ _ rfl (fun i av x hi => by simp at hi), q1, pur.ext.trans q2, hro⟩
                  simp [Instr.mapUpdate, run_underlying ht, Go.MapKept.run_getObj_map k2, Go.MapKept.run_checkKey hkt hkey, Go.MapKept.run_findKey hkt m1, Go.MapKept.run_setObj_map _ k2]
                · have hj : es[j]? = some en := by simpa using m2
                  have he : Ents T γ1 w kc' vc' ((real T C n).mset kc' vc' M x y) (es.modify j (fun e => { e with key := vk, val := vv })).toList := by
                    have : (real T C n).mset kc' vc' M x y = M.set j (x, y) := m6 y
                    rw [this]
                    refine hents.set hkx hvy (by simp) (fun en' he' => ?_) (fun i hi => ?_)
                    · simp [Array.getElem?_modify, hj] at he'
                      subst he'
                      exact ⟨rfl, rfl⟩
                    · simp [Array.getElem?_modify, Ne.symm hi]
                  obtain ⟨q1, q2⟩ := map_step (clock' := clock) pur.rel hob k1 k2 k3 he
                  refine ⟨_, .tuple [], _, _, γ1, ?_, h, .tuple _ _ rfl (fun i av x hi => by simp at hi), q1, pur.ext.trans q2, hro⟩
                  simp [Instr.mapUpdate, run_underlying ht, Go.MapKept.run_getObj_map k2, Go.MapKept.run_checkKey hkt hkey, Go.MapKept.run_findKey hkt m1, Go.MapKept.run_setObj_map _ k2, hj, m3, Go.MapKept.run_keyThatStays hkey]
            · cases h
          · cases h
        · cases h
      · cases h
  · cases h

end
end Go.Ab

namespace Go.Ab
open Go.RowKit (Below)
section
variable {U : Nat → Type} {T : Tab U} {C : Callee U} {n : Nat} {P : Program} {R : Type}

/-- The room behind a slice is no one's. -/
def Spare (γ' : Gh) (w w' : World) (size : Nat) : Value → Prop
  | .slice (some a) len cap => ∀ o, a.off + len * size ≤ o → o < a.off + cap * size → w.heap.size ≤ a.block ∧ γ'.own a.block o = .free ∧ w'.frozen? ⟨a.block, o, none⟩ = false ∧ (w'.cell? ⟨a.block, o, none⟩).isSome = true
  | _ => True

def compOf (v : Value) (i : Nat) : Option Value := match v with
  | .tuple vs => vs[i]?
  | v => if i = 0 then some v else none

/-- What a function gives of plain data: old memory stays; what comes back lies in memory that stays. -/
def PureCall (P : Program) (T : Tab U) (A : Ann) (f : FuncId) (xs : List (Σ c, den U c)) (rc : List Cd) (r : HL U rc) : Prop :=
  ∀ (γ : Gh) (w : World) (args : Array Value), (∀ b o, γ.own b o ≠ .free → b < w.heap.size) → args.size = xs.length →
    (∀ (i : Nat) y x, xs[i]? = some y → args[i]? = some x → VRel T γ w (AV.of T y.1 y.2) x) →
    Calls P f args w fun e w' => ∃ v γ', e = .returned v ∧ Below w.heap.size w w' ∧ (∀ b o, b < w.heap.size → γ'.own b o = .frz → γ.own b o = .frz) ∧
      (∀ b o, γ'.own b o = .frz → b < w'.heap.size) ∧ VRel T γ' w' (AV.ofHL T rc r) v ∧
      ∀ i, A.slo f = some i → ∀ c L sp x, compAV (AV.ofHL T rc r) i = some (.fsl c L sp) → compOf v i = some x → Spare γ' w w' (c.size T) x

/-- What is gone on with behind a value. -/
def After (T : Tab U) (base : Nat) (mu : List (Nat × Nat)) (γ : Gh) (w : World) (H : Heap U) (k : AV U → Heap U → Prop) (x : Value) (w' : World) : Prop :=
  ∃ v H' γ', k v H' ∧ VRel T γ' w' v x ∧ HRel T γ' w' H' ∧ Ext γ w γ' w' ∧ RO base mu H H'

/-- A call that turns memory. -/
def CTurns (P : Program) (T : Tab U) (base : Nat) (mu : List (Nat × Nat)) (γ : Gh) (w : World) (f : FuncId) (args : Array Value) (k : AV U → Heap U → Prop) (H : Heap U) : Prop :=
  Calls P f args w fun e w' => ∃ x, e = .returned x ∧ After T base mu γ w H k x w'

/-- What a caller knows behind a call: of new blocks what the callee says. -/
def Gh.back (γ γ1 : Gh) (k : Nat) : Gh := { γ with own := fun b o => if b < k then γ.own b o else if γ1.own b o = .frz then .frz else .free }

theorem back_ext {γ γ1 : Gh} {w w' : World} (hs : ∀ b o, γ.own b o ≠ .free → b < w.heap.size) (hb : Below w.heap.size w w') : Ext γ w (γ.back γ1 w.heap.size) w' := by
  refine ⟨fun _ _ h => h, fun _ _ _ h => h, fun b o h => ?_, fun b o h h2 => ?_, hb.size, hb.os, hb.tape, hb.output, fun b h _ => hb.block b h⟩
  · have hlt := hs b o (by rw [h]; exact fun e => nomatch e)
    exact ⟨by simp only [Gh.back]; rw [if_pos hlt]; exact h, hb.cell hlt⟩
  · simp only [Gh.back]; rw [if_pos h]; exact h2

theorem back_rel {γ γ1 : Gh} {w w' : World} {H : Heap U} (hH : HRel T γ w H) (hb : Below w.heap.size w w') (h1 : ∀ b o, γ1.own b o = .frz → b < w'.heap.size) : HRel T (γ.back γ1 w.heap.size) w' H := by
  have hx := back_ext (γ1 := γ1) hH.size hb
  refine ⟨fun b o h => ?_, hH.blk, hH.sv, hH.ver, fun j ob hj => ?_⟩
  · simp only [Gh.back] at h
    split at h
    · rename_i hlt; exact Nat.lt_of_lt_of_le hlt hb.size
    · split at h
      · rename_i hf; exact h1 b o hf
      · exact absurd rfl h
  · refine ORel.keep (hH.objs j ob hj) hx (fun b o h => ?_) (fun b es c h hm => ?_) (fun e => by subst e; exact hH.objs j _ hj)
    · have hlt := hH.size b o (by rw [h]; exact fun e => nomatch e)
      exact ⟨by simp only [Gh.back]; rw [if_pos hlt]; exact h, hb.cell hlt, hb.frozen hlt⟩
    · have hlt := hH.size b 0 (by rw [h]; exact fun e => nomatch e)
      rw [hb.block b hlt]; exact hm

/-- Results hang on what stays alone. -/
theorem ofHL_plain (ok : T.Ok P) {γ γ' : Gh} {w w' : World} (hf : ∀ b o, γ.own b o = .frz → γ'.own b o = .frz ∧ w'.cell? ⟨b, o, none⟩ = w.cell? ⟨b, o, none⟩) :
    ∀ (rc : List Cd) (r : HL U rc) (v : Value), VRel T γ w (AV.ofHL T rc r) v → VRel T γ' w' (AV.ofHL T rc r) v := by
  have hall : ∀ (rc : List Cd) (r : HL U rc), ∀ (i : Nat) av, (avs T rc r)[i]? = some av → ∀ v, VRel T γ w av v → VRel T γ' w' av v := by
    intro rc
    induction rc with
    | nil => intro r i av hi; simp [avs] at hi
    | cons c rc ih =>
      intro r i av hi v hv
      obtain ⟨x, r⟩ := r
      cases i with
      | zero => simp [avs] at hi; subst hi; exact VRel.of_plain ok hv hf
      | succ i => exact ih r i av (by simpa [avs] using hi) v hv
  have htup : ∀ (rc : List Cd) (r : HL U rc) (v : Value), VRel T γ w (.tuple (avs T rc r)) v → VRel T γ' w' (.tuple (avs T rc r)) v := by
    intro rc r v hv
    generalize hq : avs T rc r = q at hv ⊢
    cases hv with
    | tuple cs vs hl hv => exact .tuple _ vs hl fun i av x hi hx => hall rc r i av (by rw [hq]; exact hi) x (hv i av x hi hx)
  intro rc r v hv
  match rc, r, hv with
  | [], r, hv => exact htup [] r v hv
  | [c], (x, _), hv => exact VRel.of_plain ok hv hf
  | c :: c' :: rc, r, hv => exact htup (c :: c' :: rc) r v hv

/-- Flat results hang on nothing. -/
theorem ofHL_flat {γ γ' : Gh} {w w' : World} : ∀ (rc : List Cd) (r : HL U rc) (v : Value), rc.all Cd.flat = true → VRel T γ w (AV.ofHL T rc r) v → VRel T γ' w' (AV.ofHL T rc r) v := by
  have one : ∀ (c : Cd) (x : den U c) (v : Value), c.flat = true → VRel T γ w (AV.of T c x) v → VRel T γ' w' (AV.of T c x) v := by
    intro c x v hc hv
    cases c <;> simp [Cd.flat] at hc
    · generalize hq : AV.of T _ x = q at hv ⊢
      cases hv <;> simp [AV.of] at hq
      obtain ⟨rfl, rfl⟩ := hq
      exact .int _ _
    · generalize hq : AV.of T _ x = q at hv ⊢
      cases hv <;> first | (cases hq; exact .bool _) | (exact absurd hq (by simp [AV.of]))
    · generalize hq : AV.of T _ x = q at hv ⊢
      cases hv <;> first | (cases hq; exact .str _) | (exact absurd hq (by simp [AV.of]))
  have hall : ∀ (rc : List Cd) (r : HL U rc), rc.all Cd.flat = true → ∀ (i : Nat) av, (avs T rc r)[i]? = some av → ∀ v, VRel T γ w av v → VRel T γ' w' av v := by
    intro rc
    induction rc with
    | nil => intro r _ i av hi; simp [avs] at hi
    | cons c rc ih =>
      intro r hr i av hi v hv
      obtain ⟨x, r⟩ := r
      simp only [List.all_cons, Bool.and_eq_true] at hr
      cases i with
      | zero => simp [avs] at hi; subst hi; exact one c x v hr.1 hv
      | succ i => exact ih r hr.2 i av (by simpa [avs] using hi) v hv
  have htup : ∀ (rc : List Cd) (r : HL U rc) (v : Value), rc.all Cd.flat = true → VRel T γ w (.tuple (avs T rc r)) v → VRel T γ' w' (.tuple (avs T rc r)) v := by
    intro rc r v hr hv
    have hh := hall rc r hr
    generalize hq : avs T rc r = q at hv hh ⊢
    cases hv with
    | tuple cs vs hl hv => exact .tuple _ vs hl fun i av x hi hx => hh i av hi x (hv i av x hi hx)
  intro rc r v hr hv
  match rc, r, hr, hv with
  | [], r, hr, hv => exact htup [] r v hr hv
  | [c], (x, _), hr, hv => exact one c x v (by simpa using hr) hv
  | c :: c' :: rc, r, hr, hv => exact htup (c :: c' :: rc) r v hr hv

theorem Calls.imp {f : FuncId} {args : Array Value} {w : World} {R R' : Ending → World → Prop} (h : Calls P f args w R) (hr : ∀ e w', R e w' → R' e w') : Calls P f args w R' :=
  fun cs => let ⟨e, w', fr, q, r⟩ := h cs; ⟨e, w', fr, hr _ _ q, r⟩

theorem gcall_some {g : Option Bool} {f : FuncId} {xs : List (Σ c, den U c)} {rc : List Cd} {kk : HL U rc → Option R} {r : R}
    (h : (match g with | none => (real T C n).bind ((real T C n).call f xs rc) kk | some b => (real T C n).bind ((real T C n).gcall b f xs rc) kk) = some r) :
    ∃ y, kk y = some r ∧ (g ≠ some false → C f xs rc = some y) := by
  cases g with
  | none =>
    simp only [real, Option.bind_eq_some_iff] at h
    obtain ⟨y, h1, h2⟩ := h
    exact ⟨y, h2, fun _ => h1⟩
  | some b =>
    simp only [real, Option.bind_eq_some_iff] at h
    obtain ⟨y, h1, h2⟩ := h
    refine ⟨y, h2, fun e => ?_⟩
    cases b with
    | false => exact absurd rfl e
    | true => exact h1

theorem purify1_nil {H H' : Heap U} {v v' : AV U} (h : purify1 H v = some (v', H', [])) : H' = H := by
  unfold purify1 at h
  split at h
  · split at h
    · split at h
      · split at h
        · simp at h
        · cases h; rfl
      · cases h
    · cases h
  · cases h
  · cases h
  · cases h
  · cases h; rfl

theorem purifyL_nil : ∀ {cs cs' : List (AV U)} {H H' : Heap U}, purifyL H cs = some (cs', H', []) → H' = H
  | [], _, H, H', h => by
    simp only [purifyL, Option.some.injEq, Prod.mk.injEq] at h
    exact h.2.1.symm
  | v :: cs, cs', H, H', h => by
    simp only [purifyL] at h
    split at h
    · cases h
    · rename_i v' H1 ids1 h1
      split at h
      · cases h
      · rename_i cs1 H2 ids2 h2
        simp only [Option.some.injEq, Prod.mk.injEq, List.append_eq_nil_iff] at h
        obtain ⟨_, rfl, rfl, rfl⟩ := h
        rw [purifyL_nil h2, purify1_nil h1]

theorem purify_nil {H H' : Heap U} {v v' : AV U} (h : purify H v = some (v', H', [])) : H' = H := by
  unfold purify at h
  split at h
  · split at h
    · rename_i h1
      cases h
      exact purifyL_nil h1
    · cases h
  · exact purify1_nil h

theorem typed_nil : ∀ {pc : List Cd} {vs : List (AV U)} {H H' : Heap U} {xs : List (Σ c, den U c)}, typed T pc vs H = some (xs, H', []) → H' = H
  | [], [], H, H', xs, h => by
    simp only [typed, Option.some.injEq, Prod.mk.injEq] at h
    exact h.2.1.symm
  | c :: pc, v :: vs, H, H', xs, h => by
    simp only [typed] at h
    split at h
    · cases h
    · rename_i v' H1 ids1 h1
      split at h
      · cases h
      · split at h
        · cases h
        · rename_i xs1 H2 ids2 h3
          simp only [Option.some.injEq, Prod.mk.injEq, List.append_eq_nil_iff] at h
          obtain ⟨_, rfl, rfl, rfl⟩ := h
          rw [typed_nil h3, purify_nil h1]
  | [], _ :: _, _, _, _, h => by simp [typed] at h
  | _ :: _, [], _, _, _, h => by simp [typed] at h

theorem compAV_some {v : AV U} {i : Nat} {c : Cd} {L : List (den U c)} {sp : Sp} {γ : Gh} {w : World} {x : Value} (h : VRel T γ w v x) (hc : compAV v i = some (.fsl c L sp)) : ∃ xi, compOf x i = some xi ∧ VRel T γ w (.fsl c L sp) xi ∧
    ∀ (γ' : Gh) (w' : World) nv, VRel T γ' w' v x → VRel T γ' w' nv xi → VRel T γ' w' (setAV v i nv) x := by
  cases h with
  | tuple cs vs hl hv =>
    have hi : i < vs.size := by
      have := (List.getElem?_eq_some_iff.1 hc).1
      omega
    refine ⟨vs[i], Array.getElem?_eq_getElem hi, hv i _ _ hc (Array.getElem?_eq_getElem hi), fun γ' w' nv h1 h2 => ?_⟩
    cases h1 with
    | tuple _ _ hl' hv' =>
      refine .tuple _ _ (by simpa using hl) fun j a y hj hy => ?_
      rw [List.getElem?_set] at hj
      split at hj
      · rename_i e; subst e
        split at hj
        · cases hj
          rw [Array.getElem?_eq_getElem hi] at hy
          cases hy
          exact h2
        · cases hj
      · exact hv' j a y hj hy
  | fsl c' L' sp' base len cap vs hl hcap hsp hn hs hc' hv =>
    have h0 : i = 0 := by
      refine Classical.byContradiction fun h => ?_
      simp [compAV, h] at hc
    subst h0
    have hc : some (AV.fsl c' L' sp') = some (.fsl c L sp) := hc
    have hc := Option.some.inj hc
    refine ⟨_, rfl, ?_, fun γ' w' nv h1 h2 => h2⟩
    rw [← hc]
    exact .fsl c' L' sp' base len cap vs hl hcap hsp hn hs hc' hv
  | _ =>
    by_cases h0 : i = 0
    · subst h0
      have hc := Option.some.inj hc
      cases hc
    · simp [compAV, h0] at hc

/-- Is a cell in the room behind a slice? -/
def inRoom (base : Option Addr) (lo hi b o : Nat) : Bool := match base with
  | some a => decide (b = a.block ∧ a.off + lo ≤ o ∧ o < a.off + hi)
  | none => false

theorem inRoom_some {base : Option Addr} {lo hi b o : Nat} (h : inRoom base lo hi b o = true) : ∃ a, base = some a ∧ b = a.block ∧ a.off + lo ≤ o ∧ o < a.off + hi := by
  cases base with
  | none => cases h
  | some a => exact ⟨a, rfl, of_decide_eq_true h⟩

/-- The room behind a slice that came from a call is one's own. -/
theorem own_turns (ok : T.Ok P) {γ γ1 : Gh} {w : World} {S : St U} {H1 : Heap U} {ids : List Nat} (pur : Pur T γ w S.heap H1 ids γ1) (hmay : ∀ j ∈ ids, S.may j 0 = true) (hb0 : S.base ≤ H1.length) {sl : Option Nat} (hsl : ∀ id, sl = some id → S.base ≤ id)
    {i : Nat} {rc : List Cd} {y : HL U rc} {kk : Kont U R} {rd : List Nat} {r : R} {f : FuncId} {args : Array Value}
    (h : ownK sl i (AV.ofHL T rc y) H1 (fun v H' ft => kk v H' { rd := rd, wr := ids ++ ft.wr, al := ft.al }) = some r)
    (hcall : ∀ R' : Ending → World → Prop, (∀ e w', (∃ v γ', e = .returned v ∧ Below w.heap.size w w' ∧ (∀ b o, b < w.heap.size → γ'.own b o = .frz → γ1.own b o = .frz) ∧
      (∀ b o, γ'.own b o = .frz → b < w'.heap.size) ∧ VRel T γ' w' (AV.ofHL T rc y) v ∧ ∀ c L sp x, compAV (AV.ofHL T rc y) i = some (.fsl c L sp) → compOf v i = some x → Spare γ' w w' (c.size T) x) → R' e w') → Calls P f args w R') :
    CTurns P T S.base S.mu γ w f args (fun v H' => ∃ ft, kk v H' ft = some r) S.heap := by
  unfold ownK at h
  split at h
  · rename_i c L sp hcomp
    obtain ⟨id, H', ft, hN, hk, hid⟩ := newK_some h
    have hbase : S.base ≤ id := by rcases hid with h | h; omega; exact hsl _ h
    have hf := hN.fresh pur.rel
    refine hcall _ ?_
    rintro e w' ⟨v, γ', rfl, hb, q1, q2, q3, q4⟩
    obtain ⟨xi, c1, c2, c3⟩ := compAV_some q3 hcomp
    have hsp := q4 c L sp xi hcomp c1
    have hfull := c2
    cases c2 with
    | fsl _ _ _ base len cap vs hl hcap hsp0 hn hs hc hv =>
      subst hl
      let inS : Nat → Nat → Bool := inRoom base (L.length * c.size T) (cap * c.size T)
      have inS_iff : ∀ b o, inS b o = true → ∃ a, base = some a ∧ b = a.block ∧ a.off + L.length * c.size T ≤ o ∧ o < a.off + cap * c.size T := fun b o hh => inRoom_some hh
      have inS_new : ∀ b o, inS b o = true → w.heap.size ≤ b ∧ γ'.own b o = .free := by
        intro b o hh
        obtain ⟨a, rfl, rfl, h1, h2⟩ := inS_iff b o hh
        exact ⟨(hsp o h1 h2).1, (hsp o h1 h2).2.1⟩
      let γ2 : Gh := { own := fun b o => if inS b o then .obj id else (γ1.back γ' w.heap.size).own b o, blk := γ1.blk, sv := fun j v => if j = id ∧ v = 0 then some (base, L.length, cap, c.size T) else γ1.sv j v }
      have own_lt : ∀ b o, b < w.heap.size → γ2.own b o = γ1.own b o := by
        intro b o hb'
        have : ¬ inS b o = true := fun hh => by have := (inS_new b o hh).1; omega
        simp only [γ2, Gh.back]
        rw [if_neg this, if_pos hb']
      have hx : Ext γ1 w γ2 w' := by
        refine ⟨fun _ _ h => h, fun j v z hz => ?_, fun b o hz => ?_, fun b o hb' hz => ?_, hb.size, hb.os, hb.tape, hb.output, fun b h _ => hb.block b h⟩
        · simp only [γ2]
          split
          · rename_i e; rw [e.1, hf.2] at hz; cases hz
          · exact hz
        · have hlt := pur.rel.size b o (by rw [hz]; exact fun e => nomatch e)
          exact ⟨by rw [own_lt b o hlt]; exact hz, hb.cell hlt⟩
        · rw [own_lt b o hb']; exact hz
      have hfrz : ∀ b o, γ'.own b o = .frz → γ2.own b o = .frz ∧ w'.cell? ⟨b, o, none⟩ = w'.cell? ⟨b, o, none⟩ := by
        intro b o hz
        have hns : ¬ inS b o = true := fun hh => by rw [(inS_new b o hh).2] at hz; cases hz
        refine ⟨?_, rfl⟩
        simp only [γ2, Gh.back]
        rw [if_neg hns]
        split
        · rename_i hlt; exact q1 b o hlt hz
        · simp [hz]
      have hv2 := ofHL_plain ok hfrz _ _ _ q3
      obtain ⟨xi', d1, d2, d3⟩ := compAV_some hv2 hcomp
      rw [c1] at d1
      have d1 := Option.some.inj d1
      subst d1
      have hid' : id < H'.length := (List.getElem?_eq_some_iff.1 hN.at_).1
      have hrel : HRel T γ2 w' H' := by
        refine HRel.step (id := id) pur.rel hx hN.len ?_ hid' ?_ rfl ?_ hN.other ?_ ?_ ?_ ?_
        · intro b o hz
          by_cases hh : inS b o = true
          · obtain ⟨a, rfl, rfl, h1, h2⟩ := inS_iff b o hh
            have := (hsp o h1 h2).2.2.2
            unfold World.cell? at this
            by_cases q : a.block < w'.heap.size
            · exact q
            · simp [Array.getElem?_eq_none (Nat.le_of_not_lt q)] at this
          · simp only [γ2, Gh.back] at hz
            rw [if_neg hh] at hz
            split at hz
            · rename_i hlt; exact Nat.lt_of_lt_of_le hlt hb.size
            · split at hz
              · rename_i hf'; exact q2 b o hf'
              · exact absurd rfl hz
        · intro b o j hz
          simp only [γ2, Gh.back] at hz
          split at hz
          · cases hz; exact .inr rfl
          · split at hz
            · exact .inl hz
            · split at hz <;> cases hz
        · intro j v hj
          simp only [γ2]
          rw [if_neg (fun h => hj h.1)]
        · intro b o j hj hz
          have hlt := pur.rel.size b o (by rw [hz]; exact fun e => nomatch e)
          exact ⟨by rw [own_lt b o hlt]; exact hz, hb.cell hlt, hb.frozen hlt⟩
        · intro b es cl j hj hz hm
          have hlt := pur.rel.size b 0 (by rw [hz]; exact fun e => nomatch e)
          rw [hb.block b hlt]; exact hm
        · intro c' L' ver' wr' hh v hv'
          rw [hN.at_] at hh
          cases hh
          simp only [γ2]
          rw [if_neg (by omega)]
          exact hf.2 v
        · intro ob hh
          rw [hN.at_] at hh
          cases hh
          refine ⟨base, cap, by simp [γ2], hcap, hn, fun a ha => ⟨hs a ha, fun o h1 h2 => ?_, fun i' x' hx' j' av' hj' => ?_⟩⟩
          · subst ha
            obtain ⟨_, _, g3, g4⟩ := hsp o h1 h2
            refine ⟨?_, g3, g4⟩
            have : inS a.block o = true := decide_eq_true ⟨rfl, h1, h2⟩
            simp only [γ2]
            rw [if_pos this]
          · obtain ⟨g1, g2, g3⟩ := hc a ha i' x' hx' j' av' hj'
            refine ⟨(hfrz _ _ g1).1, fun h => (by cases h), _, g2, g3, ?_⟩
            cases d2 with
            | fsl _ _ _ _ _ _ vs2 _ _ _ _ _ hc2 hv2' =>
              have e1 := (hc2 a ha i' x' hx' j' av' hj').2.1
              rw [g2] at e1
              have e1 := Option.some.inj e1
              rw [e1]
              exact hv2' i' x' hx' j' av' hj'
      exact ⟨v, rfl, _, H', γ2, ⟨_, hk⟩, d3 γ2 w' _ hv2 (.sl id 0 base L.length cap (c.size T) (by simp [γ2])), hrel, pur.ext.trans hx, (pur.ro S hmay).trans (hN.ro hbase)⟩
  · cases h

theorem pcallK_turns {e : Env U} (ho : e.o = real T C n) (hT : e.T = T) (hP : e.P = P) (ok : T.Ok P) (good : ∀ f xs rc r, C f xs rc = some r → PureCall P T e.ann f xs rc r)
    (sl : Option Nat) (g : Option Bool) (f : FuncId) (as : List (AV U)) (args : Array Value) (γ : Gh) (w : World) (S : St U) (kk : Kont U R) (r : R) (hl : as.length = args.size)
    (ha : ∀ (i : Nat) av x, as[i]? = some av → args[i]? = some x → VRel T γ w av x) (hH : HRel T γ w S.heap) (hb0 : S.base ≤ S.heap.length) (hsl : ∀ id, sl = some id → S.base ≤ id) (h : pcallK e sl g f as S kk = some r) :
    Two kk r g S.heap (CTurns P T S.base S.mu γ w f args (fun v H' => ∃ ft, kk v H' ft = some r) S.heap) := by
  unfold pcallK at h
  rw [ho, hT, hP] at h
  split at h
  · cases h
  · split at h
    · cases h
    · split at h
      · rename_i pc rc hpc hrc
        split at h
        · exact Two.badAt h
        · rename_i xs H1 ids hty
          obtain ⟨γ1, pur, hlx, hxr⟩ := typed_rel ok hty hH (as := args.toList) (by simpa using hl) (fun i av x hi hx => ha i av x hi (by simpa using hx))
          have hcall : ∀ y, C f xs rc = some y → Calls P f args w fun en w' => ∃ v γ', en = .returned v ∧ Below w.heap.size w w' ∧ (∀ b o, b < w.heap.size → γ'.own b o = .frz → γ1.own b o = .frz) ∧
              (∀ b o, γ'.own b o = .frz → b < w'.heap.size) ∧ VRel T γ' w' (AV.ofHL T rc y) v ∧
              ∀ i, e.ann.slo f = some i → ∀ c L sp x, compAV (AV.ofHL T rc y) i = some (.fsl c L sp) → compOf v i = some x → Spare γ' w w' (c.size T) x := fun y hy =>
            good f xs rc y hy γ1 w args pur.rel.size (by simpa using hlx.symm) (fun i y x hy hx => hxr i y x hy (by simpa using hx))
          split at h
          · rename_i hflat
            obtain ⟨y, hk, hc⟩ := gcall_some h
            refine ⟨fun _ => ⟨_, _, hk⟩, fun hg => ?_⟩
            refine Calls.imp (hcall y (hc hg)) ?_
            rintro e w' ⟨v, γ', rfl, hb, q1, q2, q3, q4⟩
            refine ⟨v, rfl, _, _, γ.back { γ with own := fun _ _ => .free } w.heap.size, ⟨_, hk⟩, ofHL_flat _ _ _ hflat q3, back_rel hH hb (fun b o e => by cases e), back_ext hH.size hb, RO.refl _ _ _⟩
          · split at h
            · rename_i hmay
              split at h
              · rename_i i hso
                cases g with
                | some b => cases h
                | none =>
                  refine Two.sure ?_
                  simp only [real, Option.bind_eq_some_iff] at h
                  obtain ⟨y, hcy, hk⟩ := h
                  exact own_turns ok pur (fun j hj => List.all_eq_true.1 hmay j hj) (by have := pur.len; omega) hsl hk fun R hR => Calls.imp (hcall y hcy) fun en w' ⟨v, γ', h1, h2, h3, h4, h5, h6⟩ => hR en w' ⟨v, γ', h1, h2, h3, h4, h5, h6 i hso⟩
              have hro : RO S.base S.mu S.heap H1 := pur.ro S fun j hj => List.all_eq_true.1 hmay j hj
              have hend : ∀ y, C f xs rc = some y → ∀ ft, kk (AV.ofHL T rc y) H1 ft = some r → CTurns P T S.base S.mu γ w f args (fun v H' => ∃ ft, kk v H' ft = some r) S.heap := by
                intro y hy ft hk
                refine Calls.imp (hcall y hy) ?_
                rintro e w' ⟨v, γ', rfl, hb, q1, q2, q3, q4⟩
                have hbx := back_ext (γ1 := γ') pur.rel.size hb
                refine ⟨v, rfl, _, _, γ1.back γ' w.heap.size, ⟨_, hk⟩, ofHL_plain ok (fun b o hbo => ⟨?_, rfl⟩) _ _ _ q3, back_rel pur.rel hb q2, pur.ext.trans hbx, hro⟩
                simp only [Gh.back]
                split
                · rename_i hlt; exact q1 b o hlt hbo
                · simp [hbo]
              cases g with
              | none =>
                have h' : ∃ y, kk (AV.ofHL T rc y) H1 { rd := slsL as, wr := ids } = some r ∧ ((Option.none : Option Bool) ≠ some false → C f xs rc = some y) := gcall_some (g := Option.none) h
                obtain ⟨y, hk, hc⟩ := h'
                exact Two.sure (hend y (hc (by simp)) _ hk)
              | some b =>
                simp only at h
                split at h
                · rename_i hids
                  obtain ⟨y, hk, hc⟩ := gcall_some (g := some b) h
                  refine ⟨fun _ => ⟨_, _, hk⟩, fun hg => ?_⟩
                  have hids' : ids = [] := by simpa using hids
                  have := typed_nil (hids' ▸ hty)
                  rw [← this] at hk
                  exact hend y (hc hg) _ hk
                · cases h
            · cases h
      · cases h

end
end Go.Ab

namespace Go.Ab
section
variable {U : Nat → Type} {T : Tab U} {C : Callee U} {n : Nat} {P : Program} {R : Type}

/-- Behind an operation. -/
def Then (T : Tab U) (base : Nat) (mu : List (Nat × Nat)) (γ : Gh) (w : World) (H : Heap U) (o : Oper) (a : Act) (k : Kont U R) (r : R) (a' : Act) (w' : World) : Prop :=
  ∃ x, a' = a.put o.dst x ∧ After T base mu γ w H (fun v H' => ∃ ft, k v H' ft = some r) x w'

theorem wp_value {o : Oper} {a : Act} {w w' : World} {x : Value} {next : Act → World → Prop} {Q : Exit → Act → World → Prop} (h : (execOp a.eval o).run P w = .ok (.value x) w') (hn : next (a.put o.dst x) w') :
    o.wp P a w next Q := by
  unfold Oper.wp
  rw [h]
  exact hn

theorem wp_none {o : Oper} {a : Act} {w w' : World} {next : Act → World → Prop} {Q : Exit → Act → World → Prop} (h : (execOp a.eval o).run P w = .ok .skip w') (hn : next (a.put o.dst undef) w') :
    o.wp P a w next Q := by
  unfold Oper.wp
  rw [h]
  exact hn

theorem turns_wp {o : Oper} {a : Act} {base : Nat} {mu : List (Nat × Nat)} {γ : Gh} {w : World} {m : Sem Value} {k : Kont U R} {r : R} {H : Heap U} {Q : Exit → Act → World → Prop}
    (he : execOp a.eval o = (do Pure.pure (.value (← m)))) (h : Turns P T base mu γ w m k r H) : o.wp P a w (Then T base mu γ w H o a k r) Q := by
  obtain ⟨x, w', v, H', ft, γ', h1, h2, h3, h4, h5, h6⟩ := h
  exact wp_value (by rw [he]; simp [h1]) ⟨x, rfl, v, H', γ', ⟨ft, h2⟩, h3, h4, h5, h6⟩

theorem reads_wp {o : Oper} {a : Act} {base : Nat} {mu : List (Nat × Nat)} {γ : Gh} {w : World} {m : Sem Value} {k : Kont U R} {r : R} {H : Heap U} {Q : Exit → Act → World → Prop} (hH : HRel T γ w H)
    (he : execOp a.eval o = (do Pure.pure (.value (← m)))) (h : Reads P T γ w m k r H) : o.wp P a w (Then T base mu γ w H o a k r) Q :=
  turns_wp he (h.turns hH)

theorem turnsU_wp {o : Oper} {a : Act} {base : Nat} {mu : List (Nat × Nat)} {γ : Gh} {w : World} {m : Sem Unit} {k : Kont U R} {r : R} {H : Heap U} {Q : Exit → Act → World → Prop}
    (he : execOp a.eval o = (do m; Pure.pure .skip)) (h : TurnsU P T base mu γ w m k r H) : o.wp P a w (Then T base mu γ w H o a k r) Q := by
  obtain ⟨w', v, H', ft, γ', h1, h2, h3, h4, h5, h6⟩ := h
  exact wp_none (by rw [he]; simp [h1]) ⟨undef, rfl, v, H', γ', ⟨ft, h2⟩, h3, h4, h5, h6⟩

theorem pure_wp {o : Oper} {a : Act} {base : Nat} {mu : List (Nat × Nat)} {γ : Gh} {w : World} {k : Kont U R} {r : R} {H : Heap U} {Q : Exit → Act → World → Prop} {x : Value} {v : AV U} {ft : Foot} (hH : HRel T γ w H)
    (he : (execOp a.eval o).run P w = .ok (.value x) w) (hk : k v H ft = some r) (hv : VRel T γ w v x) : o.wp P a w (Then T base mu γ w H o a k r) Q :=
  wp_value he ⟨x, rfl, v, H, γ, ⟨ft, hk⟩, hv, hH, Ext.refl _ _, RO.refl _ _ _⟩

theorem callFunc_run {f : FuncId} {fn : Func} {args : Array Value} {w : World} (hf : P.funcs[f]? = some fn) (hb : fn.body.isNone = false) (hn : fn.name ≠ "runtime.NumGoroutine") :
    (callFunc f args).run P w = .ok (.enter f args) w := by
  have hn' : (fn.name == "runtime.NumGoroutine") = false := by simpa using hn
  simp only [callFunc, Sem.run_bind, run_program, Result.andThen_ok, hf, hb, hn', Bool.false_eq_true, if_false, Sem.run_pure]

/-- A call that is entered. -/
def InlOK (P : Program) (T : Tab U) (inl : Inl U R) : Prop :=
  ∀ (f : FuncId) (as : List (AV U)) (s : St U) (k : AV U → Heap U → Option R) (r : R) (γ : Gh) (w : World) (args : Array Value), HRel T γ w s.heap → as.length = args.size →
    (∀ (i : Nat) av x, as[i]? = some av → args[i]? = some x → VRel T γ w av x) → s.base ≤ s.heap.length → inl f as s k = some r →
    (∃ fn, P.funcs[f]? = some fn ∧ fn.body.isNone = false) ∧ CTurns P T s.base s.mu γ w f args (fun v H' => k v H' = some r) s.heap

theorem cturns_wp {o : Oper} {a : Act} {base : Nat} {mu : List (Nat × Nat)} {γ : Gh} {w : World} {f : FuncId} {args : Array Value} {k : Kont U R} {r : R} {H : Heap U} {Q : Exit → Act → World → Prop}
    (he : (execOp a.eval o).run P w = .ok (.enter f args) w) (h : CTurns P T base mu γ w f args (fun v H' => ∃ ft, k v H' ft = some r) H) : o.wp P a w (Then T base mu γ w H o a k r) Q := by
  unfold Oper.wp
  rw [he, Oper.upon_enter]
  refine Calls.imp h ?_
  rintro e w' ⟨x, rfl, h⟩
  exact ⟨x, rfl, h⟩

/-- The operands of an operation, as told. -/
structure Told (T : Tab U) (γ : Gh) (w : World) (s : St U) (ops : Array Oper) (ch : List (Nat × Bool)) (a : Act) (o : Oper) : Prop where
  opd : ∀ x ∈ o.op.operands, (∀ c y z, o.op ≠ .pick c y z) → VRel T γ w (opd s.tmps ch x) (a.eval x)
  pick : ∀ tc y z j, o.op = .pick (.tmp tc) y z → ops.findIdx? (fun o => o.dst == some tc) = some j → VRel T γ w (Ab.opd s.tmps ch (.tmp tc)) (a.eval (.tmp tc)) ∧
    ∀ b, Ab.opd s.tmps ch (.tmp tc) = .bool b → (a.eval (.tmp tc) = .bool true → VRel T γ w (Ab.opd s.tmps ((j, true) :: ch) y) (a.eval y)) ∧ (a.eval (.tmp tc) = .bool false → VRel T γ w (Ab.opd s.tmps ((j, false) :: ch) z) (a.eval z))

theorem orel_map {γ : Gh} {w : World} {lo : Option Operand} {f : Operand → AV U} {g : Operand → Value} (h : ∀ x, lo = some x → VRel T γ w (f x) (g x)) : ORelV T γ w (lo.map f) (lo.map g) := by
  cases lo with
  | none => trivial
  | some x => exact h x rfl

theorem list_rel {γ : Gh} {w : World} {xs : Array Operand} {f : Operand → AV U} {g : Operand → Value} (h : ∀ x ∈ xs, VRel T γ w (f x) (g x)) (i : Nat) (av : AV U) (y : Value)
    (h1 : (xs.toList.map f)[i]? = some av) (h2 : (xs.map g)[i]? = some y) : VRel T γ w av y := by
  simp only [List.getElem?_map, Array.getElem?_toList, Option.map_eq_some_iff] at h1
  simp only [Array.getElem?_map, Option.map_eq_some_iff] at h2
  obtain ⟨x, hx, rfl⟩ := h1
  obtain ⟨x', hx', rfl⟩ := h2
  rw [hx] at hx'
  cases hx'
  exact h x (Array.mem_of_getElem? hx)

theorem parts_rel {γ : Gh} {w : World} {ps : Array (Nat × Operand)} {f : Operand → AV U} {g : Operand → Value} (h : ∀ x ∈ (ps.toList.map (·.2)).toArray, VRel T γ w (f x) (g x)) (i : Nat) (p : Nat × AV U) (q : Nat × Value)
    (h1 : (ps.toList.map fun p => (p.1, f p.2))[i]? = some p) (h2 : (ps.map fun p => (p.1, g p.2))[i]? = some q) : p.1 = q.1 ∧ VRel T γ w p.2 q.2 := by
  simp only [List.getElem?_map, Array.getElem?_toList, Option.map_eq_some_iff] at h1
  simp only [Array.getElem?_map, Option.map_eq_some_iff] at h2
  obtain ⟨x, hx, rfl⟩ := h1
  obtain ⟨x', hx', rfl⟩ := h2
  rw [hx] at hx'
  cases hx'
  refine ⟨rfl, h x.2 ?_⟩
  simp only [List.mem_toArray, List.mem_map]
  exact ⟨x, Array.mem_toList_iff.2 (Array.mem_of_getElem? hx), rfl⟩

theorem sameOpd_eval {a : Act} {l c : Operand} (h : sameOpd l c = true) : a.eval c = a.eval l := by
  unfold sameOpd at h
  split at h
  · simp at h
    rw [h]
  · simp at h
    obtain ⟨rfl, rfl⟩ := h
    rfl
  · cases h

/-- What is given of the program and of what callees compute. -/
structure Cx (e : Env U) (T : Tab U) (C : Callee U) (n : Nat) (P : Program) : Prop where
  ho : e.o = real T C n
  hT : e.T = T
  hP : e.P = P
  ok : T.Ok P
  good : ∀ f xs rc r, C f xs rc = some r → PureCall P T e.ann f xs rc r
  hng : ∀ (f : Nat) (fn : Func), P.funcs[f]? = some fn → fn.name ≠ "runtime.NumGoroutine"

theorem pick_wp {e : Env U} (cx : Cx e T C n P) {o : Oper} {s : St U} {k : Kont U R} {r : R} {g : Option Bool} {γ : Gh} {w : World} {a : Act} {Q : Exit → Act → World → Prop} {c y z : Operand} {vc vy vz : AV U}
    (hop : o.op = .pick c y z) (hH : HRel T γ w s.heap) (h1 : VRel T γ w vc (a.eval c))
    (h23 : ∀ b, vc = .bool b → (a.eval c = .bool true → VRel T γ w vy (a.eval y)) ∧ (a.eval c = .bool false → VRel T γ w vz (a.eval z)))
    (h : pickK e.o g vc vy vz s.heap k = some r) : Two k r g s.heap (o.wp P a w (Then T s.base s.mu γ w s.heap o a k r) Q) := by
  rw [cx.ho] at h
  by_cases hvb : ∃ b, vc = .bool b
  case neg =>
    unfold pickK at h
    split at h
    · exact absurd ⟨_, rfl⟩ hvb
    · exact absurd ⟨_, rfl⟩ hvb
    · exact Two.bad h
  obtain ⟨b, hvb⟩ := hvb
  obtain ⟨h2, h3⟩ := h23 b hvb
  refine Two.imp (pickK_two (P := P) _ _ _ _ _ _ γ w g s.heap k r h1 h2 h3 h) ?_
  rintro ⟨x, v, ft, q1, q2, q3⟩
  refine pure_wp hH ?_ q2 q3
  cases hq : (asBool (a.eval c)).run P w with
  | ok b w' =>
    simp [hq] at q1
    obtain ⟨rfl, rfl⟩ := q1
    simp [execOp, hop, hq]
  | halt _ _ => simp [hq] at q1

theorem build_wp {e : Env U} (cx : Cx e T C n P) {o : Oper} {s : St U} {k : Kont U R} {r : R} {g : Option Bool} {γ : Gh} {w : World} {a : Act} {Q : Exit → Act → World → Prop} {t : TypeId} {parts : Array (Nat × Operand)} {f : Operand → AV U}
    (hop : o.op = .build t parts) (hH : HRel T γ w s.heap) (hv : ∀ x ∈ o.op.operands, VRel T γ w (f x) (a.eval x))
    (h : buildK e g t (parts.toList.map fun p => (p.1, f p.2)) s.heap k = some r) : Two k r g s.heap (o.wp P a w (Then T s.base s.mu γ w s.heap o a k r) Q) := by
  have hp := parts_rel (T := T) (γ := γ) (w := w) (ps := parts) (f := f) (g := a.eval) (fun x hx => hv x (by rw [hop]; exact hx))
  refine (buildK_two cx.ho cx.hP t _ (parts.map fun p => (p.1, a.eval p.2)) γ w g s.heap k r (by simp) hp h).imp (reads_wp hH ?_)
  simp only [execOp, hop]

theorem buildSlice_wp {e : Env U} (cx : Cx e T C n P) {o : Oper} {s : St U} {k : Kont U R} {r : R} {γ : Gh} {w : World} {a : Act} {Q : Exit → Act → World → Prop} {t : TypeId} {m : Nat} {parts : Array (Nat × Operand)} {f : Operand → AV U}
    (hop : o.op = .buildSlice t m parts) (hH : HRel T γ w s.heap) (hv : ∀ x ∈ o.op.operands, VRel T γ w (f x) (a.eval x))
    (h : buildSliceK e t m (parts.toList.map fun p => (p.1, f p.2)) s k = some r) : o.wp P a w (Then T s.base s.mu γ w s.heap o a k r) Q := by
  have hp := parts_rel (T := T) (γ := γ) (w := w) (ps := parts) (f := f) (g := a.eval) (fun x hx => hv x (by rw [hop]; exact hx))
  refine turns_wp ?_ (buildSliceK_turns cx.ho cx.hT cx.hP cx.ok t m _ (parts.map fun p => (p.1, a.eval p.2)) γ w s k r (by simp) hp hH h)
  simp only [execOp, hop]

theorem nilCheck_wp {e : Env U} (cx : Cx e T C n P) {o : Oper} {s : St U} {k : Kont U R} {r : R} {g : Option Bool} {γ : Gh} {w : World} {a : Act} {Q : Exit → Act → World → Prop} {x : Operand} {v : AV U}
    (hop : o.op = .nilCheck x) (hH : HRel T γ w s.heap) (hx : VRel T γ w v (a.eval x))
    (h : nilCheckK e.o g v s.heap k = some r) : Two k r g s.heap (o.wp P a w (Then T s.base s.mu γ w s.heap o a k r) Q) := by
  rw [cx.ho] at h
  generalize hz : a.eval x = z at hx
  cases hx with
  | ptr id off b hb => exact Two.mk h (pure_wp hH (by simp [execOp, hop, hz]) h (.ptr _ _ _ hb))
  | aptr _ _ _ _ b o0 len cap size q1 q2 q3 => exact Two.mk h (pure_wp hH (by simp [execOp, hop, hz]) h (.aptr _ _ _ _ _ _ _ _ _ q1 q2 q3))
  | fptr _ _ b o0 vs q1 q2 => exact Two.mk h (pure_wp hH (by simp [execOp, hop, hz]) h (.fptr _ _ _ _ _ q1 q2))
  | func fn _ _ fs cs q1 q2 q3 q4 =>
    cases fn with
    | func f0 => exact Two.mk h (pure_wp hH (by simp [execOp, hop, hz]) h (.func _ _ _ _ _ q1 q2 q3 q4))
    | _ => exact Two.bad h
  | _ => exact Two.bad h

theorem makeFunc_wp {o : Oper} {s : St U} {k : Kont U R} {r : R} {g : Option Bool} {γ : Gh} {w : World} {a : Act} {Q : Exit → Act → World → Prop} {fn : Fn} {first captured : Array Operand} {f : Operand → AV U}
    (hop : o.op = .makeFunc fn first captured) (hH : HRel T γ w s.heap) (hv : ∀ x ∈ o.op.operands, VRel T γ w (f x) (a.eval x))
    (h : k (.func fn (first.toList.map f) (captured.toList.map f)) s.heap {} = some r) : Two k r g s.heap (o.wp P a w (Then T s.base s.mu γ w s.heap o a k r) Q) := by
  refine Two.mk h (pure_wp hH (x := .func fn (first.map a.eval) (captured.map a.eval)) (by simp [execOp, hop, Instr.makeFunc]) h ?_)
  refine .func _ _ _ _ _ (by simp) (by simp) (list_rel fun x hx => hv x (by rw [hop]; simp [Op.operands, hx])) (list_rel fun x hx => hv x (by rw [hop]; simp [Op.operands, hx]))

theorem makeSlice_wp {e : Env U} (cx : Cx e T C n P) {o : Oper} {s : St U} {k : Kont U R} {r : R} {sl : Option Nat} {γ : Gh} {w : World} {a : Act} {Q : Exit → Act → World → Prop} {t : TypeId} {l c : Operand} {v : AV U} {plain : Bool}
    (hop : o.op = .makeSlice t l c) (hH : HRel T γ w s.heap) (hb : s.base ≤ s.heap.length) (hsl : ∀ id, sl = some id → s.base ≤ id) (hx : VRel T γ w v (a.eval l))
    (h : makeSliceK e sl plain t (sameOpd l c) v s.heap k = some r) : o.wp P a w (Then T s.base s.mu γ w s.heap o a k r) Q := by
  cases hsame : sameOpd l c with
  | false =>
    rw [hsame] at h
    unfold makeSliceK at h
    split at h
    · split at h
      · cases h
      · simp at h
    · cases h
  | true =>
    rw [hsame] at h
    have hev := sameOpd_eval (a := a) hsame
    refine turns_wp ?_ (makeSliceK_turns cx.ho cx.hT cx.hP cx.ok sl plain t _ _ γ w s.base s.mu s.heap k r hx hH hb hsl h)
    simp only [execOp, hop, hev]

theorem extract_wp {e : Env U} (cx : Cx e T C n P) {o : Oper} {s : St U} {k : Kont U R} {r : R} {g : Option Bool} {γ : Gh} {w : World} {a : Act} {Q : Exit → Act → World → Prop} {x : Operand} {i : Nat} {v : AV U}
    (hop : o.op = .extract x i) (hH : HRel T γ w s.heap) (hx : VRel T γ w v (a.eval x))
    (h : extractK e.o g v i s.heap k = some r) : Two k r g s.heap (o.wp P a w (Then T s.base s.mu γ w s.heap o a k r) Q) := by
  rw [cx.ho] at h
  generalize hz : a.eval x = z at hx
  cases hx with
  | tuple vs us hl hvs =>
    simp only [extractK] at h
    split at h
    · rename_i y hy
      have hlt : i < us.size := by rw [← hl]; exact (List.getElem?_eq_some_iff.1 hy).1
      have hu := Array.getElem?_eq_getElem hlt
      exact Two.mk h (pure_wp hH (x := us[i]) (by simp [execOp, hop, hz, Instr.extract, hu]) h (hvs i y _ hy hu))
    · exact Two.bad h
  | _ => exact Two.bad h

theorem builtin_wp {e : Env U} (cx : Cx e T C n P) {o : Oper} {s : St U} {k : Kont U R} {r : R} {g : Option Bool} {sl : Option Nat} {γ : Gh} {w : World} {a : Act} {Q : Exit → Act → World → Prop} {b : Builtin} {args : Array Operand} {ts : Array TypeId} {f : Operand → AV U}
    (hop : o.op = .call { callee := .builtin b, args, argTypes := ts }) (hH : HRel T γ w s.heap) (hb : s.base ≤ s.heap.length) (hsl : ∀ id, sl = some id → s.base ≤ id) (hg : b = .append → g = none)
    (hv : ∀ x ∈ args, VRel T γ w (f x) (a.eval x)) (h : builtinK e g sl b ts.toList (args.toList.map f) s k = some r) : Two k r g s.heap (o.wp P a w (Then T s.base s.mu γ w s.heap o a k r) Q) := by
  have hxs := list_rel (T := T) (γ := γ) (w := w) (xs := args) (f := f) (g := a.eval) hv
  have hlen : (args.toList.map f).length = (args.map a.eval).size := by simp
  have hex : execOp a.eval o = builtin b ts o.type (args.map fun | .const _ => true | _ => false) (args.map a.eval) := by
    simp only [execOp, hop, resolve]
    rfl
  generalize args.toList.map f = xs at h hxs hlen
  generalize hvs : args.map a.eval = vs at hxs hlen hex
  unfold builtinK at h
  split at h
  · rename_i t ts' x hts
    rw [cx.ho, cx.hP] at h
    obtain ⟨v, rfl⟩ : ∃ v, vs = #[v] := by
      obtain ⟨l⟩ := vs
      match l, hlen with
      | [v], _ => exact ⟨v, rfl⟩
    refine Two.imp (lenK_two (P := P) _ t ts o.type _ _ γ w g s.heap k r rfl ?_ (hxs 0 _ _ rfl rfl) hH h) (reads_wp hH ?_)
    · have := congrArg (·[0]?) hts
      simpa using this
    · rw [hex]; rfl
  · rename_i t t' x y hts
    rw [hg rfl]
    obtain ⟨v, u, rfl⟩ : ∃ v u, vs = #[v, u] := by
      obtain ⟨l⟩ := vs
      match l, hlen with
      | [v, u], _ => exact ⟨v, u, rfl⟩
    have hts' : ts = #[t, t'] := by
      apply Array.ext'
      simpa using hts
    refine Two.sure (turns_wp ?_ (appendK_turns cx.ho cx.hT cx.hP cx.ok sl t t' o.type _ _ _ _ γ w s k r (hxs 0 _ _ rfl rfl) (hxs 1 _ _ rfl rfl) hH hb hsl h))
    rw [hex, hts']
    rfl
  · rw [cx.ho] at h
    refine Two.imp (minmaxK_two (P := P) true ts o.type _ vs γ w g s.heap k r hlen hxs h) (reads_wp hH ?_)
    rw [hex]; rfl
  · rw [cx.ho] at h
    refine Two.imp (minmaxK_two (P := P) false ts o.type _ vs γ w g s.heap k r hlen hxs h) (reads_wp hH ?_)
    rw [hex]; rfl
  · rw [cx.ho] at h
    exact Two.bad h

theorem append_rel {γ : Gh} {w : World} {l1 l2 : List (AV U)} {a1 a2 : Array Value} (hl : l1.length = a1.size)
    (h1 : ∀ (i : Nat) av x, l1[i]? = some av → a1[i]? = some x → VRel T γ w av x) (h2 : ∀ (i : Nat) av x, l2[i]? = some av → a2[i]? = some x → VRel T γ w av x)
    (i : Nat) (av : AV U) (x : Value) (hi : (l1 ++ l2)[i]? = some av) (hx : (a1 ++ a2)[i]? = some x) : VRel T γ w av x := by
  rw [List.getElem?_append] at hi
  rw [Array.getElem?_append] at hx
  split at hi
  · rename_i hlt
    rw [if_pos (by omega)] at hx
    exact h1 i av x hi hx
  · rename_i hlt
    rw [if_neg (by omega)] at hx
    rw [hl] at hi
    exact h2 _ av x hi hx

theorem call_wp {e : Env U} (cx : Cx e T C n P) {inl : Inl U R} (hinl : InlOK P T inl) {dr : Bool} {fid : FuncId} {o : Oper} {s : St U} {k : Kont U R} {r : R} {g : Option Bool} {γ : Gh} {w : World} {a : Act} {Q : Exit → Act → World → Prop} {c : Operand} {args : Array Operand} {ts : Array TypeId} {f : Operand → AV U}
    (hop : o.op = .call { callee := .value c, args, argTypes := ts }) (hH : HRel T γ w s.heap) (hb : s.base ≤ s.heap.length)
    (hc : VRel T γ w (f c) (a.eval c)) (hv : ∀ x ∈ args, VRel T γ w (f x) (a.eval x)) {sl : Option Nat} (hsl : ∀ id, sl = some id → s.base ≤ id) (h : callK e inl dr fid sl g (f c) (args.toList.map f) s k = some r) :
    Two k r g s.heap (o.wp P a w (Then T s.base s.mu γ w s.heap o a k r) Q) := by
  have hxs := list_rel (T := T) (γ := γ) (w := w) (xs := args) (f := f) (g := a.eval) hv
  have hlen : (args.toList.map f).length = (args.map a.eval).size := by simp
  have hex : execOp a.eval o = (do let d ← Deferred.ofValue (a.eval c) (args.map a.eval); invoke d.target d.args) := by
    simp only [execOp, hop, resolve]
  generalize args.toList.map f = xs at h hxs hlen
  generalize args.map a.eval = vs at hxs hlen hex
  generalize f c = fv at h hc
  unfold callK at h
  split at h
  · rename_i fn first captured
    generalize hz : a.eval c = z at hc hex
    cases hc with
    | func _ _ _ fs cs q1 q2 q3 q4 =>
      have hrel : ∀ (i : Nat) av x, (first ++ xs ++ captured)[i]? = some av → (fs ++ vs ++ cs)[i]? = some x → VRel T γ w av x :=
        append_rel (by simp [q1, hlen]) (append_rel q1 q3 hxs) q4
      have hll : (first ++ xs ++ captured).length = (fs ++ vs ++ cs).size := by simp [q1, q2, hlen]
      have hrun : ∀ fn', P.funcs[fn]? = some fn' → fn'.body.isNone = false → (execOp a.eval o).run P w = .ok (.enter fn (fs ++ vs ++ cs)) w := by
        intro fn' h1 h2
        rw [hex]
        simp only [Deferred.ofValue, Sem.run_bind, Sem.run_pure, Result.andThen_ok, invoke]
        exact callFunc_run h1 h2 (cx.hng fn fn' h1)
      simp only at h
      split at h
      · split at h
        · cases h
        split at h
        · obtain ⟨⟨fn', h1, h2⟩, hc⟩ := hinl fn _ s _ r γ w (fs ++ vs ++ cs) hH hll hrel hb h
          refine Two.sure (cturns_wp (hrun fn' h1 h2) (Calls.imp hc ?_))
          rintro e' w' ⟨x, rfl, v, H', γ', p1, p2⟩
          exact ⟨x, rfl, v, H', γ', ⟨_, p1⟩, p2⟩
        · cases h
      · have hfn : (∃ fn', P.funcs[fn]? = some fn' ∧ fn'.body.isNone = false) := by
          unfold pcallK at h
          rw [cx.hP] at h
          split at h
          · cases h
          · rename_i fn' h1
            split at h
            · cases h
            · rename_i h2
              exact ⟨fn', h1, Bool.eq_false_iff.2 h2⟩
        obtain ⟨fn', h1, h2⟩ := hfn
        exact Two.imp (pcallK_turns cx.ho cx.hT cx.hP cx.ok cx.good sl g fn _ (fs ++ vs ++ cs) γ w s k r hll hrel hH hb hsl h) (cturns_wp (hrun fn' h1 h2))
  · rw [cx.ho] at h
    exact Two.bad h

theorem opK_wp {e : Env U} (cx : Cx e T C n P) {inl : Inl U R} (hinl : InlOK P T inl)
    (dr : Bool) (fid : FuncId) (ops : Array Oper) (ch : List (Nat × Bool)) (g : Option Bool) (sl : Option Nat) (o : Oper) (s : St U) (k : Kont U R) (r : R) (γ : Gh) (w : World) (a : Act) (Q : Exit → Act → World → Prop)
    (ht : Told T γ w s ops ch a o) (hH : HRel T γ w s.heap) (hb : s.base ≤ s.heap.length) (hsl : ∀ id, sl = some id → s.base ≤ id) (hg : turns e fid o.op = true → g = none)
    (h : opK e inl dr fid ops ch g sl o s k = some r) : Two k r g s.heap (o.wp P a w (Then T s.base s.mu γ w s.heap o a k r) Q) := by
  have hop : o.op = o.op := rfl
  generalize hq : o.op = op at hop
  have hv : ∀ x ∈ op.operands, (∀ c y z, op ≠ .pick c y z) → VRel T γ w (opd s.tmps ch x) (a.eval x) := fun x hx hn => ht.opd x (by rw [hq]; exact hx) (by rw [hq]; exact hn)
  unfold opK at h
  rw [hq] at h hg
  cases op with
  | move x => exact Two.mk h (pure_wp hH (by simp [execOp, hq]) h (hv x (by simp [Op.operands]) (by simp)))
  | assign x => exact Two.mk h (pure_wp hH (by simp [execOp, hq]) h (hv x (by simp [Op.operands]) (by simp)))
  | alloc t =>
    rw [hg rfl]
    exact Two.sure (turns_wp (by simp only [execOp, hq]) (allocK_turns cx.hP hH hb hsl h))
  | box t x =>
    rw [hg rfl]
    exact Two.sure (turns_wp (by simp only [execOp, hq]) (boxK_turns (t := t) hH hb hsl (hv x (by simp [Op.operands]) (by simp)) h))
  | load t x => exact (loadK_two cx.ho cx.hT cx.hP t _ _ γ w g s.heap k r (hv x (by simp [Op.operands]) (by simp)) hH h).imp (reads_wp hH (by simp only [execOp, hq]))
  | store t x y =>
    rw [hg rfl]
    exact Two.sure (turnsU_wp (by simp only [execOp, hq]) (storeK_turns cx.ho cx.hT cx.hP cx.ok t _ _ _ _ γ w s k r (hv x (by simp [Op.operands]) (by simp)) (hv y (by simp [Op.operands]) (by simp)) hH h))
  | pick c y z =>
    simp only at h
    split at h
    · rename_i tc
      split at h
      · rename_i j hj
        obtain ⟨h1, h2⟩ := ht.pick tc y z j hq hj
        exact pick_wp cx hq hH h1 h2 h
      · rw [cx.ho] at h; exact Two.bad h
    · rw [cx.ho] at h; exact Two.bad h
  | build t parts => exact build_wp cx hq hH (fun x hx => hv x (by rw [hq] at hx; exact hx) (by simp)) h
  | buildSlice t m parts =>
    rw [hg rfl]
    exact Two.sure (buildSlice_wp cx hq hH (fun x hx => hv x (by rw [hq] at hx; exact hx) (by simp)) h)
  | nilCheck x => exact nilCheck_wp cx hq hH (hv x (by simp [Op.operands]) (by simp)) h
  | binOp op t x y yt =>
    simp only at h
    rw [cx.ho, cx.hP] at h
    exact (binK_two _ _ op _ _ _ _ x y γ w g s.heap k r t rfl (hv x (by simp [Op.operands]) (by simp)) (hv y (by simp [Op.operands]) (by simp)) hH h).imp (reads_wp hH (by simp only [execOp, hq]))
  | unOp op t x =>
    simp only at h
    rw [cx.ho] at h
    exact (unK_two (P := P) op _ _ γ w g s.heap k r (hv x (by simp [Op.operands]) (by simp)) h).imp (reads_wp hH (by simp only [execOp, hq]))
  | convert src dst' x => exact (convK_two cx.ho cx.hP src dst' _ _ γ w g s.heap k r (hv x (by simp [Op.operands]) (by simp)) h).imp (reads_wp hH (by simp only [execOp, hq]))
  | makeFunc fn first captured => exact makeFunc_wp hq hH (fun x hx => hv x (by rw [hq] at hx; exact hx) (by simp)) h
  | makeMap t m =>
    cases m with
    | none =>
      rw [hg rfl]
      exact Two.sure (turns_wp (by simp only [execOp, hq]; rfl) (makeMapK_turns hH hb hsl h))
    | some m => simp only at h; cases h
  | makeSlice t l c =>
    rw [hg rfl]
    exact Two.sure (makeSlice_wp cx hq hH hb hsl (hv l (by simp [Op.operands]) (by simp)) h)
  | slice t x lo hi mx =>
    exact (sliceK_turns cx.ho cx.hT cx.hP cx.ok g _ t _ _ _ _ _ (lo.map a.eval) (hi.map a.eval) (mx.map a.eval) γ w s k r (hv x (by simp [Op.operands]) (by simp)) (orel_map fun y hy => hv y (by simp [Op.operands, hy]) (by simp))
      (orel_map fun y hy => hv y (by simp [Op.operands, hy]) (by simp)) (orel_map fun y hy => hv y (by simp [Op.operands, hy]) (by simp)) hH h).imp (turns_wp (by simp only [execOp, hq]))
  | fieldAddr t x f =>
    simp only at h
    rw [cx.ho, cx.hP] at h
    exact (fieldAddrK_two t _ _ f γ w g s.heap k r (hv x (by simp [Op.operands]) (by simp)) h).imp (reads_wp hH (by simp only [execOp, hq]))
  | field t x f =>
    simp only at h
    rw [cx.ho, cx.hP] at h
    exact (fieldK_two t _ _ f γ w g s.heap k r (hv x (by simp [Op.operands]) (by simp)) h).imp (reads_wp hH (by simp only [execOp, hq]))
  | indexAddr t x i =>
    exact (indexAddrK_two cx.ho cx.hT cx.hP cx.ok t _ _ _ _ γ w g s.heap k r (hv x (by simp [Op.operands]) (by simp)) (hv i (by simp [Op.operands]) (by simp)) hH h).imp (reads_wp hH (by simp only [execOp, hq]))
  | index t x i =>
    exact (indexK_two cx.ho cx.hP t _ _ _ _ γ w g s.heap k r (hv x (by simp [Op.operands]) (by simp)) (hv i (by simp [Op.operands]) (by simp)) h).imp (reads_wp hH (by simp only [execOp, hq]))
  | lookup t m key cok =>
    exact (lookupK_two cx.ho cx.hT cx.hP cx.ok t _ _ _ _ cok γ w g s.heap k r (hv m (by simp [Op.operands]) (by simp)) (hv key (by simp [Op.operands]) (by simp)) hH h).imp (reads_wp hH (by simp only [execOp, hq]))
  | mapUpdate t m key x =>
    rw [hg rfl]
    exact Two.sure (turnsU_wp (by simp only [execOp, hq]) (mapUpdateK_turns cx.ho cx.hT cx.hP cx.ok t _ _ _ _ _ _ γ w s k r (hv m (by simp [Op.operands]) (by simp)) (hv key (by simp [Op.operands]) (by simp)) (hv x (by simp [Op.operands]) (by simp)) hH h))
  | extract x i => exact extract_wp cx hq hH (hv x (by simp [Op.operands]) (by simp)) h
  | call c =>
    obtain ⟨callee, args, argTypes⟩ := c
    cases callee with
    | builtin b => exact builtin_wp cx hq hH hb hsl (fun e => hg (by subst e; rfl)) (fun x hx => hv x (by simp [Op.operands, Call.operands, hx]) (by simp)) h
    | value f => exact call_wp cx hinl hq hH hb (hv f (by simp [Op.operands, Call.operands]) (by simp)) (fun x hx => hv x (by simp [Op.operands, Call.operands, hx]) (by simp)) hsl h
    | invoke _ _ => cases h
  | _ => cases h

end
end Go.Ab

namespace Go.Ab
section
variable {U : Nat → Type} {T : Tab U} {C : Callee U} {n : Nat} {P : Program} {R : Type}

/-- A guard's truth, as told. -/
def litOf (ops : Array Oper) (tmps : List (AV U)) (p : Nat × Bool) : Bool :=
  match ((ops[p.1]?).bind (·.dst)).map (fun d => tmps.getD d .top) with
  | some (.bool b) => if p.2 then b else !b
  | some (.when _ (.bool b)) => if p.2 then b else !b
  | _ => false

theorem gOf_real {ops : Array Oper} {tmps : List (AV U)} : ∀ {ch : List (Nat × Bool)}, ch ≠ [] → gOf (real T C n) ops tmps ch = some (ch.all (litOf ops tmps))
  | [], h => absurd rfl h
  | [(j, w)], _ => by
    simp only [gOf, List.all_cons, List.all_nil, Bool.and_true, Option.some.injEq]
    rfl
  | (j, w) :: q :: rest, _ => by
    have ih := gOf_real (ops := ops) (tmps := tmps) (ch := q :: rest) (by simp)
    rw [gOf]
    · simp only [ih, List.all_cons]
      rfl
    · simp

theorem filter_one {α : Type} {p : α → Bool} : ∀ {l : List α} {i k : Nat} {x y : α}, (l.filter p).length = 1 → l[i]? = some x → p x = true → l[k]? = some y → p y = true → i = k
  | [], _, _, _, _, h, _, _, _, _ => by simp at h
  | a :: l, i, k, x, y, h, hi, hx, hk, hy => by
    have none : p a = true → ∀ {j : Nat} {z : α}, l[j]? = some z → p z = true → False := by
      intro ha j z hj hz
      rw [List.filter_cons, if_pos ha] at h
      have : (l.filter p).length = 0 := by simpa using h
      have h0 : l.filter p = [] := List.eq_nil_of_length_eq_zero this
      have : z ∈ l.filter p := List.mem_filter.2 ⟨List.mem_of_getElem? hj, hz⟩
      rw [h0] at this
      cases this
    cases i with
    | zero =>
      simp at hi
      subst hi
      cases k with
      | zero => rfl
      | succ k => exact (none hx (by simpa using hk) hy).elim
    | succ i =>
      cases k with
      | zero =>
        simp at hk
        subst hk
        exact (none hy (by simpa using hi) hx).elim
      | succ k =>
        by_cases ha : p a = true
        · exact (none ha (by simpa using hi) hx).elim
        · rw [List.filter_cons, if_neg ha] at h
          exact congrArg (· + 1) (filter_one (i := i) (k := k) h (by simpa using hi) hx (by simpa using hk) hy)

theorem guard_spec {ops : Array Oper} (hg : guardsOk ops = true) {i j : Nat} {o : Oper} {w : Bool} (ho : ops[i]? = some o) (hw : o.guard = some (j, w)) :
    j < i ∧ ∃ d, dstOf ops j = some d ∧ ∀ k, dstOf ops k = some d → k = j := by
  unfold guardsOk at hg
  have := List.all_eq_true.1 hg (o, i) (List.mem_zipIdx_iff_getElem?.2 (by simpa using ho))
  simp only [hw, Bool.and_eq_true, decide_eq_true_eq] at this
  obtain ⟨h1, h2⟩ := this
  refine ⟨h1, ?_⟩
  cases hd : (ops[j]?).bind (·.dst) with
  | none => rw [hd] at h2; cases h2
  | some d =>
    rw [hd] at h2
    simp only [beq_iff_eq] at h2
    refine ⟨d, hd, fun k hk => ?_⟩
    have get : ∀ m, dstOf ops m = some d → ∃ o', ops.toList[m]? = some o' ∧ (o'.dst == some d) = true := by
      intro m hm
      unfold dstOf at hm
      cases ho' : ops[m]? with
      | none => rw [ho'] at hm; cases hm
      | some o' =>
        rw [ho'] at hm
        exact ⟨o', by simpa using ho', by simpa using hm⟩
    obtain ⟨o1, q1, q2⟩ := get k hk
    obtain ⟨o2, q3, q4⟩ := get j hd
    exact filter_one h2 q1 q2 q3 q4

theorem chain_zero {ops : Array Oper} {f i : Nat} (h : (ops[i]?).bind (·.guard) = none) : chainOf ops (f + 1) i = [] := by
  simp only [chainOf, h]

theorem chain_succ {ops : Array Oper} {f i j : Nat} {w : Bool} (h : (ops[i]?).bind (·.guard) = some (j, w)) : chainOf ops (f + 1) i = (j, w) :: chainOf ops f j := by
  simp only [chainOf, h]

theorem guard_bind {ops : Array Oper} {i : Nat} {p : Nat × Bool} (h : (ops[i]?).bind (·.guard) = some p) : ∃ o, ops[i]? = some o ∧ o.guard = some p := by
  cases ho : ops[i]? with
  | none => rw [ho] at h; cases h
  | some o => rw [ho] at h; exact ⟨o, rfl, h⟩

theorem chain_fuel {ops : Array Oper} (hg : guardsOk ops = true) : ∀ (f f' i : Nat), i < f → i < f' → chainOf ops f i = chainOf ops f' i
  | 0, _, i, h, _ => by omega
  | _, 0, i, _, h => by omega
  | f + 1, f' + 1, i, h, h' => by
    cases hb : (ops[i]?).bind (·.guard) with
    | none => rw [chain_zero hb, chain_zero hb]
    | some p =>
      obtain ⟨j, w⟩ := p
      obtain ⟨o, ho, hw⟩ := guard_bind hb
      have hlt := (guard_spec hg ho hw).1
      rw [chain_succ hb, chain_succ hb, chain_fuel hg f f' j (by omega) (by omega)]

theorem chain_mem {ops : Array Oper} (hg : guardsOk ops = true) : ∀ (f i : Nat) (p : Nat × Bool), p ∈ chainOf ops f i → p.1 < i ∧ ∃ (i' : Nat) (o' : Oper), ops[i']? = some o' ∧ o'.guard = some p
  | 0, _, p, h => by simp [chainOf] at h
  | f + 1, i, p, h => by
    cases hb : (ops[i]?).bind (·.guard) with
    | none => rw [chain_zero hb] at h; cases h
    | some q =>
      obtain ⟨j, w⟩ := q
      obtain ⟨o, ho, hw⟩ := guard_bind hb
      have hlt := (guard_spec hg ho hw).1
      rw [chain_succ hb] at h
      rcases List.mem_cons.1 h with rfl | h
      · exact ⟨hlt, i, o, ho, hw⟩
      · obtain ⟨h1, h2⟩ := chain_mem hg f j p h
        exact ⟨by omega, h2⟩

/-- The chain of an operation. -/
def chain (ops : Array Oper) (i : Nat) : List (Nat × Bool) := chainOf ops (ops.size + 1) i

theorem chain_cons {ops : Array Oper} (hg : guardsOk ops = true) {i j : Nat} {o : Oper} {w : Bool} (ho : ops[i]? = some o) (hw : o.guard = some (j, w)) : chain ops i = (j, w) :: chain ops j := by
  have hi := (Array.getElem?_eq_some_iff.1 ho).1
  have hlt := (guard_spec hg ho hw).1
  have hb : (ops[i]?).bind (·.guard) = some (j, w) := by rw [ho]; exact hw
  unfold chain
  rw [chain_succ hb, chain_fuel hg ops.size (ops.size + 1) j (by omega) (by omega)]

theorem chain_nil {ops : Array Oper} {i : Nat} {o : Oper} (ho : ops[i]? = some o) (hw : o.guard = none) : chain ops i = [] :=
  chain_zero (by rw [ho]; exact hw)

/-- What is told of temporaries while a region runs; D: what has run. -/
structure RI (T : Tab U) (γ : Gh) (w : World) (ops : Array Oper) (D : List Nat) (s : St U) (a : Act) : Prop where
  len : s.tmps.length ≤ a.tmps.size
  defers : a.defers = []
  rel : ∀ (t : Nat) av, s.tmps[t]? = some av → (∀ c v, av ≠ .when c v) → VRel T γ w av (a.tmps.getD t undef)
  when_ : ∀ (t : Nat) c v, s.tmps[t]? = some (.when c v) → (c.all (litOf ops s.tmps) = true → VRel T γ w v (a.tmps.getD t undef)) ∧ ∃ i ∈ D, c = chain ops i ∧ dstOf ops i = some t ∧ c ≠ []
  und : ∀ j ∈ D, ∀ d, dstOf ops j = some d → (∃ (i : Nat) (o : Oper) (w : Bool), ops[i]? = some o ∧ o.guard = some (j, w)) → (chain ops j).all (litOf ops s.tmps) = false → a.tmps.getD d undef = undef
  closed : ∀ j ∈ D, ∀ p ∈ chain ops j, p.1 ∈ D

theorem lit_put {ops : Array Oper} (hg : guardsOk ops = true) {tmps : List (AV U)} {i : Nat} {v : AV U} {p : Nat × Bool} (hp : ∃ (i' : Nat) (o' : Oper), ops[i']? = some o' ∧ o'.guard = some p) (hne : p.1 ≠ i) :
    litOf ops (put tmps (dstOf ops i) v) p = litOf ops tmps p := by
  cases hd : dstOf ops i with
  | none => rfl
  | some d =>
    obtain ⟨i', o', ho, hw⟩ := hp
    obtain ⟨_, d', hd', huniq⟩ := guard_spec hg ho (j := p.1) (w := p.2) hw
    have hdd : d ≠ d' := fun e => hne (huniq i (by rw [hd, e])).symm
    have hget : (put tmps (some d) v).getD d' .top = tmps.getD d' .top := by
      simp only [put, List.getD_eq_getElem?_getD]
      rw [List.getElem?_set_ne hdd]
    have hd'' : (ops[p.1]?).bind (·.dst) = some d' := hd'
    unfold litOf
    simp only [hd'', Option.map_some, hget]

theorem put_len {tmps : List (AV U)} {d : Option Tmp} {v : AV U} : (put tmps d v).length = tmps.length := by
  cases d <;> simp [put]

theorem put_get {tmps : List (AV U)} {d : Option Tmp} {v av : AV U} {t : Nat} (h : (put tmps d v)[t]? = some av) : (d = some t ∧ av = v) ∨ (d ≠ some t ∧ tmps[t]? = some av) := by
  cases d with
  | none => exact .inr ⟨by simp, h⟩
  | some d =>
    simp only [put] at h
    by_cases e : d = t
    · subst e
      have hlt : d < tmps.length := by have := (List.getElem?_eq_some_iff.1 h).1; simpa using this
      rw [List.getElem?_set_self hlt] at h
      exact .inl ⟨rfl, by simpa using h.symm⟩
    · rw [List.getElem?_set_ne e] at h
      exact .inr ⟨by simpa using e, h⟩

theorem act_put_other {a : Act} {d : Option Tmp} {x : Value} {t : Nat} (h : d ≠ some t) : (a.put d x).tmps.getD t undef = a.tmps.getD t undef := by
  cases d with
  | none => rfl
  | some d =>
    have : d ≠ t := fun e => h (by rw [e])
    simp [Act.put, Array.getElem?_setIfInBounds_ne this]

theorem act_put_same {a : Act} {x : Value} {t : Nat} (h : t < a.tmps.size) : (a.put (some t) x).tmps.getD t undef = x := by
  simp [Act.put, h]

theorem act_put_undef {a : Act} {t : Nat} : (a.put (some t) undef).tmps.getD t undef = undef := by
  by_cases h : t < a.tmps.size
  · exact act_put_same h
  · simp [Act.put, h]

theorem act_put_size {a : Act} {d : Option Tmp} {x : Value} : (a.put d x).tmps.size = a.tmps.size := by
  cases d <;> simp [Act.put]

theorem act_put_defers {a : Act} {d : Option Tmp} {x : Value} : (a.put d x).defers = a.defers := by
  cases d <;> rfl

theorem all_same {ops : Array Oper} (hg : guardsOk ops = true) {tmps : List (AV U)} {i k : Nat} {v : AV U} (h : ∀ p ∈ chain ops k, p.1 ≠ i) :
    (chain ops k).all (litOf ops (put tmps (dstOf ops i) v)) = (chain ops k).all (litOf ops tmps) := by
  rw [Bool.eq_iff_iff]
  simp only [List.all_eq_true]
  constructor
  · intro q p hp
    rw [← lit_put hg (chain_mem hg _ _ p hp).2 (h p hp) (v := v)]
    exact q p hp
  · intro q p hp
    rw [lit_put hg (chain_mem hg _ _ p hp).2 (h p hp) (v := v)]
    exact q p hp

theorem RI.step {γ γ' : Gh} {w w' : World} {ops : Array Oper} {D : List Nat} {s s' : St U} {a : Act} (h : RI T γ w ops D s a) (hg : guardsOk ops = true) {i : Nat} (hi : i ∉ D) (hD : ∀ p ∈ chain ops i, p.1 ∈ D)
    (hx : Ext γ w γ' w') {v : AV U} {x : Value} (hs : s'.tmps = put s.tmps (dstOf ops i) v)
    (h1 : (∀ c u, v ≠ .when c u) → VRel T γ' w' v x) (h2 : ∀ c u, v = .when c u → c = chain ops i ∧ c ≠ [] ∧ ((chain ops i).all (litOf ops s.tmps) = true → VRel T γ' w' u x))
    (h3 : (chain ops i).all (litOf ops s.tmps) = false → x = undef) : RI T γ' w' ops (i :: D) s' (a.put (dstOf ops i) x) := by
  have hne : ∀ k ∈ D, ∀ p ∈ chain ops k, p.1 ≠ i := fun k hk p hp e => hi (e ▸ h.closed k hk p hp)
  have hni : ∀ p ∈ chain ops i, p.1 ≠ i := fun p hp e => hi (e ▸ hD p hp)
  refine ⟨?_, by rw [act_put_defers]; exact h.defers, fun t av ht hn => ?_, fun t c u ht => ?_, fun j hj d hd hgd hf => ?_, fun j hj p hp => ?_⟩
  · rw [hs, put_len, act_put_size]; exact h.len
  · rw [hs] at ht
    rcases put_get ht with ⟨e1, rfl⟩ | ⟨e1, e2⟩
    · have hlt : t < a.tmps.size := by
        have := (List.getElem?_eq_some_iff.1 ht).1
        rw [put_len] at this
        exact Nat.lt_of_lt_of_le this h.len
      rw [e1, act_put_same hlt]
      exact h1 hn
    · rw [act_put_other e1]
      exact (h.rel t av e2 hn).mono hx
  · rw [hs] at ht ⊢
    rcases put_get ht with ⟨e1, e2⟩ | ⟨e1, e2⟩
    · have hlt : t < a.tmps.size := by
        have := (List.getElem?_eq_some_iff.1 ht).1
        rw [put_len] at this
        exact Nat.lt_of_lt_of_le this h.len
      obtain ⟨q1, q2, q3⟩ := h2 c u e2.symm
      refine ⟨fun hc => ?_, i, List.mem_cons_self, q1, e1, q2⟩
      rw [q1, all_same hg hni] at hc
      rw [e1, act_put_same hlt]
      exact q3 hc
    · obtain ⟨q1, k, hk, q2, q3, q4⟩ := h.when_ t c u e2
      refine ⟨fun hc => ?_, k, List.mem_cons_of_mem _ hk, q2, q3, q4⟩
      rw [q2, all_same hg (hne k hk)] at hc
      rw [act_put_other e1]
      exact (q1 (by rw [q2]; exact hc)).mono hx
  · rw [hs] at hf
    rcases List.mem_cons.1 hj with rfl | hj
    · rw [all_same hg hni] at hf
      rw [hd, h3 hf]
      exact act_put_undef
    · rw [all_same hg (hne j hj)] at hf
      have : dstOf ops i ≠ some d := by
        intro e
        obtain ⟨i', o', w0, ho', hw'⟩ := hgd
        obtain ⟨_, d', hd', hu⟩ := guard_spec hg ho' hw'
        rw [hd] at hd'
        cases hd'
        exact hi ((hu i e) ▸ hj)
      rw [act_put_other this]
      exact h.und j hj d hd hgd hf
  · rcases List.mem_cons.1 hj with rfl | hj
    · exact List.mem_cons_of_mem _ (hD p hp)
    · exact List.mem_cons_of_mem _ (h.closed j hj p hp)

/-- Operands under a chain that holds. -/
theorem RI.opd {γ : Gh} {w : World} {ops : Array Oper} {D : List Nat} {s : St U} {a : Act} (h : RI T γ w ops D s a) {ch : List (Nat × Bool)} (hc : ch.all (litOf ops s.tmps) = true) (x : Operand) :
    VRel T γ w (opd s.tmps ch x) (a.eval x) := by
  cases x with
  | const v => exact ofValue_rel γ w v
  | func f => exact .func _ _ _ _ _ rfl rfl (fun i av x h => by simp at h) (fun i av x h => by simp at h)
  | global g => exact .top _
  | tmp t =>
    simp only [Ab.opd, Act.eval, List.getD_eq_getElem?_getD]
    cases ht : s.tmps[t]? with
    | none => exact .top _
    | some av =>
      simp only [Option.getD_some]
      split
      · rename_i c v
        split
        · rename_i hs
          refine (h.when_ t c v ht).1 ?_
          have hs' : c <:+ ch := List.isSuffixOf_iff_suffix.1 hs
          exact List.all_eq_true.2 fun p hp => List.all_eq_true.1 hc p (hs'.subset hp)
        · exact .top _
      · rename_i hn
        exact h.rel t av ht (fun c v e => hn c v e)

theorem RI.told {γ : Gh} {w : World} {ops : Array Oper} {D : List Nat} {s : St U} {a : Act} (h : RI T γ w ops D s a) {ch : List (Nat × Bool)} (hc : ch.all (litOf ops s.tmps) = true) (o : Oper) : Told T γ w s ops ch a o := by
  refine ⟨fun x _ _ => h.opd hc x, fun tc y z j _ hj => ⟨h.opd hc _, fun b hb => ?_⟩⟩
  have hdst : (ops[j]?).bind (·.dst) = some tc := by
    obtain ⟨hlt, h1, _⟩ := Array.findIdx?_eq_some_iff_getElem.1 hj
    rw [Array.getElem?_eq_getElem hlt]
    simpa using h1
  have hv := h.opd hc (.tmp tc)
  rw [hb] at hv
  have hlit : ∀ q : Bool, litOf ops s.tmps (j, q) = if q then b else !b := by
    intro q
    unfold litOf
    simp only [hdst, Option.map_some]
    unfold Ab.opd at hb
    simp only at hb
    generalize s.tmps.getD tc .top = tv at hb ⊢
    cases tv <;> simp only at hb <;> first
      | (cases hb; rfl)
      | (split at hb
         · rw [hb]
         · cases hb)
      | cases hb
  constructor
  · intro e
    rw [e] at hv
    cases hv
    refine h.opd ?_ y
    simp [hlit, hc]
  · intro e
    rw [e] at hv
    cases hv
    refine h.opd ?_ z
    simp [hlit, hc]

/-- Is an operation wanted? As its chain says. -/
theorem RI.wanted {γ : Gh} {w : World} {ops : Array Oper} {D : List Nat} {s : St U} {a : Act} (h : RI T γ w ops D s a) (hg : guardsOk ops = true) {i : Nat} {o : Oper} (ho : ops[i]? = some o) (hD : ∀ p ∈ chain ops i, p.1 ∈ D)
    (ht : gTold ops s.tmps (chain ops i) = true) : Region.wanted o (yielded ops a.tmps) = (chain ops i).all (litOf ops s.tmps) := by
  cases hw : o.guard with
  | none =>
    rw [chain_nil ho hw]
    simp [Region.wanted, hw]
  | some p =>
    obtain ⟨j, q⟩ := p
    obtain ⟨hji, d, hd, huniq⟩ := guard_spec hg ho hw
    have hch := chain_cons hg ho hw
    rw [hch] at ht hD
    have hjD : j ∈ D := hD (j, q) List.mem_cons_self
    have hd' : (ops[j]?).bind (·.dst) = some d := hd
    simp only [gTold, List.all_cons, Bool.and_eq_true] at ht
    obtain ⟨ht1, _⟩ := ht
    simp only [hd', Option.map_some] at ht1
    have hyield : yielded ops a.tmps j = match a.tmps.getD d undef with | .bool b => some b | _ => none := by
      unfold yielded
      simp only [hd', Option.bind_some]
      cases hq : a.tmps[d]? with
      | none => simp [hq, undef]
      | some v =>
        have : a.tmps.getD d undef = v := by simp [hq]
        rw [this]
        cases v <;> rfl
    rw [hch, List.all_cons]
    simp only [Region.wanted, hw, hyield]
    cases hr : (chain ops j).all (litOf ops s.tmps) with
    | false =>
      rw [h.und j hjD d hd ⟨i, o, q, ho, hw⟩ hr]
      simp [undef]
    | true =>
      rw [Bool.and_true]
      unfold litOf
      simp only [hd', Option.map_some]
      rw [List.getD_eq_getElem?_getD] at ht1 ⊢
      cases hq : s.tmps[d]? with
      | none => rw [hq] at ht1; simp at ht1
      | some av =>
        rw [hq] at ht1
        simp only [Option.getD_some] at ht1 ⊢
        split at ht1
        · rename_i b hb
          cases hb
          have := h.rel d _ hq (fun c v e => nomatch e)
          generalize a.tmps.getD d undef = z at this ⊢
          cases this
          cases b <;> cases q <;> rfl
        · rename_i c b hb
          cases hb
          have hc : c = chain ops j := by simpa [chain] using ht1
          have := (h.when_ d c _ hq).1 (by rw [hc]; exact hr)
          generalize a.tmps.getD d undef = z at this ⊢
          cases this
          cases b <;> cases q <;> rfl
        · cases ht1

end
end Go.Ab

namespace Go.Ab
section
variable {U : Nat → Type} {T : Tab U} {C : Callee U} {n : Nat} {P : Program}

def wrs (H : Heap U) (W : List (Nat × Obj U)) : Heap U := W.foldl (fun H p => H.set p.1 p.2) H

theorem wrs_len : ∀ (W : List (Nat × Obj U)) (H : Heap U), (wrs H W).length = H.length
  | [], _ => rfl
  | p :: W, H => by
    have := wrs_len W (H.set p.1 p.2)
    simpa [wrs] using this

theorem wrs_cons (p : Nat × Obj U) (W : List (Nat × Obj U)) (H : Heap U) : wrs H (p :: W) = wrs (H.set p.1 p.2) W := rfl

theorem wrs_append (V : List (Nat × Obj U)) : ∀ (W : List (Nat × Obj U)) (H : Heap U), wrs H (W ++ V) = wrs (wrs H W) V
  | [], _ => rfl
  | p :: W, H => by rw [List.cons_append, wrs_cons, wrs_cons, wrs_append V W]

theorem wrs_out {id : Nat} : ∀ (W : List (Nat × Obj U)) (H : Heap U), id ∉ W.map (·.1) → (wrs H W)[id]? = H[id]?
  | [], _, _ => rfl
  | p :: W, H, h => by
    simp only [List.map_cons, List.mem_cons, not_or] at h
    rw [wrs_cons, wrs_out W _ h.2, List.getElem?_set_ne (Ne.symm h.1)]

theorem wrs_in {id : Nat} : ∀ (W : List (Nat × Obj U)) (H H' : Heap U), id ∈ W.map (·.1) → H.length = H'.length → (wrs H W)[id]? = (wrs H' W)[id]?
  | [], _, _, h, _ => by simp at h
  | p :: W, H, H', h, hl => by
    rw [wrs_cons, wrs_cons]
    by_cases hw : id ∈ W.map (·.1)
    · exact wrs_in W _ _ hw (by simpa using hl)
    · rw [wrs_out W _ hw, wrs_out W _ hw]
      have : id = p.1 := by simpa [hw] using h
      subst this
      rw [List.getElem?_set, List.getElem?_set, hl]
      simp

/-- Agreement is kept. -/
theorem wrs_agree {H H' : Heap U} (W : List (Nat × Obj U)) {id : Nat} (hl : H.length = H'.length) (h : H'[id]? = H[id]?) : (wrs H' W)[id]? = (wrs H W)[id]? := by
  by_cases hw : id ∈ W.map (·.1)
  · exact wrs_in W _ _ hw hl.symm
  · rw [wrs_out W _ hw, wrs_out W _ hw, h]

theorem wrs_comm {H : Heap U} {W V : List (Nat × Obj U)} (h : ∀ id, id ∈ W.map (·.1) → id ∉ V.map (·.1)) : wrs (wrs H W) V = wrs (wrs H V) W := by
  apply List.ext_getElem?
  intro id
  by_cases hw : id ∈ W.map (·.1)
  · rw [wrs_out V _ (h id hw), wrs_in W H (wrs H V) hw (by rw [wrs_len])]
  · by_cases hv : id ∈ V.map (·.1)
    · rw [wrs_out W _ hw, wrs_in V (wrs H W) H hv (by rw [wrs_len])]
    · rw [wrs_out V _ hv, wrs_out W _ hw, wrs_out W _ hw, wrs_out V _ hv]

/-- What is done hangs on what is looked at alone, and writes what it says. -/
def Local (g : Option Bool) (need : List Nat) (f : (R : Type) → Heap U → Kont U R → Option R) (H : Heap U) : Prop :=
  (∀ R k, f R H k = none) ∨ ∃ v W ft, ft.al = false ∧ ft.all = false ∧ (∀ id ∈ need, id ∈ ft.rd ∨ id ∈ ft.wr) ∧ (g ≠ none → W = []) ∧ (∀ p ∈ W, p.1 ∈ ft.wr) ∧
    ∀ H' : Heap U, H'.length = H.length → (∀ id, id ∈ ft.rd ∨ id ∈ ft.wr → H'[id]? = H[id]?) → ∀ R k, f R H' k = k v (wrs H' W) ft

section
variable {g : Option Bool} {need : List Nat} {H : Heap U}

theorem Local.none : Local g need (fun _ _ _ => Option.none) H := .inl fun _ _ => rfl

theorem Local.ret {v : AV U} {ft : Foot} (h1 : ft.al = false) (h2 : ft.all = false) (h3 : ∀ id ∈ need, id ∈ ft.rd ∨ id ∈ ft.wr) : Local g need (fun _ H k => k v H ft) H :=
  .inr ⟨v, [], ft, h1, h2, h3, fun _ => rfl, fun p hp => by simp at hp, fun _ _ _ _ _ => rfl⟩

theorem Local.nil {v : AV U} {ft : Foot} (h1 : ft.al = false) (h2 : ft.all = false) : Local g [] (fun _ H k => k v H ft) H := Local.ret h1 h2 (fun _ h => by simp at h)

theorem Local.bad : Local g [] (fun _ H k => bad (real T C n) g H k) H := by
  cases g with
  | none => exact .inl fun _ _ => rfl
  | some b =>
    cases b with
    | true => exact .inl fun _ _ => rfl
    | false => exact Local.nil rfl rfl

theorem Local.badAt {ft : Foot} (h1 : ft.al = false) (h2 : ft.all = false) (h3 : ∀ id ∈ need, id ∈ ft.rd ∨ id ∈ ft.wr) : Local g need (fun _ H k => badAt (real T C n) g ft H k) H := by
  cases g with
  | none => exact .inl fun _ _ => rfl
  | some b =>
    cases b with
    | true => exact .inl fun _ _ => rfl
    | false => exact Local.ret h1 h2 h3

theorem Local.chk {c : Bool} {f : (R : Type) → Heap U → Kont U R → Option R} (h : Local g need f H) : Local g need (fun R H k => chk (real T C n) g c (f R H k)) H := by
  have key : (∀ (R : Type) (x : Option R), Ab.chk (real T C n) g c x = x) ∨ (∀ (R : Type) (x : Option R), Ab.chk (real T C n) g c x = Option.none) := by
    cases g with
    | none => cases c <;> simp [Ab.chk, real]
    | some b => cases b <;> cases c <;> simp [Ab.chk, real]
  rcases key with key | key
  · simp only [key]; exact h
  · simp only [key]; exact Local.none

/-- What lies at a place of the heap is looked at. -/
theorem Local.get {id : Nat} {F : Option (Obj U) → (R : Type) → Heap U → Kont U R → Option R} (h : Local g (id :: need) (F (H[id]?)) H) : Local g need (fun R H k => F (H[id]?) R H k) H := by
  rcases h with h | ⟨v, W, ft, h1, h2, h3, h4, h5, h6⟩
  · exact .inl h
  · refine .inr ⟨v, W, ft, h1, h2, fun i hi => h3 i (List.mem_cons_of_mem _ hi), h4, h5, fun H' hl hag R k => ?_⟩
    show F (H'[id]?) R H' k = _
    rw [hag id (h3 id List.mem_cons_self)]
    exact h6 H' hl hag R k

theorem Local.weak {need' : List Nat} {f : (R : Type) → Heap U → Kont U R → Option R} (h : Local g need f H) (hs : ∀ id ∈ need', id ∈ need) : Local g need' f H := by
  rcases h with h | ⟨v, W, ft, h1, h2, h3, h4, h5, h6⟩
  · exact .inl h
  · exact .inr ⟨v, W, ft, h1, h2, fun i hi => h3 i (hs i hi), h4, h5, h6⟩

/-- One place is written. -/
theorem Local.set {v : AV U} {ft : Foot} {id : Nat} {ob : Obj U} (hg : g = Option.none) (h1 : ft.al = false) (h2 : ft.all = false) (h3 : ∀ i ∈ need, i ∈ ft.rd ∨ i ∈ ft.wr) (h4 : id ∈ ft.wr) :
    Local g need (fun _ H k => k v (H.set id ob) ft) H :=
  .inr ⟨v, [(id, ob)], ft, h1, h2, h3, fun e => absurd hg e, fun p hp => by simp at hp; subst hp; exact h4, fun _ _ _ _ _ => rfl⟩

end

theorem intOpK_local {g : Option Bool} {op : BinOp} {kd : IntKind} {a b : Int} {H : Heap U} : Local g [] (fun _ H k => intOpK (real T C n) g op kd a b H k) H := by
  cases op <;> simp only [intOpK] <;> first | exact Local.nil rfl rfl | exact Local.chk (Local.nil rfl rfl) | exact Local.bad

theorem strOpK_local {g : Option Bool} {op : BinOp} {a b : ByteArray} {H : Heap U} : Local g [] (fun _ H k => strOpK (real T C n) g op a b H k) H := by
  cases op <;> simp only [strOpK] <;> first | exact Local.nil rfl rfl | exact Local.chk (Local.nil rfl rfl) | exact Local.bad

theorem nilK_local {g : Option Bool} (hg : g ≠ none) {need : List Nat} {neg : Bool} {c : Cd} {L : List (den U c)} {ft : Foot} {H : Heap U} (h1 : ft.al = false) (h2 : ft.all = false) (h3 : ∀ id ∈ need, id ∈ ft.rd ∨ id ∈ ft.wr) :
    Local g need (fun _ H k => nilK (real T C n) g neg c L H ft k) H := by
  cases g with
  | none => exact absurd rfl hg
  | some b => simp only [nilK]; exact Local.badAt h1 h2 h3

theorem eqK_local {nd : Bool} {d : Option TypeDesc} {g : Option Bool} (hg : nd = true → g ≠ none) {neg : Bool} {x y : AV U} {H : Heap U} : Local g [] (fun _ H k => eqK (real T C n) nd d g neg x y H k) H := by
  unfold eqK
  split
  · split
    · exact Local.nil rfl rfl
    · exact Local.bad
  · split
    · exact Local.nil rfl rfl
    · exact Local.nil rfl rfl
    · exact Local.bad
  · split
    · exact Local.nil rfl rfl
    · split
      · rename_i h; exact nilK_local (hg h) rfl rfl (by simp)
      · exact Local.bad
    · rename_i id ver
      refine Local.get (id := id) (F := fun ob R H k => match ob with
        | some (.arr c L ver' _) => if ver' = ver ∧ nd then nilK (real T C n) g neg c L H { rd := [id] } k else badAt (real T C n) g { rd := [id] } H k
        | _ => badAt (real T C n) g { rd := [id] } H k) ?_
      split
      · rename_i c L ver' wr _
        by_cases hv : ver' = ver ∧ nd = true
        · simp only [if_pos hv]
          exact nilK_local (hg hv.2) rfl rfl (by simp)
        · simp only [if_neg hv]
          exact Local.badAt rfl rfl (by simp)
      · exact Local.badAt rfl rfl (by simp)
    · exact Local.bad
  · exact Local.bad

theorem binK_local {nd : Bool} {d : Option TypeDesc} {g : Option Bool} (hg : nd = true → g ≠ none) {op : BinOp} {x y : AV U} {H : Heap U} : Local g [] (fun _ H k => binK (real T C n) nd d g op x y H k) H := by
  unfold binK
  split
  · split
    · split
      · exact Local.chk (Local.nil rfl rfl)
      · exact Local.chk (Local.nil rfl rfl)
      · split
        · exact intOpK_local
        · exact Local.bad
    · exact Local.bad
  · split
    · exact strOpK_local
    · exact Local.bad
  · split
    · exact eqK_local hg
    · exact eqK_local hg
    · exact Local.bad

theorem unK_local {g : Option Bool} {op : UnOp} {x : AV U} {H : Heap U} : Local g [] (fun _ H k => unK (real T C n) g op x H k) H := by
  unfold unK
  split
  · exact Local.nil rfl rfl
  · exact Local.nil rfl rfl
  · exact Local.bad

theorem pickK_local {g : Option Bool} {c a b : AV U} {H : Heap U} : Local g [] (fun _ H k => pickK (real T C n) g c a b H k) H := by
  unfold pickK
  split
  · exact Local.nil rfl rfl
  · split
    · exact Local.nil rfl rfl
    · exact Local.bad
  · exact Local.bad

theorem loadK_local {e : Env U} (ho : e.o = real T C n) {g : Option Bool} {t : TypeId} {a : AV U} {H : Heap U} : Local g [] (fun _ H k => loadK e g t a H k) H := by
  have hbad : ∀ (need : List Nat), (∀ id ∈ need, id ∈ adrs a) → Local g need (fun _ H k => badAt e.o g { rd := adrs a } H k) H := by
    intro need h
    rw [ho]
    exact Local.badAt rfl rfl (fun id hi => .inl (h id hi))
  have hpart : ∀ (cs : List (AV U)) (off : Nat) (ft : Foot) (need : List Nat), ft.al = false → ft.all = false → (∀ id ∈ need, id ∈ ft.rd) → (∀ id ∈ need, id ∈ adrs a) →
      Local g need (fun _ H k => match part? e.P t cs off with | some v => k v H ft | none => badAt e.o g { rd := adrs a } H k) H := by
    intro cs off ft need h1 h2 h3 h4
    split
    · exact Local.ret h1 h2 (fun id hi => .inl (h3 id hi))
    · exact hbad need h4
  unfold loadK
  cases a with
  | ptr id off =>
    simp only [cellsAt]
    refine Local.get (id := id) (F := fun ob _ H k => match (match ob with | some (.cells cs) => some (cs, off, ({ rd := [id] } : Foot)) | _ => none) with
      | some (cs, off, ft) => (match part? e.P t cs off with | some v => k v H ft | none => badAt e.o g { rd := adrs (.ptr id off : AV U) } H k)
      | none => badAt e.o g { rd := adrs (.ptr id off : AV U) } H k) ?_
    split
    · rename_i hq
      split at hq
      · cases hq
        exact hpart _ _ _ _ rfl rfl (by simp) (by simp [adrs])
      · cases hq
    · exact hbad _ (by simp [adrs])
  | aptr id ver i off =>
    simp only [cellsAt]
    refine Local.get (id := id) (F := fun ob _ H k => match (match ob with | some (.arr c L ver' _) => if ver' = ver then some (cellsOf e.T c (e.o.get c L i), off, ({ rd := [id] } : Foot)) else none | _ => none) with
      | some (cs, off, ft) => (match part? e.P t cs off with | some v => k v H ft | none => badAt e.o g { rd := adrs (.aptr id ver i off : AV U) } H k)
      | none => badAt e.o g { rd := adrs (.aptr id ver i off : AV U) } H k) ?_
    split
    · rename_i hq
      split at hq
      · split at hq
        · cases hq
          exact hpart _ _ _ _ rfl rfl (by simp) (by simp [adrs])
        · cases hq
      · cases hq
    · exact hbad _ (by simp [adrs])
  | fptr cs off =>
    simp only [cellsAt]
    exact hpart cs off {} [] rfl rfl (by simp) (by simp)
  | _ => simp only [cellsAt]; exact hbad [] (by simp)

/-- Values made plain: what is looked at. -/
theorem purify1_local {H H1 : Heap U} {v v' : AV U} {ids : List Nat} (h : purify1 H v = some (v', H1, ids)) :
    ∃ W : List (Nat × Obj U), H1 = wrs H W ∧ W.map (·.1) = ids ∧ (∀ id ∈ ids, id ∈ sls1 v) ∧ ∀ H' : Heap U, (∀ id ∈ sls1 v, H'[id]? = H[id]?) → purify1 H' v = some (v', wrs H' W, ids) := by
  cases v with
  | sl id ver =>
    unfold purify1 at h
    simp only at h
    split at h
    · rename_i c L ver' w ho
      split at h
      · rename_i hv
        subst hv
        split at h
        · rename_i hw
          cases h
          refine ⟨[(id, .arr c L ver' false)], rfl, rfl, by simp [sls1], fun H' hag => ?_⟩
          have := hag id (by simp [sls1])
          simp [purify1, this, ho, hw, wrs]
        · rename_i hw
          cases h
          refine ⟨[], rfl, rfl, by simp, fun H' hag => ?_⟩
          have := hag id (by simp [sls1])
          simp [purify1, this, ho, hw, wrs]
      · cases h
    · cases h
  | agg cs => simp [purify1] at h
  | tuple cs => simp [purify1] at h
  | when c u => simp [purify1] at h
  | _ =>
    unfold purify1 at h
    cases h
    exact ⟨[], rfl, rfl, by simp, fun H' _ => rfl⟩

theorem purifyL_local : ∀ {cs cs' : List (AV U)} {H H1 : Heap U} {ids : List Nat}, purifyL H cs = some (cs', H1, ids) →
    ∃ W : List (Nat × Obj U), H1 = wrs H W ∧ W.map (·.1) = ids ∧ (∀ id ∈ ids, id ∈ cs.flatMap sls1) ∧ ∀ H' : Heap U, H'.length = H.length → (∀ id ∈ cs.flatMap sls1, H'[id]? = H[id]?) → purifyL H' cs = some (cs', wrs H' W, ids)
  | [], _, H, H1, ids, h => by
    simp only [purifyL, Option.some.injEq, Prod.mk.injEq] at h
    obtain ⟨rfl, rfl, rfl⟩ := h
    exact ⟨[], rfl, rfl, by simp, fun H' _ _ => rfl⟩
  | v :: cs, cs', H, H1, ids, h => by
    simp only [purifyL] at h
    split at h
    · cases h
    · rename_i v' H2 ids1 h1
      split at h
      · cases h
      · rename_i cs1 H3 ids2 h2
        cases h
        obtain ⟨W1, rfl, e1, s1, a1⟩ := purify1_local h1
        obtain ⟨W2, rfl, e2, s2, a2⟩ := purifyL_local h2
        refine ⟨W1 ++ W2, (wrs_append W2 W1 H).symm, by simp [e1, e2], fun id hi => ?_, fun H' hl hag => ?_⟩
        · simp only [List.flatMap_cons, List.mem_append]
          rcases List.mem_append.1 hi with hi | hi
          · exact .inl (s1 id hi)
          · exact .inr (s2 id hi)
        · simp only [List.flatMap_cons, List.mem_append] at hag
          have q1 := a1 H' (fun id hi => hag id (.inl hi))
          have q2 := a2 (wrs H' W1) (by simp [wrs_len, hl]) (fun id hi => wrs_agree W1 hl.symm (hag id (.inr hi)))
          simp only [purifyL, q1, q2, wrs_append]

theorem purify_local {v v' : AV U} {H H1 : Heap U} {ids : List Nat} (h : purify H v = some (v', H1, ids)) :
    ∃ W : List (Nat × Obj U), H1 = wrs H W ∧ W.map (·.1) = ids ∧ (∀ id ∈ ids, id ∈ sls v) ∧ ∀ H' : Heap U, H'.length = H.length → (∀ id ∈ sls v, H'[id]? = H[id]?) → purify H' v = some (v', wrs H' W, ids) := by
  cases v with
  | agg cs =>
    simp only [purify] at h
    split at h
    · rename_i cs' H2 ids' hp
      cases h
      obtain ⟨W, q1, q2, q3, q4⟩ := purifyL_local hp
      refine ⟨W, q1, q2, q3, fun H' hl hag => ?_⟩
      simp only [purify, q4 H' hl hag]
    · cases h
  | _ =>
    simp only [purify] at h ⊢
    obtain ⟨W, q1, q2, q3, q4⟩ := purify1_local h
    exact ⟨W, q1, q2, q3, fun H' _ hag => q4 H' hag⟩

theorem purify1_none {H H' : Heap U} {v : AV U} (hag : ∀ id ∈ sls1 v, H'[id]? = H[id]?) (h : purify1 H v = none) : purify1 H' v = none := by
  cases v with
  | sl id ver =>
    have := hag id (by simp [sls1])
    unfold purify1 at h ⊢
    simp only at h ⊢
    rw [this]
    split at h
    · split at h
      · split at h <;> cases h
      · rename_i hv; rw [if_neg hv]
    · rfl
  | agg cs => rfl
  | tuple cs => rfl
  | when c u => rfl
  | _ => unfold purify1 at h; cases h

theorem purifyL_none : ∀ {cs : List (AV U)} {H H' : Heap U}, H'.length = H.length → (∀ id ∈ cs.flatMap sls1, H'[id]? = H[id]?) → purifyL H cs = none → purifyL H' cs = none
  | [], H, H', _, _, h => by simp [purifyL] at h
  | v :: cs, H, H', hl, hag, h => by
    simp only [List.flatMap_cons, List.mem_append] at hag
    simp only [purifyL] at h ⊢
    split at h
    · rename_i h1
      rw [purify1_none (fun id hi => hag id (.inl hi)) h1]
    · rename_i v' H1 ids1 h1
      obtain ⟨W1, rfl, e1, s1, a1⟩ := purify1_local h1
      rw [a1 H' (fun id hi => hag id (.inl hi))]
      split at h
      · rename_i h2
        simp only
        rw [purifyL_none (by simp [wrs_len, hl]) (fun id hi => wrs_agree W1 hl.symm (hag id (.inr hi))) h2]
      · cases h

theorem purify_none {v : AV U} {H H' : Heap U} (hl : H'.length = H.length) (hag : ∀ id ∈ sls v, H'[id]? = H[id]?) (h : purify H v = none) : purify H' v = none := by
  cases v with
  | agg cs =>
    simp only [purify] at h ⊢
    split at h
    · cases h
    · rename_i h1
      rw [purifyL_none hl hag h1]
  | _ =>
    simp only [purify] at h ⊢
    exact purify1_none hag h

theorem typed_local : ∀ {pc : List Cd} {vs : List (AV U)} {H H1 : Heap U} {xs : List (Σ c, den U c)} {ids : List Nat}, typed T pc vs H = some (xs, H1, ids) →
    ∃ W : List (Nat × Obj U), H1 = wrs H W ∧ W.map (·.1) = ids ∧ (∀ id ∈ ids, id ∈ slsL vs) ∧ ∀ H' : Heap U, H'.length = H.length → (∀ id ∈ slsL vs, H'[id]? = H[id]?) → typed T pc vs H' = some (xs, wrs H' W, ids)
  | [], [], H, H1, xs, ids, h => by
    simp only [typed, Option.some.injEq, Prod.mk.injEq] at h
    obtain ⟨rfl, rfl, rfl⟩ := h
    exact ⟨[], rfl, rfl, by simp, fun H' _ _ => rfl⟩
  | c :: pc, v :: vs, H, H1, xs, ids, h => by
    simp only [typed] at h
    split at h
    · cases h
    · rename_i v' H2 ids1 h1
      split at h
      · cases h
      · rename_i x0 hx0
        split at h
        · cases h
        · rename_i xs1 H3 ids2 h3
          cases h
          obtain ⟨W1, rfl, e1, s1, a1⟩ := purify_local h1
          obtain ⟨W2, rfl, e2, s2, a2⟩ := typed_local h3
          refine ⟨W1 ++ W2, (wrs_append W2 W1 H).symm, by simp [e1, e2], fun id hi => ?_, fun H' hl hag => ?_⟩
          · simp only [slsL, List.flatMap_cons, List.mem_append]
            rcases List.mem_append.1 hi with hi | hi
            · exact .inl (s1 id hi)
            · exact .inr (s2 id hi)
          · simp only [slsL, List.flatMap_cons, List.mem_append] at hag
            have q1 := a1 H' hl (fun id hi => hag id (.inl hi))
            have q2 := a2 (wrs H' W1) (by simp [wrs_len, hl]) (fun id hi => wrs_agree W1 hl.symm (hag id (.inr hi)))
            simp only [typed, q1, hx0, q2, wrs_append]
  | [], _ :: _, _, _, _, _, h => by simp [typed] at h
  | _ :: _, [], _, _, _, _, h => by simp [typed] at h

theorem typed_none : ∀ {pc : List Cd} {vs : List (AV U)} {H H' : Heap U}, H'.length = H.length → (∀ id ∈ slsL vs, H'[id]? = H[id]?) → typed T pc vs H = none → typed T pc vs H' = none
  | [], [], H, H', _, _, h => by simp [typed] at h
  | c :: pc, v :: vs, H, H', hl, hag, h => by
    simp only [slsL, List.flatMap_cons, List.mem_append] at hag
    simp only [typed] at h ⊢
    split at h
    · rename_i h1
      rw [purify_none hl (fun id hi => hag id (.inl hi)) h1]
    · rename_i v' H1 ids1 h1
      obtain ⟨W1, rfl, e1, s1, a1⟩ := purify_local h1
      rw [a1 H' hl (fun id hi => hag id (.inl hi))]
      simp only
      split at h
      · rfl
      · split at h
        · rename_i h3
          rw [typed_none (by simp [wrs_len, hl]) (fun id hi => wrs_agree W1 hl.symm (hag id (.inr hi))) h3]
        · cases h
  | [], _ :: _, _, _, _, _, _ => by simp [typed]
  | _ :: _, [], _, _, _, _, _ => by simp [typed]

theorem elemsA_local {c : Cd} : ∀ {vs : List (AV U)} {H H1 : Heap U} {xs : List (den U c)} {ids : List Nat}, elemsA T c vs H = some (xs, H1, ids) →
    ∃ W : List (Nat × Obj U), H1 = wrs H W ∧ W.map (·.1) = ids ∧ (∀ id ∈ ids, id ∈ slsL vs) ∧ ∀ H' : Heap U, H'.length = H.length → (∀ id ∈ slsL vs, H'[id]? = H[id]?) → elemsA T c vs H' = some (xs, wrs H' W, ids)
  | [], H, H1, xs, ids, h => by
    simp only [elemsA, Option.some.injEq, Prod.mk.injEq] at h
    obtain ⟨rfl, rfl, rfl⟩ := h
    exact ⟨[], rfl, rfl, by simp, fun H' _ _ => rfl⟩
  | v :: vs, H, H1, xs, ids, h => by
    simp only [elemsA] at h
    split at h
    · cases h
    · rename_i v' H2 ids1 h1
      split at h
      · cases h
      · rename_i x0 hx0
        split at h
        · cases h
        · rename_i xs1 H3 ids2 h3
          cases h
          obtain ⟨W1, rfl, e1, s1, a1⟩ := purify_local h1
          obtain ⟨W2, rfl, e2, s2, a2⟩ := elemsA_local h3
          refine ⟨W1 ++ W2, (wrs_append W2 W1 H).symm, by simp [e1, e2], fun id hi => ?_, fun H' hl hag => ?_⟩
          · simp only [slsL, List.flatMap_cons, List.mem_append]
            rcases List.mem_append.1 hi with hi | hi
            · exact .inl (s1 id hi)
            · exact .inr (s2 id hi)
          · simp only [slsL, List.flatMap_cons, List.mem_append] at hag
            have q1 := a1 H' hl (fun id hi => hag id (.inl hi))
            have q2 := a2 (wrs H' W1) (by simp [wrs_len, hl]) (fun id hi => wrs_agree W1 hl.symm (hag id (.inr hi)))
            simp only [elemsA, q1, hx0, q2, wrs_append]

end
end Go.Ab

namespace Go.Ab
section
variable {U : Nat → Type} {T : Tab U} {C : Callee U} {n : Nat} {P : Program}

/-- Something that hangs on some places alone is looked at. -/
theorem Local.read {g : Option Bool} {need : List Nat} {H : Heap U} {β : Type} {q : Heap U → β} {ids : List Nat} {F : β → (R : Type) → Heap U → Kont U R → Option R}
    (hq : ∀ H' : Heap U, H'.length = H.length → (∀ id ∈ ids, H'[id]? = H[id]?) → q H' = q H) (h : Local g (ids ++ need) (F (q H)) H) : Local g need (fun R H k => F (q H) R H k) H := by
  rcases h with h | ⟨v, W, ft, h1, h2, h3, h4, h5, h6⟩
  · exact .inl h
  · refine .inr ⟨v, W, ft, h1, h2, fun i hi => h3 i (List.mem_append_right _ hi), h4, h5, fun H' hl hag R k => ?_⟩
    show F (q H') R H' k = _
    rw [hq H' hl fun id hid => hag id (h3 id (List.mem_append_left _ hid))]
    exact h6 H' hl hag R k

theorem Local.more {g : Option Bool} {need rd0 : List Nat} {H : Heap U} {f : (R : Type) → Heap U → Kont U R → Option R} (h : Local g [] f H) (hn : ∀ id ∈ need, id ∈ rd0) :
    Local g need (fun R H k => f R H fun v H ft => k v H (ft.or { rd := rd0 })) H := by
  rcases h with h | ⟨v, W, ft, h1, h2, h3, h4, h5, h6⟩
  · exact .inl fun R k => h R _
  · refine .inr ⟨v, W, ft.or { rd := rd0 }, by simp [Foot.or, h1], by simp [Foot.or, h2], fun i hi => .inl (by simp [Foot.or, hn i hi]), h4, fun p hp => by simp [Foot.or, h5 p hp], fun H' hl hag R k => ?_⟩
    refine h6 H' hl (fun id hid => hag id ?_) R _
    rcases hid with hid | hid
    · exact .inl (by simp [Foot.or, hid])
    · exact .inr (by simp [Foot.or, hid])

/-- Writes that are made from what is looked at. -/
theorem Local.writes {need : List Nat} {H : Heap U} {v : AV U} {W : List (Nat × Obj U)} {ft : Foot} {f : (R : Type) → Heap U → Kont U R → Option R} (h1 : ft.al = false) (h2 : ft.all = false)
    (h3 : ∀ id ∈ need, id ∈ ft.rd ∨ id ∈ ft.wr) (h5 : ∀ id ∈ W.map (·.1), id ∈ ft.wr)
    (hf : ∀ H' : Heap U, H'.length = H.length → (∀ id, id ∈ ft.rd ∨ id ∈ ft.wr → H'[id]? = H[id]?) → ∀ R k, f R H' k = k v (wrs H' W) ft) : Local Option.none need f H :=
  .inr ⟨v, W, ft, h1, h2, h3, fun e => absurd rfl e, fun p hp => h5 p.1 (List.mem_map.2 ⟨p, hp, rfl⟩), hf⟩

theorem newK_local {id : Nat} {ob : Obj U} {v : Nat → AV U} {H : Heap U} : Local none [] (fun _ H k => newK (some id) ob v H k) H := by
  unfold newK
  refine Local.get (id := id) (F := fun o _ H k => match o with | some .hole => k (v id) (H.set id ob) { wr := [id] } | _ => none) ?_
  split
  · exact Local.set rfl rfl rfl (by simp) (by simp)
  · exact Local.none

theorem allocK_local {e : Env U} {id : Nat} {t : TypeId} {H : Heap U} : Local none [] (fun _ H k => allocK e (some id) t H k) H := by
  unfold allocK
  split
  · exact newK_local
  · exact Local.none

theorem boxK_local {e : Env U} {id : Nat} {v : AV U} {H : Heap U} : Local none [] (fun _ H k => boxK e (some id) v H k) H := by
  unfold boxK
  split
  · exact newK_local
  · exact Local.none

theorem makeMapK_local {e : Env U} {id : Nat} {t : TypeId} {H : Heap U} : Local none [] (fun _ H k => makeMapK e (some id) t H k) H := by
  unfold makeMapK
  split
  · exact newK_local
  · exact Local.none

theorem makeSliceK_local {e : Env U} (ho : e.o = real T C n) {id : Nat} {plain same : Bool} {t : TypeId} {v : AV U} {H : Heap U} : Local none [] (fun _ H k => makeSliceK e (some id) plain t same v H k) H := by
  unfold makeSliceK
  rw [ho]
  split
  · split
    · exact Local.none
    · split
      · refine Local.chk ?_
        split
        · exact Local.nil rfl rfl
        · exact newK_local
      · exact Local.none
  · exact Local.none

theorem buildK_local {e : Env U} (ho : e.o = real T C n) {g : Option Bool} {t : TypeId} {parts : List (Nat × AV U)} {H : Heap U} : Local g [] (fun _ H k => buildK e g t parts H k) H := by
  unfold buildK
  rw [ho]
  split
  · split
    · split
      · exact Local.nil rfl rfl
      · exact Local.bad
    · exact Local.bad
  · exact Local.bad

theorem may_heap (s : St U) (H : Heap U) (id off : Nat) : St.may { s with heap := H } id off = s.may id off := rfl

theorem mays_heap (s : St U) (H : Heap U) (ids : List Nat) : mays { s with heap := H } ids = mays s ids := rfl

theorem mayAll_heap (s : St U) (H : Heap U) (id off : Nat) : ∀ m, mayAll { s with heap := H } id off m = mayAll s id off m
  | 0 => rfl
  | m + 1 => by simp only [mayAll, mayAll_heap s H id off m]; rfl

theorem storeK_local {e : Env U} {t : TypeId} {a v : AV U} {s : St U} {H : Heap U} : Local none [] (fun _ H k => storeK e t a v { s with heap := H } k) H := by
  unfold storeK
  simp only [may_heap, mayAll_heap]
  split
  · split
    · rename_i id off
      refine Local.get (id := id) (F := fun o R H k => match o with
        | some (.cells cs) => if mayAll s id off v.cells.length then (match putCells cs off v.cells with | some cs' => k (.tuple []) (H.set id (.cells cs')) { wr := [id] } | none => none) else none
        | _ => none) ?_
      split
      · split
        · split
          · exact Local.set rfl rfl rfl (by simp) (by simp)
          · exact Local.none
        · exact Local.none
      · exact Local.none
    · rename_i id ver i off
      cases hp : purify H v with
      | none => exact .inl fun R k => by simp only [hp]
      | some q =>
        obtain ⟨v', H1, ids⟩ := q
        obtain ⟨W, rfl, e1, s1, a1⟩ := purify_local hp
        cases hob : (wrs H W)[id]? with
        | none => exact .inl fun R k => by simp only [hp, hob]
        | some ob =>
          cases ob with
          | arr c L ver' wr =>
            cases wr with
            | false => exact .inl fun R k => by simp only [hp, hob]
            | true =>
              by_cases hc : ver' = ver ∧ s.may id 0 = true ∧ ids.all (fun j => s.may j 0) = true
              · cases hpc : putCells (cellsOf e.T c (e.o.get c L i)) off v'.cells with
                | none => exact .inl fun R k => by simp only [hp, hob]; refine Eq.trans (if_pos hc) ?_; simp only [hpc]
                | some cs' =>
                  cases hoc : ofCellsTo e.T c cs' with
                  | none => exact .inl fun R k => by simp only [hp, hob]; refine Eq.trans (if_pos hc) ?_; simp only [hpc, hoc]
                  | some x =>
                    refine Local.writes (v := .tuple []) (W := W ++ [(id, .arr c (e.o.set c L i x) ver true)]) (ft := { rd := sls v, wr := id :: ids }) rfl rfl (by simp) ?_ ?_
                    · intro j hj
                      rw [List.map_append, e1] at hj
                      rcases List.mem_append.1 hj with hj | hj
                      · exact List.mem_cons_of_mem _ hj
                      · simp at hj; subst hj; exact List.mem_cons_self
                    · intro H' hl hag R k
                      have q1 := a1 H' hl (fun j hj => hag j (.inl hj))
                      have q2 : (wrs H' W)[id]? = some (.arr c L ver' true) := by
                        rw [← hob]
                        exact wrs_agree W hl.symm (hag id (.inr List.mem_cons_self))
                      simp only [q1, q2]
                      refine Eq.trans (if_pos hc) ?_
                      simp only [hpc, hoc, wrs_append]
                      rfl
              · exact .inl fun R k => by simp only [hp, hob]; exact if_neg hc
          | _ => exact .inl fun R k => by simp only [hp, hob]
    · exact Local.none
  · exact Local.none

theorem buildSliceK_local {e : Env U} {t : TypeId} {m : Nat} {parts : List (Nat × AV U)} {s : St U} {H : Heap U} : Local none [] (fun _ H k => buildSliceK e t m parts { s with heap := H } k) H := by
  unfold buildSliceK
  simp only [mays_heap]
  split
  · exact Local.none
  · rename_i el c _
    split
    · exact Local.nil rfl rfl
    · split
      · exact Local.none
      · cases hp : elemsA e.T c (parts.map (·.2)) H with
        | none => exact .inl fun R k => by simp only [hp]
        | some q =>
          obtain ⟨xs, H1, ids⟩ := q
          obtain ⟨W, rfl, e1, s1, a1⟩ := elemsA_local hp
          by_cases hm : mays s ids = true
          · refine Local.writes (v := .fsl c xs .tight) (W := W) (ft := { rd := slsL (parts.map (·.2)), wr := ids }) rfl rfl (by simp) (by rw [e1]; exact fun _ h => h) ?_
            intro H' hl hag R k
            have q1 := a1 H' hl (fun j hj => hag j (.inl hj))
            simp only [q1]
            exact if_pos hm
          · exact .inl fun R k => by simp only [hp]; exact if_neg hm

theorem listOf_same {c : Cd} {H H' : Heap U} {x : AV U} (hag : ∀ id ∈ sls1 x, H'[id]? = H[id]?) : listOf c H' x = listOf c H x := by
  cases x with
  | sl id ver => simp only [listOf]; rw [hag id (by simp [sls1])]
  | _ => rfl

theorem listOf_rd {c : Cd} {H : Heap U} {x : AV U} {ys : List (den U c)} {rd : List Nat} (h : listOf c H x = some (ys, rd)) : ∀ id ∈ sls1 x, id ∈ rd := by
  cases x with
  | sl id ver =>
    unfold listOf at h
    simp only at h
    split at h
    · split at h
      · split at h
        · cases h; simp [sls1]
        · cases h
      · cases h
    · cases h
  | _ => intro i hi; simp [sls1] at hi

theorem appendK_local {e : Env U} (ho : e.o = real T C n) {id : Nat} {st xt : TypeId} {x y : AV U} {s : St U} {H : Heap U} : Local none [] (fun _ H k => appendK e (some id) st xt x y { s with heap := H } k) H := by
  unfold appendK
  rw [ho]
  simp only [may_heap]
  split
  · exact Local.none
  · rename_i el c _
    split
    · exact Local.none
    · refine Local.read (q := fun H => listOf c H y) (ids := sls1 y) (fun H' _ hag => listOf_same hag) (F := fun l R H k => match l with
        | none => none
        | some (ys, rd) =>
          match x with
          | .nilsl => chk (real T C n) none ((real T C n).fits (e.P.bytesOf el) 0 ((real T C n).len c ys)) (newK (some id) (.arr c ys 0 true) (fun id => .sl id 0) H fun v H ft => k v H (ft.or { rd }))
          | .fsl c' L .empty =>
            if h : c' = c then
              chk (real T C n) none ((real T C n).fits (e.P.bytesOf el) 0 ((real T C n).len c ys)) (newK (some id) (.arr c ((real T C n).app c (h ▸ L) ys) 0 true) (fun id => .sl id 0) H fun v H ft => k v H (ft.or { rd }))
            else none
          | .fsl c' L .tight =>
            if h : c' = c then
              chk (real T C n) none ((real T C n).fits (e.P.bytesOf el) ((real T C n).len c (h ▸ L)) ((real T C n).len c ys))
                (newK (some id) (.arr c ((real T C n).app c (h ▸ L) ys) 0 false) (fun id => .sl id 0) H fun v H ft => k v H (ft.or { rd }))
            else none
          | .sl id ver =>
            match H[id]? with
            | some (.arr c' L ver' w) =>
              if h : c' = c then
                if ver' = ver ∧ s.may id 0 then
                  chk (real T C n) none ((real T C n).fits (e.P.bytesOf el) ((real T C n).len c (h ▸ L)) ((real T C n).len c ys))
                    (k (.sl id (ver + 1)) (H.set id (.arr c ((real T C n).app c (h ▸ L) ys) (ver + 1) w)) { rd, wr := [id] })
                else none
              else none
            | _ => none
          | _ => none) ?_
      simp only [List.append_nil]
      split
      · exact Local.none
      · rename_i ys rd hlo
        have hrd := listOf_rd hlo
        split
        · exact Local.chk (Local.more newK_local hrd)
        · split
          · exact Local.chk (Local.more newK_local hrd)
          · exact Local.none
        · split
          · exact Local.chk (Local.more newK_local hrd)
          · exact Local.none
        · rename_i id' ver
          refine Local.get (id := id') (F := fun o R H k => match o with
            | some (.arr c' L ver' w) =>
              if h : c' = c then
                if ver' = ver ∧ s.may id' 0 then
                  chk (real T C n) none ((real T C n).fits (e.P.bytesOf el) ((real T C n).len c (h ▸ L)) ((real T C n).len c ys))
                    (k (.sl id' (ver + 1)) (H.set id' (.arr c ((real T C n).app c (h ▸ L) ys) (ver + 1) w)) { rd, wr := [id'] })
                else none
              else none
            | _ => none) ?_
          split
          · split
            · split
              · refine Local.chk (Local.set rfl rfl rfl ?_ (by simp))
                intro i hi
                rcases List.mem_cons.1 hi with rfl | hi
                · exact .inr (by simp)
                · exact .inl (hrd i hi)
              · exact Local.none
            · exact Local.none
          · exact Local.none
        · exact Local.none

end
end Go.Ab

namespace Go.Ab
section
variable {U : Nat → Type} {T : Tab U} {C : Callee U} {n : Nat} {P : Program}

theorem lenK_local {d : Option TypeDesc} {g : Option Bool} {x : AV U} {H : Heap U} : Local g [] (fun _ H k => lenK (real T C n) d g x H k) H := by
  unfold lenK
  split
  · split
    · exact Local.nil rfl rfl
    · exact Local.nil rfl rfl
    · rename_i id ver
      refine Local.get (id := id) (F := fun o _ H k => match o with
        | some (.arr c L ver' _) => if ver' = ver then k (.int .i64 ((real T C n).len c L)) H { rd := [id] } else badAt (real T C n) g { rd := [id] } H k
        | _ => badAt (real T C n) g { rd := [id] } H k) ?_
      split
      · split
        · exact Local.ret rfl rfl (by simp)
        · exact Local.badAt rfl rfl (by simp)
      · exact Local.badAt rfl rfl (by simp)
    · exact Local.bad
  · split
    · exact Local.nil rfl rfl
    · exact Local.bad
  · exact Local.bad

theorem minmaxK_local {mx : Bool} {g : Option Bool} {xs : List (AV U)} {H : Heap U} : Local g [] (fun _ H k => minmaxK (real T C n) g mx xs H k) H := by
  unfold minmaxK
  split
  · split
    · exact Local.nil rfl rfl
    · exact Local.bad
  · split
    · exact Local.nil rfl rfl
    · exact Local.bad
  · exact Local.bad

theorem arrayAtK_local {id off size : Nat} {i : Int} {H : Heap U} : ∀ m, Local none [] (fun _ H k => arrayAtK (real T C n) id off size i H k m) H
  | 0 => Local.none
  | m + 1 => by
    simp only [arrayAtK]
    have key : ∀ (R : Type) (x y : Option R), (real T C n).ite ((real T C n).eq i m) x y = if i = (m : Int) then x else y := by
      intro R x y
      by_cases h : i = (m : Int) <;> simp [real, h]
    simp only [key]
    by_cases h : i = (m : Int)
    · simp only [if_pos h]; exact Local.nil rfl rfl
    · simp only [if_neg h]; exact arrayAtK_local m

theorem indexAddrK_local {e : Env U} (ho : e.o = real T C n) {g : Option Bool} {t : TypeId} {x i : AV U} {H : Heap U} : Local g [] (fun _ H k => indexAddrK e g t x i H k) H := by
  unfold indexAddrK
  rw [ho]
  split
  · rename_i el _
    split
    · split
      · exact Local.chk (Local.nil rfl rfl)
      · exact Local.bad
    · rename_i id ver kd j
      refine Local.get (id := id) (F := fun o _ H k => match o with
        | some (.arr c L ver' _) =>
          if ver' = ver ∧ e.T.cd el = some c then chk (real T C n) g ((real T C n).band ((real T C n).le 0 j) ((real T C n).lt j ((real T C n).len c L))) (k (.aptr id ver j 0) H { rd := [id] }) else badAt (real T C n) g { rd := [id] } H k
        | _ => badAt (real T C n) g { rd := [id] } H k) ?_
      split
      · split
        · exact Local.chk (Local.ret rfl rfl (by simp))
        · exact Local.badAt rfl rfl (by simp)
      · exact Local.badAt rfl rfl (by simp)
    · exact Local.bad
  · split
    · cases g with
      | none =>
        simp only
        split
        · exact arrayAtK_local _
        · exact Local.none
      | some b => exact Local.bad
    · exact Local.bad
  · exact Local.bad

theorem indexK_local {e : Env U} (ho : e.o = real T C n) {g : Option Bool} {t : TypeId} {x i : AV U} {H : Heap U} : Local g [] (fun _ H k => indexK e g t x i H k) H := by
  unfold indexK
  rw [ho]
  split
  · exact Local.chk (Local.nil rfl rfl)
  · exact Local.bad

theorem fieldAddrK_local {g : Option Bool} {t : TypeId} {x : AV U} {f : Nat} {H : Heap U} : Local g [] (fun _ H k => fieldAddrK (real T C n) P g t x f H k) H := by
  unfold fieldAddrK
  split
  · split
    · split
      · exact Local.bad
      · split
        · exact Local.nil rfl rfl
        · exact Local.nil rfl rfl
        · exact Local.nil rfl rfl
        · exact Local.bad
    · exact Local.bad
  · exact Local.bad

theorem fieldK_local {g : Option Bool} {t : TypeId} {x : AV U} {f : Nat} {H : Heap U} : Local g [] (fun _ H k => fieldK (real T C n) P g t x f H k) H := by
  unfold fieldK
  split
  · split
    · split
      · exact Local.nil rfl rfl
      · exact Local.bad
    · exact Local.bad
  · exact Local.bad

theorem sliceFslK_local {g : Option Bool} {c : Cd} {L : List (den U c)} {sp : Sp} {lo hi mx : Option (AV U)} {ft : Foot} {H : Heap U} (h1 : ft.al = false) (h2 : ft.all = false) : Local g [] (fun _ H k => sliceFslK (real T C n) g c L sp lo hi mx H ft k) H := by
  unfold sliceFslK
  split
  · split
    · exact Local.chk (Local.nil h1 h2)
    · exact Local.bad
  · split
    · exact Local.chk (Local.nil h1 h2)
    · exact Local.bad

theorem sliceFslK_any {c : Cd} {L : List (den U c)} {sp : Sp} {lo hi mx : Option (AV U)} {ft : Foot} :
    (∀ R H (k : Kont U R), sliceFslK (real T C n) none c L sp lo hi mx H ft k = none) ∨ ∃ v, ∀ R H (k : Kont U R), sliceFslK (real T C n) none c L sp lo hi mx H ft k = k v H ft := by
  have key : ∀ b : Bool, (∀ R (x : Option R), chk (real T C n) none b x = none) ∨ (∀ R (x : Option R), chk (real T C n) none b x = x) := by
    intro b
    cases b
    · exact .inl fun R x => rfl
    · exact .inr fun R x => rfl
  unfold sliceFslK
  cases mx with
  | none =>
    simp only
    cases bound 0 lo with
    | none => exact .inl fun R H k => rfl
    | some l =>
      cases bound ((real T C n).len c L) hi with
      | none => exact .inl fun R H k => rfl
      | some h =>
        simp only
        rcases key ((real T C n).band ((real T C n).le 0 l) ((real T C n).band ((real T C n).le l h) ((real T C n).le h ((real T C n).len c L)))) with q | q
        · exact .inl fun R H k => q R _
        · exact .inr ⟨_, fun R H k => q R _⟩
  | some m =>
    simp only
    cases bound 0 lo with
    | none => exact .inl fun R H k => rfl
    | some l =>
      cases hi.bind fun h => bound 0 (some h) with
      | none => exact .inl fun R H k => rfl
      | some h =>
        cases bound 0 (some m) with
        | none => exact .inl fun R H k => rfl
        | some m =>
          simp only
          rcases key ((real T C n).band ((real T C n).le 0 l) ((real T C n).band ((real T C n).le l h) ((real T C n).band ((real T C n).eq h m) ((real T C n).le h ((real T C n).len c L))))) with q | q
          · exact .inl fun R H k => q R _
          · exact .inr ⟨_, fun R H k => q R _⟩

theorem sliceSlK_local {plain may : Bool} {id ver : Nat} {c : Cd} {L : List (den U c)} {w : Bool} {lo hi mx : Option (AV U)} {H : Heap U} :
    Local none [id] (fun _ H k => sliceSlK (real T C n) plain may id ver c L w lo hi mx H k) H := by
  unfold sliceSlK
  split
  · split
    · rcases sliceFslK_any (T := T) (C := C) (n := n) (c := c) (L := L) (sp := .unk) (lo := lo) (hi := hi) (mx := mx) (ft := if w then { wr := [id] } else { rd := [id] }) with q | ⟨v, q⟩
      · exact .inl fun R k => q R _ k
      · refine Local.writes (v := v) (W := if w then [(id, .arr c L ver false)] else []) (ft := if w then { wr := [id] } else { rd := [id] }) (by cases w <;> rfl) (by cases w <;> rfl) (by cases w <;> simp) (by cases w <;> simp) ?_
        intro H' _ _ R k
        rw [q]
        cases w <;> rfl
    · exact Local.none
  · split
    · split
      · exact Local.chk (Local.set rfl rfl rfl (by simp) (by simp))
      · exact Local.none
    · exact Local.none

theorem sliceK_local {e : Env U} (ho : e.o = real T C n) {g : Option Bool} {plain : Bool} {t : TypeId} {x : AV U} {lo hi mx : Option (AV U)} {s : St U} {H : Heap U} : Local g [] (fun _ H k => sliceK e g plain t x lo hi mx { s with heap := H } k) H := by
  unfold sliceK
  rw [ho]
  split
  · split
    · unfold sliceStrK
      split
      · exact Local.chk (Local.nil rfl rfl)
      · exact Local.bad
    · exact Local.bad
  · rename_i el _
    split
    · split
      · unfold sliceNilK
        split
        · exact Local.chk (Local.nil rfl rfl)
        · exact Local.bad
      · exact Local.bad
    · split
      · exact sliceFslK_local rfl rfl
      · exact Local.bad
    · rename_i id ver
      cases g with
      | some b => exact Local.bad
      | none =>
        simp only
        refine Local.get (id := id) (F := fun o R H k => match o with
          | some (.arr c L ver' w) => if ver' = ver ∧ e.T.cd el = some c then sliceSlK (real T C n) plain (s.may id 0) id ver c L w lo hi mx H k else none
          | _ => none) ?_
        split
        · split
          · exact sliceSlK_local
          · exact Local.none
        · exact Local.none
    · exact Local.bad
  · exact Local.bad

theorem convK_local {e : Env U} (ho : e.o = real T C n) {g : Option Bool} {src dst : TypeId} {x : AV U} {H : Heap U} : Local g [] (fun _ H k => convK e g src dst x H k) H := by
  unfold convK
  rw [ho]
  split
  · exact Local.nil rfl rfl
  · exact Local.nil rfl rfl
  · exact Local.bad

theorem nilCheckK_local {g : Option Bool} {v : AV U} {H : Heap U} : Local g [] (fun _ H k => nilCheckK (real T C n) g v H k) H := by
  unfold nilCheckK
  split
  · exact Local.nil rfl rfl
  · exact Local.nil rfl rfl
  · exact Local.nil rfl rfl
  · split
    · exact Local.nil rfl rfl
    · exact Local.bad
  · exact Local.bad

theorem extractK_local {g : Option Bool} {v : AV U} {i : Nat} {H : Heap U} : Local g [] (fun _ H k => extractK (real T C n) g v i H k) H := by
  unfold extractK
  split
  · split
    · exact Local.nil rfl rfl
    · exact Local.bad
  · exact Local.bad

theorem lookupK_local {e : Env U} (ho : e.o = real T C n) {g : Option Bool} {t : TypeId} {m key : AV U} {cok : Bool} {H : Heap U} : Local g [] (fun _ H k => lookupK e g t m key cok H k) H := by
  unfold lookupK
  rw [ho]
  split
  · rename_i kc vc id _
    refine Local.get (id := id) (F := fun o R H k => match o with
      | some (.mp kc' vc' M) =>
        if h : kc' = kc ∧ vc' = vc then
          match key.to e.T kc, zeroFor e t vc with
          | some x, some z =>
            let M' : List (den U kc × den U vc) := h.1 ▸ h.2 ▸ M
            let v := AV.of e.T vc ((real T C n).mget kc vc M' x z)
            k (if cok then .tuple [v, .bool ((real T C n).mhas kc vc M' x)] else v) H { rd := [id] }
          | _, _ => badAt (real T C n) g { rd := [id] } H k
        else badAt (real T C n) g { rd := [id] } H k
      | _ => badAt (real T C n) g { rd := [id] } H k) ?_
    split
    · split
      · split
        · exact Local.ret rfl rfl (by simp)
        · exact Local.badAt rfl rfl (by simp)
      · exact Local.badAt rfl rfl (by simp)
    · exact Local.badAt rfl rfl (by simp)
  · exact Local.bad

theorem mapUpdateK_local {e : Env U} {t : TypeId} {m key v : AV U} {s : St U} {H : Heap U} : Local none [] (fun _ H k => mapUpdateK e t m key v { s with heap := H } k) H := by
  unfold mapUpdateK
  split
  · rename_i kc vc id _
    cases hp : purify H v with
    | none => exact .inl fun R k => by simp only [hp]
    | some q =>
      obtain ⟨v', H1, ids⟩ := q
      obtain ⟨W, rfl, e1, s1, a1⟩ := purify_local hp
      cases hob : (wrs H W)[id]? with
      | none => exact .inl fun R k => by simp only [hp, hob]
      | some ob =>
        cases ob with
        | mp kc' vc' M =>
          by_cases hcc : kc' = kc ∧ vc' = vc
          · by_cases hm : s.may id 0 = true ∧ mays s ids = true
            · cases hx : key.to e.T kc with
              | none => exact .inl fun R k => by simp only [hp, hob]; rw [dif_pos hcc]; refine Eq.trans (if_pos hm) ?_; simp only [hx]
              | some x =>
                cases hy : v'.to e.T vc with
                | none => exact .inl fun R k => by simp only [hp, hob]; rw [dif_pos hcc]; refine Eq.trans (if_pos hm) ?_; simp only [hx, hy]
                | some y =>
                  refine Local.writes (v := .tuple []) (W := W ++ [(id, .mp kc vc (e.o.mset kc vc (hcc.1 ▸ hcc.2 ▸ M) x y))]) (ft := { rd := sls v, wr := id :: ids }) rfl rfl (by simp) ?_ ?_
                  · intro j hj
                    rw [List.map_append, e1] at hj
                    rcases List.mem_append.1 hj with hj | hj
                    · exact List.mem_cons_of_mem _ hj
                    · simp at hj; subst hj; exact List.mem_cons_self
                  · intro H' hl hag R k
                    have q1 := a1 H' hl (fun j hj => hag j (.inl hj))
                    have q2 : (wrs H' W)[id]? = some (.mp kc' vc' M) := by
                      rw [← hob]
                      exact wrs_agree W hl.symm (hag id (.inr List.mem_cons_self))
                    simp only [q1, q2]
                    rw [dif_pos hcc]
                    refine Eq.trans (if_pos hm) ?_
                    simp only [hx, hy, wrs_append]
                    rfl
            · exact .inl fun R k => by simp only [hp, hob]; rw [dif_pos hcc]; exact if_neg hm
          · exact .inl fun R k => by simp only [hp, hob]; rw [dif_neg hcc]
        | _ => exact .inl fun R k => by simp only [hp, hob]
  · exact Local.none

theorem pcallK_local {e : Env U} (ho : e.o = real T C n) {sl : Option Nat} {g : Option Bool} {f : FuncId} {args : List (AV U)} {s : St U} {H : Heap U} (hsl : (e.ann.slo f).isSome = true → g = none ∧ ∃ id, sl = some id) : Local g [] (fun _ H k => pcallK e sl g f args { s with heap := H } k) H := by
  unfold pcallK
  rw [ho]
  split
  · exact Local.none
  · split
    · exact Local.none
    · split
      · rename_i pc rc _ _
        cases hp : typed e.T pc args H with
        | none =>
          have key := Local.badAt (T := T) (C := C) (n := n) (g := g) (need := []) (ft := { rd := slsL args }) (H := H) rfl rfl (by simp)
          have hn : ∀ H' : Heap U, H'.length = H.length → (∀ id ∈ slsL args, H'[id]? = H[id]?) → typed e.T pc args H' = none := fun H' hl hag => typed_none hl hag hp
          cases g with
          | none => exact .inl fun R k => by simp only [hp]; rfl
          | some b =>
            cases b with
            | true => exact .inl fun R k => by simp only [hp]; rfl
            | false =>
              refine .inr ⟨.top, [], { rd := slsL args }, rfl, rfl, by simp, fun _ => rfl, by simp, fun H' hl hag R k => ?_⟩
              simp only [hn H' hl (fun id hid => hag id (.inl hid))]
              rfl
        | some q =>
          obtain ⟨xs, H1, ids⟩ := q
          obtain ⟨W, rfl, e1, s1, a1⟩ := typed_local hp
          by_cases hfl : rc.all Cd.flat = true
          · have hval : ∃ (o : Option (HL U rc)), ∀ (R : Type) (kk : HL U rc → Option R), (match (generalizing := false) g with | none => (real T C n).bind ((real T C n).call f xs rc) kk | some b => (real T C n).bind ((real T C n).gcall b f xs rc) kk) = o.bind kk := by
              cases g with
              | none => exact ⟨_, fun R kk => rfl⟩
              | some b => exact ⟨_, fun R kk => rfl⟩
            obtain ⟨o, hval⟩ := hval
            cases o with
            | none => exact .inl fun R k => by simp only [hp]; rw [if_pos hfl]; exact hval R _
            | some y =>
              refine .inr ⟨AV.ofHL e.T rc y, [], { rd := slsL args }, rfl, rfl, by simp, fun _ => rfl, by simp, fun H' hl hag R k => ?_⟩
              simp only [a1 H' hl (fun id hid => hag id (.inl hid))]
              rw [if_pos hfl]
              exact hval R _
          · by_cases hm : mays s ids = true
            · cases hso : e.ann.slo f with
              | some i =>
                obtain ⟨rfl, id, rfl⟩ := hsl (by rw [hso]; rfl)
                cases hc : C f xs rc with
                | none => exact .inl fun R k => by simp only [hp]; rw [if_neg hfl]; refine Eq.trans (if_pos hm) ?_; simp only [real, hc]; rfl
                | some y =>
                  cases hcm : compAV (AV.ofHL e.T rc y) i with
                  | none =>
                    refine .inl fun R k => ?_
                    simp only [hp]
                    rw [if_neg hfl]
                    refine Eq.trans (if_pos hm) ?_
                    simp only [real, hc, ownK, hcm, Option.bind_some]
                  | some av =>
                    by_cases hfs : ∃ c L sp, av = .fsl c L sp
                    · obtain ⟨c, L, sp, rfl⟩ := hfs
                      by_cases hh : (wrs H W)[id]? = some .hole
                      · refine Local.writes (v := setAV (AV.ofHL e.T rc y) i (.sl id 0)) (W := W ++ [(id, .arr c L 0 false)]) (ft := { rd := slsL args, wr := ids ++ [id] }) rfl rfl (by simp) (by
                          intro j hj
                          simp only [List.map_append, List.mem_append, List.map_cons, List.map_nil, List.mem_singleton] at hj ⊢
                          rw [e1] at hj
                          exact hj) ?_
                        intro H' hl hag R k
                        simp only [a1 H' hl (fun id hid => hag id (.inl hid))]
                        rw [if_neg hfl]
                        refine Eq.trans (if_pos hm) ?_
                        have hq : (wrs H' W)[id]? = some .hole := by
                          rw [← hh]
                          exact wrs_agree W hl.symm (hag id (.inr (by simp)))
                        simp only [real, hc, ownK, hcm, newK, hq, Option.bind_some, wrs_append]
                        rfl
                      · refine .inl fun R k => ?_
                        simp only [hp]
                        rw [if_neg hfl]
                        refine Eq.trans (if_pos hm) ?_
                        simp only [real, hc, ownK, hcm, newK, Option.bind_some]
                        all_goals (split <;> first | (rename_i h; exact absurd h hh) | rfl)
                    · refine .inl fun R k => ?_
                      simp only [hp]
                      rw [if_neg hfl]
                      refine Eq.trans (if_pos hm) ?_
                      simp only [real, hc, ownK, hcm, Option.bind_some]
                      split
                      · rename_i h; exact absurd ⟨_, _, _, Option.some.inj h⟩ hfs
                      · rfl
              | none =>
              cases g with
              | none =>
                cases hc : C f xs rc with
                | none => exact .inl fun R k => by simp only [hp]; rw [if_neg hfl]; refine Eq.trans (if_pos hm) ?_; simp only [real, hc]; rfl
                | some y =>
                  refine Local.writes (v := AV.ofHL e.T rc y) (W := W) (ft := { rd := slsL args, wr := ids }) rfl rfl (by simp) (by rw [e1]; exact fun _ h => h) ?_
                  intro H' hl hag R k
                  simp only [a1 H' hl (fun id hid => hag id (.inl hid))]
                  rw [if_neg hfl]
                  refine Eq.trans (if_pos hm) ?_
                  simp only [real, hc]
                  rfl
              | some b =>
                by_cases hids : ids.isEmpty = true
                · cases hc : (real T C n).gcall b f xs rc with
                  | none => exact .inl fun R k => by simp only [hp]; rw [if_neg hfl]; refine Eq.trans (if_pos hm) ?_; rw [if_pos hids, hc]; rfl
                  | some y =>
                    refine .inr ⟨AV.ofHL e.T rc y, [], { rd := slsL args }, rfl, rfl, by simp, fun _ => rfl, by simp, fun H' hl hag R k => ?_⟩
                    simp only [a1 H' hl (fun id hid => hag id (.inl hid))]
                    rw [if_neg hfl]
                    refine Eq.trans (if_pos hm) ?_
                    rw [if_pos hids, hc]
                    rfl
                · exact .inl fun R k => by simp only [hp]; rw [if_neg hfl]; refine Eq.trans (if_pos hm) ?_; rw [if_neg hids]
            · exact .inl fun R k => by simp only [hp]; rw [if_neg hfl]; exact if_neg hm
      · exact Local.none

theorem builtinK_local {e : Env U} (ho : e.o = real T C n) {g : Option Bool} {sl : Option Nat} {b : Builtin} {ts : List TypeId} {xs : List (AV U)} {s : St U} {H : Heap U} (hsl : b = .append → g = none ∧ ∃ id, sl = some id) :
    Local g [] (fun _ H k => builtinK e g sl b ts xs { s with heap := H } k) H := by
  unfold builtinK
  split
  · rw [ho]; exact lenK_local
  · obtain ⟨rfl, id, rfl⟩ := hsl rfl
    exact appendK_local ho
  · rw [ho]; exact minmaxK_local
  · rw [ho]; exact minmaxK_local
  · rw [ho]; exact Local.bad

/-- A call that is not entered. -/
def noInl (R : Type) : Inl U R := fun _ _ _ _ => none

theorem callK_local {e : Env U} (ho : e.o = real T C n) {dr : Bool} {fid : FuncId} {sl : Option Nat} {g : Option Bool} {f : AV U} {args : List (AV U)} {s : St U} {H : Heap U}
    (hsl : ∀ f0 a b, f = .func (.func f0) a b → (e.ann.slo f0).isSome = true → g = none ∧ ∃ id, sl = some id) :
    Local g [] (fun R H k => callK e (noInl R) dr fid sl g f args { s with heap := H } k) H := by
  unfold callK
  split
  · split
    · cases dr with
      | true => exact Local.none
      | false =>
        cases g with
        | none => exact Local.none
        | some b => exact Local.none
    · exact pcallK_local ho (hsl _ _ _ rfl)
  · rw [ho]; exact Local.bad

theorem callK_noInl {R : Type} {e : Env U} {inl : Inl U R} {dr : Bool} {fid : FuncId} {sl : Option Nat} {g : Option Bool} {f : AV U} {args : List (AV U)} {s : St U} {k : Kont U R} (hdr : dr = true ∨ g ≠ none) :
    callK e inl dr fid sl g f args s k = callK e (noInl R) dr fid sl g f args s k := by
  unfold callK
  split
  · split
    · cases dr with
      | true => rfl
      | false =>
        cases g with
        | none => rcases hdr with h | h <;> simp at h
        | some b => rfl
    · rfl
  · rfl

theorem opK_noInl {R : Type} {e : Env U} {inl : Inl U R} {dr : Bool} {fid : FuncId} {ops : Array Oper} {ch : List (Nat × Bool)} {g : Option Bool} {sl : Option Nat} {o : Oper} {s : St U} {k : Kont U R} (hdr : dr = true ∨ g ≠ none) :
    opK e inl dr fid ops ch g sl o s k = opK e (noInl R) dr fid ops ch g sl o s k := by
  unfold opK
  simp only [callK_noInl (inl := inl) hdr]

theorem opK_local {e : Env U} (ho : e.o = real T C n) {dr : Bool} {fid : FuncId} {ops : Array Oper} {ch : List (Nat × Bool)} {g : Option Bool} {sl : Option Nat} {o : Oper} {s : St U} {H : Heap U} (hdr : dr = true ∨ g ≠ none)
    (hsl : turns e fid o.op = true → g = none ∧ ∃ id, sl = some id) : Local g [] (fun R H k => opK e (noInl R) dr fid ops ch g sl o { s with heap := H } k) H := by
  unfold opK
  generalize o.op = op at hsl
  generalize o.dst = dst
  have alloc : turns e fid op = true → g = none ∧ ∃ id, sl = some id := hsl
  cases op with
  | move x => exact Local.nil rfl rfl
  | assign x => exact Local.nil rfl rfl
  | pick c a b =>
    simp only
    split
    · split
      · rw [ho]; exact pickK_local
      · rw [ho]; exact Local.bad
    · rw [ho]; exact Local.bad
  | alloc t => obtain ⟨rfl, id, rfl⟩ := hsl rfl; exact allocK_local
  | box t x => obtain ⟨rfl, id, rfl⟩ := hsl rfl; exact boxK_local
  | build t parts => exact buildK_local ho
  | buildSlice t m parts => obtain ⟨rfl, id, rfl⟩ := hsl rfl; exact buildSliceK_local
  | load t x => exact loadK_local ho
  | store t x y => obtain ⟨rfl, id, rfl⟩ := hsl rfl; exact storeK_local
  | nilCheck x => simp only; rw [ho]; exact nilCheckK_local
  | binOp op t x y yt =>
    simp only
    rw [ho]
    refine binK_local fun hd => ?_
    rcases hdr with h | h
    · rw [h] at hd; cases hd
    · exact h
  | unOp op t x => simp only; rw [ho]; exact unK_local
  | convert src dst' x => exact convK_local ho
  | makeFunc fn first captured => exact Local.nil rfl rfl
  | makeMap t m =>
    cases m with
    | none => obtain ⟨rfl, id, rfl⟩ := hsl rfl; exact makeMapK_local
    | some m => exact Local.none
  | makeSlice t l c => obtain ⟨rfl, id, rfl⟩ := hsl rfl; exact makeSliceK_local ho
  | slice t x lo hi mx => exact sliceK_local ho
  | fieldAddr t x f => simp only; rw [ho]; exact fieldAddrK_local
  | field t x f => simp only; rw [ho]; exact fieldK_local
  | indexAddr t x i => exact indexAddrK_local ho
  | index t x i => exact indexK_local ho
  | lookup t m key cok => exact lookupK_local ho
  | mapUpdate t m key x => obtain ⟨rfl, id, rfl⟩ := hsl rfl; exact mapUpdateK_local
  | extract x i => simp only; rw [ho]; exact extractK_local
  | call c =>
    obtain ⟨callee, args, argTypes⟩ := c
    cases callee with
    | builtin b => exact builtinK_local ho (fun e => hsl (by subst e; rfl))
    | value f => exact callK_local ho (fun f0 a b hf hso => by
        refine hsl ?_
        cases f with
        | func f1 =>
          have hf : AV.func (.func f1) [] [] = .func (.func f0) a b := hf
          cases hf
          show (e.ann.inl fid f0 || (e.ann.slo f0).isSome) = true
          rw [hso, Bool.or_true]
        | _ => rfl)
    | invoke _ _ => exact Local.none
  | _ => exact Local.none

end
end Go.Ab
