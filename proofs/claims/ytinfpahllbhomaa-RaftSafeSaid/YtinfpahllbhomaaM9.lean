/-
  Nodes that vote, lead and follow, with what has ever been voted, elected, appended and acknowledged beside them: what holds of both, and that it stays through each small turn. Conditions: those of the invariant.
  The small turns, each of which keeps the invariant: a node turns by itself; asks for votes; votes; is elected; appends; acknowledges; takes entries; commits. Conditions: those that each names.
  A tick, a step, a proposal, a fall keep what holds of nodes and messages. Conditions: the invariant; a node that may be.
  The statement 'in one Term one leads; entries of one place and Term are the same, and all ahead of them; what one has committed no one has otherwise': it answers true. Condition: the rounds enough.
  The statement 'in one Term one leads; entries of one place and Term are the same, and all ahead of them; what one has committed no one has otherwise': it answers true. Condition: the rounds enough.
-/
import Derived.Test.YtinfpahllbhomaaM7
import Derived.Test.YtinfpahllbhomaaM8
import Derived.Test.YtinfpahllbhomaaM6
set_option linter.unusedVariables false
set_option linter.unusedSimpArgs false

namespace Go.Proofs.Ytinfpahllbhomaa
namespace Safe
set_option linter.unusedVariables false

/-- How many below n. -/
def cnt (q : Nat → Bool) : Nat → Nat
  | 0 => 0
  | n + 1 => cnt q n + (if q n then 1 else 0)

theorem cnt_both (p q : Nat → Bool) : ∀ n, cnt p n + cnt q n ≤ n + cnt (fun x => p x && q x) n
  | 0 => by simp [cnt]
  | n + 1 => by
    have := cnt_both p q n
    simp only [cnt]
    by_cases hp : p n = true <;> by_cases hq : q n = true <;> simp [hp, hq] <;> omega

theorem cnt_some (q : Nat → Bool) : ∀ n, 0 < cnt q n → ∃ x, x < n ∧ q x = true
  | 0, h => by simp [cnt] at h
  | n + 1, h => by
    by_cases hq : q n = true
    · exact ⟨n, by omega, hq⟩
    · have : 0 < cnt q n := by simpa [cnt, hq] using h
      obtain ⟨x, h1, h2⟩ := cnt_some q n this
      exact ⟨x, by omega, h2⟩

/-- Of most of k. -/
def Quo (k : Nat) (P : Nat → Prop) : Prop := ∃ q : Nat → Bool, (∀ x, x < k → q x = true → P x) ∧ k < 2 * cnt q k

theorem Quo.meet {k : Nat} {P Q : Nat → Prop} (h : Quo k P) (h' : Quo k Q) : ∃ x, x < k ∧ P x ∧ Q x := by
  obtain ⟨p, hp, np⟩ := h
  obtain ⟨q, hq, nq⟩ := h'
  have := cnt_both p q k
  obtain ⟨x, hx, hb⟩ := cnt_some (fun x => p x && q x) k (by omega)
  simp only [Bool.and_eq_true] at hb
  exact ⟨x, hx, hp x hx hb.1, hq x hx hb.2⟩

theorem Quo.mono {k : Nat} {P Q : Nat → Prop} (h : Quo k P) (hm : ∀ x, x < k → P x → Q x) : Quo k Q := by
  obtain ⟨p, hp, np⟩ := h
  exact ⟨p, fun x hx hb => hm x hx (hp x hx hb), np⟩

/-- What has been: who voted for whom, who took how much of whose, who was elected, what he has written, with what one stood. -/
structure G where
  V : Nat → Int → Nat → Prop
  K : Nat → Int → Nat → Prop
  E : Nat → Int → Prop
  ll : Int → List Entry
  cl : Nat → Int → Option (List Entry)

def dead (k : Nat) (g : G) (tm : Nat → Int) (T : Int) (i : Nat) : Prop := Quo k fun x => T < tm x ∧ ∀ e, g.K x T e → e ≤ i
def has (g : G) (T : Int) (i : Nat) : Prop := ∃ e, (g.ll T)[i]? = some e ∧ e.term = T
def Cm (k : Nat) (g : G) (T : Int) (i : Nat) : Prop := has g T i ∧ Quo k fun x => ∃ e, g.K x T e ∧ i < e
def logOk (g : G) (l : List Entry) : Prop := ∀ i e, l[i]? = some e → l.take (i + 1) <+: g.ll e.term

structure NodeOk (k : Nat) (g : G) (tm : Nat → Int) (j : Nat) (a : Node) : Prop where
  id : a.id = j
  nodes : a.nodes = k
  base : a.base = 0
  bt : a.baseTerm = 0
  tmj : tm j = a.term
  t0 : 0 ≤ a.term
  vote : a.vote = -1 ∨ ∃ c : Nat, a.vote = c ∧ g.V j a.term c
  V : ∀ t (c : Nat), g.V j t c → t ≤ a.term ∧ (t = a.term → a.vote = c)
  K : ∀ t e, g.K j t e → t ≤ a.term
  E : ∀ t, g.E j t → t ≤ a.term
  cl : ∀ t l, g.cl j t = some l → t ≤ a.term
  cand : a.role = 1 → g.cl j a.term = some a.log ∧ ¬ g.E j a.term ∧ ∀ x, a.votes.getD x false = true → g.V x a.term j
  lead : a.role = 2 → g.E j a.term ∧ a.log = g.ll a.term ∧ (∀ (x : Nat) (e : Int), a.match[x]? = some e → e ≤ 0 ∨ ∃ e' : Nat, g.K x a.term e' ∧ e ≤ e') ∧ (∀ (x : Nat) (e : Int), a.next[x]? = some e → 1 ≤ e ∧ e ≤ a.log.length + 1)
  log : logOk g a.log
  lt : ∀ e ∈ a.log, e.term ≤ a.term
  ack : ∀ T i e, has g T i → g.K j T e → i < e → (g.ll T).take (i + 1) <+: a.log ∨ dead k g tm T i
  c0 : 0 ≤ a.commit
  c1 : a.commit ≤ a.log.length
  com : a.commit = 0 ∨ ∃ T i, Cm k g T i ∧ a.commit ≤ i + 1 ∧ T ≤ a.term ∧ a.log.take a.commit.toNat <+: g.ll T

structure Inv (k : Nat) (g : G) (ns : Nat → Node) : Prop where
  node : ∀ j, j < k → NodeOk k g (fun x => (ns x).term) j (ns j)
  Vf : ∀ x t c c', g.V x t c → g.V x t c' → c = c'
  Vc : ∀ x t c, g.V x t c → ∃ l, g.cl c t = some l
  Kl : ∀ x t e, g.K x t e → e ≤ (g.ll t).length
  Eq : ∀ c t, g.E c t → c < k ∧ Quo k fun x => g.V x t c
  cl : ∀ c t l, g.cl c t = some l → logOk g l ∧ ∀ e ∈ l, e.term < t
  ll : ∀ t, logOk g (g.ll t) ∧ ∀ e ∈ g.ll t, 0 ≤ e.term ∧ e.term ≤ t
  El : ∀ t, g.ll t ≠ [] → ∃ c, g.E c t
  safe : ∀ c T' T i, g.E c T' → T < T' → has g T i → (g.ll T).take (i + 1) <+: g.ll T' ∨ dead k g (fun x => (ns x).term) T i
  vsafe : ∀ f T' c l T e i, f < k → g.V f T' c → g.cl c T' = some l → g.K f T e → T < T' → has g T i → i < e → (g.ll T).take (i + 1) <+: l ∨ dead k g (fun x => (ns x).term) T i

/-- What has been stays; what is new is of one node, its term is t. -/
structure Ext (j : Nat) (t : Int) (g h : G) : Prop where
  V : ∀ x t c, g.V x t c → h.V x t c
  K : ∀ x t e, g.K x t e → h.K x t e
  E : ∀ c t, g.E c t → h.E c t
  ll : ∀ t, g.ll t <+: h.ll t
  cl : ∀ c t l, g.cl c t = some l → h.cl c t = some l
  Vj : ∀ x t c, x ≠ j → h.V x t c → g.V x t c
  Kj : ∀ x t' e, h.K x t' e → g.K x t' e ∨ (x = j ∧ t' = t)
  Ej : ∀ x t, x ≠ j → h.E x t → g.E x t
  clj : ∀ x t l, x ≠ j → h.cl x t = some l → g.cl x t = some l
  llj : ∀ t, h.ll t = g.ll t ∨ h.E j t

structure Le (g h : G) : Prop where
  V : ∀ x t c, g.V x t c → h.V x t c
  K : ∀ x t e, g.K x t e → h.K x t e
  E : ∀ c t, g.E c t → h.E c t
  ll : ∀ t, g.ll t <+: h.ll t
  cl : ∀ c t l, g.cl c t = some l → h.cl c t = some l

theorem Ext.le {j t g h} (x : Ext j t g h) : Le g h := ⟨x.V, x.K, x.E, x.ll, x.cl⟩
theorem Le.refl (g : G) : Le g g := ⟨fun _ _ _ h => h, fun _ _ _ h => h, fun _ _ h => h, fun _ => List.prefix_rfl, fun _ _ _ h => h⟩
theorem Le.trans {a b c : G} (h : Le a b) (q : Le b c) : Le a c :=
  ⟨fun x t y z => q.V _ _ _ (h.V _ _ _ z), fun x t y z => q.K _ _ _ (h.K _ _ _ z), fun x t z => q.E _ _ (h.E _ _ z), fun t => (h.ll t).trans (q.ll t), fun x t y z => q.cl _ _ _ (h.cl _ _ _ z)⟩
theorem Ext.refl (j : Nat) (t : Int) (g : G) : Ext j t g g :=
  ⟨fun _ _ _ h => h, fun _ _ _ h => h, fun _ _ h => h, fun _ => List.prefix_rfl, fun _ _ _ h => h, fun _ _ _ _ h => h, fun _ _ _ h => .inl h, fun _ _ _ h => h, fun _ _ _ _ h => h, fun _ => .inl rfl⟩

theorem getElem?_of_prefix {l r : List Entry} (h : l <+: r) {i : Nat} {e : Entry} (q : l[i]? = some e) : r[i]? = some e := by
  obtain ⟨s, rfl⟩ := h
  rw [List.getElem?_append_left (List.getElem?_eq_some_iff.1 q).1]; exact q

theorem lt_of_some {l : List Entry} {i : Nat} {e : Entry} (h : l[i]? = some e) : i < l.length := (List.getElem?_eq_some_iff.1 h).1

theorem take_of_prefix {l r : List Entry} (h : l <+: r) {i : Nat} (hi : i ≤ l.length) : r.take i = l.take i := by
  obtain ⟨s, rfl⟩ := h
  rw [List.take_append_of_le_length hi]

theorem has_mono {g h : G} (x : Le g h) {T : Int} {i : Nat} (q : has g T i) : has h T i := by
  obtain ⟨e, h1, h2⟩ := q
  exact ⟨e, getElem?_of_prefix (x.ll T) h1, h2⟩

theorem has_back {g h : G} (x : Le g h) {T : Int} {i : Nat} (q : has h T i) (hi : i < (g.ll T).length) : has g T i := by
  obtain ⟨e, h1, h2⟩ := q
  refine ⟨e, ?_, h2⟩
  obtain ⟨s, hs⟩ := x.ll T
  rw [← hs, List.getElem?_append_left hi] at h1; exact h1

theorem has_lt {g : G} {T : Int} {i : Nat} (q : has g T i) : i < (g.ll T).length := by
  obtain ⟨e, h1, _⟩ := q
  exact lt_of_some h1

theorem take_same {g h : G} (x : Le g h) {T : Int} {i : Nat} (hi : i < (g.ll T).length) : (h.ll T).take (i + 1) = (g.ll T).take (i + 1) := take_of_prefix (x.ll T) hi

theorem logOk_mono {g h : G} (x : Le g h) {l : List Entry} (q : logOk g l) : logOk h l := fun i e he => (q i e he).trans (x.ll _)

theorem Cm_mono {k : Nat} {g h : G} (x : Le g h) {T : Int} {i : Nat} (q : Cm k g T i) : Cm k h T i :=
  ⟨has_mono x q.1, q.2.mono fun y _ ⟨e, h1, h2⟩ => ⟨e, x.K _ _ _ h1, h2⟩⟩

/-- One node is another one. -/
def upd (ns : Nat → Node) (j : Nat) (a : Node) : Nat → Node := fun x => if x = j then a else ns x
theorem upd_self (ns : Nat → Node) (j : Nat) (a : Node) : upd ns j a j = a := by simp [upd]
theorem upd_ne (ns : Nat → Node) {j x : Nat} (a : Node) (h : x ≠ j) : upd ns j a x = ns x := by simp [upd, h]

theorem dead_mono {k j : Nat} {g h : G} {t : Int} {tm tm' : Nat → Int} (x : Ext j t g h) (hn : ∀ y, tm y ≤ tm' y) (ht : tm j ≤ t) {T : Int} {i : Nat}
    (q : dead k g tm T i) : dead k h tm' T i := by
  refine q.mono fun y _ ⟨h1, h2⟩ => ⟨by have := hn y; omega, fun e he => ?_⟩
  rcases x.Kj _ _ _ he with he | ⟨rfl, rfl⟩
  · exact h2 e he
  · omega

theorem unique {k : Nat} {g : G} (Vf : ∀ x t c c', g.V x t c → g.V x t c' → c = c') (Eq : ∀ c t, g.E c t → c < k ∧ Quo k fun x => g.V x t c) {c c' : Nat} {t : Int} (h : g.E c t) (h' : g.E c' t) : c = c' := by
  obtain ⟨x, _, h1, h2⟩ := (Eq _ _ h).2.meet (Eq _ _ h').2
  exact Vf _ _ _ _ h1 h2

theorem node_mono {k j : Nat} {g h : G} {t : Int} {tm tm' : Nat → Int} (x : Ext j t g h) (hn : ∀ y, tm y ≤ tm' y) (ht : tm j ≤ t)
    (Kl : ∀ x t e, g.K x t e → e ≤ (g.ll t).length)
    (Vf : ∀ x t c c', h.V x t c → h.V x t c' → c = c') (Eq : ∀ c t, h.E c t → c < k ∧ Quo k fun x => h.V x t c)
    {y : Nat} {a : Node} (hy : y ≠ j) (he : tm' y = tm y) (n : NodeOk k g tm y a) : NodeOk k h tm' y a where
  id := n.id
  nodes := n.nodes
  base := n.base
  bt := n.bt
  tmj := by rw [he, n.tmj]
  t0 := n.t0
  vote := n.vote.imp_right fun ⟨c, h1, h2⟩ => ⟨c, h1, x.V _ _ _ h2⟩
  V := fun t c hv => n.V t c (x.Vj _ _ _ hy hv)
  K := fun t e hk => by
    rcases x.Kj _ _ _ hk with hk | ⟨h1, _⟩
    · exact n.K t e hk
    · exact absurd h1 hy
  E := fun t h1 => n.E t (x.Ej _ _ hy h1)
  cl := fun t l hc => n.cl t l (x.clj _ _ _ hy hc)
  cand := fun hr => ⟨x.cl _ _ _ (n.cand hr).1, fun h1 => (n.cand hr).2.1 (x.Ej _ _ hy h1), fun z hz => x.V _ _ _ ((n.cand hr).2.2 z hz)⟩
  lead := fun hr => by
    obtain ⟨h1, h2, h3, h4⟩ := n.lead hr
    refine ⟨x.E _ _ h1, ?_, fun z e hz => (h3 z e hz).imp_right fun ⟨e', q1, q2⟩ => ⟨e', x.K _ _ _ q1, q2⟩, h4⟩
    rcases x.llj a.term with q | q
    · rw [h2, q]
    · exact absurd (unique Vf Eq (x.E _ _ h1) q) hy
  log := logOk_mono x.le n.log
  lt := n.lt
  ack := fun T i e hh hk hi => by
    have hk' : g.K y T e := by
      rcases x.Kj _ _ _ hk with hk | ⟨h1, _⟩
      · exact hk
      · exact absurd h1 hy
    have hl := Kl _ _ _ hk'
    have := n.ack T i e (has_back x.le hh (by omega)) hk' hi
    rw [take_same x.le (by omega)]
    exact this.imp_right fun q => dead_mono x hn ht q
  c0 := n.c0
  c1 := n.c1
  com := n.com.imp_right fun ⟨T, i, h1, h2, h3, h4⟩ => ⟨T, i, Cm_mono x.le h1, h2, h3, h4.trans (x.ll _)⟩

theorem upd_tm {ns : Nat → Node} {j : Nat} {a : Node} (ht : (ns j).term ≤ a.term) (y : Nat) : (ns y).term ≤ (upd ns j a y).term := by
  unfold upd
  split
  · subst_vars; exact ht
  · omega

/-- One node turns, nothing else. -/
theorem Inv.same {k : Nat} {g : G} {ns : Nat → Node} (v : Inv k g ns) {j : Nat} (hj : j < k) {a : Node} (ht : (ns j).term ≤ a.term)
    (hn : NodeOk k g (fun x => (upd ns j a x).term) j a) : Inv k g (upd ns j a) where
  node := fun y hy => by
    by_cases e : y = j
    · subst e; rw [upd_self]; exact hn
    · rw [upd_ne _ _ e]
      exact node_mono (Ext.refl j (ns j).term g) (upd_tm ht) (Int.le_refl _) v.Kl v.Vf v.Eq e (by simp only [upd_ne _ _ e]) (v.node y hy)
  Vf := v.Vf
  Vc := v.Vc
  Kl := v.Kl
  Eq := v.Eq
  cl := v.cl
  ll := v.ll
  El := v.El
  safe := fun c T' T i h1 h2 h3 => (v.safe c T' T i h1 h2 h3).imp_right fun q => dead_mono (Ext.refl j (ns j).term g) (upd_tm ht) (Int.le_refl _) q
  vsafe := fun f T' c l T e i h0 h1 h2 h3 h4 h5 h6 => (v.vsafe f T' c l T e i h0 h1 h2 h3 h4 h5 h6).imp_right fun q => dead_mono (Ext.refl j (ns j).term g) (upd_tm ht) (Int.le_refl _) q

end Safe
end Go.Proofs.Ytinfpahllbhomaa

namespace Go.Proofs.Ytinfpahllbhomaa
namespace Safe
set_option linter.unusedVariables false

section
variable {k j : Nat} {g h : G} {ns : Nat → Node} {a : Node}

theorem Inv.safe_old (v : Inv k g ns) (x : Ext j a.term g h) (ht : (ns j).term ≤ a.term) {c : Nat} {T' T : Int} {i : Nat} (h1 : g.E c T') (h2 : T < T') (h3 : has h T i) (hi : i < (g.ll T).length) :
    (h.ll T).take (i + 1) <+: h.ll T' ∨ dead k h (fun y => (upd ns j a y).term) T i := by
  rw [take_same x.le hi]
  exact (v.safe c T' T i h1 h2 (has_back x.le h3 hi)).imp (fun q => q.trans (x.ll _)) fun q => dead_mono x (upd_tm ht) ht q

theorem Inv.vsafe_old (v : Inv k g ns) (x : Ext j a.term g h) (ht : (ns j).term ≤ a.term) {f c : Nat} {l : List Entry} {T' T : Int} {i e : Nat} (h0 : f < k) (h1 : g.V f T' c) (h2 : g.cl c T' = some l) (h3 : g.K f T e)
    (h4 : T < T') (h5 : has h T i) (h6 : i < e) : (h.ll T).take (i + 1) <+: l ∨ dead k h (fun y => (upd ns j a y).term) T i := by
  have hl := v.Kl _ _ _ h3
  rw [take_same x.le (by omega)]
  exact (v.vsafe f T' c l T e i h0 h1 h2 h3 h4 (has_back x.le h5 (by omega)) h6).imp id fun q => dead_mono x (upd_tm ht) ht q

theorem Inv.nodes' (v : Inv k g ns) (x : Ext j a.term g h) (ht : (ns j).term ≤ a.term)
    (Vf : ∀ x t c c', h.V x t c → h.V x t c' → c = c') (Eq : ∀ c t, h.E c t → c < k ∧ Quo k fun x => h.V x t c)
    (hn : NodeOk k h (fun y => (upd ns j a y).term) j a) : ∀ y, y < k → NodeOk k h (fun y => (upd ns j a y).term) y (upd ns j a y) := fun y hy => by
  by_cases e : y = j
  · subst e; rw [upd_self]; exact hn
  · rw [upd_ne _ _ e]
    exact node_mono x (upd_tm ht) ht v.Kl Vf Eq e (by simp only [upd_ne _ _ e]) (v.node y hy)

theorem Inv.ack_old (v : Inv k g ns) (hj : j < k) (x : Ext j a.term g h) (ht : (ns j).term ≤ a.term) {T : Int} {i e : Nat} (h1 : has h T i) (h2 : g.K j T e) (h3 : i < e) :
    (h.ll T).take (i + 1) <+: (ns j).log ∨ dead k h (fun y => (upd ns j a y).term) T i := by
  have hl := v.Kl _ _ _ h2
  rw [take_same x.le (by omega)]
  exact ((v.node j hj).ack T i e (has_back x.le h1 (by omega)) h2 h3).imp id fun q => dead_mono x (upd_tm ht) ht q

/-- A node turns by itself. -/
theorem Inv.turn (v : Inv k g ns) (hj : j < k) (hid : a.id = (ns j).id) (hnd : a.nodes = (ns j).nodes) (hb : a.base = (ns j).base) (hbt : a.baseTerm = (ns j).baseTerm)
    (ht : (ns j).term ≤ a.term) (hv : (a.term = (ns j).term ∧ a.vote = (ns j).vote) ∨ ((ns j).term < a.term ∧ a.vote = -1))
    (hlog : a.log = (ns j).log) (hc : a.commit = (ns j).commit ∨ a.commit = 0)
    (cand : a.role = 1 → g.cl j a.term = some a.log ∧ ¬ g.E j a.term ∧ ∀ x, a.votes.getD x false = true → g.V x a.term j)
    (lead : a.role = 2 → g.E j a.term ∧ a.log = g.ll a.term ∧ (∀ (x : Nat) (e : Int), a.match[x]? = some e → e ≤ 0 ∨ ∃ e' : Nat, g.K x a.term e' ∧ e ≤ e') ∧ (∀ (x : Nat) (e : Int), a.next[x]? = some e → 1 ≤ e ∧ e ≤ a.log.length + 1)) :
    Inv k g (upd ns j a) := by
  have n := v.node j hj
  refine v.same hj ht
    { id := hid.trans n.id, nodes := hnd.trans n.nodes, base := hb.trans n.base, bt := hbt.trans n.bt, tmj := by simp only [upd_self], t0 := by have := n.t0; omega
      vote := ?_, V := ?_, K := ?_, E := ?_, cl := ?_, cand := cand, lead := lead, log := by rw [hlog]; exact n.log, lt := ?_, ack := ?_, c0 := ?_, c1 := ?_, com := ?_ }
  · rcases hv with ⟨h1, h2⟩ | ⟨_, h2⟩
    · rw [h1, h2]; exact n.vote
    · exact .inl h2
  · intro t c hV
    obtain ⟨h1, h2⟩ := n.V t c hV
    refine ⟨by omega, fun e => ?_⟩
    rcases hv with ⟨q1, q2⟩ | ⟨q1, _⟩
    · rw [q2]; exact h2 (by omega)
    · omega
  · intro t e hk; have := n.K t e hk; omega
  · intro t e; have := n.E t e; omega
  · intro t l hl; have := n.cl t l hl; omega
  · intro e he; rw [hlog] at he; have := n.lt e he; omega
  · intro T i e h1 h2 h3
    rw [hlog]
    exact v.ack_old hj (Ext.refl j a.term g) ht h1 h2 h3
  · rcases hc with hc | hc <;> rw [hc]
    · exact n.c0
    · omega
  · rcases hc with hc | hc <;> rw [hc, hlog]
    · exact n.c1
    · omega
  · rcases hc with hc | hc
    · rw [hc, hlog]
      exact n.com.imp_right fun ⟨T, i, h1, h2, h3, h4⟩ => ⟨T, i, h1, h2, by omega, h4⟩
    · exact .inl hc

/-- A node asks for votes. -/
def gStart (g : G) (j : Nat) (T : Int) (l : List Entry) : G :=
  { g with V := fun x t c => g.V x t c ∨ (x = j ∧ t = T ∧ c = j), cl := fun c t => if c = j ∧ t = T then some l else g.cl c t }

theorem Inv.start (v : Inv k g ns) (hj : j < k) (hid : a.id = (ns j).id) (hnd : a.nodes = (ns j).nodes) (hb : a.base = (ns j).base) (hbt : a.baseTerm = (ns j).baseTerm)
    (ht : a.term = (ns j).term + 1) (hv : a.vote = j) (hlog : a.log = (ns j).log) (hc : a.commit = (ns j).commit) (hr : a.role = 1)
    (hvs : ∀ x, a.votes.getD x false = true → x = j) : Ext j a.term g (gStart g j a.term a.log) ∧ Inv k (gStart g j a.term a.log) (upd ns j a) := by
  have n := v.node j hj
  have x : Ext j a.term g (gStart g j a.term a.log) :=
    { V := fun _ _ _ h => .inl h, K := fun _ _ _ h => h, E := fun _ _ h => h, ll := fun _ => List.prefix_rfl
      cl := fun c t l hl => by
        show (if c = j ∧ t = a.term then some a.log else g.cl c t) = some l
        split
        · rename_i q; obtain ⟨rfl, rfl⟩ := q
          have := n.cl _ _ hl; omega
        · exact hl
      Vj := fun y t c hy h => h.elim id fun q => absurd q.1 hy
      Kj := fun _ _ _ h => .inl h, Ej := fun _ _ _ h => h
      clj := fun c t l hc hl => by
        have hl : (if c = j ∧ t = a.term then some a.log else g.cl c t) = some l := hl
        rw [if_neg (fun q => hc q.1)] at hl; exact hl
      llj := fun _ => .inl rfl }
  have lt : (ns j).term ≤ a.term := by omega
  have noV : ∀ f c, f = j → ¬ g.V f a.term c := fun f c e h => by subst e; have := (n.V _ _ h).1; omega
  have noc : ∀ l, g.cl j a.term ≠ some l := fun l hl => by have := n.cl _ _ hl; omega
  have Vf : ∀ y t c c', (gStart g j a.term a.log).V y t c → (gStart g j a.term a.log).V y t c' → c = c' := by
    rintro y t c c' (h1 | ⟨rfl, rfl, rfl⟩) (h2 | ⟨h3, h4, h5⟩)
    · exact v.Vf _ _ _ _ h1 h2
    · subst h3 h4; exact absurd h1 (noV _ _ rfl)
    · exact absurd h2 (noV _ _ rfl)
    · rw [h5]
  have Eq : ∀ c t, (gStart g j a.term a.log).E c t → c < k ∧ Quo k fun x => (gStart g j a.term a.log).V x t c := fun c t h => ⟨(v.Eq c t h).1, (v.Eq c t h).2.mono fun _ _ q => .inl q⟩
  refine ⟨x, { node := v.nodes' x lt Vf Eq ?_, Vf := Vf, Vc := ?_, Kl := v.Kl, Eq := Eq, cl := ?_, ll := ?_, El := v.El, safe := ?_, vsafe := ?_ }⟩
  · exact
    { id := hid.trans n.id, nodes := hnd.trans n.nodes, base := hb.trans n.base, bt := hbt.trans n.bt, tmj := by simp only [upd_self], t0 := by have := n.t0; omega
      vote := .inr ⟨j, hv, .inr ⟨rfl, rfl, rfl⟩⟩
      V := fun t c h => by
        rcases h with h | ⟨_, rfl, rfl⟩
        · have := (n.V t c h).1
          exact ⟨by omega, fun e => by omega⟩
        · exact ⟨Int.le_refl _, fun _ => hv⟩
      K := fun t e h => by have := n.K t e h; omega
      E := fun t h => by have := n.E t h; omega
      cl := fun t l hl => by
        have hl : (if j = j ∧ t = a.term then some a.log else g.cl j t) = some l := hl
        split at hl
        · rename_i q; omega
        · have := n.cl _ _ hl; omega
      cand := fun _ => ⟨by show (if j = j ∧ a.term = a.term then some a.log else _) = _; simp, fun h => by have := n.E _ h; omega, fun y hy => .inr ⟨hvs y hy, rfl, rfl⟩⟩
      lead := fun h => by omega
      log := by rw [hlog]; exact logOk_mono x.le n.log
      lt := fun e he => by rw [hlog] at he; have := n.lt e he; omega
      ack := fun T i e h1 h2 h3 => by rw [hlog]; rw [hlog] at x; exact v.ack_old hj x lt h1 h2 h3
      c0 := by rw [hc]; exact n.c0
      c1 := by rw [hc, hlog]; exact n.c1
      com := by
        rw [hc, hlog]
        exact n.com.imp_right fun ⟨T, i, h1, h2, h3, h4⟩ => ⟨T, i, Cm_mono (hlog ▸ x.le) h1, h2, by omega, h4⟩ }
  · rintro y t c (h | ⟨rfl, rfl, rfl⟩)
    · obtain ⟨l, hl⟩ := v.Vc _ _ _ h
      exact ⟨l, x.cl _ _ _ hl⟩
    · exact ⟨a.log, by show (if c = c ∧ a.term = a.term then some a.log else _) = _; simp⟩
  · intro c t l hl0
    have hl : (if c = j ∧ t = a.term then some a.log else g.cl c t) = some l := hl0
    clear hl0
    split at hl
    · rename_i q; obtain ⟨rfl, rfl⟩ := q
      have hl : a.log = l := Option.some.inj hl
      subst hl
      refine ⟨by rw [hlog]; exact logOk_mono (hlog ▸ x.le) n.log, fun e he => ?_⟩
      rw [hlog] at he; have := n.lt e he; omega
    · exact ⟨logOk_mono x.le (v.cl c t l hl).1, (v.cl c t l hl).2⟩
  · exact fun t => ⟨logOk_mono x.le (v.ll t).1, (v.ll t).2⟩
  · exact fun c T' T i h1 h2 h3 => v.safe_old x lt h1 h2 h3 (has_lt h3)
  · intro f T' c l T e i h0 h1 h2 h3 h4 h5 h6
    have h2' : (if c = j ∧ T' = a.term then some a.log else g.cl c T') = some l := h2
    rcases h1 with h1 | ⟨rfl, rfl, rfl⟩
    · split at h2'
      · rename_i q; obtain ⟨rfl, rfl⟩ := q
        obtain ⟨l', hl'⟩ := v.Vc _ _ _ h1
        exact absurd hl' (noc l')
      · exact v.vsafe_old x lt h0 h1 h2' h3 h4 h5 h6
    · have hl : a.log = l := by simpa using h2'
      rw [← hl, hlog]
      exact hlog ▸ v.ack_old hj x lt h5 h3 h6

/-- The last entry's term. -/
def lastT (l : List Entry) : Int := (l.getD (l.length - 1) ⟨0, ⟨#[]⟩⟩).term

theorem logOk_last {l : List Entry} (hl : logOk g l) (hn : l ≠ []) : l <+: g.ll (lastT l) := by
  have h0 : 0 < l.length := List.length_pos_iff.2 hn
  have h1 : l[l.length - 1]? = some l[l.length - 1] := List.getElem?_eq_getElem (by omega)
  have h2 := hl (l.length - 1) _ h1
  rw [show l.length - 1 + 1 = l.length from by omega, List.take_length] at h2
  have : lastT l = l[l.length - 1].term := by
    unfold lastT; rw [List.getD_eq_getElem?_getD, h1]; rfl
  rw [this]; exact h2

theorem logOk_prefix {l r : List Entry} (hp : l <+: r) (hr : logOk g r) : logOk g l := fun i e he => by
  have := hr i e (getElem?_of_prefix hp he)
  rwa [take_of_prefix hp (lt_of_some he)] at this

theorem Inv.fresh (v : Inv k g ns) {l1 l : List Entry} {T' T : Int} {i : Nat} (o1 : logOk g l1) (o : logOk g l) (hlt : ∀ e ∈ l, e.term < T')
    (hp : (g.ll T).take (i + 1) <+: l1) (hh : has g T i) (hf : lastT l1 < lastT l ∨ (lastT l = lastT l1 ∧ l1.length ≤ l.length)) :
    (g.ll T).take (i + 1) <+: l ∨ dead k g (fun y => (ns y).term) T i := by
  obtain ⟨e, he, hT⟩ := hh
  have hi := lt_of_some he
  have hlen : ((g.ll T).take (i + 1)).length = i + 1 := by rw [List.length_take]; omega
  have he' : ((g.ll T).take (i + 1))[i]? = some e := by rw [List.getElem?_take_of_lt (by omega)]; exact he
  have h1 : l1[i]? = some e := getElem?_of_prefix hp he'
  have n1 : l1 ≠ [] := fun h => by rw [h] at h1; cases h1
  have hl1 := hp.length_le
  have q1 := logOk_last o1 n1
  have t1 : T ≤ lastT l1 := by
    have := (v.ll (lastT l1)).2 e (List.mem_of_getElem? (getElem?_of_prefix q1 h1))
    omega
  have hn : l ≠ [] := by
    rintro rfl
    have hz : lastT ([] : List Entry) = 0 := rfl
    have := (v.ll T).2 e (List.mem_of_getElem? he)
    rcases hf with hf | ⟨_, hf⟩
    · omega
    · simp only [List.length_nil] at hf; omega
  have h0 : 0 < l.length := List.length_pos_iff.2 hn
  have q := logOk_last o hn
  by_cases hT' : lastT l = T
  · left
    rw [hT'] at q
    have : i + 1 ≤ l.length := by omega
    rw [take_of_prefix q this]
    exact List.take_prefix _ _
  · have hll : g.ll (lastT l) ≠ [] := fun h => by rw [h] at q; exact hn (List.prefix_nil.1 q)
    obtain ⟨c, hc⟩ := v.El _ hll
    rcases v.safe c (lastT l) T i hc (by omega) ⟨e, he, hT⟩ with h | h
    · left
      by_cases hil : i + 1 ≤ l.length
      · exact List.prefix_of_prefix_length_le h q (by omega)
      · exfalso
        have hx : l[l.length - 1]? = some l[l.length - 1] := List.getElem?_eq_getElem (by omega)
        have hy := getElem?_of_prefix q hx
        have hz : ((g.ll T).take (i + 1))[l.length - 1]? = some l[l.length - 1] := by
          obtain ⟨s, hs⟩ := h
          rw [← hs, List.getElem?_append_left (by omega)] at hy; exact hy
        rw [List.getElem?_take_of_lt (by omega)] at hz
        have := (v.ll T).2 _ (List.mem_of_getElem? hz)
        have h5 : lastT l = l[l.length - 1].term := by
          unfold lastT; rw [List.getD_eq_getElem?_getD, hx]; rfl
        omega
    · exact .inr h

/-- A node votes. -/
def gVote (g : G) (j : Nat) (T : Int) (c : Nat) : G := { g with V := fun x t c' => g.V x t c' ∨ (x = j ∧ t = T ∧ c' = c) }

theorem Inv.votes (v : Inv k g ns) (hj : j < k) {c : Nat} {l : List Entry} (hid : a.id = (ns j).id) (hnd : a.nodes = (ns j).nodes) (hb : a.base = (ns j).base) (hbt : a.baseTerm = (ns j).baseTerm)
    (ht : a.term = (ns j).term) (hv : a.vote = c) (hlog : a.log = (ns j).log) (hc : a.commit = (ns j).commit) (hr : a.role = (ns j).role) (hvs : a.votes = (ns j).votes)
    (hm : a.match = (ns j).match) (hx : a.next = (ns j).next)
    (hw : (ns j).vote = -1 ∨ (ns j).vote = c) (hcl : g.cl c a.term = some l)
    (hf : lastT a.log < lastT l ∨ (lastT l = lastT a.log ∧ a.log.length ≤ l.length)) : Ext j a.term g (gVote g j a.term c) ∧ Inv k (gVote g j a.term c) (upd ns j a) := by
  have n := v.node j hj
  have x : Ext j a.term g (gVote g j a.term c) :=
    { V := fun _ _ _ h => .inl h, K := fun _ _ _ h => h, E := fun _ _ h => h, ll := fun _ => List.prefix_rfl, cl := fun _ _ _ h => h
      Vj := fun y t c hy h => h.elim id fun q => absurd q.1 hy
      Kj := fun _ _ _ h => .inl h, Ej := fun _ _ _ h => h, clj := fun _ _ _ _ h => h, llj := fun _ => .inl rfl }
  have lt : (ns j).term ≤ a.term := by omega
  have hold : ∀ c', g.V j a.term c' → c' = c := fun c' h => by
    have := (n.V _ _ h).2 ht
    rcases hw with hw | hw <;> omega
  have Vf : ∀ y t c1 c2, (gVote g j a.term c).V y t c1 → (gVote g j a.term c).V y t c2 → c1 = c2 := by
    rintro y t c1 c2 (h1 | ⟨h3, h4, h5⟩) (h2 | ⟨q3, q4, q5⟩)
    · exact v.Vf _ _ _ _ h1 h2
    · subst q3 q4; rw [q5]; exact hold _ h1
    · subst h3 h4; rw [h5]; exact (hold _ h2).symm
    · rw [h5, q5]
  have Eq : ∀ c' t, (gVote g j a.term c).E c' t → c' < k ∧ Quo k fun x => (gVote g j a.term c).V x t c' := fun c' t h => ⟨(v.Eq c' t h).1, (v.Eq c' t h).2.mono fun _ _ q => .inl q⟩
  refine ⟨x, { node := v.nodes' x lt Vf Eq ?_, Vf := Vf, Vc := ?_, Kl := v.Kl, Eq := Eq, cl := ?_, ll := ?_, El := v.El, safe := ?_, vsafe := ?_ }⟩
  · exact
    { id := hid.trans n.id, nodes := hnd.trans n.nodes, base := hb.trans n.base, bt := hbt.trans n.bt, tmj := by simp only [upd_self], t0 := by have := n.t0; omega
      vote := .inr ⟨c, hv, .inr ⟨rfl, rfl, rfl⟩⟩
      V := fun t c' h => by
        rcases h with h | ⟨_, rfl, rfl⟩
        · have h1 := (n.V t c' h).1
          refine ⟨by omega, fun e => ?_⟩
          subst e; rw [hv, hold _ h]
        · exact ⟨Int.le_refl _, fun _ => hv⟩
      K := fun t e h => by have := n.K t e h; omega
      E := fun t h => by have := n.E t h; omega
      cl := fun t l hl => by have := n.cl _ _ hl; omega
      cand := fun h => by
        have q := n.cand (hr ▸ h)
        rw [hvs, hlog, ht]
        exact ⟨q.1, q.2.1, fun y hy => .inl (q.2.2 y hy)⟩
      lead := fun h => by
        have q := n.lead (hr ▸ h)
        rw [hm, hx, hlog, ht]
        exact q
      log := by rw [hlog]; exact logOk_mono x.le n.log
      lt := fun e he => by rw [hlog] at he; have := n.lt e he; omega
      ack := fun T i e h1 h2 h3 => by rw [hlog]; exact v.ack_old hj x lt h1 h2 h3
      c0 := by rw [hc]; exact n.c0
      c1 := by rw [hc, hlog]; exact n.c1
      com := by
        rw [hc, hlog]
        exact n.com.imp_right fun ⟨T, i, h1, h2, h3, h4⟩ => ⟨T, i, Cm_mono x.le h1, h2, by omega, h4⟩ }
  · rintro y t c' (h | ⟨rfl, rfl, rfl⟩)
    · exact v.Vc _ _ _ h
    · exact ⟨l, hcl⟩
  · exact fun c t l hl => ⟨logOk_mono x.le (v.cl c t l hl).1, (v.cl c t l hl).2⟩
  · exact fun t => ⟨logOk_mono x.le (v.ll t).1, (v.ll t).2⟩
  · exact fun c T' T i h1 h2 h3 => v.safe_old x lt h1 h2 h3 (has_lt h3)
  · intro f T' c' l' T e i h0 h1 h2 h3 h4 h5 h6
    rcases h1 with h1 | ⟨rfl, rfl, rfl⟩
    · exact v.vsafe_old x lt h0 h1 h2 h3 h4 h5 h6
    · have h2' : g.cl c' a.term = some l' := h2
      rw [hcl] at h2'
      have e0 : l = l' := by injection h2'
      subst e0
      rcases n.ack T i e h5 h3 h6 with q | q
      · have o := v.cl _ _ _ hcl
        rw [hlog] at hf
        rcases v.fresh n.log o.1 o.2 q h5 hf with r | r
        · exact .inl r
        · exact .inr (dead_mono x (upd_tm lt) lt r)
      · exact .inr (dead_mono x (upd_tm lt) lt q)

/-- A node is elected. -/
def gElect (g : G) (j : Nat) (T : Int) (l : List Entry) : G := { g with E := fun c t => g.E c t ∨ (c = j ∧ t = T), ll := fun t => if t = T then l else g.ll t }

theorem Inv.elect (v : Inv k g ns) (hj : j < k) (hid : a.id = (ns j).id) (hnd : a.nodes = (ns j).nodes) (hb : a.base = (ns j).base) (hbt : a.baseTerm = (ns j).baseTerm)
    (ht : a.term = (ns j).term) (hv : a.vote = (ns j).vote) (hlog : a.log = (ns j).log) (hc : a.commit = (ns j).commit) (hr : (ns j).role = 1) (hr' : a.role = 2)
    (hm : ∀ (x : Nat) (e : Int), a.match[x]? = some e → e ≤ 0) (hx : ∀ (x : Nat) (e : Int), a.next[x]? = some e → 1 ≤ e ∧ e ≤ a.log.length + 1)
    (hq : Quo k fun x => g.V x a.term j) : Ext j a.term g (gElect g j a.term a.log) ∧ Inv k (gElect g j a.term a.log) (upd ns j a) := by
  have n := v.node j hj
  obtain ⟨hcl, hnE, _⟩ := n.cand hr
  rw [← ht, ← hlog] at hcl
  rw [← ht] at hnE
  have noE : ∀ c, ¬ g.E c a.term := fun c h => by
    obtain ⟨y, _, h1, h2⟩ := hq.meet (v.Eq _ _ h).2
    have := v.Vf _ _ _ _ h1 h2
    subst this; exact hnE h
  have ll0 : g.ll a.term = [] := Classical.byContradiction fun h => by
    obtain ⟨c, hc⟩ := v.El _ h
    exact noE c hc
  have hls : ∀ t, (gElect g j a.term a.log).ll t = if t = a.term then a.log else g.ll t := fun _ => rfl
  have hlT : (gElect g j a.term a.log).ll a.term = a.log := by rw [hls, if_pos rfl]
  have x : Ext j a.term g (gElect g j a.term a.log) :=
    { V := fun _ _ _ h => h, K := fun _ _ _ h => h, E := fun _ _ h => .inl h
      ll := fun t => by
        rw [hls]; split
        · rename_i q; subst q; rw [ll0]; exact List.nil_prefix
        · exact List.prefix_rfl
      cl := fun _ _ _ h => h, Vj := fun _ _ _ _ h => h, Kj := fun _ _ _ h => .inl h
      Ej := fun c t hc h => h.elim id fun q => absurd q.1 hc
      clj := fun _ _ _ _ h => h
      llj := fun t => by
        rw [hls]; split
        · rename_i q; subst q; exact .inr (.inr ⟨rfl, rfl⟩)
        · exact .inl rfl }
  have lt : (ns j).term ≤ a.term := by omega
  have clo := v.cl _ _ _ hcl
  have Eq : ∀ c t, (gElect g j a.term a.log).E c t → c < k ∧ Quo k fun x => (gElect g j a.term a.log).V x t c := by
    rintro c t (h | ⟨rfl, rfl⟩)
    · exact v.Eq c t h
    · exact ⟨hj, hq⟩
  have hback : ∀ T i, has (gElect g j a.term a.log) T i → i < (g.ll T).length := fun T i hh => by
    by_cases e : T = a.term
    · subst e
      obtain ⟨e, h1, h2⟩ := hh
      rw [hlT] at h1
      have := clo.2 e (List.mem_of_getElem? h1)
      omega
    · have := has_lt hh
      rw [hls, if_neg e] at this; exact this
  refine ⟨x, { node := v.nodes' x lt v.Vf Eq ?_, Vf := v.Vf, Vc := v.Vc, Kl := fun y t e h => Nat.le_trans (v.Kl y t e h) (x.ll t).length_le, Eq := Eq, cl := ?_, ll := ?_, El := ?_, safe := ?_, vsafe := ?_ }⟩
  · exact
    { id := hid.trans n.id, nodes := hnd.trans n.nodes, base := hb.trans n.base, bt := hbt.trans n.bt, tmj := by simp only [upd_self], t0 := by have := n.t0; omega
      vote := by rw [hv, ht]; exact n.vote
      V := fun t c h => by rw [hv, ht]; exact n.V t c h
      K := fun t e h => by rw [ht]; exact n.K t e h
      E := fun t h => by
        rcases h with h | ⟨_, rfl⟩
        · rw [ht]; exact n.E t h
        · exact Int.le_refl _
      cl := fun t l hl => by rw [ht]; exact n.cl _ _ hl
      cand := fun h => by omega
      lead := fun _ => ⟨.inr ⟨rfl, rfl⟩, hlT.symm, fun y e h => .inl (hm y e h), hx⟩
      log := by rw [hlog]; exact logOk_mono (hlog ▸ x.le) n.log
      lt := fun e he => by rw [hlog] at he; have := n.lt e he; omega
      ack := fun T i e h1 h2 h3 => by have := v.ack_old hj x lt h1 h2 h3; rwa [← hlog] at this
      c0 := by rw [hc]; exact n.c0
      c1 := by rw [hc, hlog]; exact n.c1
      com := by
        rw [hc]
        refine n.com.imp_right fun ⟨T, i, h1, h2, h3, h4⟩ => ⟨T, i, Cm_mono x.le h1, h2, by omega, ?_⟩
        have := h4.trans (x.ll _)
        rwa [← hlog] at this }
  · exact fun c t l hl => ⟨logOk_mono x.le (v.cl c t l hl).1, (v.cl c t l hl).2⟩
  · intro t
    rw [hls]; split
    · rename_i q; subst q
      refine ⟨logOk_mono x.le clo.1, fun e he => ⟨?_, ?_⟩⟩
      · obtain ⟨i, hi⟩ := List.getElem?_of_mem he
        have h1 := clo.1 i e hi
        have h2 : (a.log.take (i + 1))[i]? = some e := by rw [List.getElem?_take_of_lt (by omega)]; exact hi
        exact ((v.ll e.term).2 e (List.mem_of_getElem? (getElem?_of_prefix h1 h2))).1
      · have := clo.2 e he; omega
    · exact ⟨logOk_mono x.le (v.ll t).1, (v.ll t).2⟩
  · intro t h
    rw [hls] at h
    split at h
    · rename_i q; exact ⟨j, .inr ⟨rfl, q⟩⟩
    · obtain ⟨c, hc⟩ := v.El _ h
      exact ⟨c, .inl hc⟩
  · intro c T' T i h1 h2 h3
    have hi := hback T i h3
    rcases h1 with h1 | ⟨rfl, rfl⟩
    · exact v.safe_old x lt h1 h2 h3 hi
    · have h3' := has_back x.le h3 hi
      rw [hlT, take_same x.le hi]
      by_cases hd : ∃ y e, y < k ∧ g.V y a.term c ∧ g.K y T e ∧ i < e
      · obtain ⟨y, e, q1, q2, q3, q4⟩ := hd
        exact (v.vsafe y a.term c a.log T e i q1 q2 hcl q3 h2 h3' q4).imp id fun q => dead_mono x (upd_tm lt) lt q
      · right
        refine dead_mono (tm := fun y => (ns y).term) x (upd_tm lt) lt (hq.mono fun y hy hV => ⟨?_, fun e he => ?_⟩)
        · have := ((v.node y hy).V _ _ hV).1
          simp only; omega
        · exact Classical.byContradiction fun q => hd ⟨y, e, hy, hV, he, by omega⟩
  · intro f T' c l T e i h0 h1 h2 h3 h4 h5 h6
    exact v.vsafe_old x lt h0 h1 h2 h3 h4 h5 h6

/-- One who leads appends. -/
def gApp (g : G) (j : Nat) (T : Int) (l : List Entry) : G := { g with K := fun y t e => g.K y t e ∨ (y = j ∧ t = T ∧ e = l.length), ll := fun t => if t = T then l else g.ll t }

theorem Inv.app (v : Inv k g ns) (hj : j < k) {en : Entry} (hid : a.id = (ns j).id) (hnd : a.nodes = (ns j).nodes) (hb : a.base = (ns j).base) (hbt : a.baseTerm = (ns j).baseTerm)
    (ht : a.term = (ns j).term) (hv : a.vote = (ns j).vote) (hlog : a.log = (ns j).log ++ [en]) (hen : en.term = a.term) (hc : a.commit = (ns j).commit) (hr : (ns j).role = 2) (hr' : a.role = 2)
    (hm : ∀ (x : Nat) (e : Int), a.match[x]? = some e → (ns j).match[x]? = some e ∨ (x = j ∧ e ≤ a.log.length)) (hx : a.next = (ns j).next) :
    Ext j a.term g (gApp g j a.term a.log) ∧ Inv k (gApp g j a.term a.log) (upd ns j a) := by
  have n := v.node j hj
  obtain ⟨hE, hL, hM, hX⟩ := n.lead hr
  rw [← ht] at hE hL hM
  have hls : ∀ t, (gApp g j a.term a.log).ll t = if t = a.term then a.log else g.ll t := fun _ => rfl
  have hlT : (gApp g j a.term a.log).ll a.term = a.log := by rw [hls, if_pos rfl]
  have hlen : a.log.length = (g.ll a.term).length + 1 := by rw [hlog, hL, List.length_append]; rfl
  have x : Ext j a.term g (gApp g j a.term a.log) :=
    { V := fun _ _ _ h => h, K := fun _ _ _ h => .inl h, E := fun _ _ h => h
      ll := fun t => by
        rw [hls]; split
        · rename_i q; subst q; rw [hlog, hL]; exact List.prefix_append _ _
        · exact List.prefix_rfl
      cl := fun _ _ _ h => h, Vj := fun _ _ _ _ h => h
      Kj := fun y t e h => h.imp id fun q => ⟨q.1, q.2.1⟩
      Ej := fun c t hc h => h
      clj := fun _ _ _ _ h => h
      llj := fun t => by
        rw [hls]; split
        · rename_i q; subst q; exact .inr hE
        · exact .inl rfl }
  have lt : (ns j).term ≤ a.term := by omega
  have hnew : ∀ T i, has (gApp g j a.term a.log) T i → i < (g.ll T).length ∨ (T = a.term ∧ i = (g.ll a.term).length) := fun T i hh => by
    have := has_lt hh
    rw [hls] at this
    split at this
    · rename_i q; subst q; omega
    · exact .inl this
  refine ⟨x, { node := v.nodes' x lt v.Vf v.Eq ?_, Vf := v.Vf, Vc := v.Vc, Kl := ?_, Eq := v.Eq, cl := ?_, ll := ?_, El := ?_, safe := ?_, vsafe := ?_ }⟩
  · exact
    { id := hid.trans n.id, nodes := hnd.trans n.nodes, base := hb.trans n.base, bt := hbt.trans n.bt, tmj := by simp only [upd_self], t0 := by have := n.t0; omega
      vote := by rw [hv, ht]; exact n.vote
      V := fun t c h => by rw [hv, ht]; exact n.V t c h
      K := fun t e h => by
        rcases h with h | ⟨_, rfl, _⟩
        · rw [ht]; exact n.K t e h
        · exact Int.le_refl _
      E := fun t h => by rw [ht]; exact n.E t h
      cl := fun t l hl => by rw [ht]; exact n.cl _ _ hl
      cand := fun h => by omega
      lead := fun _ => by
        refine ⟨hE, hlT.symm, fun y e h => ?_, fun y e h => by rw [hx] at h; have := hX y e h; rw [hlen, ← hL]; omega⟩
        rcases hm y e h with h | ⟨rfl, h⟩
        · exact (hM y e h).imp_right fun ⟨e', q1, q2⟩ => ⟨e', .inl q1, q2⟩
        · exact .inr ⟨a.log.length, .inr ⟨rfl, rfl, rfl⟩, h⟩
      log := by
        intro i e he
        by_cases hi : i < (ns j).log.length
        · rw [hlog, List.getElem?_append_left hi] at he
          have q := (n.log i e he).trans (x.ll e.term)
          rw [hlog, List.take_append_of_le_length (by omega)]
          rwa [hlog] at q
        · have hl := lt_of_some he
          have e1 : i = (ns j).log.length := by rw [hlog, List.length_append] at hl; simp only [List.length_singleton] at hl; omega
          rw [hlog, e1, List.getElem?_append_right (Nat.le_refl _)] at he
          have e2 : en = e := by simpa using he
          rw [← e2, hen, hlT]
          exact List.take_prefix _ _
      lt := fun e he => by
        rw [hlog] at he
        rcases List.mem_append.1 he with he | he
        · have := n.lt e he; omega
        · have : e = en := by simpa using he
          subst this; omega
      ack := fun T i e h1 h2 h3 => by
        by_cases hT : T = a.term
        · subst hT; left; rw [hlT]; exact List.take_prefix _ _
        · rcases h2 with h2 | ⟨_, h2, _⟩
          · refine (v.ack_old hj x lt h1 h2 h3).imp (fun q => ?_) id
            refine q.trans ?_
            rw [hlog]; exact List.prefix_append _ _
          · exact absurd h2 hT
      c0 := by rw [hc]; exact n.c0
      c1 := by rw [hc, hlen, ← hL]; have := n.c1; omega
      com := by
        rw [hc]
        refine n.com.imp_right fun ⟨T, i, h1, h2, h3, h4⟩ => ⟨T, i, Cm_mono x.le h1, h2, by omega, ?_⟩
        have c1 := n.c1
        have := h4.trans (x.ll _)
        rw [hlog, List.take_append_of_le_length (by omega)]
        rwa [hlog] at this }
  · rintro y t e (h | ⟨rfl, rfl, rfl⟩)
    · exact Nat.le_trans (v.Kl y t e h) (x.ll t).length_le
    · rw [hlT]; exact Nat.le_refl _
  · exact fun c t l hl => ⟨logOk_mono x.le (v.cl c t l hl).1, (v.cl c t l hl).2⟩
  · intro t
    rw [hls]; split
    · rename_i q; subst q
      refine ⟨?_, fun e he => ?_⟩
      · intro i e he
        by_cases hi : i < (g.ll a.term).length
        · have he' := he
          rw [hlog, hL, List.getElem?_append_left hi] at he
          have q := ((v.ll a.term).1 i e he).trans (x.ll e.term)
          rw [← take_of_prefix (x.ll a.term) (by omega), hlT] at q
          exact q
        · have hl := lt_of_some he
          have e1 : i = (g.ll a.term).length := by omega
          rw [hlog, hL, e1, List.getElem?_append_right (Nat.le_refl _)] at he
          have e2 : en = e := by simpa using he
          rw [← e2, hen, hlT]
          exact List.take_prefix _ _
      · rw [hlog, hL] at he
        rcases List.mem_append.1 he with he | he
        · exact (v.ll _).2 e he
        · have : e = en := by simpa using he
          subst this; have := n.t0; omega
    · exact ⟨logOk_mono x.le (v.ll t).1, (v.ll t).2⟩
  · intro t h
    rw [hls] at h
    split at h
    · rename_i q; exact ⟨j, q ▸ hE⟩
    · exact v.El _ h
  · intro c T' T i h1 h2 h3
    rcases hnew T i h3 with hi | ⟨rfl, rfl⟩
    · exact v.safe_old x lt h1 h2 h3 hi
    · right
      refine dead_mono (tm := fun y => (ns y).term) x (upd_tm lt) lt ((v.Eq _ _ h1).2.mono fun y hy hV => ⟨?_, fun e he => v.Kl _ _ _ he⟩)
      have := ((v.node y hy).V _ _ hV).1
      simp only; omega
  · intro f T' c l T e i h0 h1 h2 h3 h4 h5 h6
    rcases h3 with h3 | ⟨rfl, rfl, rfl⟩
    · exact v.vsafe_old x lt h0 h1 h2 h3 h4 h5 h6
    · have := (n.V _ _ h1).1
      omega

/-- A node acknowledges. -/
def gAck (g : G) (j : Nat) (T : Int) (e : Nat) : G := { g with K := fun y t e' => g.K y t e' ∨ (y = j ∧ t = T ∧ e' = e) }

theorem Inv.acks (v : Inv k g ns) (hj : j < k) {e : Nat} (he : e ≤ (g.ll (ns j).term).length) (hp : (g.ll (ns j).term).take e <+: (ns j).log) :
    Ext j (ns j).term g (gAck g j (ns j).term e) ∧ Inv k (gAck g j (ns j).term e) ns := by
  have n := v.node j hj
  have x : Ext j (ns j).term g (gAck g j (ns j).term e) :=
    { V := fun _ _ _ h => h, K := fun _ _ _ h => .inl h, E := fun _ _ h => h, ll := fun _ => List.prefix_rfl
      cl := fun _ _ _ h => h, Vj := fun _ _ _ _ h => h
      Kj := fun y t e h => h.imp id fun q => ⟨q.1, q.2.1⟩
      Ej := fun c t hc h => h
      clj := fun _ _ _ _ h => h
      llj := fun t => .inl rfl }
  have lt : (ns j).term ≤ (ns j).term := Int.le_refl _
  have hu : upd ns j (ns j) = ns := by funext y; unfold upd; split <;> simp_all
  have base : Inv k (gAck g j (ns j).term e) (upd ns j (ns j)) := by
    refine { node := v.nodes' x lt v.Vf v.Eq ?_, Vf := v.Vf, Vc := v.Vc, Kl := ?_, Eq := v.Eq, cl := ?_, ll := ?_, El := v.El, safe := ?_, vsafe := ?_ }
    · exact
      { id := n.id, nodes := n.nodes, base := n.base, bt := n.bt, tmj := by simp only [upd_self], t0 := n.t0
        vote := n.vote, V := n.V
        K := fun t e h => by
          rcases h with h | ⟨_, rfl, _⟩
          · exact n.K t e h
          · exact Int.le_refl _
        E := n.E, cl := n.cl, cand := n.cand
        lead := fun h => by
          obtain ⟨h1, h2, h3, h4⟩ := n.lead h
          exact ⟨h1, h2, fun y e h => (h3 y e h).imp_right fun ⟨e', q1, q2⟩ => ⟨e', .inl q1, q2⟩, h4⟩
        log := n.log, lt := n.lt
        ack := fun T i e' h1 h2 h3 => by
          rcases h2 with h2 | ⟨_, rfl, rfl⟩
          · exact v.ack_old hj x lt h1 h2 h3
          · left
            refine List.IsPrefix.trans ?_ hp
            refine List.prefix_of_prefix_length_le (List.take_prefix _ _) (List.take_prefix _ _) ?_
            show ((g.ll (ns j).term).take (i + 1)).length ≤ _
            simp only [List.length_take]; omega
        c0 := n.c0, c1 := n.c1
        com := n.com.imp_right fun ⟨T, i, h1, h2, h3, h4⟩ => ⟨T, i, Cm_mono x.le h1, h2, h3, h4⟩ }
    · rintro y t e' (h | ⟨rfl, rfl, rfl⟩)
      · exact v.Kl y t e' h
      · exact he
    · exact fun c t l hl => ⟨logOk_mono x.le (v.cl c t l hl).1, (v.cl c t l hl).2⟩
    · exact fun t => ⟨logOk_mono x.le (v.ll t).1, (v.ll t).2⟩
    · exact fun c T' T i h1 h2 h3 => v.safe_old x lt h1 h2 h3 (has_lt h3)
    · intro f T' c l T e' i h0 h1 h2 h3 h4 h5 h6
      rcases h3 with h3 | ⟨rfl, rfl, rfl⟩
      · exact v.vsafe_old x lt h0 h1 h2 h3 h4 h5 h6
      · have := (n.V _ _ h1).1
        omega
  rw [hu] at base
  exact ⟨x, base⟩

theorem not_dead {T : Int} {i : Nat} {tm : Nat → Int} (q : Cm k g T i) : ¬ dead k g tm T i := fun d => by
  obtain ⟨y, _, ⟨e, h1, h2⟩, _, h3⟩ := q.2.meet d
  have := h3 e h1
  omega

/-- What is committed all have who lead later. -/
theorem Inv.later (v : Inv k g ns) {c : Nat} {T' T : Int} {i : Nat} (q : Cm k g T i) (hE : g.E c T') (ht : T ≤ T') : (g.ll T).take (i + 1) <+: g.ll T' := by
  by_cases e : T = T'
  · subst e; exact List.take_prefix _ _
  · exact (v.safe c T' T i hE (by omega) q.1).resolve_right (not_dead q)

/-- A node that leads no more takes other entries: what is its own and the leader's stays. -/
theorem Inv.put (v : Inv k g ns) (hj : j < k) {c : Nat} (hE : g.E c (ns j).term) (hr : (ns j).role = 0) {l : List Entry} (h1 : l = (ns j).log ∨ l <+: g.ll (ns j).term)
    (h2 : ∀ q, q <+: (ns j).log → q <+: g.ll (ns j).term → q <+: l) : Inv k g (upd ns j { ns j with log := l }) := by
  have n := v.node j hj
  have com : (ns j).commit = 0 ∨ (∃ T i, Cm k g T i ∧ (ns j).commit ≤ i + 1 ∧ T ≤ (ns j).term ∧ l.take (ns j).commit.toNat <+: g.ll T) ∧ (ns j).commit ≤ l.length := by
    rcases n.com with h | ⟨T, i, q1, q2, q3, q4⟩
    · exact .inl h
    · right
      have c0 := n.c0
      have c1 := n.c1
      have hl := v.later q1 hE q3
      have hi := has_lt q1.1
      have hq : (ns j).log.take (ns j).commit.toNat <+: (g.ll T).take (i + 1) := by
        refine List.prefix_of_prefix_length_le q4 (List.take_prefix _ _) ?_
        simp only [List.length_take]; omega
      have hq' := h2 _ (List.take_prefix _ _) (hq.trans hl)
      have hlen := hq'.length_le
      rw [List.length_take] at hlen
      refine ⟨⟨T, i, q1, q2, q3, ?_⟩, by omega⟩
      have : l.take (ns j).commit.toNat = (ns j).log.take (ns j).commit.toNat := by
        have := take_of_prefix hq' (i := (ns j).commit.toNat) (by rw [List.length_take]; omega)
        rw [this, List.take_take, Nat.min_self]
      rw [this]; exact q4
  refine v.same hj (Int.le_refl _)
    { id := n.id, nodes := n.nodes, base := n.base, bt := n.bt, tmj := by simp only [upd_self], t0 := n.t0
      vote := n.vote, V := n.V, K := n.K, E := n.E, cl := n.cl, cand := fun h => ?_, lead := fun h => ?_, log := ?_, lt := ?_, ack := ?_, c0 := n.c0, c1 := ?_, com := ?_ }
  · have : (ns j).role = 1 := h
    omega
  · have : (ns j).role = 2 := h
    omega
  · rcases h1 with h1 | h1
    · rw [h1]; exact n.log
    · exact logOk_prefix h1 (v.ll _).1
  · intro e he
    have he : e ∈ l := he
    rcases h1 with h1 | h1
    · rw [h1] at he; exact n.lt e he
    · exact ((v.ll _).2 e (h1.subset he)).2
  · intro T i e q1 q2 q3
    have hT := n.K _ _ q2
    show (g.ll T).take (i + 1) <+: l ∨ _
    rcases v.ack_old hj (a := { ns j with log := l }) (Ext.refl j (ns j).term g) (Int.le_refl _) q1 q2 q3 with q | q
    · by_cases hT' : T = (ns j).term
      · subst hT'; exact .inl (h2 _ q (List.take_prefix _ _))
      · rcases v.safe_old (a := { ns j with log := l }) (Ext.refl j (ns j).term g) (Int.le_refl _) hE (show T < (ns j).term by omega) q1 (has_lt q1) with r | r
        · exact .inl (h2 _ q r)
        · exact .inr r
    · exact .inr q
  · show (ns j).commit ≤ l.length
    rcases com with h | ⟨_, h⟩
    · omega
    · exact h
  · exact com.imp_right fun h => h.1

/-- A node knows more to be committed. -/
theorem Inv.commits (v : Inv k g ns) (hj : j < k) {c : Int} (h0 : 0 ≤ c) (h1 : c ≤ (ns j).log.length)
    (h2 : c = 0 ∨ ∃ T i, Cm k g T i ∧ c ≤ i + 1 ∧ T ≤ (ns j).term ∧ (ns j).log.take c.toNat <+: g.ll T) : Inv k g (upd ns j { ns j with commit := c }) := by
  have n := v.node j hj
  exact v.same hj (Int.le_refl _)
    { id := n.id, nodes := n.nodes, base := n.base, bt := n.bt, tmj := by simp only [upd_self], t0 := n.t0
      vote := n.vote, V := n.V, K := n.K, E := n.E, cl := n.cl, cand := n.cand, lead := n.lead, log := n.log, lt := n.lt
      ack := fun T i e q1 q2 q3 => v.ack_old hj (a := { ns j with commit := c }) (Ext.refl j (ns j).term g) (Int.le_refl _) q1 q2 q3, c0 := h0, c1 := h1, com := h2 }

end
end Safe
end Go.Proofs.Ytinfpahllbhomaa

namespace Go.Proofs.Ytinfpahllbhomaa
namespace Safe
set_option linter.unusedVariables false
set_option linter.unusedSimpArgs false

section
variable {k j : Nat} {g h : G} {ns : Nat → Node} {a b : Node} {B : Int}

theorem z1 : ¬ (0 : Int) = 1 := by decide
theorem z2 : ¬ (0 : Int) = 2 := by decide
theorem upd_upd : upd (upd ns j a) j b = upd ns j b := by funext x; unfold upd; split <;> rfl
theorem upd_id : upd ns j (ns j) = ns := by funext y; unfold upd; split <;> simp_all

def CI (k : Nat) (g : G) (T : Int) (c : Int) : Prop :=
  0 ≤ c ∧ c ≤ (g.ll T).length ∧ (c = 0 ∨ ∃ T' i, Cm k g T' i ∧ c ≤ i + 1 ∧ T' ≤ T ∧ (g.ll T).take c.toNat <+: g.ll T')

/-- A message is what one could have sent. -/
def MsgOk (k : Nat) (g : G) (m : Msg) : Prop := ∃ f : Nat, m.from = f ∧
  ((m.kind = 1 ∧ ∃ l, g.cl f m.term = some l ∧ m.index = l.length ∧ m.at = lastT l) ∨
   (m.kind = 2 ∧ (m.yes = true → ∃ c : Nat, m.to = c ∧ g.V f m.term c)) ∨
   (m.kind = 3 ∧ g.E f m.term ∧ CI k g m.term m.commit ∧ ∃ pre rest, g.ll m.term = pre ++ (m.entries ++ rest) ∧ m.index = pre.length ∧ m.at = lastT pre) ∨
   (m.kind = 4 ∧ (m.yes = true → ∃ e : Nat, m.index ≤ e ∧ (e = 0 ∨ g.K f m.term e))))

theorem CI.mono (x : Le g h) {T c : Int} (q : CI k g T c) : CI k h T c := by
  obtain ⟨h0, h1, h2⟩ := q
  have hl := (x.ll T).length_le
  refine ⟨h0, by omega, h2.imp_right fun ⟨T', i, q1, q2, q3, q4⟩ => ⟨T', i, Cm_mono x q1, q2, q3, ?_⟩⟩
  rw [take_of_prefix (x.ll T) (by omega)]
  exact q4.trans (x.ll T')

theorem MsgOk.mono (x : Le g h) {m : Msg} (q : MsgOk k g m) : MsgOk k h m := by
  obtain ⟨f, h0, q⟩ := q
  refine ⟨f, h0, ?_⟩
  rcases q with ⟨q1, l, q2, q3⟩ | ⟨q1, q2⟩ | ⟨q1, q2, q3, pre, rest, q4, q5⟩ | ⟨q1, q2⟩
  · exact .inl ⟨q1, l, x.cl _ _ _ q2, q3⟩
  · exact .inr (.inl ⟨q1, fun y => by obtain ⟨c, r1, r2⟩ := q2 y; exact ⟨c, r1, x.V _ _ _ r2⟩⟩)
  · obtain ⟨s, hs⟩ := x.ll m.term
    refine .inr (.inr (.inl ⟨q1, x.E _ _ q2, q3.mono x, pre, rest ++ s, ?_, q5⟩))
    rw [← hs, q4]; simp only [List.append_assoc]
  · exact .inr (.inr (.inr ⟨q1, fun y => by obtain ⟨e, r1, r2⟩ := q2 y; exact ⟨e, r1, r2.imp_right (x.K _ _ _)⟩⟩))

/-- What a node's turn leaves. -/
def Out (k : Nat) (g : G) (ns : Nat → Node) (j : Nat) (a : Node) (l : List Msg) : Prop := ∃ h, Le g h ∧ Inv k h (upd ns j a) ∧ ∀ x ∈ l, MsgOk k h x

theorem last_eq (hb : a.base = 0) : last a = a.log.length := by unfold last; omega

theorem termAt_eq (hb : a.base = 0) (hbt : a.baseTerm = 0) {i : Int} (h0 : 0 ≤ i) (h1 : i ≤ a.log.length) : termAt a i = lastT (a.log.take i.toNat) := by
  unfold termAt lastT
  rw [last_eq hb, hb]
  by_cases hi : i = 0
  · subst hi
    rw [if_pos rfl, hbt]; rfl
  · rw [if_neg hi, if_pos (by omega), List.length_take, List.getD_eq_getElem?_getD, List.getD_eq_getElem?_getD, List.getElem?_take_of_lt (by omega)]
    congr 4
    omega

theorem down_ok (v : Inv k g ns) (hj : j < k) (t : Int) : Inv k g (upd ns j (down (ns j) t)) := by
  unfold down
  split
  · rename_i ht
    exact v.turn hj rfl rfl rfl rfl (by dsimp only; omega) (.inr ⟨ht, rfl⟩) rfl (.inl rfl) (fun h => absurd h z1) (fun h => absurd h z2)
  · rw [upd_id]; exact v

theorem down_term {t : Int} : t ≤ (down a t).term := by unfold down; split <;> (try dsimp only) <;> omega
theorem down_id {t : Int} : (down a t).id = a.id := by unfold down; split <;> rfl
theorem down_nodes {t : Int} : (down a t).nodes = a.nodes := by unfold down; split <;> rfl

theorem asked_ok (v : Inv k g ns) (hj : j < k) {m : Msg} (hm : MsgOk k g m) (hk : m.kind = 1) : Out k g ns j (asked (ns j) m) (askedMsgs (ns j) m) := by
  have v1 := down_ok v hj m.term
  have n1 := v1.node j hj
  rw [upd_self] at n1
  have ei : (ns j).id = j := (v.node j hj).id
  have ed : (down (ns j) m.term).id = j := down_id.trans ei
  unfold asked askedMsgs
  dsimp only
  generalize down (ns j) m.term = b at *
  by_cases hg : grants b m = true
  · rw [if_pos hg]
    rw [grants_eq, decide_eq_true_eq] at hg
    obtain ⟨⟨g1, g2⟩, g3⟩ := hg
    obtain ⟨f, hf, q⟩ := hm
    rcases q with ⟨q1, l, q2, q3, q4⟩ | ⟨q1, _⟩ | ⟨q1, _⟩ | ⟨q1, _⟩ <;> try omega
    have t := Inv.votes (a := { b with vote := m.from, clock := 0 }) (c := f) (l := l) v1 hj
    rw [upd_self, upd_upd] at t
    obtain ⟨x, v2⟩ := t rfl rfl rfl rfl rfl hf rfl rfl rfl rfl rfl rfl (by rw [← hf]; exact g2) (by show g.cl f b.term = _; rw [← g1]; exact q2) (by
      rw [last_eq n1.base, termAt_eq n1.base n1.bt (by omega) (by omega), q3, q4] at g3
      have hz : ((b.log.length : Int)).toNat = b.log.length := by omega
      rw [hz, List.take_length] at g3
      show lastT b.log < lastT l ∨ (lastT l = lastT b.log ∧ b.log.length ≤ l.length)
      omega)
    refine ⟨_, x.le, v2, fun y hy => ?_⟩
    rw [List.mem_singleton] at hy
    subst hy
    exact ⟨j, ed, .inr (.inl ⟨rfl, fun _ => ⟨f, hf, .inr ⟨rfl, rfl, rfl⟩⟩⟩)⟩
  · rw [if_neg hg]
    refine ⟨g, Le.refl g, v1, fun y hy => ?_⟩
    rw [List.mem_singleton] at hy
    subst hy
    exact ⟨j, ed, .inr (.inl ⟨rfl, fun h => absurd h hg⟩)⟩

theorem cnt_succ' (q : Nat → Bool) : ∀ n, cnt q (n + 1) = (if q 0 then 1 else 0) + cnt (fun x => q (x + 1)) n
  | 0 => by simp [cnt]
  | n + 1 => by rw [cnt, cnt_succ' q n, cnt]; omega

theorem cntI_cnt (i : Int) : ∀ L : List Int, cntI i L = (cnt (fun x => decide (x < L.length ∧ i ≤ L.getD x 0)) L.length : Nat)
  | [] => by simp [cntI, cnt]
  | x :: L => by
    have := cntI_cnt i L
    rw [List.length_cons, cnt_succ', cntI, this]
    by_cases h : i ≤ x <;> simp [h]

theorem cntB_cnt : ∀ L : List Bool, cntB L = (cnt (fun x => L.getD x false) L.length : Nat)
  | [] => by simp [cntB, cnt]
  | x :: L => by
    have := cntB_cnt L
    rw [List.length_cons, cnt_succ', cntB, this]
    cases x <;> simp

theorem adv_of : ∀ (m : Nat) (i : Int), adv a m i = a.commit ∨ (i - m < adv a m i ∧ adv a m i ≤ i ∧ termAt a (adv a m i) = a.term ∧ most a ≤ cntI (adv a m i) a.match)
  | 0, i => .inl rfl
  | m + 1, i => by
    unfold adv
    split
    · rename_i h
      exact .inr ⟨by omega, Int.le_refl _, h.1, h.2⟩
    · rcases adv_of m (i - 1) with h | ⟨h1, h2, h3⟩
      · exact .inl h
      · exact .inr ⟨by omega, by omega, h3⟩

theorem advance_ok (v : Inv k g ns) (hj : j < k) (hr : (ns j).role = 2) (hm : ((ns j).match.length : Int) = k) : Inv k g (upd ns j (advance (ns j))) := by
  have n := v.node j hj
  obtain ⟨l1, l2, l3, l4⟩ := n.lead hr
  unfold advance
  rw [if_pos hr]
  have hl := last_eq n.base
  have c0 := n.c0
  have c1 := n.c1
  rcases adv_of (a := ns j) (last (ns j) - (ns j).commit).toNat (last (ns j)) with h | ⟨h1, h2, h3, h4⟩
  · rw [h]
    have : ({ ns j with commit := (ns j).commit } : Node) = ns j := rfl
    rw [this, upd_id]; exact v
  · generalize adv (ns j) (last (ns j) - (ns j).commit).toNat (last (ns j)) = c at *
    have hc : (ns j).commit < c := by omega
    refine v.commits hj (by omega) (by omega) (.inr ⟨(ns j).term, c.toNat - 1, ⟨?_, ?_⟩, by omega, Int.le_refl _, by rw [← l2]; exact List.take_prefix _ _⟩)
    · rw [termAt_eq n.base n.bt (by omega) (by omega)] at h3
      unfold lastT at h3
      rw [List.length_take, List.getD_eq_getElem?_getD, List.getElem?_take_of_lt (by omega), Nat.min_eq_left (by omega)] at h3
      have hlt : c.toNat - 1 < (ns j).log.length := by omega
      rw [List.getElem?_eq_getElem hlt] at h3
      refine ⟨_, by rw [← l2]; exact List.getElem?_eq_getElem hlt, h3⟩
    · rw [cntI_cnt] at h4
      unfold most at h4
      have hn := n.nodes
      have hlen : (ns j).match.length = k := by omega
      have hcc := congrArg (cnt fun x => decide (x < (ns j).match.length ∧ c ≤ (ns j).match.getD x 0)) hlen
      refine ⟨fun x => decide (x < (ns j).match.length ∧ c ≤ (ns j).match.getD x 0), ?_, by omega⟩
      intro x hx hb
      rw [decide_eq_true_eq] at hb
      have hx' : x < (ns j).match.length := hb.1
      have hq := hb.2
      rw [List.getD_eq_getElem?_getD, List.getElem?_eq_getElem hx'] at hq
      have hq' : c ≤ (ns j).match[x] := hq
      rcases l3 x _ (List.getElem?_eq_getElem hx') with r | ⟨e, r1, r2⟩
      · omega
      · exact ⟨e, r1, by omega⟩

theorem advance_role : (advance a).role = a.role := by unfold advance; split <;> rfl

theorem more_ok (v : Inv k g ns) (hj : j < k) (hr : (ns j).role = 2) (hm : ((ns j).match.length : Int) = k) {cmd : ByteArray} : ∃ h, Le g h ∧ Inv k h (upd ns j (more (ns j) cmd)) := by
  have n := v.node j hj
  have t := Inv.app (a := { ns j with log := (ns j).log ++ [⟨(ns j).term, cmd⟩], «match» := (ns j).match.set (ns j).id.toNat (last (ns j) + 1) }) v hj (en := ⟨(ns j).term, cmd⟩)
    rfl rfl rfl rfl rfl rfl rfl rfl rfl hr hr (fun x e hx0 => by
      have hx : ((ns j).match.set (ns j).id.toNat (last (ns j) + 1))[x]? = some e := hx0
      clear hx0
      rw [List.getElem?_set] at hx
      have hi : (ns j).id.toNat = j := by have := n.id; omega
      rw [hi] at hx
      split at hx
      · rename_i q; subst q
        split at hx
        · right
          have hx := Option.some.inj hx
          rw [last_eq n.base] at hx
          dsimp only
          rw [List.length_append, List.length_singleton]
          exact ⟨rfl, by omega⟩
        · cases hx
      · exact .inl hx) rfl
  obtain ⟨x, v1⟩ := t
  refine ⟨_, x.le, ?_⟩
  have t2 := advance_ok v1 hj
  rw [upd_self, upd_upd] at t2
  exact t2 hr (by dsimp only; rw [List.length_set]; exact hm)

theorem lead_ok (v : Inv k g ns) (hj : j < k) (hr : (ns j).role = 1) (hq : Quo k fun x => g.V x (ns j).term j) : ∃ h, Le g h ∧ Inv k h (upd ns j (lead (ns j))) := by
  have n := v.node j hj
  have t := Inv.elect (a := leads (ns j)) v hj rfl rfl rfl rfl rfl rfl rfl rfl hr rfl (fun x e hx0 => by
      have hx : (List.replicate (ns j).nodes.toNat (0 : Int))[x]? = some e := hx0
      clear hx0
      rw [List.getElem?_replicate] at hx
      split at hx
      · have := Option.some.inj hx; omega
      · cases hx) (fun x e hx0 => by
      have hx : (List.replicate (ns j).nodes.toNat (last (ns j) + 1))[x]? = some e := hx0
      clear hx0
      rw [List.getElem?_replicate] at hx
      split at hx
      · have := Option.some.inj hx
        rw [last_eq n.base] at this
        show 1 ≤ e ∧ e ≤ (ns j).log.length + 1
        omega
      · cases hx) hq
  obtain ⟨x, v1⟩ := t
  have t2 := more_ok (cmd := ⟨#[]⟩) v1 hj
  rw [upd_self, upd_upd] at t2
  obtain ⟨h, x2, v2⟩ := t2 rfl (by
    show ((List.replicate (ns j).nodes.toNat (0 : Int)).length : Int) = k
    rw [List.length_replicate]
    have := n.nodes; omega)
  exact ⟨h, x.le.trans x2, v2⟩

theorem oth_rng {P : Msg → Prop} {f : Int → Msg} {id : Int} : ∀ (m : Nat) (i : Int), (∀ x, i ≤ x → x < i + m → P (f x)) → ∀ x ∈ oth f id m i, P x
  | 0, _, _, x, hx => by cases hx
  | m + 1, i, h, x, hx => by
    unfold oth at hx
    split at hx
    · exact oth_rng m (i + 1) (fun y h1 h2 => h y (by omega) (by omega)) x hx
    · rcases List.mem_cons.1 hx with rfl | hx
      · exact h i (by omega) (by omega)
      · exact oth_rng m (i + 1) (fun y h1 h2 => h y (by omega) (by omega)) x hx

theorem CI_of {tm : Nat → Int} (n : NodeOk k g tm j a) (hr : a.role = 2) : CI k g a.term a.commit := by
  obtain ⟨_, l2, _⟩ := n.lead hr
  refine ⟨n.c0, by rw [← l2]; exact n.c1, ?_⟩
  rw [← l2]; exact n.com

theorem send_ok {tm : Nat → Int} (n : NodeOk k g tm j a) (hr : a.role = 2) {i : Int} (h0 : 0 ≤ i) (h1 : i < a.next.length) : MsgOk k g (send a i) := by
  obtain ⟨l1, l2, l3, l4⟩ := n.lead hr
  have hlt : i.toNat < a.next.length := by omega
  have hx := List.getElem?_eq_getElem hlt
  have hb := l4 _ _ hx
  have hd : a.next.getD i.toNat 0 = a.next[i.toNat] := by rw [List.getD_eq_getElem?_getD, hx]; rfl
  unfold send
  dsimp only
  rw [hd]
  generalize a.next[i.toNat] = x at *
  rw [if_neg (by rw [n.base]; omega)]
  refine ⟨j, n.id, .inr (.inr (.inl ⟨rfl, l1, CI_of n hr, a.log.take (x - 1).toNat, (a.log.drop (x - 1).toNat).drop 20, ?_, ?_, ?_⟩))⟩
  · show g.ll a.term = _ ++ ((behind a (x - 1)).take 20 ++ _)
    unfold behind
    rw [n.base, show x - 1 - 0 = x - 1 from by omega, List.take_append_drop, List.take_append_drop, l2]
  · show x - 1 = _
    rw [List.length_take]; omega
  · exact termAt_eq n.base n.bt (by omega) (by omega)

theorem sends_ok {tm : Nat → Int} (n : NodeOk k g tm j a) (hr : a.role = 2) (hx : (a.next.length : Int) = a.nodes) : ∀ x ∈ sends a, MsgOk k g x := by
  unfold sends
  exact oth_rng _ _ fun i h0 h1 => send_ok n hr h0 (by omega)

theorem given_ok (v : Inv k g ns) (hj : j < k) (hNI : NI B (ns j)) {m : Msg} (hm : MsgOk k g m) (hk : m.kind = 2) (hto : m.to = (ns j).id) : Inv k g (upd ns j (given (ns j) m)) ∧
    (won (ns j) m = true → Quo k fun x => g.V x (given (ns j) m).term j) := by
  have v1 := down_ok v hj m.term
  have n1 := v1.node j hj
  rw [upd_self] at n1
  have ei : (ns j).id = j := (v.node j hj).id
  have en : (ns j).nodes = k := (v.node j hj).nodes
  have hlen : ((down (ns j) m.term).votes.length : Int) = k := by
    have := hNI.lv
    have := hNI.n1
    unfold down
    split
    · dsimp only; rw [List.length_replicate]; omega
    · omega
  unfold given won
  dsimp only
  generalize down (ns j) m.term = b at *
  by_cases hh : hears b m = true
  · rw [if_pos hh]
    rw [hears_eq, decide_eq_true_eq] at hh
    obtain ⟨y1, y2, y3⟩ := hh
    obtain ⟨f, hf, q⟩ := hm
    rcases q with ⟨q1, _⟩ | ⟨q1, q2⟩ | ⟨q1, _⟩ | ⟨q1, _⟩ <;> try omega
    obtain ⟨c, hc, hV⟩ := q2 y1
    have hcj : c = j := by omega
    subst hcj
    have hvs : ∀ x, (b.votes.set m.from.toNat true).getD x false = true → g.V x b.term c := by
      intro x hx
      rw [List.getD_eq_getElem?_getD, List.getElem?_set] at hx
      split at hx
      · rename_i e
        have : x = f := by omega
        rw [this, ← y2]; exact hV
      · exact (n1.cand y3).2.2 x (by rw [List.getD_eq_getElem?_getD]; exact hx)
    constructor
    · have t := Inv.turn (a := { b with votes := b.votes.set m.from.toNat true }) v1 hj
      rw [upd_self, upd_upd] at t
      exact t rfl rfl rfl rfl (Int.le_refl _) (.inl ⟨rfl, rfl⟩) rfl (.inl rfl) (fun _ => ⟨(n1.cand y3).1, (n1.cand y3).2.1, hvs⟩) (fun h => by have : b.role = 2 := h; omega)
    · intro hw
      rw [Bool.and_eq_true, decide_eq_true_eq] at hw
      have hw := hw.2
      rw [cntB_cnt, List.length_set] at hw
      unfold most at hw
      have hn := n1.nodes
      have hl : b.votes.length = k := by omega
      have hcc := congrArg (cnt fun x => (b.votes.set m.from.toNat true).getD x false) hl
      refine ⟨fun x => (b.votes.set m.from.toNat true).getD x false, fun x _ hx => hvs x hx, by omega⟩
  · rw [if_neg hh]
    refine ⟨v1, fun hw => ?_⟩
    rw [Bool.and_eq_true] at hw
    exact absurd hw.1 hh

theorem put_spec {L lead : List Entry} (oL : logOk g L) (oR : logOk g lead) : ∀ (es pre rest : List Entry), lead = pre ++ (es ++ rest) → L.take pre.length = pre →
    (putL L pre.length es).take (pre.length + es.length) = pre ++ es ∧ (putL L pre.length es = L ∨ putL L pre.length es = pre ++ es) ∧ ∀ q, q <+: L → q <+: lead → q <+: putL L pre.length es
  | [], pre, rest, h1, h2 => by
    refine ⟨?_, .inl rfl, fun q h _ => h⟩
    rw [List.append_nil]; exact h2
  | e :: es, pre, rest, h1, h2 => by
    have hlead : lead[pre.length]? = some e := by rw [h1, List.getElem?_append_right (Nat.le_refl _), Nat.sub_self]; rfl
    have hpl : pre <+: L := by rw [← h2]; exact List.take_prefix _ _
    have hpre := hpl.length_le
    unfold putL
    split
    · rename_i hc
      obtain ⟨c1, c2⟩ := hc
      have hL := List.getElem?_eq_getElem c1
      have e1 : L[pre.length].term = e.term := by
        rw [List.getD_eq_getElem?_getD, hL] at c2; exact c2
      have p1 := oL _ _ hL
      have p2 := oR _ _ hlead
      rw [e1] at p1
      have hlt := lt_of_some hlead
      have e2 : L.take (pre.length + 1) = lead.take (pre.length + 1) := by
        have := List.prefix_of_prefix_length_le p1 p2 (by rw [List.length_take, List.length_take]; omega)
        exact this.eq_of_length (by rw [List.length_take, List.length_take]; omega)
      have e3 : lead.take (pre.length + 1) = pre ++ [e] := by
        rw [h1, List.take_append, List.take_of_length_le (by omega), show pre.length + 1 - pre.length = 1 from by omega]
        rfl
      have ih := put_spec oL oR es (pre ++ [e]) rest (by rw [h1]; simp) (by rw [List.length_append, List.length_singleton, e2, e3])
      rw [List.length_append, List.length_singleton] at ih
      rw [List.length_cons, show pre.length + (es.length + 1) = pre.length + 1 + es.length from by omega]
      rw [show pre ++ e :: es = pre ++ [e] ++ es from by simp]
      exact ih
    · rename_i hc
      rw [h2]
      refine ⟨?_, .inr rfl, fun q h3 h4 => ?_⟩
      · exact List.take_of_length_le (by rw [List.length_append]; exact Nat.le_refl _)
      · by_cases hq : q.length ≤ pre.length
        · exact (List.prefix_of_prefix_length_le h3 hpl hq).trans (List.prefix_append _ _)
        · exfalso
          apply hc
          have hqe : q[pre.length]? = some q[pre.length] := List.getElem?_eq_getElem (by omega)
          have r1 := getElem?_of_prefix h3 hqe
          have r2 := getElem?_of_prefix h4 hqe
          rw [hlead] at r2
          rw [← r2] at r1
          refine ⟨lt_of_some r1, ?_⟩
          rw [List.getD_eq_getElem?_getD, r1]; rfl

theorem taken_no {T : Int} {m : Msg} {i : Int} (hid : a.id = j) : ∀ x ∈ taken a m false i, MsgOk k g x := fun x hx => by
  unfold taken at hx
  rw [List.mem_singleton] at hx
  subst hx
  exact ⟨j, hid, .inr (.inr (.inr ⟨rfl, fun h => by cases h⟩))⟩

theorem take_ok (v : Inv k g ns) (hj : j < k) {m : Msg} (hm : MsgOk k g m) (hk : m.kind = 3) : Out k g ns j (take (ns j) m).1 (take (ns j) m).2 := by
  have v1 := down_ok v hj m.term
  have n1 := v1.node j hj
  rw [upd_self] at n1
  have ei : (ns j).id = j := (v.node j hj).id
  have ed : (down (ns j) m.term).id = j := down_id.trans ei
  have et := @down_term (ns j) m.term
  unfold take
  dsimp only
  generalize down (ns j) m.term = b at *
  split
  · exact ⟨g, Le.refl g, v1, taken_no (T := 0) ed⟩
  rename_i hlt
  have hT : m.term = b.term := by omega
  obtain ⟨f, hf, q⟩ := hm
  rcases q with ⟨q1, _⟩ | ⟨q1, _⟩ | ⟨_, hE, hC, pre, rest, hll, hidx, hat⟩ | ⟨q1, _⟩ <;> try omega
  have t := Inv.turn (a := { b with role := 0, lead := m.from, clock := 0 }) v1 hj
  rw [upd_self, upd_upd] at t
  have v2 := t rfl rfl rfl rfl (Int.le_refl _) (.inl ⟨rfl, rfl⟩) rfl (.inl rfl) (fun h => absurd h z1) (fun h => absurd h z2)
  clear t v1
  have n2 := v2.node j hj
  rw [upd_self] at n2
  have hc0 : ({ b with role := 0, lead := m.from, clock := 0 } : Node).role = 0 := rfl
  have hcT : m.term = ({ b with role := 0, lead := m.from, clock := 0 } : Node).term := hT
  have hcid : ({ b with role := 0, lead := m.from, clock := 0 } : Node).id = j := ed
  generalize ({ b with role := 0, lead := m.from, clock := 0 } : Node) = c at *
  unfold takeC
  rw [if_neg (by omega), if_neg (by rw [n2.base]; omega)]
  split
  · rename_i hok
    rw [Bool.and_eq_true, decide_eq_true_eq] at hok
    obtain ⟨o1, o2⟩ := hok
    unfold termOk at o1
    rw [decide_eq_true_eq, last_eq n2.base, n2.base] at o1
    have hpre : c.log.take pre.length = pre := by
      by_cases hz : pre = []
      · subst hz; rfl
      rw [termAt_eq n2.base n2.bt o1.1 o1.2, hat, hidx] at o2
      have hz' : ((pre.length : Int)).toNat = pre.length := by omega
      rw [hz'] at o2
      have h0 : 0 < pre.length := List.length_pos_iff.2 hz
      have ok1 : logOk g (c.log.take pre.length) := logOk_prefix (List.take_prefix _ _) n2.log
      have ok2 : logOk g pre := logOk_prefix (by rw [hll]; exact List.prefix_append _ _) (v2.ll m.term).1
      have l1 : (c.log.take pre.length).length = pre.length := by rw [List.length_take]; omega
      have p1 := logOk_last ok1 (fun h => by rw [h] at l1; simp at l1; omega)
      have p2 := logOk_last ok2 hz
      rw [o2] at p1
      exact (List.prefix_of_prefix_length_le p1 p2 (by omega)).eq_of_length l1
    have ps := put_spec n2.log (v2.ll m.term).1 m.entries pre rest hll hpre
    have hput : putN c m.index m.entries = { c with log := putL c.log pre.length m.entries } := by
      unfold putN
      rw [last_eq n2.base, n2.base, if_neg (by omega)]
      congr 2
      omega
    rw [hput]
    generalize putL c.log pre.length m.entries = l at *
    obtain ⟨s1, s2, s3⟩ := ps
    have t := Inv.put (c := f) (l := l) v2 hj
    rw [upd_self, upd_upd] at t
    have hpe : pre ++ m.entries <+: g.ll m.term := by rw [hll, ← List.append_assoc]; exact List.prefix_append _ _
    have v3 := t (by rw [← hcT]; exact hE) hc0 (s2.imp_right fun h => by rw [h, ← hcT]; exact hpe) (by rw [← hcT]; exact s3)
    have n3 := v3.node j hj
    rw [upd_self] at n3
    have hl1 : pre ++ m.entries <+: l := by rw [← s1]; exact List.take_prefix _ _
    have hlen := hl1.length_le
    rw [List.length_append] at hlen
    have t := Inv.acks (e := pre.length + m.entries.length) v3 hj
    rw [upd_self] at t
    have hpt : (g.ll c.term).take (pre.length + m.entries.length) = pre ++ m.entries := by
      rw [← hcT, hll, ← List.append_assoc, List.take_append_of_le_length (by rw [List.length_append]; exact Nat.le_refl _), List.take_of_length_le (by rw [List.length_append]; exact Nat.le_refl _)]
    obtain ⟨x, v4⟩ := t (by
      show _ ≤ (g.ll c.term).length
      rw [← hcT]; have := hpe.length_le; rwa [List.length_append] at this) (by
      show (g.ll c.term).take _ <+: l
      rw [hpt]; exact hl1)
    have t := Inv.commits (c := max c.commit (min m.commit (m.index + m.entries.length))) v4 hj
    rw [upd_self, upd_upd] at t
    have k0 := n3.c0
    have k1 := n3.c1
    have kk := (v4.node j hj).com
    rw [upd_self] at kk
    have v5 := t (by have : 0 ≤ c.commit := k0; omega) (by
      have : c.commit ≤ l.length := k1
      show _ ≤ (l.length : Int)
      omega) (by
      by_cases hm' : min m.commit (m.index + m.entries.length) ≤ c.commit
      · rw [Int.max_eq_left hm']; exact kk
      · rw [Int.max_eq_right (by omega)]
        obtain ⟨z0, z1, z2⟩ := hC.mono x.le
        rcases z2 with z2 | ⟨T', i, w1, w2, w3, w4⟩
        · have : 0 ≤ c.commit := k0
          omega
        · right
          refine ⟨T', i, w1, by omega, by show T' ≤ c.term; omega, ?_⟩
          show l.take _ <+: _
          have hmin : (min m.commit (m.index + m.entries.length)).toNat ≤ (pre ++ m.entries).length := by rw [List.length_append]; omega
          rw [take_of_prefix hl1 hmin, ← take_of_prefix hpe hmin]
          refine List.IsPrefix.trans ?_ w4
          show (g.ll m.term).take _ <+: (g.ll m.term).take _
          exact List.take_prefix_take_left (by omega))
    refine ⟨_, x.le, v5, fun y hy => ?_⟩
    unfold taken at hy
    rw [List.mem_singleton] at hy
    subst hy
    exact ⟨j, hcid, .inr (.inr (.inr ⟨rfl, fun _ => ⟨pre.length + m.entries.length, by show m.index + m.entries.length ≤ _; omega, .inr (.inr ⟨rfl, rfl, rfl⟩)⟩⟩))⟩
  · exact ⟨g, Le.refl g, v2, taken_no (T := 0) hcid⟩

theorem heard_ok (v : Inv k g ns) (hj : j < k) (hNI : NI B (ns j)) {m : Msg} (hm : MsgOk k g m) (hk : m.kind = 4) (hf0 : 0 ≤ m.from) (hf1 : m.from < (ns j).nodes) (hi : 0 ≤ m.index) : Out k g ns j (heard (ns j) m).1 (heard (ns j) m).2 := by
  have v1 := down_ok v hj m.term
  have n1 := v1.node j hj
  rw [upd_self] at n1
  have ei : (ns j).id = j := (v.node j hj).id
  have hlx : ((down (ns j) m.term).next.length : Int) = k ∧ ((down (ns j) m.term).match.length : Int) = k := by
    have h1 := hNI.lx
    have h2 := hNI.lm
    have h3 := (v.node j hj).nodes
    unfold down
    split <;> (try dsimp only) <;> omega
  have hnd := (v.node j hj).nodes
  unfold heard
  dsimp only
  generalize down (ns j) m.term = b at *
  split
  · rename_i hr
    obtain ⟨r1, r2⟩ := hr
    obtain ⟨l1, l2, l3, l4⟩ := n1.lead r1
    obtain ⟨f, hf, q⟩ := hm
    rcases q with ⟨q1, _⟩ | ⟨q1, _⟩ | ⟨q1, _⟩ | ⟨_, hy⟩ <;> try omega
    have hfn : m.from.toNat = f := by omega
    have hfx : f < b.next.length := by omega
    have hfm : f < b.match.length := by omega
    have ex := List.getElem?_eq_getElem hfx
    have em := List.getElem?_eq_getElem hfm
    have bx := l4 _ _ ex
    have bm := l3 _ _ em
    rw [hfn]
    have dx : b.next.getD f 0 = b.next[f] := by rw [List.getD_eq_getElem?_getD, ex]; rfl
    have dm : b.match.getD f 0 = b.match[f] := by rw [List.getD_eq_getElem?_getD, em]; rfl
    rw [dx, dm]
    generalize b.next[f] = nx at *
    generalize b.match[f] = mt at *
    have hmt : mt ≤ b.log.length := by
      rcases bm with bm | ⟨e', w1, w2⟩
      · omega
      · have := v1.Kl _ _ _ w1
        rw [← l2] at this; omega
    have hlast := last_eq n1.base
    split
    · rename_i hyes
      have hK : ∃ e : Nat, m.index ≤ e ∧ (e = 0 ∨ g.K f b.term e) := by rw [← r2]; exact hy hyes
      have hq : min (max mt m.index) (last b) ≤ 0 ∨ ∃ e' : Nat, g.K f b.term e' ∧ min (max mt m.index) (last b) ≤ e' := by
        obtain ⟨e, w1, w2⟩ := hK
        by_cases hle : m.index ≤ mt
        · rcases bm with bm | ⟨e', w3, w4⟩
          · exact .inl (by omega)
          · exact .inr ⟨e', w3, by omega⟩
        · rcases w2 with w2 | w2
          · exact .inl (by omega)
          · exact .inr ⟨e, w2, by omega⟩
      have hq0 : 0 ≤ min (max mt m.index) (last b) := by omega
      have hq1 : min (max mt m.index) (last b) ≤ last b := by omega
      generalize min (max mt m.index) (last b) = q at *
      have t := Inv.turn (a := { b with next := b.next.set f (q + 1), «match» := b.match.set f q }) v1 hj
      rw [upd_self, upd_upd] at t
      have v2 := t rfl rfl rfl rfl (Int.le_refl _) (.inl ⟨rfl, rfl⟩) rfl (.inl rfl) (fun h => by have : b.role = 1 := h; omega) (fun _ => ⟨l1, l2, fun x e hx0 => by
          have hx : (b.match.set f q)[x]? = some e := hx0
          clear hx0
          rw [List.getElem?_set] at hx
          split at hx
          · rename_i e0; subst e0
            have := Option.some.inj hx; rw [← this]; exact hq
          · exact l3 x e hx, fun x e hx0 => by
          have hx : (b.next.set f (q + 1))[x]? = some e := hx0
          clear hx0
          rw [List.getElem?_set] at hx
          show 1 ≤ e ∧ e ≤ b.log.length + 1
          split at hx
          · rename_i e0; subst e0
            have := Option.some.inj hx; omega
          · exact l4 x e hx⟩)
      have t := advance_ok v2 hj
      rw [upd_self, upd_upd] at t
      have v3 := t r1 (by show ((b.match.set f q).length : Int) = k; rw [List.length_set]; exact hlx.2)
      have n3 := v3.node j hj
      rw [upd_self] at n3
      have hr3 : (advance { b with next := b.next.set f (q + 1), «match» := b.match.set f q }).role = 2 := advance_role.trans r1
      have hn3 : (advance { b with next := b.next.set f (q + 1), «match» := b.match.set f q }).next = b.next.set f (q + 1) := adv_next
      refine ⟨g, Le.refl g, v3, fun x hx => ?_⟩
      dsimp only at hx
      split at hx
      · rw [List.mem_singleton] at hx
        subst hx
        exact send_ok n3 hr3 (by omega) (by rw [hn3, List.length_set]; omega)
      · cases hx
    · have hw0 : 1 ≤ max (max 1 (mt + 1)) (min (nx - 1) (m.index + 1)) ∧ max (max 1 (mt + 1)) (min (nx - 1) (m.index + 1)) ≤ b.log.length + 1 := by omega
      generalize max (max 1 (mt + 1)) (min (nx - 1) (m.index + 1)) = w at *
      have t := Inv.turn (a := { b with next := b.next.set f w }) v1 hj
      rw [upd_self, upd_upd] at t
      have v2 := t rfl rfl rfl rfl (Int.le_refl _) (.inl ⟨rfl, rfl⟩) rfl (.inl rfl) (fun h => by have : b.role = 1 := h; omega) (fun _ => ⟨l1, l2, l3, fun x e hx0 => by
          have hx : (b.next.set f w)[x]? = some e := hx0
          clear hx0
          rw [List.getElem?_set] at hx
          show 1 ≤ e ∧ e ≤ b.log.length + 1
          split at hx
          · rename_i e0; subst e0
            have := Option.some.inj hx; omega
          · exact l4 x e hx⟩)
      have n2 := v2.node j hj
      rw [upd_self] at n2
      refine ⟨g, Le.refl g, v2, fun x hx => ?_⟩
      rw [List.mem_singleton] at hx
      subst hx
      exact send_ok n2 r1 (by omega) (by show _ < ((b.next.set f w).length : Int); rw [List.length_set]; omega)
  · exact ⟨g, Le.refl g, v1, fun x hx => by cases hx⟩

theorem right_parts {m : Msg} {N : Int} (h : right m N = true) : 1 ≤ m.kind ∧ m.kind ≤ 5 ∧ m.from ≠ m.to ∧ 0 ≤ m.from ∧ 0 ≤ m.to ∧ m.from < N ∧ m.to < N ∧ 1 ≤ m.term ∧ m.term ≤ 2^40 ∧ 0 ≤ m.index := by
  unfold right at h
  rw [Bool.and_eq_true, decide_eq_true_eq] at h
  obtain ⟨⟨a1, a2, a3, a4, a5, a6, a7, a8, a9, a10, _⟩, _⟩ := h
  exact ⟨a1, a2, a3, a4, a5, a6, a7, a8, a9, a10⟩

theorem step_ok (v : Inv k g ns) (hj : j < k) (hNI : NI B (ns j)) (hB : 2^40 ≤ B) {m : Msg} (hm : MsgOk k g m) : Out k g ns j (step (ns j) m).1 (step (ns j) m).2 := by
  unfold step
  split
  · rename_i hr
    rw [Bool.and_eq_true, decide_eq_true_eq] at hr
    obtain ⟨hr, hto⟩ := hr
    obtain ⟨_, _, _, f0, _, f1, _, _, t1, i0⟩ := right_parts hr
    split
    · rename_i hk; exact asked_ok v hj hm hk
    split
    · rename_i hk
      obtain ⟨v1, hq⟩ := given_ok v hj hNI hm hk hto
      split
      · rename_i hw
        have t := lead_ok v1 hj
        rw [upd_self, upd_upd] at t
        obtain ⟨h, x, v2⟩ := t (won_role hw) (hq hw)
        have n2 := v2.node j hj
        rw [upd_self] at n2
        have hl : NI (B + 2) (lead (given (ns j) m)) := (hNI.given (m := m) (by omega)).lead
        refine ⟨h, x, v2, sends_ok n2 ?_ (by rw [hl.lx])⟩
        unfold lead more
        rw [advance_role]
      · exact ⟨g, Le.refl g, v1, fun x hx => by cases hx⟩
    split
    · rename_i hk; exact heard_ok v hj hNI hm hk f0 f1 i0
    · refine take_ok v hj hm ?_
      obtain ⟨f, _, q⟩ := hm
      rcases q with ⟨q1, _⟩ | ⟨q1, _⟩ | ⟨q1, _⟩ | ⟨q1, _⟩ <;> first | exact q1 | contradiction
  · refine ⟨g, Le.refl g, ?_, fun x hx => by cases hx⟩
    dsimp only
    rw [upd_id]; exact v

theorem start_ok (v : Inv k g ns) (hj : j < k) : Ext j (start (ns j)).term g (gStart g j (start (ns j)).term (start (ns j)).log) ∧ Inv k (gStart g j (start (ns j)).term (start (ns j)).log) (upd ns j (start (ns j))) := by
  have n := v.node j hj
  refine v.start hj rfl rfl rfl rfl rfl n.id rfl rfl rfl fun x hx0 => ?_
  have hi : (ns j).id.toNat = j := by have := n.id; omega
  have hx : ((List.replicate (ns j).nodes.toNat false).set (ns j).id.toNat true).getD x false = true := hx0
  clear hx0
  rw [hi, List.getD_eq_getElem?_getD, List.getElem?_set] at hx
  split at hx
  · rename_i e; exact e.symm
  · rw [List.getElem?_replicate] at hx
    split at hx <;> cases hx

theorem startMsgs_ok (v : Inv k g ns) (hj : j < k) : ∀ x ∈ startMsgs (ns j), MsgOk k (gStart g j (start (ns j)).term (start (ns j)).log) x := by
  have n := v.node j hj
  unfold startMsgs
  refine oth_rng _ _ fun i _ _ => ⟨j, n.id, .inl ⟨rfl, (ns j).log, ?_, ?_, ?_⟩⟩
  · show (if j = j ∧ (ns j).term + 1 = (start (ns j)).term then some (start (ns j)).log else _) = _
    rw [if_pos ⟨rfl, rfl⟩]; rfl
  · exact last_eq n.base
  · show termAt (ns j) (last (ns j)) = _
    rw [last_eq n.base, termAt_eq n.base n.bt (by omega) (by omega)]
    have hz' : (((ns j).log.length : Int)).toNat = (ns j).log.length := by omega
    rw [hz', List.take_length]

theorem clock_ok (v : Inv k g ns) (hj : j < k) {c : Int} : Inv k g (upd ns j { ns j with clock := c }) := by
  have n := v.node j hj
  exact v.turn hj rfl rfl rfl rfl (Int.le_refl _) (.inl ⟨rfl, rfl⟩) rfl (.inl rfl) n.cand n.lead

theorem tick_ok (v : Inv k g ns) (hj : j < k) (hNI : NI B (ns j)) : Out k g ns j (tick (ns j)).1 (tick (ns j)).2 := by
  have n := v.node j hj
  unfold tick
  split
  · rename_i hr
    split
    · exact ⟨g, Le.refl g, clock_ok v hj, fun x hx => by cases hx⟩
    · have v1 := clock_ok (c := 0) v hj
      have n1 := v1.node j hj
      rw [upd_self] at n1
      exact ⟨g, Le.refl g, v1, sends_ok n1 hr hNI.lx⟩
  split
  · exact ⟨g, Le.refl g, clock_ok v hj, fun x hx => by cases hx⟩
  · dsimp only
    obtain ⟨x, v1⟩ := start_ok v hj
    have hms := startMsgs_ok v hj
    split
    · rename_i hmost
      have t := lead_ok v1 hj
      rw [upd_self, upd_upd] at t
      have hk1 : k = 1 := by
        have hm : (start (ns j)).nodes / 2 + 1 = 1 := hmost
        have h1 : (start (ns j)).nodes = k := n.nodes
        have := hNI.n1
        have : (ns j).nodes = k := n.nodes
        omega
      obtain ⟨h, x2, v2⟩ := t rfl (by
        refine ⟨fun _ => true, fun y hy _ => ?_, by rw [hk1]; simp [cnt]⟩
        have : y = j := by omega
        subst this
        exact .inr ⟨rfl, rfl, rfl⟩)
      have n2 := v2.node j hj
      rw [upd_self] at n2
      have hl : NI (B + 1 + 2) (lead (start (ns j))) := hNI.start.lead
      refine ⟨h, x.le.trans x2, v2, fun y hy => ?_⟩
      rcases List.mem_append.1 hy with hy | hy
      · exact (hms y hy).mono x2
      · refine sends_ok n2 ?_ (by rw [hl.lx]) y hy
        unfold lead more
        rw [advance_role]
    · exact ⟨_, x.le, v1, hms⟩

theorem propose_ok (v : Inv k g ns) (hj : j < k) (hNI : NI B (ns j)) {cmd : ByteArray} : Out k g ns j (propose (ns j) cmd).1 (propose (ns j) cmd).2.1 := by
  have n := v.node j hj
  unfold propose
  split
  · rename_i hr
    split
    · refine ⟨g, Le.refl g, ?_, fun x hx => by cases hx⟩
      dsimp only
      rw [upd_id]; exact v
    · obtain ⟨h, x, v1⟩ := more_ok v hj hr (by rw [hNI.lm, n.nodes]) (cmd := cmd)
      have n1 := v1.node j hj
      rw [upd_self] at n1
      have hl := hNI.more (cmd := cmd)
      refine ⟨h, x, v1, sends_ok n1 ?_ (by rw [hl.lx])⟩
      unfold more
      rw [advance_role]; exact hr
  · refine ⟨g, Le.refl g, ?_, fun x hx => by cases hx⟩
    dsimp only
    rw [upd_id]; exact v

/-- A node that has fallen and stands up again. -/
def wake (a : Node) : Node := { newN a.id a.nodes with term := a.term, vote := a.vote, base := a.base, baseTerm := a.baseTerm, snap := a.snap, log := a.log, commit := a.base }

theorem wake_ok (v : Inv k g ns) (hj : j < k) (hNI : NI B (ns j)) : Inv k g (upd ns j (wake (ns j))) := by
  have n := v.node j hj
  refine v.turn hj ?_ rfl rfl rfl (Int.le_refl _) (.inl ⟨rfl, rfl⟩) rfl (.inr n.base) (fun h => absurd h z1) (fun h => absurd h z2)
  have := hNI.i0
  have := hNI.i1
  show min (max (ns j).id 0) ((ns j).nodes - 1) = _
  omega

end
end Safe
end Go.Proofs.Ytinfpahllbhomaa

namespace Go.Proofs.Ytinfpahllbhomaa
open Go.Ab
set_option linter.unusedSimpArgs false
set_option linter.unusedVariables false
set_option maxHeartbeats 8000000
noncomputable section
variable {n k : Nat} {B : Int} {a : Node}

/-- Two nodes agree. -/
structure AG (a b : Node) : Prop where
  same : ∀ (i : Nat), i < a.log.length → i < b.log.length → (a.log.getD i ⟨0, ⟨#[]⟩⟩).term = (b.log.getD i ⟨0, ⟨#[]⟩⟩).term → a.log.take (i + 1) = b.log.take (i + 1)
  c0 : 0 ≤ a.commit
  c1 : a.commit ≤ a.log.length
  d0 : 0 ≤ b.commit
  d1 : b.commit ≤ b.log.length
  com : a.log.take (min a.commit b.commit).toNat = b.log.take (min a.commit b.commit).toNat

theorem s_23 (hk : 4 ≤ k) (hn : 2^43 ≤ n) {b : Node} (h : AG a b) (la : (a.log.length : Int) ≤ 2^41) (lb : (b.log.length : Int) ≤ 2^41) :
    C n k 23 [⟨.st 27, a⟩, ⟨.st 27, b⟩] [.bool] = some (true, ()) := by
  obtain ⟨k, rfl⟩ : ∃ k1, k = k1 + 1 := ⟨k - 1, by omega⟩
  rw [C_succ, nf_23]
  show AwakeQ _
  obtain ⟨same, c0, c1, d0, d1, com⟩ := h
  rw [r_loop]
  refine iter_prop (fun x => ((a.log.length : Int) - x.2.1).toNat) (fun x => 0 ≤ x.2.1 ∧ x.1 < x.2.1 ∧ -1 ≤ x.1 ∧ (0 ≤ x.1 → x.1 < (a.log.length : Int) ∧ x.1 < (b.log.length : Int) ∧ (a.log.getD x.1.toNat ⟨0, ⟨#[]⟩⟩).term = (b.log.getD x.1.toNat ⟨0, ⟨#[]⟩⟩).term))
    AwakeQ ?_ n _ ⟨by dsimp only; omega, by dsimp only; omega, by dsimp only; omega, fun h => by dsimp only at h; omega⟩ (by dsimp only; omega)
  rintro next ⟨lst, i, u⟩ ⟨j0, j1, j2, j3⟩ ih
  dsimp only at j0 j1 j2 j3
  by_cases q : i < (a.log.length : Int) ∧ i < (b.log.length : Int)
  · refine q_yes AwakeQ (by simp (maxSteps := 2000000) (discharger := omega) only [r_ite, r_add, r_sub, r_mul, r_quo, r_rem, r_lt, r_le, r_eq, r_bnot, r_or, r_and, r_isel, r_beq, r_band, r_bimp, r_imax, r_imin, r_call, r_gcall, r_bind, Option.bind_some, fits_ok, mfit_ok, wrap_i64, both_self, node_eta, msg_eta, entry_eta, hard_eta, decide_eq_true_eq, Bool.and_eq_true, Bool.or_eq_true, Bool.not_eq_true', decide_eq_false_iff_not, Bool.not_not, eq_self, not_true_eq_false, not_false_eq_true, Bool.false_eq_true, Bool.true_eq_false, Bool.not_false, Bool.not_true, if_true, if_false, true_and, and_true, or_false, false_or, or_true, true_or, and_false, false_and, true_implies, if_pos, if_neg, len_58, get_58, app_58, set_58, cut_58, rep_58, emp_58, len_30, get_30, app_30, set_30, cut_30, rep_30, emp_30, len_27, get_27, app_27, set_27, cut_27, rep_27, emp_27, len_i, get_i, app_i, set_i, cut_i, rep_i, emp_i, len_b, get_b, app_b, set_b, cut_b, rep_b, emp_b] <;> omega) ?_
    refine q_yes AwakeQ (by simp (maxSteps := 2000000) (discharger := omega) only [r_ite, r_add, r_sub, r_mul, r_quo, r_rem, r_lt, r_le, r_eq, r_bnot, r_or, r_and, r_isel, r_beq, r_band, r_bimp, r_imax, r_imin, r_call, r_gcall, r_bind, Option.bind_some, fits_ok, mfit_ok, wrap_i64, both_self, node_eta, msg_eta, entry_eta, hard_eta, decide_eq_true_eq, Bool.and_eq_true, Bool.or_eq_true, Bool.not_eq_true', decide_eq_false_iff_not, Bool.not_not, eq_self, not_true_eq_false, not_false_eq_true, Bool.false_eq_true, Bool.true_eq_false, Bool.not_false, Bool.not_true, if_true, if_false, true_and, and_true, or_false, false_or, or_true, true_or, and_false, false_and, true_implies, if_pos, if_neg, len_58, get_58, app_58, set_58, cut_58, rep_58, emp_58, len_30, get_30, app_30, set_30, cut_30, rep_30, emp_30, len_27, get_27, app_27, set_27, cut_27, rep_27, emp_27, len_i, get_i, app_i, set_i, cut_i, rep_i, emp_i, len_b, get_b, app_b, set_b, cut_b, rep_b, emp_b] <;> omega) ?_
    refine q_yes AwakeQ (by simp (maxSteps := 2000000) (discharger := omega) only [r_ite, r_add, r_sub, r_mul, r_quo, r_rem, r_lt, r_le, r_eq, r_bnot, r_or, r_and, r_isel, r_beq, r_band, r_bimp, r_imax, r_imin, r_call, r_gcall, r_bind, Option.bind_some, fits_ok, mfit_ok, wrap_i64, both_self, node_eta, msg_eta, entry_eta, hard_eta, decide_eq_true_eq, Bool.and_eq_true, Bool.or_eq_true, Bool.not_eq_true', decide_eq_false_iff_not, Bool.not_not, eq_self, not_true_eq_false, not_false_eq_true, Bool.false_eq_true, Bool.true_eq_false, Bool.not_false, Bool.not_true, if_true, if_false, true_and, and_true, or_false, false_or, or_true, true_or, and_false, false_and, true_implies, if_pos, if_neg, len_58, get_58, app_58, set_58, cut_58, rep_58, emp_58, len_30, get_30, app_30, set_30, cut_30, rep_30, emp_30, len_27, get_27, app_27, set_27, cut_27, rep_27, emp_27, len_i, get_i, app_i, set_i, cut_i, rep_i, emp_i, len_b, get_b, app_b, set_b, cut_b, rep_b, emp_b] <;> omega) ?_
    by_cases e : (a.log.getD i.toNat ⟨0, ⟨#[]⟩⟩).term = (b.log.getD i.toNat ⟨0, ⟨#[]⟩⟩).term
    · refine q_yes AwakeQ (by rw [get_58, get_58, e, r_eq, decide_eq_true_eq]) ?_
      exact q_eq AwakeQ (by simp (maxSteps := 2000000) (discharger := omega) only [r_ite, r_add, r_sub, r_mul, r_quo, r_rem, r_lt, r_le, r_eq, r_bnot, r_or, r_and, r_isel, r_beq, r_band, r_bimp, r_imax, r_imin, r_call, r_gcall, r_bind, Option.bind_some, fits_ok, mfit_ok, wrap_i64, both_self, node_eta, msg_eta, entry_eta, hard_eta, decide_eq_true_eq, Bool.and_eq_true, Bool.or_eq_true, Bool.not_eq_true', decide_eq_false_iff_not, Bool.not_not, eq_self, not_true_eq_false, not_false_eq_true, Bool.false_eq_true, Bool.true_eq_false, Bool.not_false, Bool.not_true, if_true, if_false, true_and, and_true, or_false, false_or, or_true, true_or, and_false, false_and, true_implies, if_pos, if_neg, len_58, get_58, app_58, set_58, cut_58, rep_58, emp_58, len_30, get_30, app_30, set_30, cut_30, rep_30, emp_30, len_27, get_27, app_27, set_27, cut_27, rep_27, emp_27, len_i, get_i, app_i, set_i, cut_i, rep_i, emp_i, len_b, get_b, app_b, set_b, cut_b, rep_b, emp_b]) (ih (i, i + 1, ()) ⟨by dsimp only; omega, by dsimp only; omega, by dsimp only; omega, fun _ => ⟨q.1, q.2, e⟩⟩ (by dsimp only; omega))
    · refine q_no AwakeQ (by rw [get_58, get_58, r_eq, decide_eq_true_eq]; exact e) ?_
      exact q_eq AwakeQ (by simp (maxSteps := 2000000) (discharger := omega) only [r_ite, r_add, r_sub, r_mul, r_quo, r_rem, r_lt, r_le, r_eq, r_bnot, r_or, r_and, r_isel, r_beq, r_band, r_bimp, r_imax, r_imin, r_call, r_gcall, r_bind, Option.bind_some, fits_ok, mfit_ok, wrap_i64, both_self, node_eta, msg_eta, entry_eta, hard_eta, decide_eq_true_eq, Bool.and_eq_true, Bool.or_eq_true, Bool.not_eq_true', decide_eq_false_iff_not, Bool.not_not, eq_self, not_true_eq_false, not_false_eq_true, Bool.false_eq_true, Bool.true_eq_false, Bool.not_false, Bool.not_true, if_true, if_false, true_and, and_true, or_false, false_or, or_true, true_or, and_false, false_and, true_implies, if_pos, if_neg, len_58, get_58, app_58, set_58, cut_58, rep_58, emp_58, len_30, get_30, app_30, set_30, cut_30, rep_30, emp_30, len_27, get_27, app_27, set_27, cut_27, rep_27, emp_27, len_i, get_i, app_i, set_i, cut_i, rep_i, emp_i, len_b, get_b, app_b, set_b, cut_b, rep_b, emp_b]) (ih (lst, i + 1, ()) ⟨by dsimp only; omega, by dsimp only; omega, by dsimp only; omega, j3⟩ (by dsimp only; omega))
  · refine q_no AwakeQ (by simp (maxSteps := 2000000) (discharger := omega) only [r_ite, r_add, r_sub, r_mul, r_quo, r_rem, r_lt, r_le, r_eq, r_bnot, r_or, r_and, r_isel, r_beq, r_band, r_bimp, r_imax, r_imin, r_call, r_gcall, r_bind, Option.bind_some, fits_ok, mfit_ok, wrap_i64, both_self, node_eta, msg_eta, entry_eta, hard_eta, decide_eq_true_eq, Bool.and_eq_true, Bool.or_eq_true, Bool.not_eq_true', decide_eq_false_iff_not, Bool.not_not, eq_self, not_true_eq_false, not_false_eq_true, Bool.false_eq_true, Bool.true_eq_false, Bool.not_false, Bool.not_true, if_true, if_false, true_and, and_true, or_false, false_or, or_true, true_or, and_false, false_and, true_implies, if_pos, if_neg, len_58, get_58, app_58, set_58, cut_58, rep_58, emp_58, len_30, get_30, app_30, set_30, cut_30, rep_30, emp_30, len_27, get_27, app_27, set_27, cut_27, rep_27, emp_27, len_i, get_i, app_i, set_i, cut_i, rep_i, emp_i, len_b, get_b, app_b, set_b, cut_b, rep_b, emp_b] <;> omega) ?_
    rw [r_loop]
    refine iter_prop (fun x => (lst + 1 - x.1).toNat) (fun x => 0 ≤ x.1) AwakeQ ?_ n _ (by dsimp only; omega) (by dsimp only; omega)
    rintro next ⟨j, u⟩ p0 ih
    dsimp only at p0
    by_cases q2 : j ≤ lst
    · obtain ⟨w1, w2, w3⟩ := j3 (by omega)
      have hs := same lst.toNat (by omega) (by omega) w3
      have hj : a.log.getD j.toNat ⟨0, ⟨#[]⟩⟩ = b.log.getD j.toNat ⟨0, ⟨#[]⟩⟩ := by
        have h1 : (a.log.take (lst.toNat + 1))[j.toNat]? = a.log[j.toNat]? := List.getElem?_take_of_lt (by omega)
        have h2 : (b.log.take (lst.toNat + 1))[j.toNat]? = b.log[j.toNat]? := List.getElem?_take_of_lt (by omega)
        rw [List.getD_eq_getElem?_getD, List.getD_eq_getElem?_getD, ← h1, ← h2, hs]
      refine q_yes AwakeQ (by simp (maxSteps := 2000000) (discharger := omega) only [r_ite, r_add, r_sub, r_mul, r_quo, r_rem, r_lt, r_le, r_eq, r_bnot, r_or, r_and, r_isel, r_beq, r_band, r_bimp, r_imax, r_imin, r_call, r_gcall, r_bind, Option.bind_some, fits_ok, mfit_ok, wrap_i64, both_self, node_eta, msg_eta, entry_eta, hard_eta, decide_eq_true_eq, Bool.and_eq_true, Bool.or_eq_true, Bool.not_eq_true', decide_eq_false_iff_not, Bool.not_not, eq_self, not_true_eq_false, not_false_eq_true, Bool.false_eq_true, Bool.true_eq_false, Bool.not_false, Bool.not_true, if_true, if_false, true_and, and_true, or_false, false_or, or_true, true_or, and_false, false_and, true_implies, if_pos, if_neg, len_58, get_58, app_58, set_58, cut_58, rep_58, emp_58, len_30, get_30, app_30, set_30, cut_30, rep_30, emp_30, len_27, get_27, app_27, set_27, cut_27, rep_27, emp_27, len_i, get_i, app_i, set_i, cut_i, rep_i, emp_i, len_b, get_b, app_b, set_b, cut_b, rep_b, emp_b] <;> omega) ?_
      refine q_yes AwakeQ (by simp (maxSteps := 2000000) (discharger := omega) only [r_ite, r_add, r_sub, r_mul, r_quo, r_rem, r_lt, r_le, r_eq, r_bnot, r_or, r_and, r_isel, r_beq, r_band, r_bimp, r_imax, r_imin, r_call, r_gcall, r_bind, Option.bind_some, fits_ok, mfit_ok, wrap_i64, both_self, node_eta, msg_eta, entry_eta, hard_eta, decide_eq_true_eq, Bool.and_eq_true, Bool.or_eq_true, Bool.not_eq_true', decide_eq_false_iff_not, Bool.not_not, eq_self, not_true_eq_false, not_false_eq_true, Bool.false_eq_true, Bool.true_eq_false, Bool.not_false, Bool.not_true, if_true, if_false, true_and, and_true, or_false, false_or, or_true, true_or, and_false, false_and, true_implies, if_pos, if_neg, len_58, get_58, app_58, set_58, cut_58, rep_58, emp_58, len_30, get_30, app_30, set_30, cut_30, rep_30, emp_30, len_27, get_27, app_27, set_27, cut_27, rep_27, emp_27, len_i, get_i, app_i, set_i, cut_i, rep_i, emp_i, len_b, get_b, app_b, set_b, cut_b, rep_b, emp_b] <;> omega) ?_
      refine q_yes AwakeQ (by simp (maxSteps := 2000000) (discharger := omega) only [r_ite, r_add, r_sub, r_mul, r_quo, r_rem, r_lt, r_le, r_eq, r_bnot, r_or, r_and, r_isel, r_beq, r_band, r_bimp, r_imax, r_imin, r_call, r_gcall, r_bind, Option.bind_some, fits_ok, mfit_ok, wrap_i64, both_self, node_eta, msg_eta, entry_eta, hard_eta, decide_eq_true_eq, Bool.and_eq_true, Bool.or_eq_true, Bool.not_eq_true', decide_eq_false_iff_not, Bool.not_not, eq_self, not_true_eq_false, not_false_eq_true, Bool.false_eq_true, Bool.true_eq_false, Bool.not_false, Bool.not_true, if_true, if_false, true_and, and_true, or_false, false_or, or_true, true_or, and_false, false_and, true_implies, if_pos, if_neg, len_58, get_58, app_58, set_58, cut_58, rep_58, emp_58, len_30, get_30, app_30, set_30, cut_30, rep_30, emp_30, len_27, get_27, app_27, set_27, cut_27, rep_27, emp_27, len_i, get_i, app_i, set_i, cut_i, rep_i, emp_i, len_b, get_b, app_b, set_b, cut_b, rep_b, emp_b] <;> omega) ?_
      refine q_yes AwakeQ (by simp (maxSteps := 2000000) (discharger := omega) only [r_ite, r_add, r_sub, r_mul, r_quo, r_rem, r_lt, r_le, r_eq, r_bnot, r_or, r_and, r_isel, r_beq, r_band, r_bimp, r_imax, r_imin, r_call, r_gcall, r_bind, Option.bind_some, fits_ok, mfit_ok, wrap_i64, both_self, node_eta, msg_eta, entry_eta, hard_eta, decide_eq_true_eq, Bool.and_eq_true, Bool.or_eq_true, Bool.not_eq_true', decide_eq_false_iff_not, Bool.not_not, eq_self, not_true_eq_false, not_false_eq_true, Bool.false_eq_true, Bool.true_eq_false, Bool.not_false, Bool.not_true, if_true, if_false, true_and, and_true, or_false, false_or, or_true, true_or, and_false, false_and, true_implies, if_pos, if_neg, len_58, get_58, app_58, set_58, cut_58, rep_58, emp_58, len_30, get_30, app_30, set_30, cut_30, rep_30, emp_30, len_27, get_27, app_27, set_27, cut_27, rep_27, emp_27, len_i, get_i, app_i, set_i, cut_i, rep_i, emp_i, len_b, get_b, app_b, set_b, cut_b, rep_b, emp_b, hj] <;> omega) ?_
      refine q_yes AwakeQ (by simp (maxSteps := 2000000) (discharger := omega) only [r_ite, r_add, r_sub, r_mul, r_quo, r_rem, r_lt, r_le, r_eq, r_bnot, r_or, r_and, r_isel, r_beq, r_band, r_bimp, r_imax, r_imin, r_call, r_gcall, r_bind, Option.bind_some, fits_ok, mfit_ok, wrap_i64, both_self, node_eta, msg_eta, entry_eta, hard_eta, decide_eq_true_eq, Bool.and_eq_true, Bool.or_eq_true, Bool.not_eq_true', decide_eq_false_iff_not, Bool.not_not, eq_self, not_true_eq_false, not_false_eq_true, Bool.false_eq_true, Bool.true_eq_false, Bool.not_false, Bool.not_true, if_true, if_false, true_and, and_true, or_false, false_or, or_true, true_or, and_false, false_and, true_implies, if_pos, if_neg, len_58, get_58, app_58, set_58, cut_58, rep_58, emp_58, len_30, get_30, app_30, set_30, cut_30, rep_30, emp_30, len_27, get_27, app_27, set_27, cut_27, rep_27, emp_27, len_i, get_i, app_i, set_i, cut_i, rep_i, emp_i, len_b, get_b, app_b, set_b, cut_b, rep_b, emp_b, hj] <;> omega) ?_
      refine q_no AwakeQ (by rw [get_58, get_58, hj]; simp (maxSteps := 2000000) (discharger := omega) only [r_ite, r_add, r_sub, r_mul, r_quo, r_rem, r_lt, r_le, r_eq, r_bnot, r_or, r_and, r_isel, r_beq, r_band, r_bimp, r_imax, r_imin, r_call, r_gcall, r_bind, Option.bind_some, fits_ok, mfit_ok, wrap_i64, both_self, node_eta, msg_eta, entry_eta, hard_eta, decide_eq_true_eq, Bool.and_eq_true, Bool.or_eq_true, Bool.not_eq_true', decide_eq_false_iff_not, Bool.not_not, eq_self, not_true_eq_false, not_false_eq_true, Bool.false_eq_true, Bool.true_eq_false, Bool.not_false, Bool.not_true, if_true, if_false, true_and, and_true, or_false, false_or, or_true, true_or, and_false, false_and, true_implies, if_pos, if_neg, len_58, get_58, app_58, set_58, cut_58, rep_58, emp_58, len_30, get_30, app_30, set_30, cut_30, rep_30, emp_30, len_27, get_27, app_27, set_27, cut_27, rep_27, emp_27, len_i, get_i, app_i, set_i, cut_i, rep_i, emp_i, len_b, get_b, app_b, set_b, cut_b, rep_b, emp_b, r_seq_self]) ?_
      exact q_eq AwakeQ (by simp (maxSteps := 2000000) (discharger := omega) only [r_ite, r_add, r_sub, r_mul, r_quo, r_rem, r_lt, r_le, r_eq, r_bnot, r_or, r_and, r_isel, r_beq, r_band, r_bimp, r_imax, r_imin, r_call, r_gcall, r_bind, Option.bind_some, fits_ok, mfit_ok, wrap_i64, both_self, node_eta, msg_eta, entry_eta, hard_eta, decide_eq_true_eq, Bool.and_eq_true, Bool.or_eq_true, Bool.not_eq_true', decide_eq_false_iff_not, Bool.not_not, eq_self, not_true_eq_false, not_false_eq_true, Bool.false_eq_true, Bool.true_eq_false, Bool.not_false, Bool.not_true, if_true, if_false, true_and, and_true, or_false, false_or, or_true, true_or, and_false, false_and, true_implies, if_pos, if_neg, len_58, get_58, app_58, set_58, cut_58, rep_58, emp_58, len_30, get_30, app_30, set_30, cut_30, rep_30, emp_30, len_27, get_27, app_27, set_27, cut_27, rep_27, emp_27, len_i, get_i, app_i, set_i, cut_i, rep_i, emp_i, len_b, get_b, app_b, set_b, cut_b, rep_b, emp_b]) (ih (j + 1, ()) (by dsimp only; omega) (by dsimp only; omega))
    · refine q_no AwakeQ (by simp (maxSteps := 2000000) (discharger := omega) only [r_ite, r_add, r_sub, r_mul, r_quo, r_rem, r_lt, r_le, r_eq, r_bnot, r_or, r_and, r_isel, r_beq, r_band, r_bimp, r_imax, r_imin, r_call, r_gcall, r_bind, Option.bind_some, fits_ok, mfit_ok, wrap_i64, both_self, node_eta, msg_eta, entry_eta, hard_eta, decide_eq_true_eq, Bool.and_eq_true, Bool.or_eq_true, Bool.not_eq_true', decide_eq_false_iff_not, Bool.not_not, eq_self, not_true_eq_false, not_false_eq_true, Bool.false_eq_true, Bool.true_eq_false, Bool.not_false, Bool.not_true, if_true, if_false, true_and, and_true, or_false, false_or, or_true, true_or, and_false, false_and, true_implies, if_pos, if_neg, len_58, get_58, app_58, set_58, cut_58, rep_58, emp_58, len_30, get_30, app_30, set_30, cut_30, rep_30, emp_30, len_27, get_27, app_27, set_27, cut_27, rep_27, emp_27, len_i, get_i, app_i, set_i, cut_i, rep_i, emp_i, len_b, get_b, app_b, set_b, cut_b, rep_b, emp_b] <;> omega) ?_
      refine q_yes AwakeQ (by simp (maxSteps := 2000000) (discharger := omega) only [r_ite, r_add, r_sub, r_mul, r_quo, r_rem, r_lt, r_le, r_eq, r_bnot, r_or, r_and, r_isel, r_beq, r_band, r_bimp, r_imax, r_imin, r_call, r_gcall, r_bind, Option.bind_some, fits_ok, mfit_ok, wrap_i64, both_self, node_eta, msg_eta, entry_eta, hard_eta, decide_eq_true_eq, Bool.and_eq_true, Bool.or_eq_true, Bool.not_eq_true', decide_eq_false_iff_not, Bool.not_not, eq_self, not_true_eq_false, not_false_eq_true, Bool.false_eq_true, Bool.true_eq_false, Bool.not_false, Bool.not_true, if_true, if_false, true_and, and_true, or_false, false_or, or_true, true_or, and_false, false_and, true_implies, if_pos, if_neg, len_58, get_58, app_58, set_58, cut_58, rep_58, emp_58, len_30, get_30, app_30, set_30, cut_30, rep_30, emp_30, len_27, get_27, app_27, set_27, cut_27, rep_27, emp_27, len_i, get_i, app_i, set_i, cut_i, rep_i, emp_i, len_b, get_b, app_b, set_b, cut_b, rep_b, emp_b] <;> omega) ?_
      refine q_yes AwakeQ (by simp (maxSteps := 2000000) (discharger := omega) only [r_ite, r_add, r_sub, r_mul, r_quo, r_rem, r_lt, r_le, r_eq, r_bnot, r_or, r_and, r_isel, r_beq, r_band, r_bimp, r_imax, r_imin, r_call, r_gcall, r_bind, Option.bind_some, fits_ok, mfit_ok, wrap_i64, both_self, node_eta, msg_eta, entry_eta, hard_eta, decide_eq_true_eq, Bool.and_eq_true, Bool.or_eq_true, Bool.not_eq_true', decide_eq_false_iff_not, Bool.not_not, eq_self, not_true_eq_false, not_false_eq_true, Bool.false_eq_true, Bool.true_eq_false, Bool.not_false, Bool.not_true, if_true, if_false, true_and, and_true, or_false, false_or, or_true, true_or, and_false, false_and, true_implies, if_pos, if_neg, len_58, get_58, app_58, set_58, cut_58, rep_58, emp_58, len_30, get_30, app_30, set_30, cut_30, rep_30, emp_30, len_27, get_27, app_27, set_27, cut_27, rep_27, emp_27, len_i, get_i, app_i, set_i, cut_i, rep_i, emp_i, len_b, get_b, app_b, set_b, cut_b, rep_b, emp_b] <;> omega) ?_
      have hc : (a.log.take (min a.commit b.commit).toNat).length ≤ a.log.length := by rw [List.length_take]; omega
      refine q_bind AwakeQ (true, ()) (by
        rw [r_gcall, if_pos (by simp (maxSteps := 2000000) (discharger := omega) only [r_ite, r_add, r_sub, r_mul, r_quo, r_rem, r_lt, r_le, r_eq, r_bnot, r_or, r_and, r_isel, r_beq, r_band, r_bimp, r_imax, r_imin, r_call, r_gcall, r_bind, Option.bind_some, fits_ok, mfit_ok, wrap_i64, both_self, node_eta, msg_eta, entry_eta, hard_eta, decide_eq_true_eq, Bool.and_eq_true, Bool.or_eq_true, Bool.not_eq_true', decide_eq_false_iff_not, Bool.not_not, eq_self, not_true_eq_false, not_false_eq_true, Bool.false_eq_true, Bool.true_eq_false, Bool.not_false, Bool.not_true, if_true, if_false, true_and, and_true, or_false, false_or, or_true, true_or, and_false, false_and, true_implies, if_pos, if_neg, len_58, get_58, app_58, set_58, cut_58, rep_58, emp_58, len_30, get_30, app_30, set_30, cut_30, rep_30, emp_30, len_27, get_27, app_27, set_27, cut_27, rep_27, emp_27, len_i, get_i, app_i, set_i, cut_i, rep_i, emp_i, len_b, get_b, app_b, set_b, cut_b, rep_b, emp_b] <;> omega)]
        have e1 := s_61 (n := n) (k := k) (L := a.log.take (min a.commit b.commit).toNat) (by omega) (by omega) (by omega)
        simp (maxSteps := 2000000) (discharger := omega) only [r_ite, r_add, r_sub, r_mul, r_quo, r_rem, r_lt, r_le, r_eq, r_bnot, r_or, r_and, r_isel, r_beq, r_band, r_bimp, r_imax, r_imin, r_call, r_gcall, r_bind, Option.bind_some, fits_ok, mfit_ok, wrap_i64, both_self, node_eta, msg_eta, entry_eta, hard_eta, decide_eq_true_eq, Bool.and_eq_true, Bool.or_eq_true, Bool.not_eq_true', decide_eq_false_iff_not, Bool.not_not, eq_self, not_true_eq_false, not_false_eq_true, Bool.false_eq_true, Bool.true_eq_false, Bool.not_false, Bool.not_true, if_true, if_false, true_and, and_true, or_false, false_or, or_true, true_or, and_false, false_and, true_implies, if_pos, if_neg, len_58, get_58, app_58, set_58, cut_58, rep_58, emp_58, len_30, get_30, app_30, set_30, cut_30, rep_30, emp_30, len_27, get_27, app_27, set_27, cut_27, rep_27, emp_27, len_i, get_i, app_i, set_i, cut_i, rep_i, emp_i, len_b, get_b, app_b, set_b, cut_b, rep_b, emp_b, List.drop_zero, Int.toNat_zero, ← com]
        exact e1) ?_
      show some _ = some _
      have h3 : min a.commit b.commit ≤ (a.log.length : Int) ∧ min a.commit b.commit ≤ (b.log.length : Int) := by omega
      simp (maxSteps := 2000000) (discharger := omega) only [r_ite, r_add, r_sub, r_mul, r_quo, r_rem, r_lt, r_le, r_eq, r_bnot, r_or, r_and, r_isel, r_beq, r_band, r_bimp, r_imax, r_imin, r_call, r_gcall, r_bind, Option.bind_some, fits_ok, mfit_ok, wrap_i64, both_self, node_eta, msg_eta, entry_eta, hard_eta, decide_eq_true_eq, Bool.and_eq_true, Bool.or_eq_true, Bool.not_eq_true', decide_eq_false_iff_not, Bool.not_not, eq_self, not_true_eq_false, not_false_eq_true, Bool.false_eq_true, Bool.true_eq_false, Bool.not_false, Bool.not_true, if_true, if_false, true_and, and_true, or_false, false_or, or_true, true_or, and_false, false_and, true_implies, if_pos, if_neg, len_58, get_58, app_58, set_58, cut_58, rep_58, emp_58, len_30, get_30, app_30, set_30, cut_30, rep_30, emp_30, len_27, get_27, app_27, set_27, cut_27, rep_27, emp_27, len_i, get_i, app_i, set_i, cut_i, rep_i, emp_i, len_b, get_b, app_b, set_b, cut_b, rep_b, emp_b, h3.1, h3.2]
      rfl

theorem s_60 (hk : 2 ≤ k) (hn : 100 ≤ n) {i N : Int} {x : Hard} (hl : (x.log.length : Int) ≤ 2^42) : C n k 60 [⟨.int .i64, i⟩, ⟨.int .i64, N⟩, ⟨.st 75, x⟩] [.st 27] =
    some ((⟨min (max i 0) (min (max N 1) 5 - 1), min (max N 1) 5, x.term, x.vote, x.base, x.baseTerm, x.snap, x.log, 0, -1, x.base, List.replicate (min (max N 1) 5).toNat false, List.replicate (min (max N 1) 5).toNat 1, List.replicate (min (max N 1) 5).toNat 0, 0⟩ : Node), ()) := by
  obtain ⟨k, rfl⟩ : ∃ k1, k = k1 + 1 := ⟨k - 1, by omega⟩
  rw [C_succ, nf_60]
  have e21 := s_21 (n := n) (k := k) (id := i) (nodes := N) (by omega) hn
  simp (maxSteps := 2000000) (discharger := omega) only [r_ite, r_add, r_sub, r_mul, r_quo, r_rem, r_lt, r_le, r_eq, r_bnot, r_or, r_and, r_isel, r_beq, r_band, r_bimp, r_imax, r_imin, r_call, r_gcall, r_bind, Option.bind_some, fits_ok, mfit_ok, wrap_i64, both_self, node_eta, msg_eta, entry_eta, hard_eta, decide_eq_true_eq, Bool.and_eq_true, Bool.or_eq_true, Bool.not_eq_true', decide_eq_false_iff_not, Bool.not_not, eq_self, not_true_eq_false, not_false_eq_true, Bool.false_eq_true, Bool.true_eq_false, Bool.not_false, Bool.not_true, if_true, if_false, true_and, and_true, or_false, false_or, or_true, true_or, and_false, false_and, true_implies, if_pos, if_neg, len_58, get_58, app_58, set_58, cut_58, rep_58, emp_58, len_30, get_30, app_30, set_30, cut_30, rep_30, emp_30, len_27, get_27, app_27, set_27, cut_27, rep_27, emp_27, len_i, get_i, app_i, set_i, cut_i, rep_i, emp_i, len_b, get_b, app_b, set_b, cut_b, rep_b, emp_b, e21]
  rfl

abbrev dn : Node := ⟨0, 0, 0, 0, 0, 0, ⟨#[]⟩, [], 0, 0, 0, [], [], [], 0⟩
abbrev nd (L : List Node) : Nat → Node := fun x => L.getD x dn

/-- Who has led, of each term. -/
def MapOk (g : Safe.G) (M : List (Int × Int)) : Prop := ∀ t w, mfind (U := U) (.int .i64) (V := Int) t M = some w → 0 ≤ w ∧ g.E w.toNat t

structure LawI (K : Nat) (B : Int) (g : Safe.G) (L : List Node) (M : List (Int × Int)) : Prop where
  len : L.length = K
  ni : ∀ x, x < K → NI B (nd L x)
  inv : Safe.Inv K g (nd L)
  mp : MapOk g M

theorem ag_of {K : Nat} {g : Safe.G} {ns : Nat → Node} (v : Safe.Inv K g ns) {x y : Nat} (hx : x < K) (hy : y < K) : AG (ns x) (ns y) := by
  have nx := v.node x hx
  have ny := v.node y hy
  refine ⟨?_, nx.c0, nx.c1, ny.c0, ny.c1, ?_⟩
  · intro i h1 h2 h3
    have e1 := List.getElem?_eq_getElem h1
    have e2 := List.getElem?_eq_getElem h2
    have p1 := nx.log i _ e1
    have p2 := ny.log i _ e2
    rw [List.getD_eq_getElem?_getD, List.getD_eq_getElem?_getD, e1, e2] at h3
    have h3 : ((ns x).log[i]).term = ((ns y).log[i]).term := h3
    rw [h3] at p1
    exact (List.prefix_of_prefix_length_le p1 p2 (by rw [List.length_take, List.length_take]; omega)).eq_of_length (by rw [List.length_take, List.length_take]; omega)
  · have a0 := nx.c0
    have a1 := nx.c1
    have b0 := ny.c0
    have b1 := ny.c1
    rcases nx.com with h | ⟨T, i, q1, q2, q3, q4⟩
    · rw [show min (ns x).commit (ns y).commit = 0 from by omega]; rfl
    rcases ny.com with h | ⟨T', i', r1, r2, r3, r4⟩
    · rw [show min (ns x).commit (ns y).commit = 0 from by omega]; rfl
    have key : ∀ (x y : Nat) (T T' : Int) (i i' : Nat), x < K → y < K → Safe.Cm K g T i → (ns x).commit ≤ i + 1 → (ns x).log.take (ns x).commit.toNat <+: g.ll T → Safe.Cm K g T' i' →
        (ns y).log.take (ns y).commit.toNat <+: g.ll T' → T ≤ T' → (ns x).log.take (min (ns x).commit (ns y).commit).toNat = (ns y).log.take (min (ns x).commit (ns y).commit).toNat := by
      intro x y T T' i i' hx hy q1 q2 q4 r1 r4 hT
      have a0 := (v.node x hx).c0
      have a1 := (v.node x hx).c1
      have b0 := (v.node y hy).c0
      have b1 := (v.node y hy).c1
      obtain ⟨e, he, _⟩ := r1.1
      have hi := Safe.has_lt q1.1
      obtain ⟨c, hc⟩ := v.El T' (fun h => by rw [h] at he; cases he)
      have hl := v.later q1 hc hT
      have p1 : (ns x).log.take (ns x).commit.toNat <+: g.ll T' := (List.prefix_of_prefix_length_le q4 (List.take_prefix (i + 1) _) (by rw [List.length_take, List.length_take]; omega)).trans hl
      have p3 : (ns x).log.take (min (ns x).commit (ns y).commit).toNat <+: g.ll T' := (List.take_prefix_take_left (by omega)).trans p1
      have p4 : (ns y).log.take (min (ns x).commit (ns y).commit).toNat <+: g.ll T' := (List.take_prefix_take_left (by omega)).trans r4
      exact (List.prefix_of_prefix_length_le p3 p4 (by rw [List.length_take, List.length_take]; omega)).eq_of_length (by rw [List.length_take, List.length_take]; omega)
    by_cases hT : T ≤ T'
    · exact key x y T T' i i' hx hy q1 q2 q4 r1 r4 hT
    · have := key y x T' T i' i hy hx r1 r2 r4 q1 q4 (by omega)
      rw [Int.min_comm] at this
      exact this.symm

theorem mfind_mput {t t' : Int} {w : Int} : ∀ (M : List (Int × Int)), mfind (U := U) (.int .i64) (V := Int) t' (mput (U := U) (.int .i64) (V := Int) t w M) = if t' = t then some w else mfind (U := U) (.int .i64) (V := Int) t' M
  | [] => by
    show (if decide (t' = t) = true then some w else none) = _
    by_cases h : t' = t <;> simp [h, mfind]
  | (a, b) :: M => by
    have ih := mfind_mput (t := t) (t' := t') (w := w) M
    show mfind (U := U) (.int .i64) (V := Int) t' (if decide (t = a) = true then (t, w) :: M else (a, b) :: mput (U := U) (.int .i64) (V := Int) t w M) = if t' = t then some w else (if decide (t' = a) = true then some b else mfind (U := U) (.int .i64) (V := Int) t' M)
    by_cases h : t = a
    · subst h
      rw [if_pos (by simp)]
      show (if decide (t' = t) = true then some w else mfind (U := U) (.int .i64) (V := Int) t' M) = _
      by_cases h2 : t' = t <;> simp [h2]
    · rw [if_neg (by simpa using h)]
      show (if decide (t' = a) = true then some b else mfind (U := U) (.int .i64) (V := Int) t' (mput (U := U) (.int .i64) (V := Int) t w M)) = _
      rw [ih]
      by_cases h2 : t' = t
      · subst h2
        simp [h]
      · simp [h2]

/-- The rounds that look at each node. -/
def checkF (o : Ops U) (K0 : Int) (L : List Node) (M0 : List (Int × Int)) (fin : List (Int × Int) → Option (HL U [.bool])) : Option (HL U [.bool]) :=
  (o.loop (fun x16 => (fun x17 => (o.ite (o.lt x17.fst (o.add .i64 (1 : Int) K0)) (o.ite (o.band (o.le (0 : Int) x17.fst) (o.lt x17.fst (o.len (.st 27) L))) (o.ite (o.bsel (o.lt (o.add .i64 (o.get (.st 27) L x17.fst).base (o.len (.st 58) (o.get (.st 27) L x17.fst).log)) (o.get (.st 27) L x17.fst).commit) true (o.bnot (o.eq (o.get (.st 27) L x17.fst).base (0 : Int)))) (some (false, ())) (o.ite (o.eq (o.get (.st 27) L x17.fst).role (2 : Int)) (o.ite (o.bsel (o.mhas (.int .i64) (.int .i64) x17.snd.fst (o.get (.st 27) L x17.fst).term) (o.bnot (o.eq (o.mget (.int .i64) (.int .i64) x17.snd.fst (o.get (.st 27) L x17.fst).term (0 : Int)) x17.fst)) false) (some (false, ())) (o.loop (fun x18 => (fun x19 => (o.ite (o.lt x19.fst x17.fst) (o.ite (o.band (o.le (0 : Int) x19.fst) (o.lt x19.fst (o.len (.st 27) L))) (o.bind (o.call 23 (⟨(.st 27), (o.get (.st 27) L x17.fst)⟩ :: (⟨(.st 27), (o.get (.st 27) L x19.fst)⟩ :: [])) (.bool :: [])) (fun x20 => (o.ite (o.bnot x20.fst) (some (false, ())) (x18 ((o.add .i64 x19.fst (1 : Int)), ()))))) none) (x16 ((o.add .i64 x17.fst (1 : Int)), ((o.mset (.int .i64) (.int .i64) x17.snd.fst (o.get (.st 27) L x17.fst).term x17.fst), ())))))) ((0 : Int), ()))) (o.loop (fun x21 => (fun x22 => (o.ite (o.lt x22.fst x17.fst) (o.ite (o.band (o.le (0 : Int) x22.fst) (o.lt x22.fst (o.len (.st 27) L))) (o.bind (o.call 23 (⟨(.st 27), (o.get (.st 27) L x17.fst)⟩ :: (⟨(.st 27), (o.get (.st 27) L x22.fst)⟩ :: [])) (.bool :: [])) (fun x23 => (o.ite (o.bnot x23.fst) (some (false, ())) (x21 ((o.add .i64 x22.fst (1 : Int)), ()))))) none) (x16 ((o.add .i64 x17.fst (1 : Int)), (x17.snd.fst, ())))))) ((0 : Int), ())))) none) (fin x17.snd.fst)))) ((0 : Int), (M0, ())))

theorem check_loop {K : Nat} {g : Safe.G} {L : List Node} {M0 : List (Int × Int)} {K0 : Int} (hk : 4 ≤ k) (hn : 2^43 ≤ n) (h : LawI K B g L M0) (hK : (K : Int) = 1 + K0) (hK5 : K ≤ 5) (hB : B ≤ 2^41) {fin : List (Int × Int) → Option (HL U [.bool])}
    (hfin : ∀ M, MapOk g M → AwakeQ (fin M)) : AwakeQ (checkF (real tab (C n k) n) K0 L M0 fin) := by
  obtain ⟨len, ni, inv, mp⟩ := h
  unfold checkF
  rw [r_loop]
  refine iter_prop (fun x => ((K : Int) - x.1).toNat) (fun x => 0 ≤ x.1 ∧ x.1 ≤ (K : Int) ∧ MapOk g x.2.1) AwakeQ ?_ n _ ⟨by dsimp only; omega, by dsimp only; omega, mp⟩ (by dsimp only; omega)
  rintro next ⟨x, M, u⟩ ⟨x0, x1, hM⟩ ih
  dsimp only at x0 x1 hM
  by_cases hx : x < K
  · have hx' : x.toNat < K := by omega
    have nn := inv.node _ hx'
    have nin := ni _ hx'
    have hget : (real tab (C n k) n).get (.st 27) L x = nd L x.toNat := rfl
    refine q_yes AwakeQ (by simp (maxSteps := 2000000) (discharger := omega) only [r_ite, r_add, r_sub, r_mul, r_quo, r_rem, r_lt, r_le, r_eq, r_bnot, r_or, r_and, r_isel, r_beq, r_band, r_bimp, r_imax, r_imin, r_call, r_gcall, r_bind, Option.bind_some, fits_ok, mfit_ok, wrap_i64, both_self, node_eta, msg_eta, entry_eta, hard_eta, decide_eq_true_eq, Bool.and_eq_true, Bool.or_eq_true, Bool.not_eq_true', decide_eq_false_iff_not, Bool.not_not, eq_self, not_true_eq_false, not_false_eq_true, Bool.false_eq_true, Bool.true_eq_false, Bool.not_false, Bool.not_true, if_true, if_false, true_and, and_true, or_false, false_or, or_true, true_or, and_false, false_and, true_implies, if_pos, if_neg, len_58, get_58, app_58, set_58, cut_58, rep_58, emp_58, len_30, get_30, app_30, set_30, cut_30, rep_30, emp_30, len_27, get_27, app_27, set_27, cut_27, rep_27, emp_27, len_i, get_i, app_i, set_i, cut_i, rep_i, emp_i, len_b, get_b, app_b, set_b, cut_b, rep_b, emp_b] <;> omega) ?_
    refine q_yes AwakeQ (by simp (maxSteps := 2000000) (discharger := omega) only [r_ite, r_add, r_sub, r_mul, r_quo, r_rem, r_lt, r_le, r_eq, r_bnot, r_or, r_and, r_isel, r_beq, r_band, r_bimp, r_imax, r_imin, r_call, r_gcall, r_bind, Option.bind_some, fits_ok, mfit_ok, wrap_i64, both_self, node_eta, msg_eta, entry_eta, hard_eta, decide_eq_true_eq, Bool.and_eq_true, Bool.or_eq_true, Bool.not_eq_true', decide_eq_false_iff_not, Bool.not_not, eq_self, not_true_eq_false, not_false_eq_true, Bool.false_eq_true, Bool.true_eq_false, Bool.not_false, Bool.not_true, if_true, if_false, true_and, and_true, or_false, false_or, or_true, true_or, and_false, false_and, true_implies, if_pos, if_neg, len_58, get_58, app_58, set_58, cut_58, rep_58, emp_58, len_30, get_30, app_30, set_30, cut_30, rep_30, emp_30, len_27, get_27, app_27, set_27, cut_27, rep_27, emp_27, len_i, get_i, app_i, set_i, cut_i, rep_i, emp_i, len_b, get_b, app_b, set_b, cut_b, rep_b, emp_b] <;> omega) ?_
    dsimp only
    rw [hget]
    have hag : ∀ y, y < x.toNat → AG (nd L x.toNat) (nd L y) := fun y hy => ag_of inv hx' (by omega)
    have hll : ∀ y, y < K → ((nd L y).log.length : Int) ≤ 2^41 := fun y hy => by have := (ni y hy).ll; omega
    have hrole := nn.lead
    have hid := nn.id
    have hc1 := nn.c1
    have hb0 := nn.base
    generalize nd L x.toNat = a at nn nin hag hrole hid hc1 hb0
    have hla : (a.log.length : Int) ≤ 2^41 := by have := nin.ll; omega
    refine q_no AwakeQ (by simp (maxSteps := 2000000) (discharger := omega) only [r_ite, r_add, r_sub, r_mul, r_quo, r_rem, r_lt, r_le, r_eq, r_bnot, r_or, r_and, r_isel, r_beq, r_band, r_bimp, r_imax, r_imin, r_call, r_gcall, r_bind, Option.bind_some, fits_ok, mfit_ok, wrap_i64, both_self, node_eta, msg_eta, entry_eta, hard_eta, decide_eq_true_eq, Bool.and_eq_true, Bool.or_eq_true, Bool.not_eq_true', decide_eq_false_iff_not, Bool.not_not, eq_self, not_true_eq_false, not_false_eq_true, Bool.false_eq_true, Bool.true_eq_false, Bool.not_false, Bool.not_true, if_true, if_false, true_and, and_true, or_false, false_or, or_true, true_or, and_false, false_and, true_implies, if_pos, if_neg, len_58, get_58, app_58, set_58, cut_58, rep_58, emp_58, len_30, get_30, app_30, set_30, cut_30, rep_30, emp_30, len_27, get_27, app_27, set_27, cut_27, rep_27, emp_27, len_i, get_i, app_i, set_i, cut_i, rep_i, emp_i, len_b, get_b, app_b, set_b, cut_b, rep_b, emp_b, hb0] <;> omega) ?_
    have inner : ∀ (P : Option (HL U [.bool])), AwakeQ P → AwakeQ ((real tab (C n k) n).loop (fun x18 => (fun (x19 : Int × Unit) => ((real tab (C n k) n).ite ((real tab (C n k) n).lt x19.fst x) ((real tab (C n k) n).ite ((real tab (C n k) n).band ((real tab (C n k) n).le (0 : Int) x19.fst) ((real tab (C n k) n).lt x19.fst ((real tab (C n k) n).len (.st 27) L))) ((real tab (C n k) n).bind ((real tab (C n k) n).call 23 (⟨(.st 27), a⟩ :: (⟨(.st 27), ((real tab (C n k) n).get (.st 27) L x19.fst)⟩ :: [])) (.bool :: [])) (fun x20 => ((real tab (C n k) n).ite ((real tab (C n k) n).bnot x20.fst) (some (false, ())) (x18 (((real tab (C n k) n).add .i64 x19.fst (1 : Int)), ()))))) none) P))) ((0 : Int), ())) := by
      intro P hP
      rw [r_loop]
      refine iter_prop (fun y => (x - y.1).toNat) (fun y => 0 ≤ y.1) AwakeQ ?_ n _ (by dsimp only; omega) (by dsimp only; omega)
      rintro nxt ⟨y, u⟩ y0 ih2
      dsimp only at y0
      by_cases hy : y < x
      · refine q_yes AwakeQ (by simp (maxSteps := 2000000) (discharger := omega) only [r_ite, r_add, r_sub, r_mul, r_quo, r_rem, r_lt, r_le, r_eq, r_bnot, r_or, r_and, r_isel, r_beq, r_band, r_bimp, r_imax, r_imin, r_call, r_gcall, r_bind, Option.bind_some, fits_ok, mfit_ok, wrap_i64, both_self, node_eta, msg_eta, entry_eta, hard_eta, decide_eq_true_eq, Bool.and_eq_true, Bool.or_eq_true, Bool.not_eq_true', decide_eq_false_iff_not, Bool.not_not, eq_self, not_true_eq_false, not_false_eq_true, Bool.false_eq_true, Bool.true_eq_false, Bool.not_false, Bool.not_true, if_true, if_false, true_and, and_true, or_false, false_or, or_true, true_or, and_false, false_and, true_implies, if_pos, if_neg, len_58, get_58, app_58, set_58, cut_58, rep_58, emp_58, len_30, get_30, app_30, set_30, cut_30, rep_30, emp_30, len_27, get_27, app_27, set_27, cut_27, rep_27, emp_27, len_i, get_i, app_i, set_i, cut_i, rep_i, emp_i, len_b, get_b, app_b, set_b, cut_b, rep_b, emp_b] <;> omega) ?_
        refine q_yes AwakeQ (by simp (maxSteps := 2000000) (discharger := omega) only [r_ite, r_add, r_sub, r_mul, r_quo, r_rem, r_lt, r_le, r_eq, r_bnot, r_or, r_and, r_isel, r_beq, r_band, r_bimp, r_imax, r_imin, r_call, r_gcall, r_bind, Option.bind_some, fits_ok, mfit_ok, wrap_i64, both_self, node_eta, msg_eta, entry_eta, hard_eta, decide_eq_true_eq, Bool.and_eq_true, Bool.or_eq_true, Bool.not_eq_true', decide_eq_false_iff_not, Bool.not_not, eq_self, not_true_eq_false, not_false_eq_true, Bool.false_eq_true, Bool.true_eq_false, Bool.not_false, Bool.not_true, if_true, if_false, true_and, and_true, or_false, false_or, or_true, true_or, and_false, false_and, true_implies, if_pos, if_neg, len_58, get_58, app_58, set_58, cut_58, rep_58, emp_58, len_30, get_30, app_30, set_30, cut_30, rep_30, emp_30, len_27, get_27, app_27, set_27, cut_27, rep_27, emp_27, len_i, get_i, app_i, set_i, cut_i, rep_i, emp_i, len_b, get_b, app_b, set_b, cut_b, rep_b, emp_b] <;> omega) ?_
        have e23 := s_23 (n := n) (k := k) hk hn (hag y.toNat (by omega)) hla (hll y.toNat (by omega))
        refine q_bind AwakeQ (true, ()) e23 ?_
        refine q_no AwakeQ (by simp (maxSteps := 2000000) (discharger := omega) only [r_ite, r_add, r_sub, r_mul, r_quo, r_rem, r_lt, r_le, r_eq, r_bnot, r_or, r_and, r_isel, r_beq, r_band, r_bimp, r_imax, r_imin, r_call, r_gcall, r_bind, Option.bind_some, fits_ok, mfit_ok, wrap_i64, both_self, node_eta, msg_eta, entry_eta, hard_eta, decide_eq_true_eq, Bool.and_eq_true, Bool.or_eq_true, Bool.not_eq_true', decide_eq_false_iff_not, Bool.not_not, eq_self, not_true_eq_false, not_false_eq_true, Bool.false_eq_true, Bool.true_eq_false, Bool.not_false, Bool.not_true, if_true, if_false, true_and, and_true, or_false, false_or, or_true, true_or, and_false, false_and, true_implies, if_pos, if_neg, len_58, get_58, app_58, set_58, cut_58, rep_58, emp_58, len_30, get_30, app_30, set_30, cut_30, rep_30, emp_30, len_27, get_27, app_27, set_27, cut_27, rep_27, emp_27, len_i, get_i, app_i, set_i, cut_i, rep_i, emp_i, len_b, get_b, app_b, set_b, cut_b, rep_b, emp_b]) ?_
        exact q_eq AwakeQ (by simp (maxSteps := 2000000) (discharger := omega) only [r_ite, r_add, r_sub, r_mul, r_quo, r_rem, r_lt, r_le, r_eq, r_bnot, r_or, r_and, r_isel, r_beq, r_band, r_bimp, r_imax, r_imin, r_call, r_gcall, r_bind, Option.bind_some, fits_ok, mfit_ok, wrap_i64, both_self, node_eta, msg_eta, entry_eta, hard_eta, decide_eq_true_eq, Bool.and_eq_true, Bool.or_eq_true, Bool.not_eq_true', decide_eq_false_iff_not, Bool.not_not, eq_self, not_true_eq_false, not_false_eq_true, Bool.false_eq_true, Bool.true_eq_false, Bool.not_false, Bool.not_true, if_true, if_false, true_and, and_true, or_false, false_or, or_true, true_or, and_false, false_and, true_implies, if_pos, if_neg, len_58, get_58, app_58, set_58, cut_58, rep_58, emp_58, len_30, get_30, app_30, set_30, cut_30, rep_30, emp_30, len_27, get_27, app_27, set_27, cut_27, rep_27, emp_27, len_i, get_i, app_i, set_i, cut_i, rep_i, emp_i, len_b, get_b, app_b, set_b, cut_b, rep_b, emp_b]) (ih2 (y + 1, ()) (by dsimp only; omega) (by dsimp only; omega))
      · refine q_no AwakeQ (by simp (maxSteps := 2000000) (discharger := omega) only [r_ite, r_add, r_sub, r_mul, r_quo, r_rem, r_lt, r_le, r_eq, r_bnot, r_or, r_and, r_isel, r_beq, r_band, r_bimp, r_imax, r_imin, r_call, r_gcall, r_bind, Option.bind_some, fits_ok, mfit_ok, wrap_i64, both_self, node_eta, msg_eta, entry_eta, hard_eta, decide_eq_true_eq, Bool.and_eq_true, Bool.or_eq_true, Bool.not_eq_true', decide_eq_false_iff_not, Bool.not_not, eq_self, not_true_eq_false, not_false_eq_true, Bool.false_eq_true, Bool.true_eq_false, Bool.not_false, Bool.not_true, if_true, if_false, true_and, and_true, or_false, false_or, or_true, true_or, and_false, false_and, true_implies, if_pos, if_neg, len_58, get_58, app_58, set_58, cut_58, rep_58, emp_58, len_30, get_30, app_30, set_30, cut_30, rep_30, emp_30, len_27, get_27, app_27, set_27, cut_27, rep_27, emp_27, len_i, get_i, app_i, set_i, cut_i, rep_i, emp_i, len_b, get_b, app_b, set_b, cut_b, rep_b, emp_b] <;> omega) ?_
        exact hP
    by_cases hr : a.role = 2
    · refine q_yes AwakeQ (by simp (maxSteps := 2000000) (discharger := omega) only [r_ite, r_add, r_sub, r_mul, r_quo, r_rem, r_lt, r_le, r_eq, r_bnot, r_or, r_and, r_isel, r_beq, r_band, r_bimp, r_imax, r_imin, r_call, r_gcall, r_bind, Option.bind_some, fits_ok, mfit_ok, wrap_i64, both_self, node_eta, msg_eta, entry_eta, hard_eta, decide_eq_true_eq, Bool.and_eq_true, Bool.or_eq_true, Bool.not_eq_true', decide_eq_false_iff_not, Bool.not_not, eq_self, not_true_eq_false, not_false_eq_true, Bool.false_eq_true, Bool.true_eq_false, Bool.not_false, Bool.not_true, if_true, if_false, true_and, and_true, or_false, false_or, or_true, true_or, and_false, false_and, true_implies, if_pos, if_neg, len_58, get_58, app_58, set_58, cut_58, rep_58, emp_58, len_30, get_30, app_30, set_30, cut_30, rep_30, emp_30, len_27, get_27, app_27, set_27, cut_27, rep_27, emp_27, len_i, get_i, app_i, set_i, cut_i, rep_i, emp_i, len_b, get_b, app_b, set_b, cut_b, rep_b, emp_b, hr]) ?_
      have hE := (hrole hr).1
      refine q_no AwakeQ ?_ ?_
      · intro hc
        have hc : ((mfind (U := U) (.int .i64) (V := Int) a.term M).isSome && !decide (((mfind (U := U) (.int .i64) (V := Int) a.term M).getD 0) = x)) = true := by
          rw [← hc]
          rw [r_and, r_bnot, r_eq]
          rfl
        cases hf : mfind (U := U) (.int .i64) (V := Int) a.term M with
        | none => rw [hf] at hc; cases hc
        | some w =>
          rw [hf] at hc
          obtain ⟨w0, w1⟩ := hM _ _ hf
          have := Safe.unique inv.Vf inv.Eq w1 hE
          have hw : w = x := by omega
          subst hw
          simp at hc
      · refine inner _ ?_
        refine q_eq AwakeQ (z := (x + 1, (mput (U := U) (.int .i64) (V := Int) a.term x M, ()))) ?_ (ih _ ⟨by dsimp only; omega, by dsimp only; omega, ?_⟩ (by dsimp only; omega))
        · rw [r_add, wrap_i64 (by omega) (by omega)]; rfl
        · intro t w hw
          have hw : mfind (U := U) (.int .i64) (V := Int) t (mput (U := U) (.int .i64) (V := Int) a.term x M) = some w := hw
          rw [mfind_mput] at hw
          split at hw
          · rename_i e
            have := Option.some.inj hw
            subst this; subst e
            exact ⟨x0, hE⟩
          · exact hM _ _ hw
    · refine q_no AwakeQ (by simp (maxSteps := 2000000) (discharger := omega) only [r_ite, r_add, r_sub, r_mul, r_quo, r_rem, r_lt, r_le, r_eq, r_bnot, r_or, r_and, r_isel, r_beq, r_band, r_bimp, r_imax, r_imin, r_call, r_gcall, r_bind, Option.bind_some, fits_ok, mfit_ok, wrap_i64, both_self, node_eta, msg_eta, entry_eta, hard_eta, decide_eq_true_eq, Bool.and_eq_true, Bool.or_eq_true, Bool.not_eq_true', decide_eq_false_iff_not, Bool.not_not, eq_self, not_true_eq_false, not_false_eq_true, Bool.false_eq_true, Bool.true_eq_false, Bool.not_false, Bool.not_true, if_true, if_false, true_and, and_true, or_false, false_or, or_true, true_or, and_false, false_and, true_implies, if_pos, if_neg, len_58, get_58, app_58, set_58, cut_58, rep_58, emp_58, len_30, get_30, app_30, set_30, cut_30, rep_30, emp_30, len_27, get_27, app_27, set_27, cut_27, rep_27, emp_27, len_i, get_i, app_i, set_i, cut_i, rep_i, emp_i, len_b, get_b, app_b, set_b, cut_b, rep_b, emp_b, hr]) ?_
      refine inner _ ?_
      exact q_eq AwakeQ (by simp (maxSteps := 2000000) (discharger := omega) only [r_ite, r_add, r_sub, r_mul, r_quo, r_rem, r_lt, r_le, r_eq, r_bnot, r_or, r_and, r_isel, r_beq, r_band, r_bimp, r_imax, r_imin, r_call, r_gcall, r_bind, Option.bind_some, fits_ok, mfit_ok, wrap_i64, both_self, node_eta, msg_eta, entry_eta, hard_eta, decide_eq_true_eq, Bool.and_eq_true, Bool.or_eq_true, Bool.not_eq_true', decide_eq_false_iff_not, Bool.not_not, eq_self, not_true_eq_false, not_false_eq_true, Bool.false_eq_true, Bool.true_eq_false, Bool.not_false, Bool.not_true, if_true, if_false, true_and, and_true, or_false, false_or, or_true, true_or, and_false, false_and, true_implies, if_pos, if_neg, len_58, get_58, app_58, set_58, cut_58, rep_58, emp_58, len_30, get_30, app_30, set_30, cut_30, rep_30, emp_30, len_27, get_27, app_27, set_27, cut_27, rep_27, emp_27, len_i, get_i, app_i, set_i, cut_i, rep_i, emp_i, len_b, get_b, app_b, set_b, cut_b, rep_b, emp_b]) (ih (x + 1, (M, ())) ⟨by dsimp only; omega, by dsimp only; omega, hM⟩ (by dsimp only; omega))
  · refine q_no AwakeQ (by simp (maxSteps := 2000000) (discharger := omega) only [r_ite, r_add, r_sub, r_mul, r_quo, r_rem, r_lt, r_le, r_eq, r_bnot, r_or, r_and, r_isel, r_beq, r_band, r_bimp, r_imax, r_imin, r_call, r_gcall, r_bind, Option.bind_some, fits_ok, mfit_ok, wrap_i64, both_self, node_eta, msg_eta, entry_eta, hard_eta, decide_eq_true_eq, Bool.and_eq_true, Bool.or_eq_true, Bool.not_eq_true', decide_eq_false_iff_not, Bool.not_not, eq_self, not_true_eq_false, not_false_eq_true, Bool.false_eq_true, Bool.true_eq_false, Bool.not_false, Bool.not_true, if_true, if_false, true_and, and_true, or_false, false_or, or_true, true_or, and_false, false_and, true_implies, if_pos, if_neg, len_58, get_58, app_58, set_58, cut_58, rep_58, emp_58, len_30, get_30, app_30, set_30, cut_30, rep_30, emp_30, len_27, get_27, app_27, set_27, cut_27, rep_27, emp_27, len_i, get_i, app_i, set_i, cut_i, rep_i, emp_i, len_b, get_b, app_b, set_b, cut_b, rep_b, emp_b] <;> omega) ?_
    exact hfin M hM

end
end Go.Proofs.Ytinfpahllbhomaa

namespace Go.Proofs.Ytinfpahllbhomaa
open Go.Ab
set_option linter.unusedSimpArgs false
set_option linter.unusedVariables false
set_option maxHeartbeats 8000000
noncomputable section
variable {n k : Nat} {B : Int} {a : Node}

theorem q_join {T : Tab U} {D : Go.Ab.Callee U} {m : Nat} {R S : Type} (Q : Option R → Prop) (J : S → Prop) {f : S → Option R} {b : (S → Option R) → Option R} (hf : ∀ x, J x → Q (f x))
    (hb : ∀ next, (∀ x, J x → Q (next x)) → Q (b next)) : Q ((real T D m).join f b) := hb f hf

theorem nd_set {L : List Node} {j : Nat} (h : j < L.length) : nd (L.set j a) = Safe.upd (nd L) j a := by
  funext x
  unfold nd Safe.upd
  rw [List.getD_eq_getElem?_getD, List.getElem?_set]
  by_cases e : x = j
  · subst e; rw [if_pos rfl, if_pos h, if_pos rfl]; rfl
  · rw [if_neg (fun h => e h.symm), if_neg e]
    show _ = L.getD x dn
    rw [List.getD_eq_getElem?_getD]

theorem law_turn {K : Nat} {g : Safe.G} {L : List Node} {M : List (Int × Int)} (h : LawI K B g L M) {j : Nat} (hj : j < K) {l : List Msg} (hN : NI (B + 20) a)
    (ho : Safe.Out K g (nd L) j a l) : ∃ g', Safe.Le g g' ∧ LawI K (B + 20) g' (L.set j a) M ∧ ∀ x ∈ l, Safe.MsgOk K g' x := by
  obtain ⟨len, ni, inv, mp⟩ := h
  obtain ⟨g', x, v, hl⟩ := ho
  refine ⟨g', x, ⟨by rw [List.length_set]; exact len, fun y hy => ?_, by rw [nd_set (by omega)]; exact v, fun t w hw => ⟨(mp t w hw).1, x.E _ _ (mp t w hw).2⟩⟩, hl⟩
  rw [nd_set (by omega)]
  unfold Safe.upd
  split
  · exact hN
  · exact (ni y hy).le (by omega)

def g0 : Safe.G := ⟨fun _ _ _ => False, fun _ _ _ => False, fun _ _ => False, fun _ => [], fun _ _ => none⟩

theorem law_first {K : Nat} (h1 : 1 ≤ K) (h5 : K ≤ 5) : LawI K (2^40) g0 ((List.range K).map fun (y : Nat) => newN y K) [] := by
  have hnd : ∀ x, x < K → nd ((List.range K).map fun (y : Nat) => newN y K) x = newN x K := by
    intro x hx
    unfold nd
    rw [List.getD_eq_getElem?_getD, List.getElem?_map, List.getElem?_range hx]; rfl
  have hno : ∀ T i, ¬ Safe.has g0 T i := fun T i h => by
    have := Safe.has_lt h
    exact absurd this (Nat.not_lt_zero _)
  refine ⟨by rw [List.length_map, List.length_range], fun x hx => by rw [hnd x hx]; exact NI.new (by omega) (by omega) (by omega), ?_, fun t w hw => by cases hw⟩
  refine { node := fun j hj => ?_, Vf := fun _ _ _ _ h => h.elim, Vc := fun _ _ _ h => h.elim, Kl := fun _ _ _ h => h.elim, Eq := fun _ _ h => h.elim, cl := fun _ _ _ h => (by cases h)
           ll := fun t => ⟨fun i e he => (by cases he), fun e he => (by cases he)⟩, El := fun t h => absurd rfl h, safe := fun _ _ _ _ h => h.elim, vsafe := fun _ _ _ _ _ _ _ _ h => h.elim }
  have e := hnd j hj
  rw [e]
  exact
    { id := by show min (max (j : Int) 0) ((K : Int) - 1) = j; omega
      nodes := rfl, base := rfl, bt := rfl, tmj := congrArg Node.term e, t0 := Int.le_refl _, vote := .inl rfl
      V := fun _ _ h => h.elim, K := fun _ _ h => h.elim, E := fun _ h => h.elim, cl := fun _ _ h => (by cases h)
      cand := fun h => absurd h Safe.z1, lead := fun h => absurd h Safe.z2, log := fun i e he => (by cases he), lt := fun e he => (by cases he)
      ack := fun T i e h => absurd h (hno T i), c0 := Int.le_refl _, c1 := Int.le_refl _, com := .inl rfl }

theorem s_4 (hk : 20 ≤ k) (hn : 2^43 ≤ n) {nodes : Int} {l : List Int} : C n k 4 [⟨.int .i64, nodes⟩, ⟨.sl (.int .i64), l⟩] [.bool] = some (true, ()) := by
  obtain ⟨k, rfl⟩ : ∃ k1, k = k1 + 1 := ⟨k - 1, by omega⟩
  rw [C_succ, nf_4]
  show AwakeQ _
  have e7 := s_7 (n := n) (k := k) (by omega) (by omega)
  obtain ⟨K0, hK0, K0a, K0b⟩ := s_20 (n := n) (k := k) (v := nodes) (N := 5) (by omega) (by omega) (by omega)
  refine q_bind AwakeQ (K0, ()) hK0 ?_
  dsimp only
  obtain ⟨K, hK⟩ : ∃ K : Nat, (K : Int) = 1 + K0 := ⟨(1 + K0).toNat, by omega⟩
  rw [r_loop]
  refine iter_prop (fun x => ((K : Int) - x.1).toNat) (fun x => 0 ≤ x.1 ∧ x.1 ≤ (K : Int) ∧ x.2.1 = (List.range x.1.toNat).map fun (y : Nat) => newN y K) AwakeQ ?_ n _ ⟨by dsimp only; omega, by dsimp only; omega, rfl⟩ (by dsimp only; omega)
  rintro next0 ⟨i, L0, u0⟩ ⟨i0, i1, hL0⟩ ih0
  dsimp only at i0 i1 hL0
  by_cases hi : i < K
  · refine q_yes AwakeQ (by simp (maxSteps := 2000000) (discharger := omega) only [r_ite, r_add, r_sub, r_mul, r_quo, r_rem, r_lt, r_le, r_eq, r_bnot, r_or, r_and, r_isel, r_beq, r_band, r_bimp, r_imax, r_imin, r_call, r_gcall, r_bind, Option.bind_some, fits_ok, mfit_ok, wrap_i64, both_self, node_eta, msg_eta, entry_eta, hard_eta, decide_eq_true_eq, Bool.and_eq_true, Bool.or_eq_true, Bool.not_eq_true', decide_eq_false_iff_not, Bool.not_not, eq_self, not_true_eq_false, not_false_eq_true, Bool.false_eq_true, Bool.true_eq_false, Bool.not_false, Bool.not_true, if_true, if_false, true_and, and_true, or_false, false_or, or_true, true_or, and_false, false_and, true_implies, if_pos, if_neg, len_58, get_58, app_58, set_58, cut_58, rep_58, emp_58, len_30, get_30, app_30, set_30, cut_30, rep_30, emp_30, len_27, get_27, app_27, set_27, cut_27, rep_27, emp_27, len_i, get_i, app_i, set_i, cut_i, rep_i, emp_i, len_b, get_b, app_b, set_b, cut_b, rep_b, emp_b] <;> omega) ?_
    have e21 := s_21 (n := n) (k := k) (id := i) (nodes := 1 + K0) (by omega) (by omega)
    rw [show min (max (1 + K0) 1) 5 = (K : Int) from by omega] at e21
    refine q_bind AwakeQ (newN i K, ()) (by simp (maxSteps := 2000000) (discharger := omega) only [r_ite, r_add, r_sub, r_mul, r_quo, r_rem, r_lt, r_le, r_eq, r_bnot, r_or, r_and, r_isel, r_beq, r_band, r_bimp, r_imax, r_imin, r_call, r_gcall, r_bind, Option.bind_some, fits_ok, mfit_ok, wrap_i64, both_self, node_eta, msg_eta, entry_eta, hard_eta, decide_eq_true_eq, Bool.and_eq_true, Bool.or_eq_true, Bool.not_eq_true', decide_eq_false_iff_not, Bool.not_not, eq_self, not_true_eq_false, not_false_eq_true, Bool.false_eq_true, Bool.true_eq_false, Bool.not_false, Bool.not_true, if_true, if_false, true_and, and_true, or_false, false_or, or_true, true_or, and_false, false_and, true_implies, if_pos, if_neg, len_58, get_58, app_58, set_58, cut_58, rep_58, emp_58, len_30, get_30, app_30, set_30, cut_30, rep_30, emp_30, len_27, get_27, app_27, set_27, cut_27, rep_27, emp_27, len_i, get_i, app_i, set_i, cut_i, rep_i, emp_i, len_b, get_b, app_b, set_b, cut_b, rep_b, emp_b, e21]) ?_
    have hl : L0.length ≤ 5 := by rw [hL0, List.length_map, List.length_range]; omega
    refine q_yes AwakeQ (by simp (maxSteps := 2000000) (discharger := omega) only [r_ite, r_add, r_sub, r_mul, r_quo, r_rem, r_lt, r_le, r_eq, r_bnot, r_or, r_and, r_isel, r_beq, r_band, r_bimp, r_imax, r_imin, r_call, r_gcall, r_bind, Option.bind_some, fits_ok, mfit_ok, wrap_i64, both_self, node_eta, msg_eta, entry_eta, hard_eta, decide_eq_true_eq, Bool.and_eq_true, Bool.or_eq_true, Bool.not_eq_true', decide_eq_false_iff_not, Bool.not_not, eq_self, not_true_eq_false, not_false_eq_true, Bool.false_eq_true, Bool.true_eq_false, Bool.not_false, Bool.not_true, if_true, if_false, true_and, and_true, or_false, false_or, or_true, true_or, and_false, false_and, true_implies, if_pos, if_neg, len_58, get_58, app_58, set_58, cut_58, rep_58, emp_58, len_30, get_30, app_30, set_30, cut_30, rep_30, emp_30, len_27, get_27, app_27, set_27, cut_27, rep_27, emp_27, len_i, get_i, app_i, set_i, cut_i, rep_i, emp_i, len_b, get_b, app_b, set_b, cut_b, rep_b, emp_b, List.length_singleton]) ?_
    refine q_eq AwakeQ (z := (i + 1, (L0 ++ [newN i K], ()))) ?_ (ih0 _ ⟨by dsimp only; omega, by dsimp only; omega, ?_⟩ (by dsimp only; omega))
    · simp (maxSteps := 2000000) (discharger := omega) only [r_ite, r_add, r_sub, r_mul, r_quo, r_rem, r_lt, r_le, r_eq, r_bnot, r_or, r_and, r_isel, r_beq, r_band, r_bimp, r_imax, r_imin, r_call, r_gcall, r_bind, Option.bind_some, fits_ok, mfit_ok, wrap_i64, both_self, node_eta, msg_eta, entry_eta, hard_eta, decide_eq_true_eq, Bool.and_eq_true, Bool.or_eq_true, Bool.not_eq_true', decide_eq_false_iff_not, Bool.not_not, eq_self, not_true_eq_false, not_false_eq_true, Bool.false_eq_true, Bool.true_eq_false, Bool.not_false, Bool.not_true, if_true, if_false, true_and, and_true, or_false, false_or, or_true, true_or, and_false, false_and, true_implies, if_pos, if_neg, len_58, get_58, app_58, set_58, cut_58, rep_58, emp_58, len_30, get_30, app_30, set_30, cut_30, rep_30, emp_30, len_27, get_27, app_27, set_27, cut_27, rep_27, emp_27, len_i, get_i, app_i, set_i, cut_i, rep_i, emp_i, len_b, get_b, app_b, set_b, cut_b, rep_b, emp_b]
    · dsimp only
      rw [hL0, show (i + 1).toNat = i.toNat + 1 from by omega, List.range_succ, List.map_append]
      show _ = _ ++ [newN ((i.toNat : Nat) : Int) K]
      rw [show ((i.toNat : Nat) : Int) = i from by omega]
  · refine q_no AwakeQ (by simp (maxSteps := 2000000) (discharger := omega) only [r_ite, r_add, r_sub, r_mul, r_quo, r_rem, r_lt, r_le, r_eq, r_bnot, r_or, r_and, r_isel, r_beq, r_band, r_bimp, r_imax, r_imin, r_call, r_gcall, r_bind, Option.bind_some, fits_ok, mfit_ok, wrap_i64, both_self, node_eta, msg_eta, entry_eta, hard_eta, decide_eq_true_eq, Bool.and_eq_true, Bool.or_eq_true, Bool.not_eq_true', decide_eq_false_iff_not, Bool.not_not, eq_self, not_true_eq_false, not_false_eq_true, Bool.false_eq_true, Bool.true_eq_false, Bool.not_false, Bool.not_true, if_true, if_false, true_and, and_true, or_false, false_or, or_true, true_or, and_false, false_and, true_implies, if_pos, if_neg, len_58, get_58, app_58, set_58, cut_58, rep_58, emp_58, len_30, get_30, app_30, set_30, cut_30, rep_30, emp_30, len_27, get_27, app_27, set_27, cut_27, rep_27, emp_27, len_i, get_i, app_i, set_i, cut_i, rep_i, emp_i, len_b, get_b, app_b, set_b, cut_b, rep_b, emp_b] <;> omega) ?_
    have hiK : i.toNat = K := by omega
    rw [hiK] at hL0
    have hF := law_first (K := K) (by omega) (by omega)
    rw [← hL0] at hF
    clear hL0 ih0
    rw [r_loop]
    refine iter_prop (fun x => (250 - x.1).toNat) (fun x => 0 ≤ x.1 ∧ x.1 ≤ 250 ∧ x.2.2.1.length ≤ 60 ∧ ∃ g, LawI K (2^40 + 20 * x.1) g x.2.1 x.2.2.2.1 ∧ ∀ m ∈ x.2.2.1, Safe.MsgOk K g m) AwakeQ ?_ n _
      ⟨by dsimp only; omega, by dsimp only; omega, by dsimp only [List.length_nil]; omega, g0, hF, fun m hm => by cases hm⟩ (by dsimp only; omega)
    rintro next ⟨t, L, ms, M, u⟩ ⟨t0, t1, hms, g, hI, hM⟩ ih
    dsimp only at t0 t1 hms hI hM
    dsimp only
    by_cases hq : t < (l.length : Int) ∧ t < 250
    · refine q_yes AwakeQ (by simp (maxSteps := 2000000) (discharger := omega) only [r_ite, r_add, r_sub, r_mul, r_quo, r_rem, r_lt, r_le, r_eq, r_bnot, r_or, r_and, r_isel, r_beq, r_band, r_bimp, r_imax, r_imin, r_call, r_gcall, r_bind, Option.bind_some, fits_ok, mfit_ok, wrap_i64, both_self, node_eta, msg_eta, entry_eta, hard_eta, decide_eq_true_eq, Bool.and_eq_true, Bool.or_eq_true, Bool.not_eq_true', decide_eq_false_iff_not, Bool.not_not, eq_self, not_true_eq_false, not_false_eq_true, Bool.false_eq_true, Bool.true_eq_false, Bool.not_false, Bool.not_true, if_true, if_false, true_and, and_true, or_false, false_or, or_true, true_or, and_false, false_and, true_implies, if_pos, if_neg, len_58, get_58, app_58, set_58, cut_58, rep_58, emp_58, len_30, get_30, app_30, set_30, cut_30, rep_30, emp_30, len_27, get_27, app_27, set_27, cut_27, rep_27, emp_27, len_i, get_i, app_i, set_i, cut_i, rep_i, emp_i, len_b, get_b, app_b, set_b, cut_b, rep_b, emp_b] <;> omega) ?_
      refine q_yes AwakeQ (by simp (maxSteps := 2000000) (discharger := omega) only [r_ite, r_add, r_sub, r_mul, r_quo, r_rem, r_lt, r_le, r_eq, r_bnot, r_or, r_and, r_isel, r_beq, r_band, r_bimp, r_imax, r_imin, r_call, r_gcall, r_bind, Option.bind_some, fits_ok, mfit_ok, wrap_i64, both_self, node_eta, msg_eta, entry_eta, hard_eta, decide_eq_true_eq, Bool.and_eq_true, Bool.or_eq_true, Bool.not_eq_true', decide_eq_false_iff_not, Bool.not_not, eq_self, not_true_eq_false, not_false_eq_true, Bool.false_eq_true, Bool.true_eq_false, Bool.not_false, Bool.not_true, if_true, if_false, true_and, and_true, or_false, false_or, or_true, true_or, and_false, false_and, true_implies, if_pos, if_neg, len_58, get_58, app_58, set_58, cut_58, rep_58, emp_58, len_30, get_30, app_30, set_30, cut_30, rep_30, emp_30, len_27, get_27, app_27, set_27, cut_27, rep_27, emp_27, len_i, get_i, app_i, set_i, cut_i, rep_i, emp_i, len_b, get_b, app_b, set_b, cut_b, rep_b, emp_b] <;> omega) ?_
      obtain ⟨x, hx, x0, x1⟩ := s_20 (n := n) (k := k) (v := l.getD t.toNat 0) (N := 1073741824) (by omega) (by omega) (by omega)
      refine q_bind AwakeQ (x, ()) hx ?_
      dsimp only
      have hlen := hI.len
      refine q_yes AwakeQ (by simp (maxSteps := 2000000) (discharger := omega) only [r_ite, r_add, r_sub, r_mul, r_quo, r_rem, r_lt, r_le, r_eq, r_bnot, r_or, r_and, r_isel, r_beq, r_band, r_bimp, r_imax, r_imin, r_call, r_gcall, r_bind, Option.bind_some, fits_ok, mfit_ok, wrap_i64, both_self, node_eta, msg_eta, entry_eta, hard_eta, decide_eq_true_eq, Bool.and_eq_true, Bool.or_eq_true, Bool.not_eq_true', decide_eq_false_iff_not, Bool.not_not, eq_self, not_true_eq_false, not_false_eq_true, Bool.false_eq_true, Bool.true_eq_false, Bool.not_false, Bool.not_true, if_true, if_false, true_and, and_true, or_false, false_or, or_true, true_or, and_false, false_and, true_implies, if_pos, if_neg, len_58, get_58, app_58, set_58, cut_58, rep_58, emp_58, len_30, get_30, app_30, set_30, cut_30, rep_30, emp_30, len_27, get_27, app_27, set_27, cut_27, rep_27, emp_27, len_i, get_i, app_i, set_i, cut_i, rep_i, emp_i, len_b, get_b, app_b, set_b, cut_b, rep_b, emp_b] <;> omega) ?_
      refine q_yes AwakeQ (by simp (maxSteps := 2000000) (discharger := omega) only [r_ite, r_add, r_sub, r_mul, r_quo, r_rem, r_lt, r_le, r_eq, r_bnot, r_or, r_and, r_isel, r_beq, r_band, r_bimp, r_imax, r_imin, r_call, r_gcall, r_bind, Option.bind_some, fits_ok, mfit_ok, wrap_i64, both_self, node_eta, msg_eta, entry_eta, hard_eta, decide_eq_true_eq, Bool.and_eq_true, Bool.or_eq_true, Bool.not_eq_true', decide_eq_false_iff_not, Bool.not_not, eq_self, not_true_eq_false, not_false_eq_true, Bool.false_eq_true, Bool.true_eq_false, Bool.not_false, Bool.not_true, if_true, if_false, true_and, and_true, or_false, false_or, or_true, true_or, and_false, false_and, true_implies, if_pos, if_neg, len_58, get_58, app_58, set_58, cut_58, rep_58, emp_58, len_30, get_30, app_30, set_30, cut_30, rep_30, emp_30, len_27, get_27, app_27, set_27, cut_27, rep_27, emp_27, len_i, get_i, app_i, set_i, cut_i, rep_i, emp_i, len_b, get_b, app_b, set_b, cut_b, rep_b, emp_b] <;> omega) ?_
      refine q_yes AwakeQ (by simp (maxSteps := 2000000) (discharger := omega) only [r_ite, r_add, r_sub, r_mul, r_quo, r_rem, r_lt, r_le, r_eq, r_bnot, r_or, r_and, r_isel, r_beq, r_band, r_bimp, r_imax, r_imin, r_call, r_gcall, r_bind, Option.bind_some, fits_ok, mfit_ok, wrap_i64, both_self, node_eta, msg_eta, entry_eta, hard_eta, decide_eq_true_eq, Bool.and_eq_true, Bool.or_eq_true, Bool.not_eq_true', decide_eq_false_iff_not, Bool.not_not, eq_self, not_true_eq_false, not_false_eq_true, Bool.false_eq_true, Bool.true_eq_false, Bool.not_false, Bool.not_true, if_true, if_false, true_and, and_true, or_false, false_or, or_true, true_or, and_false, false_and, true_implies, if_pos, if_neg, len_58, get_58, app_58, set_58, cut_58, rep_58, emp_58, len_30, get_30, app_30, set_30, cut_30, rep_30, emp_30, len_27, get_27, app_27, set_27, cut_27, rep_27, emp_27, len_i, get_i, app_i, set_i, cut_i, rep_i, emp_i, len_b, get_b, app_b, set_b, cut_b, rep_b, emp_b] <;> omega) ?_
      refine q_join AwakeQ (fun y => y.2.1.length ≤ 10 ∧ y.2.2.2.1.length ≤ 61 ∧ ∃ g', LawI K (2^40 + 20 * t + 20) g' y.2.2.1 M ∧ (∀ m ∈ y.2.1, Safe.MsgOk K g' m) ∧ ∀ m ∈ y.2.2.2.1, Safe.MsgOk K g' m) ?_ ?_
      · rintro ⟨i5, out, L', ms', u'⟩ ⟨ho, hm', g', hI', hout, hM'⟩
        dsimp only at ho hm' hI' hout hM'
        dsimp only
        refine q_yes AwakeQ (by simp (maxSteps := 2000000) (discharger := omega) only [r_ite, r_add, r_sub, r_mul, r_quo, r_rem, r_lt, r_le, r_eq, r_bnot, r_or, r_and, r_isel, r_beq, r_band, r_bimp, r_imax, r_imin, r_call, r_gcall, r_bind, Option.bind_some, fits_ok, mfit_ok, wrap_i64, both_self, node_eta, msg_eta, entry_eta, hard_eta, decide_eq_true_eq, Bool.and_eq_true, Bool.or_eq_true, Bool.not_eq_true', decide_eq_false_iff_not, Bool.not_not, eq_self, not_true_eq_false, not_false_eq_true, Bool.false_eq_true, Bool.true_eq_false, Bool.not_false, Bool.not_true, if_true, if_false, true_and, and_true, or_false, false_or, or_true, true_or, and_false, false_and, true_implies, if_pos, if_neg, len_58, get_58, app_58, set_58, cut_58, rep_58, emp_58, len_30, get_30, app_30, set_30, cut_30, rep_30, emp_30, len_27, get_27, app_27, set_27, cut_27, rep_27, emp_27, len_i, get_i, app_i, set_i, cut_i, rep_i, emp_i, len_b, get_b, app_b, set_b, cut_b, rep_b, emp_b]) ?_
        have happ : ∀ m ∈ ms' ++ out, Safe.MsgOk K g' m := fun m hm => (List.mem_append.1 hm).elim (hM' m) (hout m)
        have hB : 2^40 + 20 * t + 20 = 2^40 + 20 * (t + 1) := by omega
        rw [hB] at hI'
        have hml : ((ms' ++ out).length : Int) ≤ 71 := by rw [List.length_append]; omega
        by_cases h60 : (60 : Int) < (ms' ++ out).length
        · refine q_yes AwakeQ (by simp (maxSteps := 2000000) (discharger := omega) only [r_ite, r_add, r_sub, r_mul, r_quo, r_rem, r_lt, r_le, r_eq, r_bnot, r_or, r_and, r_isel, r_beq, r_band, r_bimp, r_imax, r_imin, r_call, r_gcall, r_bind, Option.bind_some, fits_ok, mfit_ok, wrap_i64, both_self, node_eta, msg_eta, entry_eta, hard_eta, decide_eq_true_eq, Bool.and_eq_true, Bool.or_eq_true, Bool.not_eq_true', decide_eq_false_iff_not, Bool.not_not, eq_self, not_true_eq_false, not_false_eq_true, Bool.false_eq_true, Bool.true_eq_false, Bool.not_false, Bool.not_true, if_true, if_false, true_and, and_true, or_false, false_or, or_true, true_or, and_false, false_and, true_implies, if_pos, if_neg, len_58, get_58, app_58, set_58, cut_58, rep_58, emp_58, len_30, get_30, app_30, set_30, cut_30, rep_30, emp_30, len_27, get_27, app_27, set_27, cut_27, rep_27, emp_27, len_i, get_i, app_i, set_i, cut_i, rep_i, emp_i, len_b, get_b, app_b, set_b, cut_b, rep_b, emp_b, h60]) ?_
          refine q_yes AwakeQ (by simp (maxSteps := 2000000) (discharger := omega) only [r_ite, r_add, r_sub, r_mul, r_quo, r_rem, r_lt, r_le, r_eq, r_bnot, r_or, r_and, r_isel, r_beq, r_band, r_bimp, r_imax, r_imin, r_call, r_gcall, r_bind, Option.bind_some, fits_ok, mfit_ok, wrap_i64, both_self, node_eta, msg_eta, entry_eta, hard_eta, decide_eq_true_eq, Bool.and_eq_true, Bool.or_eq_true, Bool.not_eq_true', decide_eq_false_iff_not, Bool.not_not, eq_self, not_true_eq_false, not_false_eq_true, Bool.false_eq_true, Bool.true_eq_false, Bool.not_false, Bool.not_true, if_true, if_false, true_and, and_true, or_false, false_or, or_true, true_or, and_false, false_and, true_implies, if_pos, if_neg, len_58, get_58, app_58, set_58, cut_58, rep_58, emp_58, len_30, get_30, app_30, set_30, cut_30, rep_30, emp_30, len_27, get_27, app_27, set_27, cut_27, rep_27, emp_27, len_i, get_i, app_i, set_i, cut_i, rep_i, emp_i, len_b, get_b, app_b, set_b, cut_b, rep_b, emp_b] <;> omega) ?_
          refine check_loop (fin := fun M' => next ((real tab (C n k) n).add .i64 t 1, (L', ((real tab (C n k) n).cut (.st 30) ((real tab (C n k) n).app (.st 30) ms' out) ((real tab (C n k) n).sub .i64 ((real tab (C n k) n).len (.st 30) ((real tab (C n k) n).app (.st 30) ms' out)) 60) ((real tab (C n k) n).len (.st 30) ((real tab (C n k) n).app (.st 30) ms' out)), (M', ()))))) (by omega) hn hI' hK (by omega) (by omega) ?_
          intro M' hM2
          refine q_eq AwakeQ (z := (t + 1, (L', (((ms' ++ out).take (ms' ++ out).length).drop ((ms' ++ out).length - 60 : Int).toNat, (M', ()))))) ?_ (ih _ ⟨by dsimp only; omega, by dsimp only; omega, ?_, g', ⟨hI'.len, hI'.ni, hI'.inv, hM2⟩, ?_⟩ (by dsimp only; omega))
          · simp (maxSteps := 2000000) (discharger := omega) only [r_ite, r_add, r_sub, r_mul, r_quo, r_rem, r_lt, r_le, r_eq, r_bnot, r_or, r_and, r_isel, r_beq, r_band, r_bimp, r_imax, r_imin, r_call, r_gcall, r_bind, Option.bind_some, fits_ok, mfit_ok, wrap_i64, both_self, node_eta, msg_eta, entry_eta, hard_eta, decide_eq_true_eq, Bool.and_eq_true, Bool.or_eq_true, Bool.not_eq_true', decide_eq_false_iff_not, Bool.not_not, eq_self, not_true_eq_false, not_false_eq_true, Bool.false_eq_true, Bool.true_eq_false, Bool.not_false, Bool.not_true, if_true, if_false, true_and, and_true, or_false, false_or, or_true, true_or, and_false, false_and, true_implies, if_pos, if_neg, len_58, get_58, app_58, set_58, cut_58, rep_58, emp_58, len_30, get_30, app_30, set_30, cut_30, rep_30, emp_30, len_27, get_27, app_27, set_27, cut_27, rep_27, emp_27, len_i, get_i, app_i, set_i, cut_i, rep_i, emp_i, len_b, get_b, app_b, set_b, cut_b, rep_b, emp_b, Int.toNat_natCast]
          · dsimp only
            rw [List.length_drop, List.length_take]; omega
          · intro m hm
            exact happ m (List.mem_of_mem_take (List.mem_of_mem_drop hm))
        · refine q_no AwakeQ (by simp (maxSteps := 2000000) (discharger := omega) only [r_ite, r_add, r_sub, r_mul, r_quo, r_rem, r_lt, r_le, r_eq, r_bnot, r_or, r_and, r_isel, r_beq, r_band, r_bimp, r_imax, r_imin, r_call, r_gcall, r_bind, Option.bind_some, fits_ok, mfit_ok, wrap_i64, both_self, node_eta, msg_eta, entry_eta, hard_eta, decide_eq_true_eq, Bool.and_eq_true, Bool.or_eq_true, Bool.not_eq_true', decide_eq_false_iff_not, Bool.not_not, eq_self, not_true_eq_false, not_false_eq_true, Bool.false_eq_true, Bool.true_eq_false, Bool.not_false, Bool.not_true, if_true, if_false, true_and, and_true, or_false, false_or, or_true, true_or, and_false, false_and, true_implies, if_pos, if_neg, len_58, get_58, app_58, set_58, cut_58, rep_58, emp_58, len_30, get_30, app_30, set_30, cut_30, rep_30, emp_30, len_27, get_27, app_27, set_27, cut_27, rep_27, emp_27, len_i, get_i, app_i, set_i, cut_i, rep_i, emp_i, len_b, get_b, app_b, set_b, cut_b, rep_b, emp_b, h60]) ?_
          refine check_loop (fin := fun M' => next ((real tab (C n k) n).add .i64 t 1, (L', ((real tab (C n k) n).app (.st 30) ms' out, (M', ()))))) (by omega) hn hI' hK (by omega) (by omega) ?_
          intro M' hM2
          refine q_eq AwakeQ (z := (t + 1, (L', (ms' ++ out, (M', ()))))) ?_ (ih _ ⟨by dsimp only; omega, by dsimp only; omega, by dsimp only; omega, g', ⟨hI'.len, hI'.ni, hI'.inv, hM2⟩, happ⟩ (by dsimp only; omega))
          simp (maxSteps := 2000000) (discharger := omega) only [r_ite, r_add, r_sub, r_mul, r_quo, r_rem, r_lt, r_le, r_eq, r_bnot, r_or, r_and, r_isel, r_beq, r_band, r_bimp, r_imax, r_imin, r_call, r_gcall, r_bind, Option.bind_some, fits_ok, mfit_ok, wrap_i64, both_self, node_eta, msg_eta, entry_eta, hard_eta, decide_eq_true_eq, Bool.and_eq_true, Bool.or_eq_true, Bool.not_eq_true', decide_eq_false_iff_not, Bool.not_not, eq_self, not_true_eq_false, not_false_eq_true, Bool.false_eq_true, Bool.true_eq_false, Bool.not_false, Bool.not_true, if_true, if_false, true_and, and_true, or_false, false_or, or_true, true_or, and_false, false_and, true_implies, if_pos, if_neg, len_58, get_58, app_58, set_58, cut_58, rep_58, emp_58, len_30, get_30, app_30, set_30, cut_30, rep_30, emp_30, len_27, get_27, app_27, set_27, cut_27, rep_27, emp_27, len_i, get_i, app_i, set_i, cut_i, rep_i, emp_i, len_b, get_b, app_b, set_b, cut_b, rep_b, emp_b]
      · intro cont hc
        have e1 : x.tmod 16 = x % 16 := Int.tmod_eq_emod_of_nonneg x0
        have e2 : x.tdiv 16 = x / 16 := Int.tdiv_eq_ediv_of_nonneg x0
        have e3 : x.tdiv 64 = x / 64 := Int.tdiv_eq_ediv_of_nonneg x0
        obtain ⟨g1, g2⟩ := tmod_bd (x := x / 16) (m := (L.length : Int)) (by omega) (by omega)
        obtain ⟨j, hj⟩ : ∃ j : Int, (x / 16).tmod (L.length : Int) = j := ⟨_, rfl⟩
        rw [hj] at g1 g2
        have hjK : j.toNat < K := by omega
        have hNI := hI.ni j.toNat hjK
        have hll := hNI.ll
        have keep : ∀ (o : List Msg), (∀ m ∈ o, m ∈ ms) → o.length ≤ 61 → AwakeQ (cont (j, ([], (L, (o, ()))))) := fun o ho hol =>
          hc _ ⟨by dsimp only [List.length_nil]; omega, hol, g, ⟨hI.len, fun y hy => (hI.ni y hy).le (by omega), hI.inv, hI.mp⟩, fun m hm => (by cases hm), fun m hm => hM m (ho m hm)⟩
        have go : ∀ (r : Node) (out : List Msg), NI (2^40 + 20 * t + 20) r → out.length ≤ 10 → Safe.Out K g (nd L) j.toNat r out → AwakeQ (cont (j, (out, (L.set j.toNat r, (ms, ()))))) := by
          intro r out hr ho hO
          obtain ⟨g', le, h1, h2⟩ := law_turn hI hjK hr hO
          exact hc _ ⟨ho, by dsimp only; omega, g', h1, h2, fun m hm => (hM m hm).mono le⟩
        have hget : ∀ y : Int, L.getD y.toNat dn = nd L y.toNat := fun _ => rfl
        by_cases c0 : x % 16 < 5 ∨ ((ms.length : Int) = 0 ∧ ¬ x % 16 = 15)
        · refine q_yes AwakeQ (by simp (maxSteps := 2000000) (discharger := omega) only [r_ite, r_add, r_sub, r_mul, r_quo, r_rem, r_lt, r_le, r_eq, r_bnot, r_or, r_and, r_isel, r_beq, r_band, r_bimp, r_imax, r_imin, r_call, r_gcall, r_bind, Option.bind_some, fits_ok, mfit_ok, wrap_i64, both_self, node_eta, msg_eta, entry_eta, hard_eta, decide_eq_true_eq, Bool.and_eq_true, Bool.or_eq_true, Bool.not_eq_true', decide_eq_false_iff_not, Bool.not_not, eq_self, not_true_eq_false, not_false_eq_true, Bool.false_eq_true, Bool.true_eq_false, Bool.not_false, Bool.not_true, if_true, if_false, true_and, and_true, or_false, false_or, or_true, true_or, and_false, false_and, true_implies, if_pos, if_neg, len_58, get_58, app_58, set_58, cut_58, rep_58, emp_58, len_30, get_30, app_30, set_30, cut_30, rep_30, emp_30, len_27, get_27, app_27, set_27, cut_27, rep_27, emp_27, len_i, get_i, app_i, set_i, cut_i, rep_i, emp_i, len_b, get_b, app_b, set_b, cut_b, rep_b, emp_b, e1, e2] <;> omega) ?_
          refine q_yes AwakeQ (by simp (maxSteps := 2000000) (discharger := omega) only [r_ite, r_add, r_sub, r_mul, r_quo, r_rem, r_lt, r_le, r_eq, r_bnot, r_or, r_and, r_isel, r_beq, r_band, r_bimp, r_imax, r_imin, r_call, r_gcall, r_bind, Option.bind_some, fits_ok, mfit_ok, wrap_i64, both_self, node_eta, msg_eta, entry_eta, hard_eta, decide_eq_true_eq, Bool.and_eq_true, Bool.or_eq_true, Bool.not_eq_true', decide_eq_false_iff_not, Bool.not_not, eq_self, not_true_eq_false, not_false_eq_true, Bool.false_eq_true, Bool.true_eq_false, Bool.not_false, Bool.not_true, if_true, if_false, true_and, and_true, or_false, false_or, or_true, true_or, and_false, false_and, true_implies, if_pos, if_neg, len_58, get_58, app_58, set_58, cut_58, rep_58, emp_58, len_30, get_30, app_30, set_30, cut_30, rep_30, emp_30, len_27, get_27, app_27, set_27, cut_27, rep_27, emp_27, len_i, get_i, app_i, set_i, cut_i, rep_i, emp_i, len_b, get_b, app_b, set_b, cut_b, rep_b, emp_b, e1, e2, hj] <;> omega) ?_
          have e10 := s_10 (n := n) (k := k) (by omega) hNI (by omega) (by omega)
          have ht := hNI.tick
          have hO := Safe.tick_ok hI.inv hjK hNI
          generalize tick (nd L j.toNat) = r at e10 ht hO
          refine q_bind AwakeQ (r.1, (r.2, ())) (by simp (maxSteps := 2000000) (discharger := omega) only [r_ite, r_add, r_sub, r_mul, r_quo, r_rem, r_lt, r_le, r_eq, r_bnot, r_or, r_and, r_isel, r_beq, r_band, r_bimp, r_imax, r_imin, r_call, r_gcall, r_bind, Option.bind_some, fits_ok, mfit_ok, wrap_i64, both_self, node_eta, msg_eta, entry_eta, hard_eta, decide_eq_true_eq, Bool.and_eq_true, Bool.or_eq_true, Bool.not_eq_true', decide_eq_false_iff_not, Bool.not_not, eq_self, not_true_eq_false, not_false_eq_true, Bool.false_eq_true, Bool.true_eq_false, Bool.not_false, Bool.not_true, if_true, if_false, true_and, and_true, or_false, false_or, or_true, true_or, and_false, false_and, true_implies, if_pos, if_neg, len_58, get_58, app_58, set_58, cut_58, rep_58, emp_58, len_30, get_30, app_30, set_30, cut_30, rep_30, emp_30, len_27, get_27, app_27, set_27, cut_27, rep_27, emp_27, len_i, get_i, app_i, set_i, cut_i, rep_i, emp_i, len_b, get_b, app_b, set_b, cut_b, rep_b, emp_b, e1, e2, hj]; exact e10) ?_
          refine q_yes AwakeQ (by simp (maxSteps := 2000000) (discharger := omega) only [r_ite, r_add, r_sub, r_mul, r_quo, r_rem, r_lt, r_le, r_eq, r_bnot, r_or, r_and, r_isel, r_beq, r_band, r_bimp, r_imax, r_imin, r_call, r_gcall, r_bind, Option.bind_some, fits_ok, mfit_ok, wrap_i64, both_self, node_eta, msg_eta, entry_eta, hard_eta, decide_eq_true_eq, Bool.and_eq_true, Bool.or_eq_true, Bool.not_eq_true', decide_eq_false_iff_not, Bool.not_not, eq_self, not_true_eq_false, not_false_eq_true, Bool.false_eq_true, Bool.true_eq_false, Bool.not_false, Bool.not_true, if_true, if_false, true_and, and_true, or_false, false_or, or_true, true_or, and_false, false_and, true_implies, if_pos, if_neg, len_58, get_58, app_58, set_58, cut_58, rep_58, emp_58, len_30, get_30, app_30, set_30, cut_30, rep_30, emp_30, len_27, get_27, app_27, set_27, cut_27, rep_27, emp_27, len_i, get_i, app_i, set_i, cut_i, rep_i, emp_i, len_b, get_b, app_b, set_b, cut_b, rep_b, emp_b, e1, e2, hj] <;> omega) ?_
          exact q_eq AwakeQ (by simp (maxSteps := 2000000) (discharger := omega) only [r_ite, r_add, r_sub, r_mul, r_quo, r_rem, r_lt, r_le, r_eq, r_bnot, r_or, r_and, r_isel, r_beq, r_band, r_bimp, r_imax, r_imin, r_call, r_gcall, r_bind, Option.bind_some, fits_ok, mfit_ok, wrap_i64, both_self, node_eta, msg_eta, entry_eta, hard_eta, decide_eq_true_eq, Bool.and_eq_true, Bool.or_eq_true, Bool.not_eq_true', decide_eq_false_iff_not, Bool.not_not, eq_self, not_true_eq_false, not_false_eq_true, Bool.false_eq_true, Bool.true_eq_false, Bool.not_false, Bool.not_true, if_true, if_false, true_and, and_true, or_false, false_or, or_true, true_or, and_false, false_and, true_implies, if_pos, if_neg, len_58, get_58, app_58, set_58, cut_58, rep_58, emp_58, len_30, get_30, app_30, set_30, cut_30, rep_30, emp_30, len_27, get_27, app_27, set_27, cut_27, rep_27, emp_27, len_i, get_i, app_i, set_i, cut_i, rep_i, emp_i, len_b, get_b, app_b, set_b, cut_b, rep_b, emp_b, e1, e2, hj]) (go r.1 r.2 ht.1 ht.2.1 hO)
        refine q_no AwakeQ (by simp (maxSteps := 2000000) (discharger := omega) only [r_ite, r_add, r_sub, r_mul, r_quo, r_rem, r_lt, r_le, r_eq, r_bnot, r_or, r_and, r_isel, r_beq, r_band, r_bimp, r_imax, r_imin, r_call, r_gcall, r_bind, Option.bind_some, fits_ok, mfit_ok, wrap_i64, both_self, node_eta, msg_eta, entry_eta, hard_eta, decide_eq_true_eq, Bool.and_eq_true, Bool.or_eq_true, Bool.not_eq_true', decide_eq_false_iff_not, Bool.not_not, eq_self, not_true_eq_false, not_false_eq_true, Bool.false_eq_true, Bool.true_eq_false, Bool.not_false, Bool.not_true, if_true, if_false, true_and, and_true, or_false, false_or, or_true, true_or, and_false, false_and, true_implies, if_pos, if_neg, len_58, get_58, app_58, set_58, cut_58, rep_58, emp_58, len_30, get_30, app_30, set_30, cut_30, rep_30, emp_30, len_27, get_27, app_27, set_27, cut_27, rep_27, emp_27, len_i, get_i, app_i, set_i, cut_i, rep_i, emp_i, len_b, get_b, app_b, set_b, cut_b, rep_b, emp_b, e1, e2] <;> omega) ?_
        by_cases c5 : x % 16 = 15
        · refine q_no AwakeQ (by simp (maxSteps := 2000000) (discharger := omega) only [r_ite, r_add, r_sub, r_mul, r_quo, r_rem, r_lt, r_le, r_eq, r_bnot, r_or, r_and, r_isel, r_beq, r_band, r_bimp, r_imax, r_imin, r_call, r_gcall, r_bind, Option.bind_some, fits_ok, mfit_ok, wrap_i64, both_self, node_eta, msg_eta, entry_eta, hard_eta, decide_eq_true_eq, Bool.and_eq_true, Bool.or_eq_true, Bool.not_eq_true', decide_eq_false_iff_not, Bool.not_not, eq_self, not_true_eq_false, not_false_eq_true, Bool.false_eq_true, Bool.true_eq_false, Bool.not_false, Bool.not_true, if_true, if_false, true_and, and_true, or_false, false_or, or_true, true_or, and_false, false_and, true_implies, if_pos, if_neg, len_58, get_58, app_58, set_58, cut_58, rep_58, emp_58, len_30, get_30, app_30, set_30, cut_30, rep_30, emp_30, len_27, get_27, app_27, set_27, cut_27, rep_27, emp_27, len_i, get_i, app_i, set_i, cut_i, rep_i, emp_i, len_b, get_b, app_b, set_b, cut_b, rep_b, emp_b, e1, e2] <;> omega) ?_
          refine q_no AwakeQ (by simp (maxSteps := 2000000) (discharger := omega) only [r_ite, r_add, r_sub, r_mul, r_quo, r_rem, r_lt, r_le, r_eq, r_bnot, r_or, r_and, r_isel, r_beq, r_band, r_bimp, r_imax, r_imin, r_call, r_gcall, r_bind, Option.bind_some, fits_ok, mfit_ok, wrap_i64, both_self, node_eta, msg_eta, entry_eta, hard_eta, decide_eq_true_eq, Bool.and_eq_true, Bool.or_eq_true, Bool.not_eq_true', decide_eq_false_iff_not, Bool.not_not, eq_self, not_true_eq_false, not_false_eq_true, Bool.false_eq_true, Bool.true_eq_false, Bool.not_false, Bool.not_true, if_true, if_false, true_and, and_true, or_false, false_or, or_true, true_or, and_false, false_and, true_implies, if_pos, if_neg, len_58, get_58, app_58, set_58, cut_58, rep_58, emp_58, len_30, get_30, app_30, set_30, cut_30, rep_30, emp_30, len_27, get_27, app_27, set_27, cut_27, rep_27, emp_27, len_i, get_i, app_i, set_i, cut_i, rep_i, emp_i, len_b, get_b, app_b, set_b, cut_b, rep_b, emp_b, e1, e2] <;> omega) ?_
          refine q_no AwakeQ (by simp (maxSteps := 2000000) (discharger := omega) only [r_ite, r_add, r_sub, r_mul, r_quo, r_rem, r_lt, r_le, r_eq, r_bnot, r_or, r_and, r_isel, r_beq, r_band, r_bimp, r_imax, r_imin, r_call, r_gcall, r_bind, Option.bind_some, fits_ok, mfit_ok, wrap_i64, both_self, node_eta, msg_eta, entry_eta, hard_eta, decide_eq_true_eq, Bool.and_eq_true, Bool.or_eq_true, Bool.not_eq_true', decide_eq_false_iff_not, Bool.not_not, eq_self, not_true_eq_false, not_false_eq_true, Bool.false_eq_true, Bool.true_eq_false, Bool.not_false, Bool.not_true, if_true, if_false, true_and, and_true, or_false, false_or, or_true, true_or, and_false, false_and, true_implies, if_pos, if_neg, len_58, get_58, app_58, set_58, cut_58, rep_58, emp_58, len_30, get_30, app_30, set_30, cut_30, rep_30, emp_30, len_27, get_27, app_27, set_27, cut_27, rep_27, emp_27, len_i, get_i, app_i, set_i, cut_i, rep_i, emp_i, len_b, get_b, app_b, set_b, cut_b, rep_b, emp_b, e1, e2] <;> omega) ?_
          refine q_no AwakeQ (by simp (maxSteps := 2000000) (discharger := omega) only [r_ite, r_add, r_sub, r_mul, r_quo, r_rem, r_lt, r_le, r_eq, r_bnot, r_or, r_and, r_isel, r_beq, r_band, r_bimp, r_imax, r_imin, r_call, r_gcall, r_bind, Option.bind_some, fits_ok, mfit_ok, wrap_i64, both_self, node_eta, msg_eta, entry_eta, hard_eta, decide_eq_true_eq, Bool.and_eq_true, Bool.or_eq_true, Bool.not_eq_true', decide_eq_false_iff_not, Bool.not_not, eq_self, not_true_eq_false, not_false_eq_true, Bool.false_eq_true, Bool.true_eq_false, Bool.not_false, Bool.not_true, if_true, if_false, true_and, and_true, or_false, false_or, or_true, true_or, and_false, false_and, true_implies, if_pos, if_neg, len_58, get_58, app_58, set_58, cut_58, rep_58, emp_58, len_30, get_30, app_30, set_30, cut_30, rep_30, emp_30, len_27, get_27, app_27, set_27, cut_27, rep_27, emp_27, len_i, get_i, app_i, set_i, cut_i, rep_i, emp_i, len_b, get_b, app_b, set_b, cut_b, rep_b, emp_b, e1, e2] <;> omega) ?_
          refine q_yes AwakeQ (by simp (maxSteps := 2000000) (discharger := omega) only [r_ite, r_add, r_sub, r_mul, r_quo, r_rem, r_lt, r_le, r_eq, r_bnot, r_or, r_and, r_isel, r_beq, r_band, r_bimp, r_imax, r_imin, r_call, r_gcall, r_bind, Option.bind_some, fits_ok, mfit_ok, wrap_i64, both_self, node_eta, msg_eta, entry_eta, hard_eta, decide_eq_true_eq, Bool.and_eq_true, Bool.or_eq_true, Bool.not_eq_true', decide_eq_false_iff_not, Bool.not_not, eq_self, not_true_eq_false, not_false_eq_true, Bool.false_eq_true, Bool.true_eq_false, Bool.not_false, Bool.not_true, if_true, if_false, true_and, and_true, or_false, false_or, or_true, true_or, and_false, false_and, true_implies, if_pos, if_neg, len_58, get_58, app_58, set_58, cut_58, rep_58, emp_58, len_30, get_30, app_30, set_30, cut_30, rep_30, emp_30, len_27, get_27, app_27, set_27, cut_27, rep_27, emp_27, len_i, get_i, app_i, set_i, cut_i, rep_i, emp_i, len_b, get_b, app_b, set_b, cut_b, rep_b, emp_b, e1, e2, hj] <;> omega) ?_
          refine q_yes AwakeQ (by simp (maxSteps := 2000000) (discharger := omega) only [r_ite, r_add, r_sub, r_mul, r_quo, r_rem, r_lt, r_le, r_eq, r_bnot, r_or, r_and, r_isel, r_beq, r_band, r_bimp, r_imax, r_imin, r_call, r_gcall, r_bind, Option.bind_some, fits_ok, mfit_ok, wrap_i64, both_self, node_eta, msg_eta, entry_eta, hard_eta, decide_eq_true_eq, Bool.and_eq_true, Bool.or_eq_true, Bool.not_eq_true', decide_eq_false_iff_not, Bool.not_not, eq_self, not_true_eq_false, not_false_eq_true, Bool.false_eq_true, Bool.true_eq_false, Bool.not_false, Bool.not_true, if_true, if_false, true_and, and_true, or_false, false_or, or_true, true_or, and_false, false_and, true_implies, if_pos, if_neg, len_58, get_58, app_58, set_58, cut_58, rep_58, emp_58, len_30, get_30, app_30, set_30, cut_30, rep_30, emp_30, len_27, get_27, app_27, set_27, cut_27, rep_27, emp_27, len_i, get_i, app_i, set_i, cut_i, rep_i, emp_i, len_b, get_b, app_b, set_b, cut_b, rep_b, emp_b] <;> omega) ?_
          obtain ⟨s, hs, _⟩ := s_25 11 (n := n) (k := k) (v := x / 64) (by omega) (by omega) (by omega) (by omega) (by omega)
          refine q_bind AwakeQ (s, ()) (by simp (maxSteps := 2000000) (discharger := omega) only [r_ite, r_add, r_sub, r_mul, r_quo, r_rem, r_lt, r_le, r_eq, r_bnot, r_or, r_and, r_isel, r_beq, r_band, r_bimp, r_imax, r_imin, r_call, r_gcall, r_bind, Option.bind_some, fits_ok, mfit_ok, wrap_i64, both_self, node_eta, msg_eta, entry_eta, hard_eta, decide_eq_true_eq, Bool.and_eq_true, Bool.or_eq_true, Bool.not_eq_true', decide_eq_false_iff_not, Bool.not_not, eq_self, not_true_eq_false, not_false_eq_true, Bool.false_eq_true, Bool.true_eq_false, Bool.not_false, Bool.not_true, if_true, if_false, true_and, and_true, or_false, false_or, or_true, true_or, and_false, false_and, true_implies, if_pos, if_neg, len_58, get_58, app_58, set_58, cut_58, rep_58, emp_58, len_30, get_30, app_30, set_30, cut_30, rep_30, emp_30, len_27, get_27, app_27, set_27, cut_27, rep_27, emp_27, len_i, get_i, app_i, set_i, cut_i, rep_i, emp_i, len_b, get_b, app_b, set_b, cut_b, rep_b, emp_b, e3, hs]) ?_
          have e14 := s_14 (n := n) (k := k) (by omega) hNI (by omega) (by omega) (cmd := s)
          have ht := hNI.propose (cmd := s)
          have hO := Safe.propose_ok hI.inv hjK hNI (cmd := s)
          generalize propose (nd L j.toNat) s = r at e14 ht hO
          refine q_bind AwakeQ (r.1, (r.2.1, (r.2.2, ()))) (by simp (maxSteps := 2000000) (discharger := omega) only [r_ite, r_add, r_sub, r_mul, r_quo, r_rem, r_lt, r_le, r_eq, r_bnot, r_or, r_and, r_isel, r_beq, r_band, r_bimp, r_imax, r_imin, r_call, r_gcall, r_bind, Option.bind_some, fits_ok, mfit_ok, wrap_i64, both_self, node_eta, msg_eta, entry_eta, hard_eta, decide_eq_true_eq, Bool.and_eq_true, Bool.or_eq_true, Bool.not_eq_true', decide_eq_false_iff_not, Bool.not_not, eq_self, not_true_eq_false, not_false_eq_true, Bool.false_eq_true, Bool.true_eq_false, Bool.not_false, Bool.not_true, if_true, if_false, true_and, and_true, or_false, false_or, or_true, true_or, and_false, false_and, true_implies, if_pos, if_neg, len_58, get_58, app_58, set_58, cut_58, rep_58, emp_58, len_30, get_30, app_30, set_30, cut_30, rep_30, emp_30, len_27, get_27, app_27, set_27, cut_27, rep_27, emp_27, len_i, get_i, app_i, set_i, cut_i, rep_i, emp_i, len_b, get_b, app_b, set_b, cut_b, rep_b, emp_b, e1, e2, hj]; exact e14) ?_
          refine q_yes AwakeQ (by simp (maxSteps := 2000000) (discharger := omega) only [r_ite, r_add, r_sub, r_mul, r_quo, r_rem, r_lt, r_le, r_eq, r_bnot, r_or, r_and, r_isel, r_beq, r_band, r_bimp, r_imax, r_imin, r_call, r_gcall, r_bind, Option.bind_some, fits_ok, mfit_ok, wrap_i64, both_self, node_eta, msg_eta, entry_eta, hard_eta, decide_eq_true_eq, Bool.and_eq_true, Bool.or_eq_true, Bool.not_eq_true', decide_eq_false_iff_not, Bool.not_not, eq_self, not_true_eq_false, not_false_eq_true, Bool.false_eq_true, Bool.true_eq_false, Bool.not_false, Bool.not_true, if_true, if_false, true_and, and_true, or_false, false_or, or_true, true_or, and_false, false_and, true_implies, if_pos, if_neg, len_58, get_58, app_58, set_58, cut_58, rep_58, emp_58, len_30, get_30, app_30, set_30, cut_30, rep_30, emp_30, len_27, get_27, app_27, set_27, cut_27, rep_27, emp_27, len_i, get_i, app_i, set_i, cut_i, rep_i, emp_i, len_b, get_b, app_b, set_b, cut_b, rep_b, emp_b, e1, e2, hj] <;> omega) ?_
          exact q_eq AwakeQ (by simp (maxSteps := 2000000) (discharger := omega) only [r_ite, r_add, r_sub, r_mul, r_quo, r_rem, r_lt, r_le, r_eq, r_bnot, r_or, r_and, r_isel, r_beq, r_band, r_bimp, r_imax, r_imin, r_call, r_gcall, r_bind, Option.bind_some, fits_ok, mfit_ok, wrap_i64, both_self, node_eta, msg_eta, entry_eta, hard_eta, decide_eq_true_eq, Bool.and_eq_true, Bool.or_eq_true, Bool.not_eq_true', decide_eq_false_iff_not, Bool.not_not, eq_self, not_true_eq_false, not_false_eq_true, Bool.false_eq_true, Bool.true_eq_false, Bool.not_false, Bool.not_true, if_true, if_false, true_and, and_true, or_false, false_or, or_true, true_or, and_false, false_and, true_implies, if_pos, if_neg, len_58, get_58, app_58, set_58, cut_58, rep_58, emp_58, len_30, get_30, app_30, set_30, cut_30, rep_30, emp_30, len_27, get_27, app_27, set_27, cut_27, rep_27, emp_27, len_i, get_i, app_i, set_i, cut_i, rep_i, emp_i, len_b, get_b, app_b, set_b, cut_b, rep_b, emp_b, e1, e2, hj]) (go r.1 r.2.1 ht.1 ht.2.1 hO)
        have hmp : 0 < (ms.length : Int) := by omega
        obtain ⟨g3, g4⟩ := tmod_bd (x := x / 16) (m := (ms.length : Int)) (by omega) (by omega)
        obtain ⟨p, hp⟩ : ∃ p : Int, (x / 16).tmod (ms.length : Int) = p := ⟨_, rfl⟩
        rw [hp] at g3 g4
        have hpl : p.toNat < ms.length := by omega
        have hmem : ms.getD p.toNat ⟨0, 0, 0, 0, 0, 0, false, 0, [], ⟨#[]⟩⟩ ∈ ms := by
          rw [List.getD_eq_getElem?_getD, List.getElem?_eq_getElem hpl]
          exact List.getElem_mem _
        obtain ⟨m, hm⟩ : ∃ m : Msg, ms.getD p.toNat ⟨0, 0, 0, 0, 0, 0, false, 0, [], ⟨#[]⟩⟩ = m := ⟨_, rfl⟩
        rw [hm] at hmem
        have hless : ∀ y ∈ ms.take p.toNat ++ (ms.take ms.length).drop (p + 1).toNat, y ∈ ms := fun y hy =>
          (List.mem_append.1 hy).elim (fun h => List.mem_of_mem_take h) (fun h => List.mem_of_mem_take (List.mem_of_mem_drop h))
        have hlessl : (ms.take p.toNat ++ (ms.take ms.length).drop (p + 1).toNat).length ≤ 60 := by
          rw [List.length_append, List.length_take, List.length_drop, List.length_take]; omega
        have hmsl : (ms.length : Int) ≤ 60 := by omega
        by_cases c1 : x % 16 < 12
        · refine q_yes AwakeQ (by simp (maxSteps := 2000000) (discharger := omega) only [r_ite, r_add, r_sub, r_mul, r_quo, r_rem, r_lt, r_le, r_eq, r_bnot, r_or, r_and, r_isel, r_beq, r_band, r_bimp, r_imax, r_imin, r_call, r_gcall, r_bind, Option.bind_some, fits_ok, mfit_ok, wrap_i64, both_self, node_eta, msg_eta, entry_eta, hard_eta, decide_eq_true_eq, Bool.and_eq_true, Bool.or_eq_true, Bool.not_eq_true', decide_eq_false_iff_not, Bool.not_not, eq_self, not_true_eq_false, not_false_eq_true, Bool.false_eq_true, Bool.true_eq_false, Bool.not_false, Bool.not_true, if_true, if_false, true_and, and_true, or_false, false_or, or_true, true_or, and_false, false_and, true_implies, if_pos, if_neg, len_58, get_58, app_58, set_58, cut_58, rep_58, emp_58, len_30, get_30, app_30, set_30, cut_30, rep_30, emp_30, len_27, get_27, app_27, set_27, cut_27, rep_27, emp_27, len_i, get_i, app_i, set_i, cut_i, rep_i, emp_i, len_b, get_b, app_b, set_b, cut_b, rep_b, emp_b, e1, e2] <;> omega) ?_
          refine q_yes AwakeQ (by simp (maxSteps := 2000000) (discharger := omega) only [r_ite, r_add, r_sub, r_mul, r_quo, r_rem, r_lt, r_le, r_eq, r_bnot, r_or, r_and, r_isel, r_beq, r_band, r_bimp, r_imax, r_imin, r_call, r_gcall, r_bind, Option.bind_some, fits_ok, mfit_ok, wrap_i64, both_self, node_eta, msg_eta, entry_eta, hard_eta, decide_eq_true_eq, Bool.and_eq_true, Bool.or_eq_true, Bool.not_eq_true', decide_eq_false_iff_not, Bool.not_not, eq_self, not_true_eq_false, not_false_eq_true, Bool.false_eq_true, Bool.true_eq_false, Bool.not_false, Bool.not_true, if_true, if_false, true_and, and_true, or_false, false_or, or_true, true_or, and_false, false_and, true_implies, if_pos, if_neg, len_58, get_58, app_58, set_58, cut_58, rep_58, emp_58, len_30, get_30, app_30, set_30, cut_30, rep_30, emp_30, len_27, get_27, app_27, set_27, cut_27, rep_27, emp_27, len_i, get_i, app_i, set_i, cut_i, rep_i, emp_i, len_b, get_b, app_b, set_b, cut_b, rep_b, emp_b] <;> omega) ?_
          refine q_yes AwakeQ (by simp (maxSteps := 2000000) (discharger := omega) only [r_ite, r_add, r_sub, r_mul, r_quo, r_rem, r_lt, r_le, r_eq, r_bnot, r_or, r_and, r_isel, r_beq, r_band, r_bimp, r_imax, r_imin, r_call, r_gcall, r_bind, Option.bind_some, fits_ok, mfit_ok, wrap_i64, both_self, node_eta, msg_eta, entry_eta, hard_eta, decide_eq_true_eq, Bool.and_eq_true, Bool.or_eq_true, Bool.not_eq_true', decide_eq_false_iff_not, Bool.not_not, eq_self, not_true_eq_false, not_false_eq_true, Bool.false_eq_true, Bool.true_eq_false, Bool.not_false, Bool.not_true, if_true, if_false, true_and, and_true, or_false, false_or, or_true, true_or, and_false, false_and, true_implies, if_pos, if_neg, len_58, get_58, app_58, set_58, cut_58, rep_58, emp_58, len_30, get_30, app_30, set_30, cut_30, rep_30, emp_30, len_27, get_27, app_27, set_27, cut_27, rep_27, emp_27, len_i, get_i, app_i, set_i, cut_i, rep_i, emp_i, len_b, get_b, app_b, set_b, cut_b, rep_b, emp_b] <;> omega) ?_
          refine q_yes AwakeQ (by simp (maxSteps := 2000000) (discharger := omega) only [r_ite, r_add, r_sub, r_mul, r_quo, r_rem, r_lt, r_le, r_eq, r_bnot, r_or, r_and, r_isel, r_beq, r_band, r_bimp, r_imax, r_imin, r_call, r_gcall, r_bind, Option.bind_some, fits_ok, mfit_ok, wrap_i64, both_self, node_eta, msg_eta, entry_eta, hard_eta, decide_eq_true_eq, Bool.and_eq_true, Bool.or_eq_true, Bool.not_eq_true', decide_eq_false_iff_not, Bool.not_not, eq_self, not_true_eq_false, not_false_eq_true, Bool.false_eq_true, Bool.true_eq_false, Bool.not_false, Bool.not_true, if_true, if_false, true_and, and_true, or_false, false_or, or_true, true_or, and_false, false_and, true_implies, if_pos, if_neg, len_58, get_58, app_58, set_58, cut_58, rep_58, emp_58, len_30, get_30, app_30, set_30, cut_30, rep_30, emp_30, len_27, get_27, app_27, set_27, cut_27, rep_27, emp_27, len_i, get_i, app_i, set_i, cut_i, rep_i, emp_i, len_b, get_b, app_b, set_b, cut_b, rep_b, emp_b, e1, e2, hp] <;> omega) ?_
          refine q_yes AwakeQ (by simp (maxSteps := 2000000) (discharger := omega) only [r_ite, r_add, r_sub, r_mul, r_quo, r_rem, r_lt, r_le, r_eq, r_bnot, r_or, r_and, r_isel, r_beq, r_band, r_bimp, r_imax, r_imin, r_call, r_gcall, r_bind, Option.bind_some, fits_ok, mfit_ok, wrap_i64, both_self, node_eta, msg_eta, entry_eta, hard_eta, decide_eq_true_eq, Bool.and_eq_true, Bool.or_eq_true, Bool.not_eq_true', decide_eq_false_iff_not, Bool.not_not, eq_self, not_true_eq_false, not_false_eq_true, Bool.false_eq_true, Bool.true_eq_false, Bool.not_false, Bool.not_true, if_true, if_false, true_and, and_true, or_false, false_or, or_true, true_or, and_false, false_and, true_implies, if_pos, if_neg, len_58, get_58, app_58, set_58, cut_58, rep_58, emp_58, len_30, get_30, app_30, set_30, cut_30, rep_30, emp_30, len_27, get_27, app_27, set_27, cut_27, rep_27, emp_27, len_i, get_i, app_i, set_i, cut_i, rep_i, emp_i, len_b, get_b, app_b, set_b, cut_b, rep_b, emp_b, e1, e2, hp] <;> omega) ?_
          refine q_yes AwakeQ (by simp (maxSteps := 2000000) (discharger := omega) only [r_ite, r_add, r_sub, r_mul, r_quo, r_rem, r_lt, r_le, r_eq, r_bnot, r_or, r_and, r_isel, r_beq, r_band, r_bimp, r_imax, r_imin, r_call, r_gcall, r_bind, Option.bind_some, fits_ok, mfit_ok, wrap_i64, both_self, node_eta, msg_eta, entry_eta, hard_eta, decide_eq_true_eq, Bool.and_eq_true, Bool.or_eq_true, Bool.not_eq_true', decide_eq_false_iff_not, Bool.not_not, eq_self, not_true_eq_false, not_false_eq_true, Bool.false_eq_true, Bool.true_eq_false, Bool.not_false, Bool.not_true, if_true, if_false, true_and, and_true, or_false, false_or, or_true, true_or, and_false, false_and, true_implies, if_pos, if_neg, len_58, get_58, app_58, set_58, cut_58, rep_58, emp_58, len_30, get_30, app_30, set_30, cut_30, rep_30, emp_30, len_27, get_27, app_27, set_27, cut_27, rep_27, emp_27, len_i, get_i, app_i, set_i, cut_i, rep_i, emp_i, len_b, get_b, app_b, set_b, cut_b, rep_b, emp_b, e1, e2, hp, List.length_take, List.length_drop] <;> omega) ?_
          refine q_yes AwakeQ (by simp (maxSteps := 2000000) (discharger := omega) only [r_ite, r_add, r_sub, r_mul, r_quo, r_rem, r_lt, r_le, r_eq, r_bnot, r_or, r_and, r_isel, r_beq, r_band, r_bimp, r_imax, r_imin, r_call, r_gcall, r_bind, Option.bind_some, fits_ok, mfit_ok, wrap_i64, both_self, node_eta, msg_eta, entry_eta, hard_eta, decide_eq_true_eq, Bool.and_eq_true, Bool.or_eq_true, Bool.not_eq_true', decide_eq_false_iff_not, Bool.not_not, eq_self, not_true_eq_false, not_false_eq_true, Bool.false_eq_true, Bool.true_eq_false, Bool.not_false, Bool.not_true, if_true, if_false, true_and, and_true, or_false, false_or, or_true, true_or, and_false, false_and, true_implies, if_pos, if_neg, len_58, get_58, app_58, set_58, cut_58, rep_58, emp_58, len_30, get_30, app_30, set_30, cut_30, rep_30, emp_30, len_27, get_27, app_27, set_27, cut_27, rep_27, emp_27, len_i, get_i, app_i, set_i, cut_i, rep_i, emp_i, len_b, get_b, app_b, set_b, cut_b, rep_b, emp_b, e1, e2, hp] <;> omega) ?_
          refine q_yes AwakeQ (by simp (maxSteps := 2000000) (discharger := omega) only [r_ite, r_add, r_sub, r_mul, r_quo, r_rem, r_lt, r_le, r_eq, r_bnot, r_or, r_and, r_isel, r_beq, r_band, r_bimp, r_imax, r_imin, r_call, r_gcall, r_bind, Option.bind_some, fits_ok, mfit_ok, wrap_i64, both_self, node_eta, msg_eta, entry_eta, hard_eta, decide_eq_true_eq, Bool.and_eq_true, Bool.or_eq_true, Bool.not_eq_true', decide_eq_false_iff_not, Bool.not_not, eq_self, not_true_eq_false, not_false_eq_true, Bool.false_eq_true, Bool.true_eq_false, Bool.not_false, Bool.not_true, if_true, if_false, true_and, and_true, or_false, false_or, or_true, true_or, and_false, false_and, true_implies, if_pos, if_neg, len_58, get_58, app_58, set_58, cut_58, rep_58, emp_58, len_30, get_30, app_30, set_30, cut_30, rep_30, emp_30, len_27, get_27, app_27, set_27, cut_27, rep_27, emp_27, len_i, get_i, app_i, set_i, cut_i, rep_i, emp_i, len_b, get_b, app_b, set_b, cut_b, rep_b, emp_b, e1, e2, hp, List.length_take, List.length_drop] <;> omega) ?_
          by_cases hto : 0 ≤ m.to ∧ m.to < (L.length : Int)
          · refine q_yes AwakeQ (by simp (maxSteps := 2000000) (discharger := omega) only [r_ite, r_add, r_sub, r_mul, r_quo, r_rem, r_lt, r_le, r_eq, r_bnot, r_or, r_and, r_isel, r_beq, r_band, r_bimp, r_imax, r_imin, r_call, r_gcall, r_bind, Option.bind_some, fits_ok, mfit_ok, wrap_i64, both_self, node_eta, msg_eta, entry_eta, hard_eta, decide_eq_true_eq, Bool.and_eq_true, Bool.or_eq_true, Bool.not_eq_true', decide_eq_false_iff_not, Bool.not_not, eq_self, not_true_eq_false, not_false_eq_true, Bool.false_eq_true, Bool.true_eq_false, Bool.not_false, Bool.not_true, if_true, if_false, true_and, and_true, or_false, false_or, or_true, true_or, and_false, false_and, true_implies, if_pos, if_neg, len_58, get_58, app_58, set_58, cut_58, rep_58, emp_58, len_30, get_30, app_30, set_30, cut_30, rep_30, emp_30, len_27, get_27, app_27, set_27, cut_27, rep_27, emp_27, len_i, get_i, app_i, set_i, cut_i, rep_i, emp_i, len_b, get_b, app_b, set_b, cut_b, rep_b, emp_b, e1, e2, hp, hm] <;> omega) ?_
            refine q_yes AwakeQ (by simp (maxSteps := 2000000) (discharger := omega) only [r_ite, r_add, r_sub, r_mul, r_quo, r_rem, r_lt, r_le, r_eq, r_bnot, r_or, r_and, r_isel, r_beq, r_band, r_bimp, r_imax, r_imin, r_call, r_gcall, r_bind, Option.bind_some, fits_ok, mfit_ok, wrap_i64, both_self, node_eta, msg_eta, entry_eta, hard_eta, decide_eq_true_eq, Bool.and_eq_true, Bool.or_eq_true, Bool.not_eq_true', decide_eq_false_iff_not, Bool.not_not, eq_self, not_true_eq_false, not_false_eq_true, Bool.false_eq_true, Bool.true_eq_false, Bool.not_false, Bool.not_true, if_true, if_false, true_and, and_true, or_false, false_or, or_true, true_or, and_false, false_and, true_implies, if_pos, if_neg, len_58, get_58, app_58, set_58, cut_58, rep_58, emp_58, len_30, get_30, app_30, set_30, cut_30, rep_30, emp_30, len_27, get_27, app_27, set_27, cut_27, rep_27, emp_27, len_i, get_i, app_i, set_i, cut_i, rep_i, emp_i, len_b, get_b, app_b, set_b, cut_b, rep_b, emp_b, e1, e2, hp, hm] <;> omega) ?_
            have htK : m.to.toNat < K := by omega
            have hNI2 := hI.ni m.to.toNat htK
            have hll2 := hNI2.ll
            have e12 := s_12 (n := n) (k := k) (m := m) (by omega) hNI2 (by omega) (by omega) (by omega)
            have ht := hNI2.step (m := m) (by omega)
            have hO := Safe.step_ok hI.inv htK hNI2 (by omega) (hM m hmem)
            generalize step (nd L m.to.toNat) m = r at e12 ht hO
            refine q_bind AwakeQ (r.1, (r.2, ())) (by simp (maxSteps := 2000000) (discharger := omega) only [r_ite, r_add, r_sub, r_mul, r_quo, r_rem, r_lt, r_le, r_eq, r_bnot, r_or, r_and, r_isel, r_beq, r_band, r_bimp, r_imax, r_imin, r_call, r_gcall, r_bind, Option.bind_some, fits_ok, mfit_ok, wrap_i64, both_self, node_eta, msg_eta, entry_eta, hard_eta, decide_eq_true_eq, Bool.and_eq_true, Bool.or_eq_true, Bool.not_eq_true', decide_eq_false_iff_not, Bool.not_not, eq_self, not_true_eq_false, not_false_eq_true, Bool.false_eq_true, Bool.true_eq_false, Bool.not_false, Bool.not_true, if_true, if_false, true_and, and_true, or_false, false_or, or_true, true_or, and_false, false_and, true_implies, if_pos, if_neg, len_58, get_58, app_58, set_58, cut_58, rep_58, emp_58, len_30, get_30, app_30, set_30, cut_30, rep_30, emp_30, len_27, get_27, app_27, set_27, cut_27, rep_27, emp_27, len_i, get_i, app_i, set_i, cut_i, rep_i, emp_i, len_b, get_b, app_b, set_b, cut_b, rep_b, emp_b, e1, e2, hp, hm]; exact e12) ?_
            refine q_yes AwakeQ (by simp (maxSteps := 2000000) (discharger := omega) only [r_ite, r_add, r_sub, r_mul, r_quo, r_rem, r_lt, r_le, r_eq, r_bnot, r_or, r_and, r_isel, r_beq, r_band, r_bimp, r_imax, r_imin, r_call, r_gcall, r_bind, Option.bind_some, fits_ok, mfit_ok, wrap_i64, both_self, node_eta, msg_eta, entry_eta, hard_eta, decide_eq_true_eq, Bool.and_eq_true, Bool.or_eq_true, Bool.not_eq_true', decide_eq_false_iff_not, Bool.not_not, eq_self, not_true_eq_false, not_false_eq_true, Bool.false_eq_true, Bool.true_eq_false, Bool.not_false, Bool.not_true, if_true, if_false, true_and, and_true, or_false, false_or, or_true, true_or, and_false, false_and, true_implies, if_pos, if_neg, len_58, get_58, app_58, set_58, cut_58, rep_58, emp_58, len_30, get_30, app_30, set_30, cut_30, rep_30, emp_30, len_27, get_27, app_27, set_27, cut_27, rep_27, emp_27, len_i, get_i, app_i, set_i, cut_i, rep_i, emp_i, len_b, get_b, app_b, set_b, cut_b, rep_b, emp_b, e1, e2, hp, hm] <;> omega) ?_
            obtain ⟨g', le, h1, h2⟩ := law_turn hI htK ht.1 hO
            refine q_eq AwakeQ (z := (j, (r.2, (L.set m.to.toNat r.1, (ms.take p.toNat ++ (ms.take ms.length).drop (p + 1).toNat, ()))))) ?_ (hc _ ⟨ht.2.1, by dsimp only; omega, g', h1, h2, fun y hy => (hM y (hless y hy)).mono le⟩)
            simp (maxSteps := 2000000) (discharger := omega) only [r_ite, r_add, r_sub, r_mul, r_quo, r_rem, r_lt, r_le, r_eq, r_bnot, r_or, r_and, r_isel, r_beq, r_band, r_bimp, r_imax, r_imin, r_call, r_gcall, r_bind, Option.bind_some, fits_ok, mfit_ok, wrap_i64, both_self, node_eta, msg_eta, entry_eta, hard_eta, decide_eq_true_eq, Bool.and_eq_true, Bool.or_eq_true, Bool.not_eq_true', decide_eq_false_iff_not, Bool.not_not, eq_self, not_true_eq_false, not_false_eq_true, Bool.false_eq_true, Bool.true_eq_false, Bool.not_false, Bool.not_true, if_true, if_false, true_and, and_true, or_false, false_or, or_true, true_or, and_false, false_and, true_implies, if_pos, if_neg, len_58, get_58, app_58, set_58, cut_58, rep_58, emp_58, len_30, get_30, app_30, set_30, cut_30, rep_30, emp_30, len_27, get_27, app_27, set_27, cut_27, rep_27, emp_27, len_i, get_i, app_i, set_i, cut_i, rep_i, emp_i, len_b, get_b, app_b, set_b, cut_b, rep_b, emp_b, e1, e2, hp, hm, hj, Int.toNat_natCast, List.drop_zero, Int.toNat_zero]
          · refine q_no AwakeQ (by simp (maxSteps := 2000000) (discharger := omega) only [r_ite, r_add, r_sub, r_mul, r_quo, r_rem, r_lt, r_le, r_eq, r_bnot, r_or, r_and, r_isel, r_beq, r_band, r_bimp, r_imax, r_imin, r_call, r_gcall, r_bind, Option.bind_some, fits_ok, mfit_ok, wrap_i64, both_self, node_eta, msg_eta, entry_eta, hard_eta, decide_eq_true_eq, Bool.and_eq_true, Bool.or_eq_true, Bool.not_eq_true', decide_eq_false_iff_not, Bool.not_not, eq_self, not_true_eq_false, not_false_eq_true, Bool.false_eq_true, Bool.true_eq_false, Bool.not_false, Bool.not_true, if_true, if_false, true_and, and_true, or_false, false_or, or_true, true_or, and_false, false_and, true_implies, if_pos, if_neg, len_58, get_58, app_58, set_58, cut_58, rep_58, emp_58, len_30, get_30, app_30, set_30, cut_30, rep_30, emp_30, len_27, get_27, app_27, set_27, cut_27, rep_27, emp_27, len_i, get_i, app_i, set_i, cut_i, rep_i, emp_i, len_b, get_b, app_b, set_b, cut_b, rep_b, emp_b, e1, e2, hp, hm] <;> omega) ?_
            refine q_eq AwakeQ (z := (j, ([], (L, (ms.take p.toNat ++ (ms.take ms.length).drop (p + 1).toNat, ()))))) ?_ (keep _ hless (by omega))
            simp (maxSteps := 2000000) (discharger := omega) only [r_ite, r_add, r_sub, r_mul, r_quo, r_rem, r_lt, r_le, r_eq, r_bnot, r_or, r_and, r_isel, r_beq, r_band, r_bimp, r_imax, r_imin, r_call, r_gcall, r_bind, Option.bind_some, fits_ok, mfit_ok, wrap_i64, both_self, node_eta, msg_eta, entry_eta, hard_eta, decide_eq_true_eq, Bool.and_eq_true, Bool.or_eq_true, Bool.not_eq_true', decide_eq_false_iff_not, Bool.not_not, eq_self, not_true_eq_false, not_false_eq_true, Bool.false_eq_true, Bool.true_eq_false, Bool.not_false, Bool.not_true, if_true, if_false, true_and, and_true, or_false, false_or, or_true, true_or, and_false, false_and, true_implies, if_pos, if_neg, len_58, get_58, app_58, set_58, cut_58, rep_58, emp_58, len_30, get_30, app_30, set_30, cut_30, rep_30, emp_30, len_27, get_27, app_27, set_27, cut_27, rep_27, emp_27, len_i, get_i, app_i, set_i, cut_i, rep_i, emp_i, len_b, get_b, app_b, set_b, cut_b, rep_b, emp_b, e1, e2, hp, hm, hj, Int.toNat_natCast, List.drop_zero, Int.toNat_zero]
        refine q_no AwakeQ (by simp (maxSteps := 2000000) (discharger := omega) only [r_ite, r_add, r_sub, r_mul, r_quo, r_rem, r_lt, r_le, r_eq, r_bnot, r_or, r_and, r_isel, r_beq, r_band, r_bimp, r_imax, r_imin, r_call, r_gcall, r_bind, Option.bind_some, fits_ok, mfit_ok, wrap_i64, both_self, node_eta, msg_eta, entry_eta, hard_eta, decide_eq_true_eq, Bool.and_eq_true, Bool.or_eq_true, Bool.not_eq_true', decide_eq_false_iff_not, Bool.not_not, eq_self, not_true_eq_false, not_false_eq_true, Bool.false_eq_true, Bool.true_eq_false, Bool.not_false, Bool.not_true, if_true, if_false, true_and, and_true, or_false, false_or, or_true, true_or, and_false, false_and, true_implies, if_pos, if_neg, len_58, get_58, app_58, set_58, cut_58, rep_58, emp_58, len_30, get_30, app_30, set_30, cut_30, rep_30, emp_30, len_27, get_27, app_27, set_27, cut_27, rep_27, emp_27, len_i, get_i, app_i, set_i, cut_i, rep_i, emp_i, len_b, get_b, app_b, set_b, cut_b, rep_b, emp_b, e1, e2] <;> omega) ?_
        by_cases c2 : x % 16 = 12
        · refine q_yes AwakeQ (by simp (maxSteps := 2000000) (discharger := omega) only [r_ite, r_add, r_sub, r_mul, r_quo, r_rem, r_lt, r_le, r_eq, r_bnot, r_or, r_and, r_isel, r_beq, r_band, r_bimp, r_imax, r_imin, r_call, r_gcall, r_bind, Option.bind_some, fits_ok, mfit_ok, wrap_i64, both_self, node_eta, msg_eta, entry_eta, hard_eta, decide_eq_true_eq, Bool.and_eq_true, Bool.or_eq_true, Bool.not_eq_true', decide_eq_false_iff_not, Bool.not_not, eq_self, not_true_eq_false, not_false_eq_true, Bool.false_eq_true, Bool.true_eq_false, Bool.not_false, Bool.not_true, if_true, if_false, true_and, and_true, or_false, false_or, or_true, true_or, and_false, false_and, true_implies, if_pos, if_neg, len_58, get_58, app_58, set_58, cut_58, rep_58, emp_58, len_30, get_30, app_30, set_30, cut_30, rep_30, emp_30, len_27, get_27, app_27, set_27, cut_27, rep_27, emp_27, len_i, get_i, app_i, set_i, cut_i, rep_i, emp_i, len_b, get_b, app_b, set_b, cut_b, rep_b, emp_b, e1, e2] <;> omega) ?_
          refine q_yes AwakeQ (by simp (maxSteps := 2000000) (discharger := omega) only [r_ite, r_add, r_sub, r_mul, r_quo, r_rem, r_lt, r_le, r_eq, r_bnot, r_or, r_and, r_isel, r_beq, r_band, r_bimp, r_imax, r_imin, r_call, r_gcall, r_bind, Option.bind_some, fits_ok, mfit_ok, wrap_i64, both_self, node_eta, msg_eta, entry_eta, hard_eta, decide_eq_true_eq, Bool.and_eq_true, Bool.or_eq_true, Bool.not_eq_true', decide_eq_false_iff_not, Bool.not_not, eq_self, not_true_eq_false, not_false_eq_true, Bool.false_eq_true, Bool.true_eq_false, Bool.not_false, Bool.not_true, if_true, if_false, true_and, and_true, or_false, false_or, or_true, true_or, and_false, false_and, true_implies, if_pos, if_neg, len_58, get_58, app_58, set_58, cut_58, rep_58, emp_58, len_30, get_30, app_30, set_30, cut_30, rep_30, emp_30, len_27, get_27, app_27, set_27, cut_27, rep_27, emp_27, len_i, get_i, app_i, set_i, cut_i, rep_i, emp_i, len_b, get_b, app_b, set_b, cut_b, rep_b, emp_b] <;> omega) ?_
          refine q_yes AwakeQ (by simp (maxSteps := 2000000) (discharger := omega) only [r_ite, r_add, r_sub, r_mul, r_quo, r_rem, r_lt, r_le, r_eq, r_bnot, r_or, r_and, r_isel, r_beq, r_band, r_bimp, r_imax, r_imin, r_call, r_gcall, r_bind, Option.bind_some, fits_ok, mfit_ok, wrap_i64, both_self, node_eta, msg_eta, entry_eta, hard_eta, decide_eq_true_eq, Bool.and_eq_true, Bool.or_eq_true, Bool.not_eq_true', decide_eq_false_iff_not, Bool.not_not, eq_self, not_true_eq_false, not_false_eq_true, Bool.false_eq_true, Bool.true_eq_false, Bool.not_false, Bool.not_true, if_true, if_false, true_and, and_true, or_false, false_or, or_true, true_or, and_false, false_and, true_implies, if_pos, if_neg, len_58, get_58, app_58, set_58, cut_58, rep_58, emp_58, len_30, get_30, app_30, set_30, cut_30, rep_30, emp_30, len_27, get_27, app_27, set_27, cut_27, rep_27, emp_27, len_i, get_i, app_i, set_i, cut_i, rep_i, emp_i, len_b, get_b, app_b, set_b, cut_b, rep_b, emp_b] <;> omega) ?_
          refine q_yes AwakeQ (by simp (maxSteps := 2000000) (discharger := omega) only [r_ite, r_add, r_sub, r_mul, r_quo, r_rem, r_lt, r_le, r_eq, r_bnot, r_or, r_and, r_isel, r_beq, r_band, r_bimp, r_imax, r_imin, r_call, r_gcall, r_bind, Option.bind_some, fits_ok, mfit_ok, wrap_i64, both_self, node_eta, msg_eta, entry_eta, hard_eta, decide_eq_true_eq, Bool.and_eq_true, Bool.or_eq_true, Bool.not_eq_true', decide_eq_false_iff_not, Bool.not_not, eq_self, not_true_eq_false, not_false_eq_true, Bool.false_eq_true, Bool.true_eq_false, Bool.not_false, Bool.not_true, if_true, if_false, true_and, and_true, or_false, false_or, or_true, true_or, and_false, false_and, true_implies, if_pos, if_neg, len_58, get_58, app_58, set_58, cut_58, rep_58, emp_58, len_30, get_30, app_30, set_30, cut_30, rep_30, emp_30, len_27, get_27, app_27, set_27, cut_27, rep_27, emp_27, len_i, get_i, app_i, set_i, cut_i, rep_i, emp_i, len_b, get_b, app_b, set_b, cut_b, rep_b, emp_b, e1, e2, hp] <;> omega) ?_
          refine q_yes AwakeQ (by simp (maxSteps := 2000000) (discharger := omega) only [r_ite, r_add, r_sub, r_mul, r_quo, r_rem, r_lt, r_le, r_eq, r_bnot, r_or, r_and, r_isel, r_beq, r_band, r_bimp, r_imax, r_imin, r_call, r_gcall, r_bind, Option.bind_some, fits_ok, mfit_ok, wrap_i64, both_self, node_eta, msg_eta, entry_eta, hard_eta, decide_eq_true_eq, Bool.and_eq_true, Bool.or_eq_true, Bool.not_eq_true', decide_eq_false_iff_not, Bool.not_not, eq_self, not_true_eq_false, not_false_eq_true, Bool.false_eq_true, Bool.true_eq_false, Bool.not_false, Bool.not_true, if_true, if_false, true_and, and_true, or_false, false_or, or_true, true_or, and_false, false_and, true_implies, if_pos, if_neg, len_58, get_58, app_58, set_58, cut_58, rep_58, emp_58, len_30, get_30, app_30, set_30, cut_30, rep_30, emp_30, len_27, get_27, app_27, set_27, cut_27, rep_27, emp_27, len_i, get_i, app_i, set_i, cut_i, rep_i, emp_i, len_b, get_b, app_b, set_b, cut_b, rep_b, emp_b, e1, e2, hp, List.length_take, List.length_drop] <;> omega) ?_
          refine q_yes AwakeQ (by simp (maxSteps := 2000000) (discharger := omega) only [r_ite, r_add, r_sub, r_mul, r_quo, r_rem, r_lt, r_le, r_eq, r_bnot, r_or, r_and, r_isel, r_beq, r_band, r_bimp, r_imax, r_imin, r_call, r_gcall, r_bind, Option.bind_some, fits_ok, mfit_ok, wrap_i64, both_self, node_eta, msg_eta, entry_eta, hard_eta, decide_eq_true_eq, Bool.and_eq_true, Bool.or_eq_true, Bool.not_eq_true', decide_eq_false_iff_not, Bool.not_not, eq_self, not_true_eq_false, not_false_eq_true, Bool.false_eq_true, Bool.true_eq_false, Bool.not_false, Bool.not_true, if_true, if_false, true_and, and_true, or_false, false_or, or_true, true_or, and_false, false_and, true_implies, if_pos, if_neg, len_58, get_58, app_58, set_58, cut_58, rep_58, emp_58, len_30, get_30, app_30, set_30, cut_30, rep_30, emp_30, len_27, get_27, app_27, set_27, cut_27, rep_27, emp_27, len_i, get_i, app_i, set_i, cut_i, rep_i, emp_i, len_b, get_b, app_b, set_b, cut_b, rep_b, emp_b, e1, e2, hp] <;> omega) ?_
          refine q_yes AwakeQ (by simp (maxSteps := 2000000) (discharger := omega) only [r_ite, r_add, r_sub, r_mul, r_quo, r_rem, r_lt, r_le, r_eq, r_bnot, r_or, r_and, r_isel, r_beq, r_band, r_bimp, r_imax, r_imin, r_call, r_gcall, r_bind, Option.bind_some, fits_ok, mfit_ok, wrap_i64, both_self, node_eta, msg_eta, entry_eta, hard_eta, decide_eq_true_eq, Bool.and_eq_true, Bool.or_eq_true, Bool.not_eq_true', decide_eq_false_iff_not, Bool.not_not, eq_self, not_true_eq_false, not_false_eq_true, Bool.false_eq_true, Bool.true_eq_false, Bool.not_false, Bool.not_true, if_true, if_false, true_and, and_true, or_false, false_or, or_true, true_or, and_false, false_and, true_implies, if_pos, if_neg, len_58, get_58, app_58, set_58, cut_58, rep_58, emp_58, len_30, get_30, app_30, set_30, cut_30, rep_30, emp_30, len_27, get_27, app_27, set_27, cut_27, rep_27, emp_27, len_i, get_i, app_i, set_i, cut_i, rep_i, emp_i, len_b, get_b, app_b, set_b, cut_b, rep_b, emp_b, e1, e2, hp, List.length_take, List.length_drop] <;> omega) ?_
          refine q_eq AwakeQ (z := (j, ([], (L, (ms.take p.toNat ++ (ms.take ms.length).drop (p + 1).toNat, ()))))) ?_ (keep _ hless (by omega))
          simp (maxSteps := 2000000) (discharger := omega) only [r_ite, r_add, r_sub, r_mul, r_quo, r_rem, r_lt, r_le, r_eq, r_bnot, r_or, r_and, r_isel, r_beq, r_band, r_bimp, r_imax, r_imin, r_call, r_gcall, r_bind, Option.bind_some, fits_ok, mfit_ok, wrap_i64, both_self, node_eta, msg_eta, entry_eta, hard_eta, decide_eq_true_eq, Bool.and_eq_true, Bool.or_eq_true, Bool.not_eq_true', decide_eq_false_iff_not, Bool.not_not, eq_self, not_true_eq_false, not_false_eq_true, Bool.false_eq_true, Bool.true_eq_false, Bool.not_false, Bool.not_true, if_true, if_false, true_and, and_true, or_false, false_or, or_true, true_or, and_false, false_and, true_implies, if_pos, if_neg, len_58, get_58, app_58, set_58, cut_58, rep_58, emp_58, len_30, get_30, app_30, set_30, cut_30, rep_30, emp_30, len_27, get_27, app_27, set_27, cut_27, rep_27, emp_27, len_i, get_i, app_i, set_i, cut_i, rep_i, emp_i, len_b, get_b, app_b, set_b, cut_b, rep_b, emp_b, e1, e2, hp, hm, hj, Int.toNat_natCast, List.drop_zero, Int.toNat_zero]
        refine q_no AwakeQ (by simp (maxSteps := 2000000) (discharger := omega) only [r_ite, r_add, r_sub, r_mul, r_quo, r_rem, r_lt, r_le, r_eq, r_bnot, r_or, r_and, r_isel, r_beq, r_band, r_bimp, r_imax, r_imin, r_call, r_gcall, r_bind, Option.bind_some, fits_ok, mfit_ok, wrap_i64, both_self, node_eta, msg_eta, entry_eta, hard_eta, decide_eq_true_eq, Bool.and_eq_true, Bool.or_eq_true, Bool.not_eq_true', decide_eq_false_iff_not, Bool.not_not, eq_self, not_true_eq_false, not_false_eq_true, Bool.false_eq_true, Bool.true_eq_false, Bool.not_false, Bool.not_true, if_true, if_false, true_and, and_true, or_false, false_or, or_true, true_or, and_false, false_and, true_implies, if_pos, if_neg, len_58, get_58, app_58, set_58, cut_58, rep_58, emp_58, len_30, get_30, app_30, set_30, cut_30, rep_30, emp_30, len_27, get_27, app_27, set_27, cut_27, rep_27, emp_27, len_i, get_i, app_i, set_i, cut_i, rep_i, emp_i, len_b, get_b, app_b, set_b, cut_b, rep_b, emp_b, e1, e2] <;> omega) ?_
        by_cases c3 : x % 16 = 13
        · refine q_yes AwakeQ (by simp (maxSteps := 2000000) (discharger := omega) only [r_ite, r_add, r_sub, r_mul, r_quo, r_rem, r_lt, r_le, r_eq, r_bnot, r_or, r_and, r_isel, r_beq, r_band, r_bimp, r_imax, r_imin, r_call, r_gcall, r_bind, Option.bind_some, fits_ok, mfit_ok, wrap_i64, both_self, node_eta, msg_eta, entry_eta, hard_eta, decide_eq_true_eq, Bool.and_eq_true, Bool.or_eq_true, Bool.not_eq_true', decide_eq_false_iff_not, Bool.not_not, eq_self, not_true_eq_false, not_false_eq_true, Bool.false_eq_true, Bool.true_eq_false, Bool.not_false, Bool.not_true, if_true, if_false, true_and, and_true, or_false, false_or, or_true, true_or, and_false, false_and, true_implies, if_pos, if_neg, len_58, get_58, app_58, set_58, cut_58, rep_58, emp_58, len_30, get_30, app_30, set_30, cut_30, rep_30, emp_30, len_27, get_27, app_27, set_27, cut_27, rep_27, emp_27, len_i, get_i, app_i, set_i, cut_i, rep_i, emp_i, len_b, get_b, app_b, set_b, cut_b, rep_b, emp_b, e1, e2] <;> omega) ?_
          refine q_yes AwakeQ (by simp (maxSteps := 2000000) (discharger := omega) only [r_ite, r_add, r_sub, r_mul, r_quo, r_rem, r_lt, r_le, r_eq, r_bnot, r_or, r_and, r_isel, r_beq, r_band, r_bimp, r_imax, r_imin, r_call, r_gcall, r_bind, Option.bind_some, fits_ok, mfit_ok, wrap_i64, both_self, node_eta, msg_eta, entry_eta, hard_eta, decide_eq_true_eq, Bool.and_eq_true, Bool.or_eq_true, Bool.not_eq_true', decide_eq_false_iff_not, Bool.not_not, eq_self, not_true_eq_false, not_false_eq_true, Bool.false_eq_true, Bool.true_eq_false, Bool.not_false, Bool.not_true, if_true, if_false, true_and, and_true, or_false, false_or, or_true, true_or, and_false, false_and, true_implies, if_pos, if_neg, len_58, get_58, app_58, set_58, cut_58, rep_58, emp_58, len_30, get_30, app_30, set_30, cut_30, rep_30, emp_30, len_27, get_27, app_27, set_27, cut_27, rep_27, emp_27, len_i, get_i, app_i, set_i, cut_i, rep_i, emp_i, len_b, get_b, app_b, set_b, cut_b, rep_b, emp_b] <;> omega) ?_
          refine q_yes AwakeQ (by simp (maxSteps := 2000000) (discharger := omega) only [r_ite, r_add, r_sub, r_mul, r_quo, r_rem, r_lt, r_le, r_eq, r_bnot, r_or, r_and, r_isel, r_beq, r_band, r_bimp, r_imax, r_imin, r_call, r_gcall, r_bind, Option.bind_some, fits_ok, mfit_ok, wrap_i64, both_self, node_eta, msg_eta, entry_eta, hard_eta, decide_eq_true_eq, Bool.and_eq_true, Bool.or_eq_true, Bool.not_eq_true', decide_eq_false_iff_not, Bool.not_not, eq_self, not_true_eq_false, not_false_eq_true, Bool.false_eq_true, Bool.true_eq_false, Bool.not_false, Bool.not_true, if_true, if_false, true_and, and_true, or_false, false_or, or_true, true_or, and_false, false_and, true_implies, if_pos, if_neg, len_58, get_58, app_58, set_58, cut_58, rep_58, emp_58, len_30, get_30, app_30, set_30, cut_30, rep_30, emp_30, len_27, get_27, app_27, set_27, cut_27, rep_27, emp_27, len_i, get_i, app_i, set_i, cut_i, rep_i, emp_i, len_b, get_b, app_b, set_b, cut_b, rep_b, emp_b] <;> omega) ?_
          refine q_yes AwakeQ (by simp (maxSteps := 2000000) (discharger := omega) only [r_ite, r_add, r_sub, r_mul, r_quo, r_rem, r_lt, r_le, r_eq, r_bnot, r_or, r_and, r_isel, r_beq, r_band, r_bimp, r_imax, r_imin, r_call, r_gcall, r_bind, Option.bind_some, fits_ok, mfit_ok, wrap_i64, both_self, node_eta, msg_eta, entry_eta, hard_eta, decide_eq_true_eq, Bool.and_eq_true, Bool.or_eq_true, Bool.not_eq_true', decide_eq_false_iff_not, Bool.not_not, eq_self, not_true_eq_false, not_false_eq_true, Bool.false_eq_true, Bool.true_eq_false, Bool.not_false, Bool.not_true, if_true, if_false, true_and, and_true, or_false, false_or, or_true, true_or, and_false, false_and, true_implies, if_pos, if_neg, len_58, get_58, app_58, set_58, cut_58, rep_58, emp_58, len_30, get_30, app_30, set_30, cut_30, rep_30, emp_30, len_27, get_27, app_27, set_27, cut_27, rep_27, emp_27, len_i, get_i, app_i, set_i, cut_i, rep_i, emp_i, len_b, get_b, app_b, set_b, cut_b, rep_b, emp_b, e1, e2, hp] <;> omega) ?_
          refine q_yes AwakeQ (by simp (maxSteps := 2000000) (discharger := omega) only [r_ite, r_add, r_sub, r_mul, r_quo, r_rem, r_lt, r_le, r_eq, r_bnot, r_or, r_and, r_isel, r_beq, r_band, r_bimp, r_imax, r_imin, r_call, r_gcall, r_bind, Option.bind_some, fits_ok, mfit_ok, wrap_i64, both_self, node_eta, msg_eta, entry_eta, hard_eta, decide_eq_true_eq, Bool.and_eq_true, Bool.or_eq_true, Bool.not_eq_true', decide_eq_false_iff_not, Bool.not_not, eq_self, not_true_eq_false, not_false_eq_true, Bool.false_eq_true, Bool.true_eq_false, Bool.not_false, Bool.not_true, if_true, if_false, true_and, and_true, or_false, false_or, or_true, true_or, and_false, false_and, true_implies, if_pos, if_neg, len_58, get_58, app_58, set_58, cut_58, rep_58, emp_58, len_30, get_30, app_30, set_30, cut_30, rep_30, emp_30, len_27, get_27, app_27, set_27, cut_27, rep_27, emp_27, len_i, get_i, app_i, set_i, cut_i, rep_i, emp_i, len_b, get_b, app_b, set_b, cut_b, rep_b, emp_b, List.length_singleton] <;> omega) ?_
          refine q_eq AwakeQ (z := (j, ([], (L, (ms ++ [m], ()))))) ?_ (keep _ (fun y hy => (List.mem_append.1 hy).elim id fun h => by rw [List.mem_singleton] at h; rw [h]; exact hmem) (by rw [List.length_append, List.length_singleton]; omega))
          simp (maxSteps := 2000000) (discharger := omega) only [r_ite, r_add, r_sub, r_mul, r_quo, r_rem, r_lt, r_le, r_eq, r_bnot, r_or, r_and, r_isel, r_beq, r_band, r_bimp, r_imax, r_imin, r_call, r_gcall, r_bind, Option.bind_some, fits_ok, mfit_ok, wrap_i64, both_self, node_eta, msg_eta, entry_eta, hard_eta, decide_eq_true_eq, Bool.and_eq_true, Bool.or_eq_true, Bool.not_eq_true', decide_eq_false_iff_not, Bool.not_not, eq_self, not_true_eq_false, not_false_eq_true, Bool.false_eq_true, Bool.true_eq_false, Bool.not_false, Bool.not_true, if_true, if_false, true_and, and_true, or_false, false_or, or_true, true_or, and_false, false_and, true_implies, if_pos, if_neg, len_58, get_58, app_58, set_58, cut_58, rep_58, emp_58, len_30, get_30, app_30, set_30, cut_30, rep_30, emp_30, len_27, get_27, app_27, set_27, cut_27, rep_27, emp_27, len_i, get_i, app_i, set_i, cut_i, rep_i, emp_i, len_b, get_b, app_b, set_b, cut_b, rep_b, emp_b, e1, e2, hp, hm, hj]
        refine q_no AwakeQ (by simp (maxSteps := 2000000) (discharger := omega) only [r_ite, r_add, r_sub, r_mul, r_quo, r_rem, r_lt, r_le, r_eq, r_bnot, r_or, r_and, r_isel, r_beq, r_band, r_bimp, r_imax, r_imin, r_call, r_gcall, r_bind, Option.bind_some, fits_ok, mfit_ok, wrap_i64, both_self, node_eta, msg_eta, entry_eta, hard_eta, decide_eq_true_eq, Bool.and_eq_true, Bool.or_eq_true, Bool.not_eq_true', decide_eq_false_iff_not, Bool.not_not, eq_self, not_true_eq_false, not_false_eq_true, Bool.false_eq_true, Bool.true_eq_false, Bool.not_false, Bool.not_true, if_true, if_false, true_and, and_true, or_false, false_or, or_true, true_or, and_false, false_and, true_implies, if_pos, if_neg, len_58, get_58, app_58, set_58, cut_58, rep_58, emp_58, len_30, get_30, app_30, set_30, cut_30, rep_30, emp_30, len_27, get_27, app_27, set_27, cut_27, rep_27, emp_27, len_i, get_i, app_i, set_i, cut_i, rep_i, emp_i, len_b, get_b, app_b, set_b, cut_b, rep_b, emp_b, e1, e2] <;> omega) ?_
        refine q_yes AwakeQ (by simp (maxSteps := 2000000) (discharger := omega) only [r_ite, r_add, r_sub, r_mul, r_quo, r_rem, r_lt, r_le, r_eq, r_bnot, r_or, r_and, r_isel, r_beq, r_band, r_bimp, r_imax, r_imin, r_call, r_gcall, r_bind, Option.bind_some, fits_ok, mfit_ok, wrap_i64, both_self, node_eta, msg_eta, entry_eta, hard_eta, decide_eq_true_eq, Bool.and_eq_true, Bool.or_eq_true, Bool.not_eq_true', decide_eq_false_iff_not, Bool.not_not, eq_self, not_true_eq_false, not_false_eq_true, Bool.false_eq_true, Bool.true_eq_false, Bool.not_false, Bool.not_true, if_true, if_false, true_and, and_true, or_false, false_or, or_true, true_or, and_false, false_and, true_implies, if_pos, if_neg, len_58, get_58, app_58, set_58, cut_58, rep_58, emp_58, len_30, get_30, app_30, set_30, cut_30, rep_30, emp_30, len_27, get_27, app_27, set_27, cut_27, rep_27, emp_27, len_i, get_i, app_i, set_i, cut_i, rep_i, emp_i, len_b, get_b, app_b, set_b, cut_b, rep_b, emp_b, e1, e2] <;> omega) ?_
        refine q_yes AwakeQ (by simp (maxSteps := 2000000) (discharger := omega) only [r_ite, r_add, r_sub, r_mul, r_quo, r_rem, r_lt, r_le, r_eq, r_bnot, r_or, r_and, r_isel, r_beq, r_band, r_bimp, r_imax, r_imin, r_call, r_gcall, r_bind, Option.bind_some, fits_ok, mfit_ok, wrap_i64, both_self, node_eta, msg_eta, entry_eta, hard_eta, decide_eq_true_eq, Bool.and_eq_true, Bool.or_eq_true, Bool.not_eq_true', decide_eq_false_iff_not, Bool.not_not, eq_self, not_true_eq_false, not_false_eq_true, Bool.false_eq_true, Bool.true_eq_false, Bool.not_false, Bool.not_true, if_true, if_false, true_and, and_true, or_false, false_or, or_true, true_or, and_false, false_and, true_implies, if_pos, if_neg, len_58, get_58, app_58, set_58, cut_58, rep_58, emp_58, len_30, get_30, app_30, set_30, cut_30, rep_30, emp_30, len_27, get_27, app_27, set_27, cut_27, rep_27, emp_27, len_i, get_i, app_i, set_i, cut_i, rep_i, emp_i, len_b, get_b, app_b, set_b, cut_b, rep_b, emp_b] <;> omega) ?_
        refine q_yes AwakeQ (by simp (maxSteps := 2000000) (discharger := omega) only [r_ite, r_add, r_sub, r_mul, r_quo, r_rem, r_lt, r_le, r_eq, r_bnot, r_or, r_and, r_isel, r_beq, r_band, r_bimp, r_imax, r_imin, r_call, r_gcall, r_bind, Option.bind_some, fits_ok, mfit_ok, wrap_i64, both_self, node_eta, msg_eta, entry_eta, hard_eta, decide_eq_true_eq, Bool.and_eq_true, Bool.or_eq_true, Bool.not_eq_true', decide_eq_false_iff_not, Bool.not_not, eq_self, not_true_eq_false, not_false_eq_true, Bool.false_eq_true, Bool.true_eq_false, Bool.not_false, Bool.not_true, if_true, if_false, true_and, and_true, or_false, false_or, or_true, true_or, and_false, false_and, true_implies, if_pos, if_neg, len_58, get_58, app_58, set_58, cut_58, rep_58, emp_58, len_30, get_30, app_30, set_30, cut_30, rep_30, emp_30, len_27, get_27, app_27, set_27, cut_27, rep_27, emp_27, len_i, get_i, app_i, set_i, cut_i, rep_i, emp_i, len_b, get_b, app_b, set_b, cut_b, rep_b, emp_b] <;> omega) ?_
        refine q_yes AwakeQ (by simp (maxSteps := 2000000) (discharger := omega) only [r_ite, r_add, r_sub, r_mul, r_quo, r_rem, r_lt, r_le, r_eq, r_bnot, r_or, r_and, r_isel, r_beq, r_band, r_bimp, r_imax, r_imin, r_call, r_gcall, r_bind, Option.bind_some, fits_ok, mfit_ok, wrap_i64, both_self, node_eta, msg_eta, entry_eta, hard_eta, decide_eq_true_eq, Bool.and_eq_true, Bool.or_eq_true, Bool.not_eq_true', decide_eq_false_iff_not, Bool.not_not, eq_self, not_true_eq_false, not_false_eq_true, Bool.false_eq_true, Bool.true_eq_false, Bool.not_false, Bool.not_true, if_true, if_false, true_and, and_true, or_false, false_or, or_true, true_or, and_false, false_and, true_implies, if_pos, if_neg, len_58, get_58, app_58, set_58, cut_58, rep_58, emp_58, len_30, get_30, app_30, set_30, cut_30, rep_30, emp_30, len_27, get_27, app_27, set_27, cut_27, rep_27, emp_27, len_i, get_i, app_i, set_i, cut_i, rep_i, emp_i, len_b, get_b, app_b, set_b, cut_b, rep_b, emp_b, e1, e2, hj] <;> omega) ?_
        have e54 := s_54 (n := n) (k := k) (a := nd L j.toNat) (by omega)
        refine q_bind AwakeQ ((⟨(nd L j.toNat).term, (nd L j.toNat).vote, (nd L j.toNat).base, (nd L j.toNat).baseTerm, (nd L j.toNat).snap, (nd L j.toNat).log⟩ : Hard), ()) (by simp (maxSteps := 2000000) (discharger := omega) only [r_ite, r_add, r_sub, r_mul, r_quo, r_rem, r_lt, r_le, r_eq, r_bnot, r_or, r_and, r_isel, r_beq, r_band, r_bimp, r_imax, r_imin, r_call, r_gcall, r_bind, Option.bind_some, fits_ok, mfit_ok, wrap_i64, both_self, node_eta, msg_eta, entry_eta, hard_eta, decide_eq_true_eq, Bool.and_eq_true, Bool.or_eq_true, Bool.not_eq_true', decide_eq_false_iff_not, Bool.not_not, eq_self, not_true_eq_false, not_false_eq_true, Bool.false_eq_true, Bool.true_eq_false, Bool.not_false, Bool.not_true, if_true, if_false, true_and, and_true, or_false, false_or, or_true, true_or, and_false, false_and, true_implies, if_pos, if_neg, len_58, get_58, app_58, set_58, cut_58, rep_58, emp_58, len_30, get_30, app_30, set_30, cut_30, rep_30, emp_30, len_27, get_27, app_27, set_27, cut_27, rep_27, emp_27, len_i, get_i, app_i, set_i, cut_i, rep_i, emp_i, len_b, get_b, app_b, set_b, cut_b, rep_b, emp_b, e1, e2, hj]; exact e54) ?_
        have hN := hI.inv.node j.toNat hjK
        have hid := hN.id
        have hnn := hN.nodes
        have e60 := s_60 (n := n) (k := k) (i := j) (N := (L.length : Int)) (x := (⟨(nd L j.toNat).term, (nd L j.toNat).vote, (nd L j.toNat).base, (nd L j.toNat).baseTerm, (nd L j.toNat).snap, (nd L j.toNat).log⟩ : Hard)) (by omega) (by omega) (by dsimp only; omega)
        have hw : (⟨min (max j 0) (min (max (L.length : Int) 1) 5 - 1), min (max (L.length : Int) 1) 5, (nd L j.toNat).term, (nd L j.toNat).vote, (nd L j.toNat).base, (nd L j.toNat).baseTerm, (nd L j.toNat).snap, (nd L j.toNat).log, 0, -1, (nd L j.toNat).base, List.replicate (min (max (L.length : Int) 1) 5).toNat false, List.replicate (min (max (L.length : Int) 1) 5).toNat 1, List.replicate (min (max (L.length : Int) 1) 5).toNat 0, 0⟩ : Node) = Safe.wake (nd L j.toNat) := by
          unfold Safe.wake newN
          rw [hid, hnn, show min (max (L.length : Int) 1) 5 = (K : Int) from by omega, show ((j.toNat : Nat) : Int) = j from by omega]
        dsimp only at e60
        rw [hw] at e60
        have hO := Safe.wake_ok hI.inv hjK hNI
        have hwn : NI (2^40 + 20 * t + 20) (Safe.wake (nd L j.toNat)) := by
          obtain ⟨n1, n5, i0, i1, lv, lx, lm, t0, t1, b0, b1, c0, c1, k0, k1, ll, la, nx, mx⟩ := NI.new (B := 2^40 + 20 * t + 20) (id := (nd L j.toNat).id) (K := (nd L j.toNat).nodes) hNI.n1 hNI.n5 (by omega)
          have h1 := hNI.t0
          have h2 := hNI.t1
          have h3 := hNI.b0
          have h4 := hNI.b1
          have h5 := hNI.la
          exact ⟨n1, n5, i0, i1, lv, lx, lm, h1, by show (nd L j.toNat).term ≤ _; omega, h3, by show (nd L j.toNat).base ≤ _; omega, Int.le_refl _, by show (nd L j.toNat).base ≤ _; omega, k0, k1, by show ((nd L j.toNat).log.length : Int) ≤ _; omega, by show (nd L j.toNat).base + ((nd L j.toNat).log.length : Int) ≤ _; omega, nx, mx⟩
        generalize Safe.wake (nd L j.toNat) = r at e60 hO hwn
        refine q_bind AwakeQ (r, ()) (by simp (maxSteps := 2000000) (discharger := omega) only [r_ite, r_add, r_sub, r_mul, r_quo, r_rem, r_lt, r_le, r_eq, r_bnot, r_or, r_and, r_isel, r_beq, r_band, r_bimp, r_imax, r_imin, r_call, r_gcall, r_bind, Option.bind_some, fits_ok, mfit_ok, wrap_i64, both_self, node_eta, msg_eta, entry_eta, hard_eta, decide_eq_true_eq, Bool.and_eq_true, Bool.or_eq_true, Bool.not_eq_true', decide_eq_false_iff_not, Bool.not_not, eq_self, not_true_eq_false, not_false_eq_true, Bool.false_eq_true, Bool.true_eq_false, Bool.not_false, Bool.not_true, if_true, if_false, true_and, and_true, or_false, false_or, or_true, true_or, and_false, false_and, true_implies, if_pos, if_neg, len_58, get_58, app_58, set_58, cut_58, rep_58, emp_58, len_30, get_30, app_30, set_30, cut_30, rep_30, emp_30, len_27, get_27, app_27, set_27, cut_27, rep_27, emp_27, len_i, get_i, app_i, set_i, cut_i, rep_i, emp_i, len_b, get_b, app_b, set_b, cut_b, rep_b, emp_b, e1, e2, hj]; exact e60) ?_
        refine q_yes AwakeQ (by simp (maxSteps := 2000000) (discharger := omega) only [r_ite, r_add, r_sub, r_mul, r_quo, r_rem, r_lt, r_le, r_eq, r_bnot, r_or, r_and, r_isel, r_beq, r_band, r_bimp, r_imax, r_imin, r_call, r_gcall, r_bind, Option.bind_some, fits_ok, mfit_ok, wrap_i64, both_self, node_eta, msg_eta, entry_eta, hard_eta, decide_eq_true_eq, Bool.and_eq_true, Bool.or_eq_true, Bool.not_eq_true', decide_eq_false_iff_not, Bool.not_not, eq_self, not_true_eq_false, not_false_eq_true, Bool.false_eq_true, Bool.true_eq_false, Bool.not_false, Bool.not_true, if_true, if_false, true_and, and_true, or_false, false_or, or_true, true_or, and_false, false_and, true_implies, if_pos, if_neg, len_58, get_58, app_58, set_58, cut_58, rep_58, emp_58, len_30, get_30, app_30, set_30, cut_30, rep_30, emp_30, len_27, get_27, app_27, set_27, cut_27, rep_27, emp_27, len_i, get_i, app_i, set_i, cut_i, rep_i, emp_i, len_b, get_b, app_b, set_b, cut_b, rep_b, emp_b, e1, e2, hj] <;> omega) ?_
        exact q_eq AwakeQ (by simp (maxSteps := 2000000) (discharger := omega) only [r_ite, r_add, r_sub, r_mul, r_quo, r_rem, r_lt, r_le, r_eq, r_bnot, r_or, r_and, r_isel, r_beq, r_band, r_bimp, r_imax, r_imin, r_call, r_gcall, r_bind, Option.bind_some, fits_ok, mfit_ok, wrap_i64, both_self, node_eta, msg_eta, entry_eta, hard_eta, decide_eq_true_eq, Bool.and_eq_true, Bool.or_eq_true, Bool.not_eq_true', decide_eq_false_iff_not, Bool.not_not, eq_self, not_true_eq_false, not_false_eq_true, Bool.false_eq_true, Bool.true_eq_false, Bool.not_false, Bool.not_true, if_true, if_false, true_and, and_true, or_false, false_or, or_true, true_or, and_false, false_and, true_implies, if_pos, if_neg, len_58, get_58, app_58, set_58, cut_58, rep_58, emp_58, len_30, get_30, app_30, set_30, cut_30, rep_30, emp_30, len_27, get_27, app_27, set_27, cut_27, rep_27, emp_27, len_i, get_i, app_i, set_i, cut_i, rep_i, emp_i, len_b, get_b, app_b, set_b, cut_b, rep_b, emp_b, e1, e2, hj]) (go r [] hwn (by simp) ⟨g, Safe.Le.refl g, hO, fun y hy => (by cases hy)⟩)
    · refine q_no AwakeQ (by simp (maxSteps := 2000000) (discharger := omega) only [r_ite, r_add, r_sub, r_mul, r_quo, r_rem, r_lt, r_le, r_eq, r_bnot, r_or, r_and, r_isel, r_beq, r_band, r_bimp, r_imax, r_imin, r_call, r_gcall, r_bind, Option.bind_some, fits_ok, mfit_ok, wrap_i64, both_self, node_eta, msg_eta, entry_eta, hard_eta, decide_eq_true_eq, Bool.and_eq_true, Bool.or_eq_true, Bool.not_eq_true', decide_eq_false_iff_not, Bool.not_not, eq_self, not_true_eq_false, not_false_eq_true, Bool.false_eq_true, Bool.true_eq_false, Bool.not_false, Bool.not_true, if_true, if_false, true_and, and_true, or_false, false_or, or_true, true_or, and_false, false_and, true_implies, if_pos, if_neg, len_58, get_58, app_58, set_58, cut_58, rep_58, emp_58, len_30, get_30, app_30, set_30, cut_30, rep_30, emp_30, len_27, get_27, app_27, set_27, cut_27, rep_27, emp_27, len_i, get_i, app_i, set_i, cut_i, rep_i, emp_i, len_b, get_b, app_b, set_b, cut_b, rep_b, emp_b] <;> omega) ?_
      refine q_bind AwakeQ (true, ()) e7 ?_
      exact rfl

end
end Go.Proofs.Ytinfpahllbhomaa
