/- An engine for stepping through loaded code: slots are told by a list, memory by a list of owned blocks. No statement of the seat is proved here. -/
import Derived.Test.YtpfkcblhojkaiaaDoorProg
import Derived.Below
import Derived.WalkKit
import Derived.KernelRfl
import Derived.RowKit3
import Derived.IntWalk
import Derived.OrdersHeld
import Derived.Deep.Quiet
import Derived.Deep.MidRow
import Derived.Laws.Rows
import Derived.Laws.Tables
import Derived.Laws.Cells
import Derived.Laws.NewBlocks
import Derived.Laws.StructEq
import Derived.WalkLawsBesides
import Derived.WalkSpells
namespace Go.Proofs.YtpfkcblhojkaiaaDoor.Eng
open Go.RowKit
set_option linter.unusedVariables false
set_option linter.unusedSimpArgs false

/-! ### Slots -/
abbrev Env := List (Nat × Bool × Value)

def look : Env → Nat → Option (Bool × Value)
  | [], _ => none
  | (k, cv) :: r, d => bif Nat.beq k d then some cv else look r d

structure St (n : Nat) (S : Env) (a : Act) : Prop where
  sz : a.tmps.size = n
  df : a.defers = []
  all : ∀ d c v, look S d = some (c, v) → a.tmps[d]? = some (bif c then v else undef)

theorem St.get {n S a d v} (h : St n S a) (e : look S d = some (true, v)) : a.tmps.getD d undef = v := by
  have := h.all d true v e
  simp only [cond_true] at this
  simp [this]

theorem look_cons_eq (S : Env) (d : Nat) (cv : Bool × Value) : look ((d, cv) :: S) d = some cv := by simp [look]
theorem look_cons_ne (S : Env) {d e : Nat} (cv : Bool × Value) (h : d ≠ e) : look ((d, cv) :: S) e = look S e := by
  have : Nat.beq d e = false := by
    cases hb : Nat.beq d e with
    | false => rfl
    | true => exact absurd (Nat.eq_of_beq_eq_true hb) h
  simp [look, this]

theorem St.put {n S a d} (h : St n S a) (hd : d < n) (g : Bool) (v : Value) : St n ((d, g, v) :: S) (a.put (some d) (bif g then v else undef)) := by
  refine ⟨by simp [Act.put, h.sz], h.df, fun e c u he => ?_⟩
  have hsz := h.sz
  by_cases hde : d = e
  · subst hde
    rw [look_cons_eq] at he
    obtain ⟨rfl, rfl⟩ := Prod.mk.inj (Option.some.inj he)
    simp only [Act.put, Array.getElem?_setIfInBounds]
    simp [hsz, hd]
  · rw [look_cons_ne S _ hde] at he
    simp only [Act.put, Array.getElem?_setIfInBounds, if_neg hde]
    exact h.all e c u he

theorem St.put_none {n S a} (h : St n S a) (v : Value) : St n S (a.put none v) := h

/-- All that T says, S says. -/
def Sub (S : Env) : Env → Prop
  | [] => True
  | (d, cv) :: r => look S d = some cv ∧ Sub S r

theorem Sub.look {S : Env} : ∀ {T : Env} {d cv}, Sub S T → look T d = some cv → look S d = some cv
  | [], _, _, _, h => by simp [Eng.look] at h
  | (k, cv') :: r, d, cv, hs, h => by
    by_cases hk : k = d
    · subst hk
      rw [look_cons_eq] at h
      rw [← h]; exact hs.1
    · rw [look_cons_ne _ _ hk] at h
      exact Sub.look hs.2 h

theorem St.sub {n S T a} (h : St n S a) (hs : Sub S T) : St n T a := ⟨h.sz, h.df, fun _ _ _ he => h.all _ _ _ (hs.look he)⟩

/-! ### Operands -/
/-- Under g the operand reads as v. -/
def Ev (S : Env) (g : Bool) (x : Operand) (v : Value) : Prop := ∀ n a, St n S a → g = true → a.eval x = v

theorem ev_c {S g v} : Ev S g (.const v) v := fun _ _ _ _ => rfl
theorem ev_f {S g f} : Ev S g (.func f) (.func (.func f) #[] #[]) := fun _ _ _ _ => rfl
theorem ev_t {S g t v} (h : look S t = some (true, v)) : Ev S g (.tmp t) v := fun _ _ hs _ => hs.get h
theorem ev_i {S g c t v} (h : look S t = some (c, v)) (hc : g = true → c = true) : Ev S g (.tmp t) v := fun n a hs hg => by
  have := hs.all t c v h
  rw [hc hg] at this
  simp only [cond_true] at this
  simp [Act.eval, this]
theorem ev_g {S g t v} (h : look S t = some (g, v)) : Ev S g (.tmp t) v := ev_i h id
theorem ev_l {S c d t v} (h : look S t = some (c, v)) : Ev S (c && d) (.tmp t) v := ev_i h (fun hh => by simp at hh; exact hh.1)

/-- An operation is done just under g. -/
def gof (c t want : Bool) : Bool := match want with | true => c && t | false => c && !t

def Gd (ops : Array Oper) (S : Env) (gu : Option (Nat × Bool)) (g : Bool) : Prop :=
  match gu with
  | none => g = true
  | some (j, want) => ∃ d c t, (ops[j]?).bind (·.dst) = some d ∧ look S d = some (c, .bool t) ∧ g = gof c t want

theorem gd_some {ops S j want d c t} (h1 : (ops[j]?).bind (·.dst) = some d) (h2 : look S d = some (c, .bool t)) : Gd ops S (some (j, want)) (gof c t want) := ⟨d, c, t, h1, h2, rfl⟩

theorem Gd.wanted {ops S g n a} {o : Oper} (h : Gd ops S o.guard g) (hs : St n S a) : Region.wanted o (yielded ops a.tmps) = g := by
  unfold Region.wanted
  unfold Gd at h
  cases hg : o.guard with
  | none => simp only [hg] at h; exact h.symm
  | some jw =>
    obtain ⟨j, want⟩ := jw
    simp only [hg] at h
    obtain ⟨d, c, t, h1, h2, h3⟩ := h
    have := hs.all d c _ h2
    simp only [yielded, h1, Option.bind_some, this]
    subst h3
    cases c <;> cases t <;> cases want <;> simp [gof, undef]

/-! ### Judgements -/
section
variable {P : Program} {n : Nat} {ops : Array Oper} {Q : Exit → Act → World → Prop} {S : Env} {w : World} {rest : List Oper} {o : Oper} {d : Nat} {g : Bool} {v : Value} {N : Env → World → Prop}

/-- What is left of a region's operations, from the slots S on. -/
def Ops (P : Program) (n : Nat) (ops : Array Oper) (Q : Exit → Act → World → Prop) (l : List Oper) (S : Env) (w : World) : Prop := ∀ a, St n S a → wpList P ops Q l a w
/-- Code, from the slots S on. -/
def Cod (P : Program) (n : Nat) (c : Code) (Q : Exit → Act → World → Prop) (S : Env) (w : World) : Prop := ∀ a, St n S a → c.wp P Q a w
/-- One operation, whatever N stands behind it. -/
def One (P : Program) (n : Nat) (ops : Array Oper) (Q : Exit → Act → World → Prop) (o : Oper) (S : Env) (w : World) (N : Env → World → Prop) : Prop :=
  ∀ a, St n S a → ∀ K : Act → World → Prop, (∀ S w a, N S w → St n S a → K a w) → if Region.wanted o (yielded ops a.tmps) then o.wp P a w K Q else K (a.put o.dst undef) w

/-- Under g the operation yields v, and the world stands. -/
def Yld (P : Program) (n : Nat) (S : Env) (o : Oper) (g : Bool) (w : World) (v : Value) : Prop := ∀ a, St n S a → g = true → (execOp a.eval o).run P w = .ok (.value v) w

theorem Ops.nil (h : ∀ a, St n S a → Q .normal a w) : Ops P n ops Q [] S w := fun a hs => wpList_nil (h a hs)
theorem Ops.step (h : One P n ops Q o S w (Ops P n ops Q rest)) : Ops P n ops Q (o :: rest) S w := fun a hs =>
  wpList_step fun K hK => h a hs K fun _ _ a' hN hs' => hK a' _ (hN a' hs')

theorem One.val (hg : Gd ops S o.guard g) (hd : o.dst = some d) (hn : Nat.blt d n = true) (hy : Yld P n S o g w v) (h : N ((d, g, v) :: S) w) : One P n ops Q o S w N := fun a hs K hK => by
  have hn' : d < n := by simpa using hn
  have hput := hs.put hn' g v
  have hw := hg.wanted hs
  rw [hw]
  cases hg' : g with
  | false =>
    rw [hg'] at hput h
    simp only [Bool.false_eq_true, if_false, hd]
    exact hK _ _ _ h hput
  | true =>
    rw [hg'] at hput h
    simp only [if_true, Oper.wp, hy a hs hg', Oper.upon_value, hd]
    exact hK _ _ _ h hput

/-- An operation that turns the world (none is guarded). -/
theorem One.wrd {w' : World} (hg : o.guard = none) (hd : o.dst = some d) (hn : Nat.blt d n = true) (hy : ∀ a, St n S a → (execOp a.eval o).run P w = .ok (.value v) w') (h : N ((d, true, v) :: S) w') : One P n ops Q o S w N := fun a hs K hK => by
  have hn' : d < n := by simpa using hn
  have hput := hs.put hn' true v
  simp only [Region.wanted, hg, if_true, Oper.wp, hy a hs, Oper.upon_value, hd]
  exact hK _ _ _ h hput

theorem One.skp {w' : World} (hg : o.guard = none) (hd : o.dst = none) (hy : ∀ a, St n S a → (execOp a.eval o).run P w = .ok .skip w') (h : N S w') : One P n ops Q o S w N := fun a hs K hK => by
  simp only [Region.wanted, hg, if_true, Oper.wp, hy a hs, Oper.upon_skip, hd]
  exact hK _ _ _ h hs

/-- A call. -/
theorem One.call {f : FuncId} {args : Array Value} {R : Ending → World → Prop} (hg : o.guard = none) (hd : o.dst = some d) (hn : Nat.blt d n = true)
    (hy : ∀ a, St n S a → true = true → (execOp a.eval o).run P w = .ok (.enter f args) w) (hc : Calls P f args w R)
    (h : ∀ e w', R e w' → ∃ v, e = .returned v ∧ N ((d, true, v) :: S) w') : One P n ops Q o S w N := fun a hs K hK => by
  have hn' : d < n := by simpa using hn
  simp only [Region.wanted, hg, if_true, Oper.wp, hy a hs rfl, Oper.upon_enter, hd]
  refine hc.mono fun e w' hr => ?_
  obtain ⟨v, rfl, hk⟩ := h e w' hr
  exact hK _ _ _ hk (hs.put hn' true v)
/-- A call whose result is not kept. -/
theorem One.call0 {f : FuncId} {args : Array Value} {R : Ending → World → Prop} (hg : o.guard = none) (hd : o.dst = none)
    (hy : ∀ a, St n S a → true = true → (execOp a.eval o).run P w = .ok (.enter f args) w) (hc : Calls P f args w R)
    (h : ∀ e w', R e w' → ∃ v, e = .returned v ∧ N S w') : One P n ops Q o S w N := fun a hs K hK => by
  simp only [Region.wanted, hg, if_true, Oper.wp, hy a hs rfl, Oper.upon_enter, hd]
  refine hc.mono fun e w' hr => ?_
  obtain ⟨v, rfl, hk⟩ := h e w' hr
  exact hK _ _ _ hk hs

/-- A call under a guard: one value, and a world that stands in a relation to the one before that holds of no change too. -/
theorem One.gcall {f : FuncId} {args : Array Value} {R : World → Prop} (hg : Gd ops S o.guard g) (hd : o.dst = some d) (hn : Nat.blt d n = true)
    (hy : ∀ a, St n S a → g = true → (execOp a.eval o).run P w = .ok (.enter f args) w) (hR : R w) (hc : g = true → Calls P f args w fun e w' => e = .returned v ∧ R w')
    (h : ∀ w', R w' → N ((d, g, v) :: S) w') : One P n ops Q o S w N := fun a hs K hK => by
  have hn' : d < n := by simpa using hn
  have hput := hs.put hn' g v
  have hw := hg.wanted hs
  rw [hw]
  cases hg' : g with
  | false =>
    rw [hg'] at hput h
    simp only [Bool.false_eq_true, if_false, hd]
    exact hK _ _ _ (h w hR) hput
  | true =>
    rw [hg'] at hput h
    simp only [if_true, Oper.wp, hy a hs hg', Oper.upon_enter, hd]
    refine (hc hg').mono fun e w' hr => ?_
    obtain ⟨rfl, hr⟩ := hr
    exact hK _ _ _ (h w' hr) hput

/-! ### A region that draws its order -/
/-- What is left of such a region, C holding of every world in between. -/
def Hops (P : Program) (n : Nat) (ops : Array Oper) (Q : Exit → Act → World → Prop) (C : World → Prop) (fuel : Nat) (listed : Array Bool) (S : Env) (w : World) : Prop := ∀ a, St n S a → wpAnyH P .any ops Q C fuel listed a w

theorem Cod.draw {id : Nat} (C : World → Prop) (hm : P.follows .mixedOrders = true) (h : Hops P n ops Q C ops.size (Array.replicate ops.size false) S w.drew) : Cod P n (.region id ops true) Q S w := fun a hs => wp_region_held hm (h a hs)

theorem Hops.take {C : World → Prop} {fuel : Nat} {listed : Array Bool} (i : Nat) (hi : ops[i]? = some o)
    (hs : (Region.noSelect ops && (Region.free .any ops listed i && (Region.ready .any ops listed).contains i)) = true)
    (hQ : ∀ c a w, Q (.panic c) (a.put o.dst (bif g then v else undef)) w → Q (.panic c) a w)
    (hg : Gd ops S o.guard g) (hd : o.dst = some d) (hn : Nat.blt d n = true) (hC : C w) (hy : ∀ w, C w → Yld P n S o g w v)
    (h : Hops P n ops Q C fuel (listed.setIfInBounds i true) ((d, g, v) :: S) w) : Hops P n ops Q C (fuel + 1) listed S w := fun a hsa => by
  simp only [Bool.and_eq_true] at hs
  have hn' : d < n := by simpa using hn
  have hput := hsa.put hn' g v
  have hw := hg.wanted hsa
  refine wpAnyH_take (v := bif g then v else undef) hi hs.1 hs.2.1 hs.2.2 hQ ?_ hC ?_
  · cases hg' : g with
    | false => rw [hg'] at hw; exact .inr ⟨hw, rfl⟩
    | true => rw [hg'] at hw; exact .inl ⟨hw, fun w' hw' => hy w' hw' a hsa hg'⟩
  · rw [hd]; exact h _ hput

theorem Hops.one {C : World → Prop} {fuel : Nat} {listed : Array Bool} (i : Nat) (hi : ops[i]? = some o) (hr : Region.ready .any ops listed = [i])
    (h : One P n ops Q o S w fun S w => C w ∧ Hops P n ops Q C fuel (listed.setIfInBounds i true) S w) : Hops P n ops Q C (fuel + 1) listed S w := fun a hs => by
  refine wpAnyH_all hr (by simp) fun j hj => ?_
  obtain rfl : j = i := by simpa using hj
  have h' := h a hs (fun a' w' => C w' ∧ wpAnyH P .any ops Q C fuel (listed.setIfInBounds j true) a' w') fun S w a hN hs' => ⟨hN.1, hN.2 a hs'⟩
  unfold wpOp
  rw [hi]
  dsimp only
  split
  · rename_i hw; rw [if_pos hw] at h'; exact .inl h'
  · rename_i hw; rw [if_neg hw] at h'; exact h'

theorem Hops.nil {C : World → Prop} {fuel : Nat} {listed : Array Bool} (hr : Region.ready .any ops listed = []) (h : ∀ a, St n S a → Q .normal a w) : Hops P n ops Q C fuel listed S w := fun a hs => wpAnyH_done hr (h a hs) _

/-! ### Code -/
theorem Cod.region {id : Nat} {l : List Oper} (h : Ops P n l.toArray Q l S w) : Cod P n (.region id l.toArray false) Q S w := fun a hs => wp_region_lit (h a hs)

theorem Cod.seq {x y : Code} (h : ∀ K : Act → World → Prop, (∀ S w, Cod P n y Q S w → ∀ a, St n S a → K a w) → Cod P n x (Exit.then K Q) S w) : Cod P n (.seq x y) Q S w :=
  fun a hs => wp_seq (h (fun a w => y.wp P Q a w) (fun _ _ hy a ha => hy a ha) a hs)

/-- Cut: x comes to states that T i tells, one of a family; y goes on from there. -/
theorem Cod.cut {x y : Code} {σ : Type} (T : σ → Env) (W : σ → World → Prop) (hx : ∀ K : Act → World → Prop, (∀ i w a, St n (T i) a → W i w → K a w) → Cod P n x (Exit.then K Q) S w)
    (hy : ∀ i w, W i w → Cod P n y Q (T i) w) : Cod P n (.seq x y) Q S w :=
  fun a hs => wp_seq (hx (fun a w => y.wp P Q a w) (fun i w a ha hw => hy i w hw a ha) a hs)

theorem Cod.skip (h : ∀ a, St n S a → Q .normal a w) : Cod P n .skip Q S w := fun a hs => wp_skip (h a hs)
theorem Cod.exit {id : Nat} (h : ∀ a, St n S a → Q (.exit id) a w) : Cod P n (.exit id) Q S w := fun a hs => wp_exit (h a hs)
theorem Cod.ret (h : ∀ a, St n S a → Q .ret a w) : Cod P n .ret Q S w := fun a hs => wp_ret (h a hs)
theorem Cod.block {id : Nat} {c : Code} (h : Cod P n c (Exit.inBlock id Q) S w) : Cod P n (.block id c) Q S w := fun a hs => wp_block (h a hs)

theorem Cod.cond {x y : Code} {t : Nat} {b : Bool} (hc : look S t = some (true, .bool b)) (h1 : b = true → Cod P n x Q S w) (h2 : b = false → Cod P n y Q S w) : Cod P n (.cond (.tmp t) x y) Q S w :=
  fun a hs => wp_cond_split (t := b) (by simpa [Act.eval] using hs.get hc) (fun h => h1 h a hs) (fun h => h2 h a hs)

theorem Cod.loop {c : Code} {σ : Type} (T : σ → Env) (W : σ → World → Prop) (μ : σ → Nat) (i₀ : σ) (h₀ : Sub S (T i₀)) (hw₀ : W i₀ w)
    (round : ∀ i w, W i w → ∀ K : Act → World → Prop, (∀ i' w' a, St n (T i') a → W i' w' → μ i' < μ i → K a w') → Cod P n c (Exit.then K Q) (T i) w) : Cod P n (.loop c) Q S w := fun a hs => by
  intro b k cs
  have key : ∀ m i a w, μ i = m → St n (T i) a → W i w →
      ∃ e a' w', Q e a' w' ∧ Arrives P (lone (b.at a (.code c :: .inLoop c :: k)) cs w) b k cs e a' w' := by
    intro m
    induction m using Nat.strongRecOn with
    | _ m ih =>
      intro i a w hm hsi hw
      obtain ⟨e, a₁, w₁, hq, harr⟩ := round i w hw (fun a' w' => ∃ i', St n (T i') a' ∧ W i' w' ∧ μ i' < μ i) (fun i' w' a' h1 h2 h3 => ⟨i', h1, h2, h3⟩) a hsi b (.inLoop c :: k) cs
      cases e with
      | normal =>
        obtain ⟨i', h1, h2, h3⟩ := hq
        obtain ⟨e₂, a₂, w₂, hq₂, harr₂⟩ := ih (μ i') (hm ▸ h3) i' a₁ w₁ rfl h1 h2
        exact ⟨e₂, a₂, w₂, hq₂, .of_steps (Steps.trans harr (.one step_inLoop)) harr₂⟩
      | exit id => exact ⟨_, a₁, w₁, hq, .pass (x := .inLoop c) rfl (fun _ _ => .inl (by simp)) harr⟩
      | goto l => exact ⟨_, a₁, w₁, hq, .pass (x := .inLoop c) rfl (fun _ _ => .inl (by simp)) harr⟩
      | ret => exact ⟨_, a₁, w₁, hq, .pass (x := .inLoop c) rfl (fun _ _ => .inl (by simp)) harr⟩
      | panic ch => exact ⟨_, a₁, w₁, hq, .pass (x := .inLoop c) rfl (fun _ _ => .inl (by simp)) harr⟩
      | outgrown => exact ⟨_, a₁, w₁, hq, .pass (x := .inLoop c) rfl (fun _ _ => .inl (by simp)) harr⟩
  obtain ⟨e, a', w', hq, harr⟩ := key _ i₀ a w rfl (hs.sub h₀) hw₀
  exact ⟨e, a', w', hq, .of_steps (.one step_loop) harr⟩

theorem Exit.inBlock_hit {id : Nat} {a : Act} (h : Q .normal a w) : Exit.inBlock id Q (.exit id) a w := by simpa [Exit.inBlock] using h

/-! ### Entry and return -/
/-- The slots at a call's begin: its arguments. -/
def argEnv : Nat → List Value → Env
  | _, [] => []
  | k, v :: r => (k, true, v) :: argEnv (k + 1) r

theorem look_argEnv : ∀ (l : List Value) (k d : Nat) (cv : Bool × Value), look (argEnv k l) d = some cv → k ≤ d ∧ l[d - k]? = some cv.2 ∧ cv.1 = true
  | [], _, _, _, h => by simp [argEnv, look] at h
  | v :: r, k, d, cv, h => by
    by_cases hk : k = d
    · subst hk
      rw [argEnv, look_cons_eq] at h
      obtain rfl := Option.some.inj h
      exact ⟨Nat.le_refl _, by simp, rfl⟩
    · rw [argEnv, look_cons_ne _ _ hk] at h
      obtain ⟨h1, h2, h3⟩ := look_argEnv r (k + 1) d cv h
      refine ⟨by omega, ?_, h3⟩
      rw [show d - k = (d - (k + 1)) + 1 by omega]
      simpa using h2

theorem enter {f : FuncId} {fn : Func} {c : Code} {l : List Value} {R : Ending → World → Prop} (hf : P.funcs[f]? = some fn) (hb : fn.body = some c) (hn : fn.ntmps = n) (hl : Nat.ble l.length n = true)
    (h : Cod P n c (bodyPost P fn R) (argEnv 0 l) w) : Calls P f l.toArray w R := by
  have hl' : l.length ≤ n := by simpa using hl
  refine calls_of_wp hf hb (h _ ⟨?_, rfl, fun d c v he => ?_⟩)
  · simp [hn]; omega
  · obtain ⟨_, h2, h3⟩ := look_argEnv l 0 d (c, v) he
    simp only at h2 h3
    subst h3
    have hlt : d < l.length := (List.getElem?_eq_some_iff.1 h2).1
    simp only [cond_true]
    rw [Array.getElem?_append_left (by simpa using hlt)]
    simpa using h2

theorem ret1 {fn : Func} {t : Tmp} {R : Ending → World → Prop} {a : Act} (h : fn.results = #[.tmp t]) (hs : St n S a) (hv : look S t = some (true, v)) (hR : R (.returned v) w) : bodyPost P fn R .ret a w :=
  ⟨hs.df, v, by rw [results_tmp h, hs.get hv], hR⟩
theorem ret1n {fn : Func} {t : Tmp} {R : Ending → World → Prop} {a : Act} (h : fn.results = #[.tmp t]) (hs : St n S a) (hv : look S t = some (true, v)) (hR : R (.returned v) w) : bodyPost P fn R .normal a w :=
  ⟨hs.df, v, by rw [results_tmp h, hs.get hv], hR⟩
theorem ret2 {fn : Func} {t u : Tmp} {v' : Value} {R : Ending → World → Prop} {a : Act} (h : fn.results = #[.tmp t, .tmp u]) (hs : St n S a) (hv : look S t = some (true, v)) (hv' : look S u = some (true, v')) (hR : R (.returned (.tuple #[v, v'])) w) : bodyPost P fn R .ret a w :=
  ⟨hs.df, _, by rw [results_tmp2 h, hs.get hv, hs.get hv'], hR⟩
theorem ret0 {fn : Func} {R : Ending → World → Prop} {a : Act} (h : fn.results = #[]) (hs : St n S a) (hR : R (.returned (.tuple #[])) w) : bodyPost P fn R .normal a w :=
  ⟨hs.df, _, by rw [results_none h], hR⟩
end
end Go.Proofs.YtpfkcblhojkaiaaDoor.Eng
