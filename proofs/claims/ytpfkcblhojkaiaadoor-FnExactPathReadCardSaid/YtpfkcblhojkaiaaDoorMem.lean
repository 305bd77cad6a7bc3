/- Memory as a list of owned things, and the operations that turn it. No statement of the seat is proved here. -/
import Derived.Test.YtpfkcblhojkaiaaDoorYld
import Derived.Maps.AppendAt
import Derived.Deep.AppendLies
import Derived.Deep.AppendSrc
import Derived.Laws.MakeOwn
import Derived.Laws.OwnMore
import Derived.Great.BuildSlice
namespace Go.Proofs.YtpfkcblhojkaiaaDoor.Eng
open Go.RowKit
set_option linter.unusedVariables false
set_option linter.unusedSimpArgs false

/-- From w to w' nothing that was there turns, but in blocks of X. -/
structure Chg (X : Nat → Prop) (w w' : World) : Prop where
  os : w'.os = w.os
  tape : w'.tape = w.tape
  output : w'.output = w.output
  size : w.heap.size ≤ w'.heap.size
  block : ∀ k, k < w.heap.size → ¬ X k → w'.heap[k]? = w.heap[k]?

abbrev No : Nat → Prop := fun _ => False

theorem Chg.refl (X : Nat → Prop) (w : World) : Chg X w w := ⟨rfl, rfl, rfl, Nat.le_refl _, fun _ _ _ => rfl⟩
theorem Chg.trans {X : Nat → Prop} {a b c : World} (h : Chg X a b) (k : Chg X b c) : Chg X a c :=
  ⟨k.os.trans h.os, k.tape.trans h.tape, k.output.trans h.output, Nat.le_trans h.size k.size, fun i hi hx => (k.block i (Nat.lt_of_lt_of_le hi h.size) hx).trans (h.block i hi hx)⟩
theorem Chg.mono {X Y : Nat → Prop} {a b : World} (h : Chg X a b) (hxy : ∀ k, k < a.heap.size → X k → Y k) : Chg Y a b := ⟨h.os, h.tape, h.output, h.size, fun i hi hy => h.block i hi fun hx => hy (hxy i hi hx)⟩
theorem Chg.of_no {X : Nat → Prop} {a b : World} (h : Chg No a b) : Chg X a b := h.mono fun _ _ h => h.elim
/-- Two steps; what the second turns is new or may be turned. -/
theorem Chg.trans2 {X Y Z : Nat → Prop} {a b c : World} (h : Chg X a b) (k : Chg Y b c) (hx : ∀ i, i < a.heap.size → X i → Z i) (hy : ∀ i, i < a.heap.size → Y i → Z i) : Chg Z a c :=
  ⟨k.os.trans h.os, k.tape.trans h.tape, k.output.trans h.output, Nat.le_trans h.size k.size, fun i hi hz => (k.block i (Nat.lt_of_lt_of_le hi h.size) fun h' => hz (hy i hi h')).trans (h.block i hi fun h' => hz (hx i hi h'))⟩
theorem Chg.below {w w' : World} (h : Chg No w w') : Below w.heap.size w w' := ⟨h.os, h.tape, h.output, h.size, fun k hk => h.block k hk id⟩
theorem Chg.drew (w : World) : Chg No w w.drew := ⟨rfl, rfl, rfl, Nat.le_refl _, fun _ _ _ => rfl⟩
theorem Chg.alloc (w : World) (o : Obj) : Chg No w (w.alloc o) := ⟨rfl, rfl, rfl, by simp, fun k hk _ => Below.heap_alloc w o k hk⟩
theorem Chg.grown {w w' : World} {row : Option Nat} (h : w.grownBy w' row) : Chg (fun k => row = some k) w w' := ⟨h.os, h.tape, h.output, h.size, fun k hk hx => h.block k hk fun e => hx e.symm⟩

theorem blk_lt {w : World} {b : Nat} {o : Obj} (h : w.heap[b]? = some o) : b < w.heap.size := (Array.getElem?_eq_some_iff.1 h).1
theorem cell_lt {w : World} {a : Addr} {v : Value} (h : w.cell? a = some v) : a.block < w.heap.size := by
  unfold World.cell? at h
  split at h
  · rename_i c e f hb; exact blk_lt hb
  · cases h
theorem Chg.cell {X : Nat → Prop} {w w' : World} (h : Chg X w w') {a : Addr} {v : Value} (hc : w.cell? a = some v) (hx : ¬ X a.block) : w'.cell? a = some v := by
  rw [World.cell?_of_block (w := w) (h.block _ (cell_lt hc) hx)]; exact hc

theorem rng_chg {X : Nat → Prop} {w w' : World} {b o : Nat} {cs : List Value} (hr : w.rangeAt b o cs) (h : Chg X w w') (hx : ¬ X b) : w'.rangeAt b o cs := fun j v hj => h.cell (hr j v hj) hx
theorem rng {w w' : World} {b o : Nat} {cs : List Value} (hr : w.rangeAt b o cs) (h : Chg No w w') : w'.rangeAt b o cs := rng_chg hr h id
theorem ret_i {k : IntKind} {a b : Int} (h : a = b) : Ending.returned (.int k a) = .returned (.int k b) := by rw [h]
theorem ret_b {a b : Bool} (h : a = b) : Ending.returned (.bool a) = .returned (.bool b) := by rw [h]

/-! ### Owned things -/
structure Res where
  fp : Nat → Prop
  is : World → Prop
  keep : ∀ w w', (∀ k, k < w.heap.size → fp k → w'.heap[k]? = w.heap[k]?) → is w → is w'
  lt : ∀ w, is w → ∀ k, fp k → k < w.heap.size

def Mem : List Res → World → Prop
  | [], _ => True
  | r :: L, w => r.is w ∧ (∀ k, r.fp k → ∀ q ∈ L, ¬ q.fp k) ∧ Mem L w

structure Fr (X : Nat → Prop) (w0 : World) (L : List Res) (w : World) : Prop where
  chg : Chg X w0 w
  mem : Mem L w
  dom : ∀ r ∈ L, ∀ k, r.fp k → X k ∨ w0.heap.size ≤ k

abbrev C_of {X : Nat → Prop} {w0 : World} {L : List Res} {w : World} (_ : Fr X w0 L w) : World → Prop := fun w => Fr X w0 L w

theorem Mem.get {w : World} : ∀ {L : List Res} (i : Nat) {r : Res}, L[i]? = some r → Mem L w → r.is w
  | [], i, r, h, _ => by simp at h
  | q :: L, 0, r, h, hm => by simp at h; subst h; exact hm.1
  | q :: L, i + 1, r, h, hm => Mem.get i (by simpa using h) hm.2.2

theorem Mem.all {w w' : World} : ∀ {L : List Res}, Mem L w → (∀ r ∈ L, r.is w → r.is w') → Mem L w'
  | [], _, _ => trivial
  | q :: L, hm, h => ⟨h q (by simp) hm.1, hm.2.1, Mem.all hm.2.2 fun r hr => h r (by simp [hr])⟩

theorem Mem.is {w : World} : ∀ {L : List Res}, Mem L w → ∀ r ∈ L, r.is w
  | [], _, r, hr => by simp at hr
  | q :: L, hm, r, hr => by
    rcases List.mem_cons.1 hr with rfl | hr
    · exact hm.1
    · exact Mem.is hm.2.2 r hr

/-- Only blocks outside all footprints turn: all stays. -/
theorem Mem.keep {Y : Nat → Prop} {L : List Res} {w w' : World} (hm : Mem L w) (hc : Chg Y w w') (hd : ∀ r ∈ L, ∀ k, r.fp k → ¬ Y k) : Mem L w' :=
  hm.all fun r hr hi => r.keep w w' (fun k hk hf => hc.block k hk (hd r hr k hf)) hi

/-- One thing turns within its footprint and new blocks. -/
theorem Mem.set {Y : Nat → Prop} {w w' : World} {r' : Res} (hc : Chg Y w w') (hr' : r'.is w') : ∀ {L : List Res} (i : Nat) {r : Res}, L[i]? = some r → Mem L w → (∀ k, Y k → r.fp k ∨ w.heap.size ≤ k) → (∀ k, r'.fp k → r.fp k ∨ w.heap.size ≤ k) → Mem (L.set i r') w'
  | [], i, r, h, _, _, _ => by simp at h
  | q :: L, 0, r, h, hm, hy, hf => by
    simp at h; subst h
    refine ⟨hr', fun k hk p hp hpk => ?_, hm.2.2.keep hc fun p hp k hpk hyk => ?_⟩
    · rcases hf k hk with h | h
      · exact hm.2.1 k h p hp hpk
      · have := p.lt w (hm.2.2.is p hp) k hpk; omega
    · rcases hy k hyk with h | h
      · exact hm.2.1 k h p hp hpk
      · have := p.lt w (hm.2.2.is p hp) k hpk; omega
  | q :: L, i + 1, r, h, hm, hy, hf => by
    have h' : L[i]? = some r := by simpa using h
    have hrL : r ∈ L := List.mem_of_getElem? h'
    have hq : ∀ k, q.fp k → ¬ Y k := fun k hk hyk => by
      rcases hy k hyk with h | h
      · exact hm.2.1 k hk r hrL h
      · have := q.lt w hm.1 k hk; omega
    refine ⟨q.keep w w' (fun k hk hfk => hc.block k hk (hq k hfk)) hm.1, fun k hk p hp hpk => ?_, Mem.set hc hr' i h' hm.2.2 hy hf⟩
    rcases List.mem_or_eq_of_mem_set hp with hp | rfl
    · exact hm.2.1 k hk p hp hpk
    · rcases hf k hpk with h | h
      · exact hm.2.1 k hk r hrL h
      · have := q.lt w hm.1 k hk; omega

section
variable {X : Nat → Prop} {w0 w w' : World} {L : List Res}

theorem Fr.start (w : World) : Fr No w [] w := ⟨Chg.refl _ _, trivial, fun r hr => by simp at hr⟩
theorem Fr.get (h : Fr X w0 L w) (i : Nat) {r : Res} (hi : L[i]? = some r) : r.is w := h.mem.get i hi
theorem Fr.call (h : Fr X w0 L w) (hc : Chg No w w') : Fr X w0 L w' := ⟨h.chg.trans hc.of_no, h.mem.keep hc fun _ _ _ _ h => h, h.dom⟩
theorem Fr.drew (h : Fr X w0 L w) : Fr X w0 L w.drew := h.call (Chg.drew w)
/-- New memory. -/
theorem Fr.new (h : Fr X w0 L w) (hc : Chg No w w') (r : Res) (hr : r.is w') (hb : ∀ k, r.fp k → w.heap.size ≤ k) : Fr X w0 (r :: L) w' := by
  have h1 := h.call hc
  refine ⟨h1.chg, ⟨hr, fun k hk q hq hqk => ?_, h1.mem⟩, fun q hq k hk => ?_⟩
  · have h2 := hb k hk
    have h3 := q.lt w (h.mem.is q hq) k hqk
    omega
  · rcases List.mem_cons.1 hq with rfl | hq
    · right; have := hb k hk; have := h.chg.size; omega
    · exact h.dom q hq k hk
/-- One thing turns. -/
theorem Fr.upd {Y : Nat → Prop} (h : Fr X w0 L w) (i : Nat) {r : Res} (hi : L[i]? = some r) (hc : Chg Y w w') (hy : ∀ k, Y k → r.fp k ∨ w.heap.size ≤ k) (r' : Res) (hr' : r'.is w') (hf : ∀ k, r'.fp k → r.fp k ∨ w.heap.size ≤ k) : Fr X w0 (L.set i r') w' := by
  have hrL := List.mem_of_getElem? hi
  have hd : ∀ k, r.fp k ∨ w.heap.size ≤ k → X k ∨ w0.heap.size ≤ k := fun k hk => by
    rcases hk with hk | hk
    · exact h.dom r hrL k hk
    · right; have := h.chg.size; omega
  refine ⟨h.chg.trans2 hc (fun _ _ hx => hx) (fun k hk hyk => ?_), h.mem.set hc hr' i hi hy hf, fun q hq k hk => ?_⟩
  · rcases hd k (hy k hyk) with h | h
    · exact h
    · omega
  · rcases List.mem_or_eq_of_mem_set hq with hq | rfl
    · exact h.dom q hq k hk
    · exact hd k (hf k hk)

/-- Things are told otherwise, in the same world: each new one out of old ones. -/
theorem Fr.tell (h : Fr X w0 L w) (L' : List Res) (hm : Mem L' w) (hd : ∀ r ∈ L', ∀ k, r.fp k → ∃ q ∈ L, q.fp k) : Fr X w0 L' w :=
  ⟨h.chg, hm, fun r hr k hk => by obtain ⟨q, hq, hqk⟩ := hd r hr k hk; exact h.dom q hq k hqk⟩

/-- A thing is dropped. -/
theorem Fr.drop1 {r : Res} (h : Fr X w0 (r :: L) w) : Fr X w0 L w := h.tell L h.mem.2.2 fun q hq k hk => ⟨q, by simp [hq], hk⟩
end

/-! ### A block of cells -/
def blk (b : Nat) (ty : TypeId) (cs : List Value) : Res where
  fp := (· = b)
  is w := w.heap[b]? = some (.cells cs.toArray ty (0, 0))
  keep w w' h hi := (h b (blk_lt hi) rfl).trans hi
  lt w hi k hk := by subst hk; exact blk_lt hi

section
variable {X : Nat → Prop} {w0 w w' : World} {L : List Res}
theorem blk_cell {b ty} {cs : List Value} (h : (blk b ty cs).is w) {j : Nat} {v : Value} (hv : cs[j]? = some v) : w.cell? ⟨b, j, none⟩ = some v := by
  have h' : w.heap[b]? = some (.cells cs.toArray ty (0, 0)) := h
  simp [World.cell?, h', hv]
theorem blk_range {b ty} {cs cs' : List Value} (h : (blk b ty cs).is w) {q m : Nat} (hv : (cs.drop q).take m = cs') : w.rangeAt b q cs' := fun j v hj => by
  refine blk_cell h ?_
  subst hv
  rw [List.getElem?_take] at hj
  split at hj
  · simpa [List.getElem?_drop] using hj
  · cases hj
theorem Fr.cell (h : Fr X w0 L w) (i : Nat) {b ty j} {cs : List Value} {v : Value} (hi : L[i]? = some (blk b ty cs)) (hv : cs[j]? = some v) : w.cell? ⟨b, j, none⟩ = some v := blk_cell (h.get i hi) hv
theorem Fr.range (h : Fr X w0 L w) (i : Nat) {b ty q m} {cs cs' : List Value} (hi : L[i]? = some (blk b ty cs)) (hv : (cs.drop q).take m = cs') : w.rangeAt b q cs' := blk_range (h.get i hi) hv

theorem Fr.alloc (h : Fr X w0 L w) (ty : TypeId) (cs : List Value) : Fr X w0 (blk w.heap.size ty cs :: L) (w.alloc (.cells cs.toArray ty)) :=
  h.new (Chg.alloc w _) (blk w.heap.size ty cs) (heap_alloc_new w _) fun k hk => by have h1 : k = w.heap.size := hk; omega

/-- A block that was there, lent. -/
theorem Fr.borrow {b ty} {cs : List Value} (h : (blk b ty cs).is w) : Fr (· = b) w [blk b ty cs] w := ⟨Chg.refl _ _, ⟨h, fun _ _ _ hq => by simp at hq, trivial⟩, fun r hr k hk => by simp at hr; subst hr; exact .inl hk⟩

theorem Chg.setCell (w : World) (a : Addr) (v : Value) : Chg (· = a.block) w (w.setCell a v) := ⟨rfl, rfl, rfl, by simp [World.setCell], fun k _ hx => Below.heap_setCell w a v k hx⟩

theorem blk_setCell {b ty j} {cs : List Value} (h : (blk b ty cs).is w) (v : Value) : (blk b ty (cs.set j v)).is (w.setCell ⟨b, j, none⟩ v) := by
  have h' : w.heap[b]? = some (.cells cs.toArray ty (0, 0)) := h
  show (w.setCell ⟨b, j, none⟩ v).heap[b]? = _
  simp [World.setCell, Array.getElem?_modify, h']

theorem Fr.setCell (h : Fr X w0 L w) (i : Nat) {b ty j} {cs : List Value} (hi : L[i]? = some (blk b ty cs)) (v : Value) : Fr X w0 (L.set i (blk b ty (cs.set j v))) (w.setCell ⟨b, j, none⟩ v) :=
  h.upd i hi (Chg.setCell w ⟨b, j, none⟩ v) (fun _ hk => Or.inl hk) _ (blk_setCell (h.get i hi) v) fun _ hk => Or.inl hk

theorem Chg.setCells (b : Nat) : ∀ (vs : List Value) (o : Nat) (w : World), Chg (· = b) w (w.setCells b o vs)
  | [], _, w => Chg.refl _ w
  | v :: vs, o, w => (Chg.setCell w ⟨b, o, none⟩ v).trans (Chg.setCells b vs (o + 1) _)

/-- A list, from q on overwritten. -/
def putAt (cs : List Value) (q : Nat) : List Value → List Value
  | [] => cs
  | v :: vs => putAt (cs.set q v) (q + 1) vs

theorem blk_setCells {b ty} : ∀ (vs : List Value) (q : Nat) (w : World) (cs : List Value), (blk b ty cs).is w → (blk b ty (putAt cs q vs)).is (w.setCells b q vs)
  | [], _, _, _, h => h
  | v :: vs, q, _, _, h => blk_setCells vs (q + 1) _ _ (blk_setCell (j := q) h v)

theorem putAt_length : ∀ (vs : List Value) (cs : List Value) (q : Nat), (putAt cs q vs).length = cs.length
  | [], _, _ => rfl
  | v :: vs, cs, q => by rw [putAt, putAt_length vs]; simp

theorem Fr.setCells (h : Fr X w0 L w) (i : Nat) {b ty q} {cs : List Value} (hi : L[i]? = some (blk b ty cs)) (vs : List Value) : Fr X w0 (L.set i (blk b ty (putAt cs q vs))) (w.setCells b q vs) :=
  h.upd i hi (Chg.setCells b vs q w) (fun _ hk => Or.inl hk) _ (blk_setCells vs q w cs (h.get i hi)) fun _ hk => Or.inl hk
end

/-! ### The operations -/
section
variable {P : Program} {n : Nat} {ops : Array Oper} {Q : Exit → Act → World → Prop} {S : Env} {o : Oper} {d : Nat} {g : Bool} {v : Value} {N : Env → World → Prop} {X : Nat → Prop} {w0 w : World} {L : List Res} {x y : Operand}

theorem One.alloc {ty : TypeId} {z : Value} (F : Fr X w0 L w) (hz : (P.info? ty).bind (·.zero) = some z) (hg : o.guard = none) (hd : o.dst = some d) (hn : Nat.blt d n = true) (ho : o.op = .alloc ty)
    (h : ∀ b w', w.heap.size = b → Fr X w0 (blk b ty z.cells.toList :: L) w' → N ((d, true, .pointer (some ⟨b, 0, none⟩)) :: S) w') : One P n ops Q o S w N := by
  refine One.wrd (w' := w.alloc (.cells z.cells ty)) (v := .pointer (some ⟨w.heap.size, 0, none⟩)) hg hd hn (fun a _ => ?_) (h _ _ rfl (by have := F.alloc ty z.cells.toList; simpa using this))
  cases hi : P.info? ty with
  | none => simp [hi] at hz
  | some i =>
    simp [hi] at hz
    simp [execOp, ho, Instr.alloc, zeroValue, typeInfo, hi, hz, newVar, newRow]

theorem One.box {ty : TypeId} (F : Fr X w0 L w) (hg : o.guard = none) (hd : o.dst = some d) (hn : Nat.blt d n = true) (ho : o.op = .box ty x) (hx : Ev S true x v)
    (h : ∀ b w', w.heap.size = b → Fr X w0 (blk b ty v.cells.toList :: L) w' → N ((d, true, .pointer (some ⟨b, 0, none⟩)) :: S) w') : One P n ops Q o S w N := by
  refine One.wrd (w' := w.alloc (.cells v.cells ty)) (v := .pointer (some ⟨w.heap.size, 0, none⟩)) hg hd hn (fun a hs => ?_) (h _ _ rfl (by have := F.alloc ty v.cells.toList; simpa using this))
  have ex := hx n a hs rfl
  generalize a.eval = ρ at ex ⊢
  simp [execOp, ho, ex, Instr.box, newVar, newRow]

/-- What a store of one cell comes to. -/
theorem run_store1 {ty : TypeId} {ad : Addr} (ht : sizeT P ty 1 = true) (hv : v.oneCell' = true) (hc : (w.cell? ad).isSome = true) (hf : w.frozen? ad = false) : (Instr.storeAt ty (.pointer (some ad)) v).run P w = .ok () (w.setCell ad v) := by
  obtain ⟨u, hu⟩ := Option.isSome_iff_exists.1 hc
  have hcell : v.cells = #[v] := by cases v <;> simp_all [Value.oneCell', Value.cells]
  have hs := sizeT_size ht
  cases hi : P.info? ty with
  | none => simp [hi] at hs
  | some i =>
    have hs' : i.size = 1 := by simpa [hi] using hs
    simp [Instr.storeAt, Instr.sureAddr, storeVar, sizeOf, typeInfo, hi, hcell, hs', storeCells, Addr.add_zero', run_store P w ad v _ hv, hu, hf]

theorem One.store1 {ty ty' : TypeId} {b j : Nat} {cs : List Value} (F : Fr X w0 L w) (i : Nat) (hi : L[i]? = some (blk b ty' cs)) (ht : sizeT P ty 1 = true) (hg : o.guard = none) (hd : o.dst = none) (ho : o.op = .store ty x y)
    (hx : Ev S true x (.pointer (some ⟨b, j, none⟩))) (hj : Nat.blt j cs.length = true) (hy : Ev S true y v) (hv : v.oneCell' = true)
    (h : ∀ w', Fr X w0 (L.set i (blk b ty' (cs.set j v))) w' → N S w') : One P n ops Q o S w N := by
  refine One.skp (w' := w.setCell ⟨b, j, none⟩ v) hg hd (fun a hs => ?_) (h _ (F.setCell i hi v))
  have hlt : j < cs.length := by simpa using hj
  have ex := hx n a hs rfl
  have ey := hy n a hs rfl
  generalize a.eval = ρ at ex ey ⊢
  have hb : w.heap[b]? = some (.cells cs.toArray ty' (0, 0)) := F.get i hi
  have hr := run_store1 (P := P) (w := w) (ad := ⟨b, j, none⟩) ht hv (by rw [F.cell i hi (List.getElem?_eq_getElem hlt)]; rfl) (by simp [World.frozen?, hb])
  simp [execOp, ho, ex, ey, hr]

theorem One.storeN {ty ty' : TypeId} {b q m : Nat} {cs vs : List Value} (F : Fr X w0 L w) (i : Nat) (hi : L[i]? = some (blk b ty' cs)) (ht : sizeT P ty m = true) (hg : o.guard = none) (hd : o.dst = none) (ho : o.op = .store ty x y)
    (hx : Ev S true x (.pointer (some ⟨b, q, none⟩))) (hy : Ev S true y (.agg vs.toArray)) (hm : vs.length = m) (hj : Nat.ble (q + m) cs.length = true) (hv : vs.all (·.oneCell') = true)
    (h : ∀ w', Fr X w0 (L.set i (blk b ty' (putAt cs q vs))) w' → N S w') : One P n ops Q o S w N := by
  refine One.skp (w' := w.setCells b q vs) hg hd (fun a hs => ?_) (h _ (F.setCells i hi vs))
  have hle : q + m ≤ cs.length := by simpa using hj
  have ex := hx n a hs rfl
  have ey := hy n a hs rfl
  generalize a.eval = ρ at ex ey ⊢
  have hb : w.heap[b]? = some (.cells cs.toArray ty' (0, 0)) := F.get i hi
  have hr := run_storeAt_mid (P := P) w b q ty vs.toArray (fun j hj => ⟨by
    rw [F.cell i hi (List.getElem?_eq_getElem (show q + j < cs.length by simp at hj; omega))]; rfl, by simp [World.frozen?, hb]⟩) (by rw [sizeT_size ht]; simp [hm]) (all_oneCell_toArray (fun v hv' => (List.all_eq_true.1 hv) v hv'))
  simp [execOp, ho, ex, ey, hr]
end
end Go.Proofs.YtpfkcblhojkaiaaDoor.Eng
