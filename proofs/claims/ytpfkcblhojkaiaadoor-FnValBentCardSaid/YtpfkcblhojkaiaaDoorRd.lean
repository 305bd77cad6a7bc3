/- A reader of bytes that a call draws from: what it holds, what turns, and what comes of it. No statement of the seat is proved here. -/
import Derived.Test.YtpfkcblhojkaiaaDoorCom
import Derived.Test.YtpfkcblhojkaiaaDoorIns
import Derived.Laws.Bits64
namespace Go.Proofs.YtpfkcblhojkaiaaDoor.Eng
open Go.RowKit
set_option linter.unusedVariables false
set_option linter.unusedSimpArgs false

def bCells (c : UInt8) : List Value := [.int .u8 (c.toNat : Int)]
def jCells (i : Int) : List Value := [.int .i64 i]
/-- A reader: it stands at a place up to so far. -/
def rd (b : Nat) (cv : Value) (lim : Nat) : Res where
  fp := (· = b)
  is w := ∃ p : Nat, p ≤ lim ∧ w.heap[b]? = some (.cells [cv, .int .i64 (p : Int)].toArray 118 (0, 0))
  keep w w' h hi := by
    obtain ⟨p, hp, hb⟩ := hi
    exact ⟨p, hp, (h b (blk_lt hb) rfl).trans hb⟩
  lt w hi k hk := by
    obtain ⟨p, hp, hb⟩ := hi
    subst hk; exact blk_lt hb
/-- The bytes of a reader lie elsewhere. -/
def Code (b : Nat) (w : World) (cv : Value) : Prop := ∃ code : List UInt8, RepE bCells 1 (fun k => k ≠ b) w code cv
theorem Code.keep {b : Nat} {w w' : World} {cv : Value} (h : Code b w cv) (hc : Chg (· = b) w w') : Code b w' cv := by
  obtain ⟨code, hr⟩ := h
  exact ⟨code, RepE.keep hr fun k hk hF => hc.block k hk hF⟩
theorem Code.chg {b : Nat} {w w' : World} {cv : Value} (h : Code b w cv) (hc : Chg No w w') : Code b w' cv := h.keep hc.of_no
theorem Chg.up {b : Nat} {w w' : World} (h : Chg (· = b) w w') : Chg (· = b) w w' := h
theorem Chg.any {b : Nat} {w w' : World} (h : Chg No w w') : Chg (· = b) w w' := h.of_no
section
variable {X : Nat → Prop} {w0 w w' : World} {L : List Res} {b : Nat} {cv : Value} {lim : Nat}
theorem Fr.rdUp (F : Fr X w0 L w) (i : Nat) (hi : L[i]? = some (rd b cv lim)) (lim' : Nat) (h : lim ≤ lim') : Fr X w0 (L.set i (rd b cv lim')) w :=
  F.upd i hi (Chg.refl No w) (fun _ h => h.elim) (rd b cv lim') (by
    obtain ⟨p, hp, hb⟩ := F.get i hi
    exact ⟨p, by omega, hb⟩) fun _ hk => .inl hk
/-- One thing turns, another one is new. -/
theorem Fr.updNew {Y : Nat → Prop} (F : Fr X w0 L w) (i : Nat) {r : Res} (hi : L[i]? = some r) (hc : Chg Y w w') (hy : ∀ k, Y k → r.fp k) (r' : Res) (hr' : r'.is w') (hf : ∀ k, r'.fp k → r.fp k) (q : Res) (hq : q.is w') (hb : ∀ k, q.fp k → w.heap.size ≤ k) : Fr X w0 (q :: L.set i r') w' := by
  have h1 := F.upd i hi hc (fun k hk => .inl (hy k hk)) r' hr' (fun k hk => .inl (hf k hk))
  refine ⟨h1.chg, ⟨hq, fun k hk s hs hsk => ?_, h1.mem⟩, fun s hs k hk => ?_⟩
  · have h2 := hb k hk
    rcases List.mem_or_eq_of_mem_set hs with hs | rfl
    · have := s.lt w (F.mem.is s hs) k hsk; omega
    · have := r.lt w (F.get i hi) k (hf k hsk); omega
  · rcases List.mem_cons.1 hs with rfl | hs
    · right; have := hb k hk; have := F.chg.size; omega
    · exact h1.dom s hs k hk
theorem Fr.apart' (F : Fr X w0 L w) (i j : Nat) {r q : Res} (hi : L[i]? = some r) (hj : L[j]? = some q) (hij : j ≠ i) : ∀ k, r.fp k → ¬ q.fp k := fun k hk =>
  Mem.apart i hi F.mem q (List.mem_eraseIdx_iff_getElem?.2 ⟨j, hij, hj⟩) k hk
/-- A literal row, beside a reader. -/
theorem Fr.lit {α : Type} {enc : α → List Value} {sz ty bl : Nat} (he : ∀ x, (enc x).length = sz) (F : Fr X w0 L w) (j i : Nat) (hij : i ≠ j) {xs : List α} (hj : L[j]? = some (blk bl ty (xs.flatMap enc))) (hi : L[i]? = some (rd b cv lim)) (hc' : xs.length ≤ 9223372036854775807) : RepE enc sz (fun k => k ≠ b) w xs (.slice (some ⟨bl, 0, none⟩) xs.length xs.length) :=
  (blk_rep he (F.get j hj) (Nat.le_refl _) hc').weak fun k hk e => F.apart' j i hj hi hij k hk e
/-- A drawn tree: new memory, the reader gone on. -/
def Drew (b : Nat) (cv : Value) (lim : Nat) (w : World) (p : Tr → Prop) (e : Ending) (w' : World) : Prop :=
  ∃ (x : V5) (G : Nat → Prop) (t : Tr), e = .returned x.val ∧ Chg (· = b) w w' ∧ (rd b cv lim).is w' ∧ Sep w' G t x.val ∧ (∀ k, G k → w.heap.size ≤ k) ∧ p t
theorem Drew.of {x : V5} {G : Nat → Prop} {t : Tr} {lim1 : Nat} {p : Tr → Prop} {L : List Res} (F : Fr (· = b) w0 L w) (i j : Nat) (hi : L[i]? = some (rd b cv lim1)) (hj : L[j]? = some (sep G t x.val)) (hij : i ≠ j) (hle : lim1 ≤ lim) (hp : p t) : Drew b cv lim w0 p (.returned x.val) w := by
  refine ⟨x, G, t, rfl, F.chg, ?_, F.get j hj, fun k hk => ?_, hp⟩
  · obtain ⟨q, hq, hb⟩ := F.get i hi
    exact ⟨q, by omega, hb⟩
  · rcases F.dom _ (List.mem_of_getElem? hj) k hk with h | h
    · exact absurd h (F.apart' j i hj hi hij k hk)
    · exact h
/-- What laws need of a drawn tree. -/
structure Dr (t : Tr) : Prop where
  fit : t.Fit
  wt : t.wt ≤ 20000
  len : t.list.length ≤ 5
end
section
variable {P : Program} {n : Nat} {S : Env} {o : Oper} {g : Bool} {v : Value} {w : World} {x y z : Operand} {t t' : TypeId}
theorem yld_remI {iI jI : Int} (i j : Nat) (ho : o.op = .binOp .rem t x y t') (hx : Ev S g x (.int .i64 iI)) (hy : Ev S g y (.int .i64 jI)) (hi : iI = (i : Int)) (hj : jI = (j : Int)) (h0 : 0 < j) : Yld P n S o g w (.int .i64 ((i % j : Nat) : Int)) := by
  subst hi; subst hj
  exact yld_rem ho hx hy h0
theorem yld_quoI {iI jI : Int} (i j : Nat) (ho : o.op = .binOp .quo t x y t') (hx : Ev S g x (.int .i64 iI)) (hy : Ev S g y (.int .i64 jI)) (hi : iI = (i : Int)) (hj : jI = (j : Int)) (h0 : 0 < j) (h1 : i ≤ 9223372036854775807) : Yld P n S o g w (.int .i64 ((i / j : Nat) : Int)) := by
  subst hi; subst hj
  exact yld_quo ho hx hy h0 h1
theorem yld_quoQ {iI jI : Int} (i j q : Nat) (hq : i / j = q) (ho : o.op = .binOp .quo t x y t') (hx : Ev S g x (.int .i64 iI)) (hy : Ev S g y (.int .i64 jI)) (hi : iI = (i : Int)) (hj : jI = (j : Int)) (h0 : 0 < j) (h1 : i ≤ 9223372036854775807) : Yld P n S o g w (.int .i64 (q : Int)) := by
  subst hq
  exact yld_quoI i j ho hx hy hi hj h0 h1
theorem bits_xor_i64 (a b : Nat) (ha : a < 9223372036854775808) (hb : b < 9223372036854775808) : bits .xor .i64 (a : Int) (b : Int) = ((a ^^^ b : Nat) : Int) := by
  have hx : a ^^^ b < 2 ^ 63 := Nat.xor_lt_two_pow (by omega) (by omega)
  have h1 : (BitVec.ofInt 64 (a : Int)).toNat = a := by rw [BitVec.ofInt_natCast, BitVec.toNat_ofNat]; exact Nat.mod_eq_of_lt (by omega)
  have h2 : (BitVec.ofInt 64 (b : Int)).toNat = b := by rw [BitVec.ofInt_natCast, BitVec.toNat_ofNat]; exact Nat.mod_eq_of_lt (by omega)
  show IntKind.i64.wrap ((BitVec.ofInt 64 (a : Int) ^^^ BitVec.ofInt 64 (b : Int)).toNat : Int) = _
  rw [BitVec.toNat_xor, h1, h2]
  exact IntWalk.i64_in _ (by omega)
theorem yld_xor {i j : Nat} (ho : o.op = .binOp .xor t x y t') (hx : Ev S g x (.int .i64 (i : Int))) (hy : Ev S g y (.int .i64 (j : Int))) (hi : i < 9223372036854775808) (hj : j < 9223372036854775808) : Yld P n S o g w (.int .i64 ((i ^^^ j : Nat) : Int)) := fun a hs hg => by
  have ex := hx n a hs hg
  have ey := hy n a hs hg
  generalize a.eval = ρ at ex ey ⊢
  have hb := bits_xor_i64 i j hi hj
  have hr : Op.intBits .xor .i64 (i : Int) (j : Int) = pure (.int .i64 ((i ^^^ j : Nat) : Int)) := by rw [← hb]; rfl
  simp [execOp, ho, ex, ey, binOp_xor, hr, eqGuard]
theorem evp6 {i1 i2 i3 i4 i5 i6 : Nat} {x1 x2 x3 x4 x5 x6 : Operand} {v1 v2 v3 v4 v5 v6 : Value} (h1 : Ev S g x1 v1) (h2 : Ev S g x2 v2) (h3 : Ev S g x3 v3) (h4 : Ev S g x4 v4) (h5 : Ev S g x5 v5) (h6 : Ev S g x6 v6) : Evp S g #[(i1, x1), (i2, x2), (i3, x3), (i4, x4), (i5, x5), (i6, x6)] [(i1, v1), (i2, v2), (i3, v3), (i4, v4), (i5, v5), (i6, v6)] := fun n a hs hg => by simp [h1 n a hs hg, h2 n a hs hg, h3 n a hs hg, h4 n a hs hg, h5 n a hs hg, h6 n a hs hg]
theorem evp7 {i1 i2 i3 i4 i5 i6 i7 : Nat} {x1 x2 x3 x4 x5 x6 x7 : Operand} {v1 v2 v3 v4 v5 v6 v7 : Value} (h1 : Ev S g x1 v1) (h2 : Ev S g x2 v2) (h3 : Ev S g x3 v3) (h4 : Ev S g x4 v4) (h5 : Ev S g x5 v5) (h6 : Ev S g x6 v6) (h7 : Ev S g x7 v7) : Evp S g #[(i1, x1), (i2, x2), (i3, x3), (i4, x4), (i5, x5), (i6, x6), (i7, x7)] [(i1, v1), (i2, v2), (i3, v3), (i4, v4), (i5, v5), (i6, v6), (i7, v7)] := fun n a hs hg => by simp [h1 n a hs hg, h2 n a hs hg, h3 n a hs hg, h4 n a hs hg, h5 n a hs hg, h6 n a hs hg, h7 n a hs hg]
theorem evp8 {i1 i2 i3 i4 i5 i6 i7 i8 : Nat} {x1 x2 x3 x4 x5 x6 x7 x8 : Operand} {v1 v2 v3 v4 v5 v6 v7 v8 : Value} (h1 : Ev S g x1 v1) (h2 : Ev S g x2 v2) (h3 : Ev S g x3 v3) (h4 : Ev S g x4 v4) (h5 : Ev S g x5 v5) (h6 : Ev S g x6 v6) (h7 : Ev S g x7 v7) (h8 : Ev S g x8 v8) : Evp S g #[(i1, x1), (i2, x2), (i3, x3), (i4, x4), (i5, x5), (i6, x6), (i7, x7), (i8, x8)] [(i1, v1), (i2, v2), (i3, v3), (i4, v4), (i5, v5), (i6, v6), (i7, v7), (i8, v8)] := fun n a hs hg => by simp [h1 n a hs hg, h2 n a hs hg, h3 n a hs hg, h4 n a hs hg, h5 n a hs hg, h6 n a hs hg, h7 n a hs hg, h8 n a hs hg]
theorem evp9 {i1 i2 i3 i4 i5 i6 i7 i8 i9 : Nat} {x1 x2 x3 x4 x5 x6 x7 x8 x9 : Operand} {v1 v2 v3 v4 v5 v6 v7 v8 v9 : Value} (h1 : Ev S g x1 v1) (h2 : Ev S g x2 v2) (h3 : Ev S g x3 v3) (h4 : Ev S g x4 v4) (h5 : Ev S g x5 v5) (h6 : Ev S g x6 v6) (h7 : Ev S g x7 v7) (h8 : Ev S g x8 v8) (h9 : Ev S g x9 v9) : Evp S g #[(i1, x1), (i2, x2), (i3, x3), (i4, x4), (i5, x5), (i6, x6), (i7, x7), (i8, x8), (i9, x9)] [(i1, v1), (i2, v2), (i3, v3), (i4, v4), (i5, v5), (i6, v6), (i7, v7), (i8, v8), (i9, v9)] := fun n a hs hg => by simp [h1 n a hs hg, h2 n a hs hg, h3 n a hs hg, h4 n a hs hg, h5 n a hs hg, h6 n a hs hg, h7 n a hs hg, h8 n a hs hg, h9 n a hs hg]
end
section
variable {P : Program} {n : Nat} {ops : Array Oper} {Q : Exit → Act → World → Prop} {S : Env} {o : Oper} {d : Nat} {g : Bool} {v : Value} {N : Env → World → Prop} {w : World} {rest : List Oper}
/-- A call under a guard that holds. -/
theorem One.gsure {f : FuncId} {args : Array Value} {R : Ending → World → Prop} (hg : Gd ops S o.guard g) (hgt : g = true) (hd : o.dst = some d) (hn : Nat.blt d n = true)
    (hy : ∀ a, St n S a → g = true → (execOp a.eval o).run P w = .ok (.enter f args) w) (hc : Calls P f args w R)
    (h : ∀ e w', R e w' → ∃ v, e = .returned v ∧ N ((d, g, v) :: S) w') : One P n ops Q o S w N := fun a hs K hK => by
  have hn' : d < n := by simpa using hn
  have hw := hg.wanted hs
  rw [hw, hgt]
  simp only [if_true, Oper.wp, hy a hs hgt, Oper.upon_enter, hd]
  refine hc.mono fun e w' hr => ?_
  obtain ⟨v, rfl, hk⟩ := h e w' hr
  have hput := hs.put hn' g v
  rw [hgt] at hput hk
  exact hK _ _ _ hk hput
/-- .. and under one that does not. -/
theorem One.gskip (hg : Gd ops S o.guard g) (hgf : g = false) (hd : o.dst = some d) (hn : Nat.blt d n = true) (h : N ((d, g, v) :: S) w) : One P n ops Q o S w N := fun a hs K hK => by
  have hn' : d < n := by simpa using hn
  have hw := hg.wanted hs
  rw [hw, hgf]
  have hput := hs.put hn' g v
  rw [hgf] at hput h
  simp only [Bool.false_eq_true, if_false, hd]
  exact hK _ _ _ h hput
theorem Ops.gsplit {l : List Oper} (hg : Gd ops S o.guard g) (h1 : g = true → Ops P n ops Q (o :: l) S w) (h2 : g = false → Ops P n ops Q (o :: l) S w) : Ops P n ops Q (o :: l) S w := by
  cases hh : g with
  | true => exact h1 hh
  | false => exact h2 hh
end
/-! ### Trees told otherwise -/
theorem Sep.leafs {w : World} {F : Nat → Prop} {k n : Int} {s : ByteArray} {ks : List ByteArray} {l : List Tr} {x : V5} (h : Sep w F (.mk k n s ks l) x.val) : ∃ v3 v4, x = x5 k n s v3 v4 ∧ ∀ k' n' s', Sep w F (.mk k' n' s' ks l) (x5 k' n' s' v3 v4).val := by
  obtain ⟨v3, v4, F4, e, h3, h4, f3, f4, flt⟩ := h.open
  exact ⟨v3, v4, V5.inj e, fun k' n' s' => Sep.close h3 h4 f3 f4 flt⟩
section
variable {X : Nat → Prop} {w0 w : World} {L : List Res}
/-- A tree alone in a row. -/
theorem Fr.wrap1 {bl : Nat} {G : Nat → Prop} {t : Tr} {x : V5} (F : Fr X w0 (blk bl 33 (enc5 x) :: sep G t x.val :: L) w) :
    ∃ G', Fr X w0 (sep G' (.mk 5 0 ⟨#[]⟩ [] [t]) (x5 5 0 ⟨#[]⟩ (.slice none 0 0) (.slice (some ⟨bl, 0, none⟩) 1 1)).val :: L) w := by
  obtain ⟨h1, h2, h3, h4, h5⟩ := F.mem
  have h3' : Sep w G t x.val := h3
  have hb : w.heap[bl]? = some (.cells (enc5 x).toArray 33 (0, 0)) := h1
  have hO : w.ownsRow 0 33 5 (.slice (some ⟨bl, 0, none⟩) 1 1) 1 ([x].flatMap enc5) := ⟨rfl, .inr ⟨bl, 1, (enc5 x).toArray, rfl, Nat.zero_le _, hb, Nat.le_refl _, by simp [maxLen], rfl, rfl⟩⟩
  have F1 : Fr X w0 (own 33 5 (.slice (some ⟨bl, 0, none⟩) 1 1) [x].length ([x].flatMap enc5) :: kids G [t] [x] :: L) w := by
    refine F.tell _ ⟨hO, fun k hk q hq hqk => ?_, ?_, h4, h5⟩ fun r hr k hk => ?_
    · have hk' : bl = k := by simpa [own, Value.ownBlock] using hk
      rcases List.mem_cons.1 hq with rfl | hq
      · exact h2 k hk'.symm (sep G t x.val) (by simp) hqk
      · exact h2 k hk'.symm q (by simp [hq]) hqk
    · refine ⟨fun _ => x, fun _ => G, fun i hi => ?_, fun i hi => ?_, fun _ _ b hb => hb, fun i hi j hj => ?_, fun b hb => h3'.lt b hb⟩
      · obtain rfl : i = 0 := by simp at hi; exact hi
        rfl
      · obtain rfl : i = 0 := by simp at hi; exact hi
        exact h3'
      · simp at hi; omega
    · rcases List.mem_cons.1 hr with rfl | hr
      · have hk' : bl = k := by simpa [own, Value.ownBlock] using hk
        exact ⟨blk bl 33 (enc5 x), by simp, hk'.symm⟩
      · rcases List.mem_cons.1 hr with rfl | hr
        · exact ⟨sep G t x.val, by simp, hk⟩
        · exact ⟨r, by simp [hr], hk⟩
  have F2 := Fr.toSepL F1 rfl
  have F3 := (F2.nilRow 9 1).pull 1 rfl
  have F4 := Fr.toSep (ks := []) (k := 5) (n := 0) (s := ⟨#[]⟩) F3
  exact ⟨_, F4⟩
/-- Keys, a row and its trees make a tree. -/
theorem Fr.toTree {v3 v4 : Value} {k n : Int} {s : ByteArray} {ks : List ByteArray} {F : Nat → Prop} {l : List Tr} {xs : List V5} (h : Fr X w0 (own 33 5 v4 xs.length (xs.flatMap enc5) :: kids F l xs :: own 9 1 v3 ks.length (ks.flatMap sCells) :: L) w) (hl : xs.length = l.length) :
    ∃ G, Fr X w0 (sep G (.mk k n s ks l) (x5 k n s v3 v4).val :: L) w := ⟨_, Fr.toSep (Fr.toSepL h hl)⟩
theorem Fr.nilKids (h : Fr X w0 L w) : Fr X w0 (kids No [] [] :: L) w := h.new (Chg.refl No w) (kids No [] []) (Kd.nil w []) fun k hk => hk.elim
end
end Go.Proofs.YtpfkcblhojkaiaaDoor.Eng
