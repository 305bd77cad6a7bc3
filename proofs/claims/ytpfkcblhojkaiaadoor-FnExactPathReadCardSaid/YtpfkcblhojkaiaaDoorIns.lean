/- Slices with one bound, capacities, copies into rows of a call's own, rows that grow by zero values, halves of numbers. No statement of the seat is proved here. -/
import Derived.Test.YtpfkcblhojkaiaaDoorSlc
import Derived.Laws.IdiomCopy
import Derived.Laws.Externs
import Derived.Lib.Overlaps
import Derived.Lib.AppendZerosOnto
import Derived.Laws.Shifts
namespace Go.Proofs.YtpfkcblhojkaiaaDoor.Eng
open Go.RowKit
set_option linter.unusedVariables false
set_option linter.unusedSimpArgs false
section
variable {P : Program} {n : Nat} {S : Env} {o : Oper} {g : Bool} {v : Value} {w : World} {x y z : Operand} {t : TypeId}
theorem run_sizeOf {e sz by' : Nat} (ht : sliceT P t e sz by' = true) : (sizeOf (P.elem t)).run P w = .ok sz w := by
  obtain ⟨hu, i, hi, hsz, -⟩ := sliceT_spec ht
  have he : P.elem t = e := by simp [Program.elem, hu]
  rw [he]; simp [sizeOf, typeInfo, hi, hsz]
theorem slice_under {e sz by' : Nat} (ht : sliceT P t e sz by' = true) : P.underlying t = some (.slice (P.elem t)) := by
  obtain ⟨hu, i, hi, hsz, -⟩ := sliceT_spec ht
  have he : P.elem t = e := by simp [Program.elem, hu]
  rw [he]; exact hu
theorem yld_slcL {A : Option Addr} {m c : Nat} {lI : Int} {e sz by' : Nat} (l : Nat) (ht : sliceT P t e sz by' = true) (ho : o.op = .slice t x (some y) none none) (hx : Ev S g x (.slice A m c)) (hy : Ev S g y (.int .i64 lI)) (hl : lI = (l : Int)) (h1 : l ≤ m) : Yld P n S o g w (sliced A l m c sz) := fun a hs hg => by
  have ex := hx n a hs hg
  have ey := hy n a hs hg
  generalize a.eval = ρ at ex ey ⊢
  subst hl
  have hu' := slice_under ht
  have hr := run_slice_l (P := P) (w := w) t A m c hu' .i64 (l : Int) (by omega) (by omega)
  rw [run_sizeOf ht] at hr
  simp only [Int.toNat_natCast] at hr
  simp [execOp, ho, ex, ey, run_sliceAt_slice (P := P) (w := w) t _ _ _ _ hu', hr]
theorem yld_slcH {A : Option Addr} {m c : Nat} {lI : Int} {e sz by' : Nat} (l : Nat) (ht : sliceT P t e sz by' = true) (ho : o.op = .slice t x none (some y) none) (hx : Ev S g x (.slice A m c)) (hy : Ev S g y (.int .i64 lI)) (hl : lI = (l : Int)) (h1 : l ≤ c) : Yld P n S o g w (sliced A 0 l c sz) := fun a hs hg => by
  have ex := hx n a hs hg
  have ey := hy n a hs hg
  generalize a.eval = ρ at ex ey ⊢
  subst hl
  have hu' := slice_under ht
  have hr := run_slice_h (P := P) (w := w) t A m c hu' .i64 (l : Int) (by omega) (by omega)
  rw [run_sizeOf ht] at hr
  simp only [Int.toNat_natCast] at hr
  simp [execOp, ho, ex, ey, run_sliceAt_slice (P := P) (w := w) t _ _ _ _ hu', hr]
theorem slicedL {b m c l sz : Nat} (h : l < c) : sliced (some ⟨b, 0, none⟩) l m c sz = .slice (some ⟨b, l * sz, none⟩) (m - l) (c - l) := by
  unfold sliced
  rw [if_neg (by omega), Option.map_some, Addr.add_mid, Nat.zero_add]
theorem slicedH {b c l sz : Nat} (h : 0 < c) : sliced (some ⟨b, 0, none⟩) 0 l c sz = .slice (some ⟨b, 0, none⟩) l c := by
  rw [slicedL h, Nat.zero_mul]
  simp
theorem yld_slcL' {b m c : Nat} {lI : Int} {e sz by' : Nat} (l : Nat) (ht : sliceT P t e sz by' = true) (ho : o.op = .slice t x (some y) none none) (hx : Ev S g x (.slice (some ⟨b, 0, none⟩) m c)) (hy : Ev S g y (.int .i64 lI)) (hl : lI = (l : Int)) (h1 : l ≤ m) (h2 : l < c) : Yld P n S o g w (.slice (some ⟨b, l * sz, none⟩) (m - l) (c - l)) := by
  rw [← slicedL (sz := sz) h2]
  exact yld_slcL l ht ho hx hy hl h1
theorem yld_slcH' {b m c : Nat} {lI : Int} {e sz by' : Nat} (l : Nat) (ht : sliceT P t e sz by' = true) (ho : o.op = .slice t x none (some y) none) (hx : Ev S g x (.slice (some ⟨b, 0, none⟩) m c)) (hy : Ev S g y (.int .i64 lI)) (hl : lI = (l : Int)) (h1 : l ≤ c) (h2 : 0 < c) : Yld P n S o g w (.slice (some ⟨b, 0, none⟩) l c) := by
  rw [← slicedH (sz := sz) h2]
  exact yld_slcH l ht ho hx hy hl h1
theorem yld_indexG {A : Option Addr} {t e : TypeId} {m by' b q len cap i : Nat} {k : IntKind} (ht : sliceT P t e m by' = true) (ho : o.op = .indexAddr t x y) (hx : Ev S g x (.slice A len cap)) (hy : Ev S g y (.int k (i : Int))) (hA : g = true → A = some ⟨b, q, none⟩) (hb : g = true → i < len) :
    Yld P n S o g w (.pointer (some ⟨b, q + i * m, none⟩)) := fun a hs hg => by
  have := hA hg
  subst this
  exact yld_indexN (P := P) (w := w) ht ho hx hy hb a hs hg
theorem yld_cap {A : Option Addr} {m c : Nat} {e sz by' : Nat} (ht : sliceT P t e sz by' = true) (ho : o.op = .call { callee := .builtin .cap, args := #[x], argTypes := #[t] }) (hx : Ev S g x (.slice A m c)) : Yld P n S o g w (.int .i64 c) := fun a hs hg => by
  have ex := hx n a hs hg
  generalize a.eval = ρ at ex ⊢
  have h := (sliceT_spec ht).1
  simp [execOp, ho, resolve, ex, invoke, builtin, Builtin.cap_, run_underlying h, goInt]
theorem yld_convU {src dst : TypeId} {i : Int} (h1 : P.underlying src = some (.int .i64)) (h2 : P.underlying dst = some (.int .u64)) (ho : o.op = .convert src dst x) (hx : Ev S g x (.int .i64 i)) (hb : 0 ≤ i ∧ i ≤ 18446744073709551615) : Yld P n S o g w (.int .u64 i) := by
  have := yld_conv (P := P) (n := n) (S := S) (g := g) (w := w) h1 h2 ho hx
  rwa [IntWalk.u64_in _ hb] at this
theorem yld_convI {src dst : TypeId} {k : IntKind} {i : Int} (h1 : P.underlying src = some (.int k)) (h2 : P.underlying dst = some (.int .i64)) (ho : o.op = .convert src dst x) (hx : Ev S g x (.int k i)) (hb : -9223372036854775808 ≤ i ∧ i ≤ 9223372036854775807) : Yld P n S o g w (.int .i64 i) := by
  have := yld_conv (P := P) (n := n) (S := S) (g := g) (w := w) h1 h2 ho hx
  rwa [IntWalk.i64_in _ hb] at this
theorem yld_half {t' : TypeId} {i : Int} (ho : o.op = .binOp .shr t x (.const (.int .u64 1)) t') (hx : Ev S g x (.int .u64 i)) (hb : 0 ≤ i ∧ i ≤ 18446744073709551615) : Yld P n S o g w (.int .u64 (i / 2)) := fun a hs hg => by
  have ex := hx n a hs hg
  have ey : a.eval (.const (.int .u64 1)) = .int .u64 1 := rfl
  generalize a.eval = ρ at ex ey ⊢
  have hw : IntKind.u64.wrap (i / 2) = i / 2 := IntWalk.u64_in _ (by omega)
  have hs : Op.shift .shr .u64 i .u64 1 = pure (.int .u64 (i / 2)) := by
    have hf : i.fdiv 2 = i / 2 := by rw [Int.fdiv_eq_ediv_of_nonneg _ (by omega)]
    simp [Op.shift, IntKind.bits, IntKind.signed, Int.shiftRight_eq_div_pow, hf, hw]
  simp [execOp, ho, ex, ey, binOp_shr, hs, eqGuard]
/-- A function of the model's own. -/
theorem yld_ext {f : FuncId} {args : Array Operand} {ats : Array TypeId} {vs : Array Value} (ho : o.op = .call { callee := .value (.func f), args := args, argTypes := ats }) (hv : ∀ n a, St n S a → g = true → args.map a.eval = vs) (hp : g = true → (callFunc f vs).run P w = .ok (.value v) w) : Yld P n S o g w v := fun a hs hg => by
  simp [execOp, ho, resolve, hv n a hs hg, Act.eval, Deferred.ofValue, invoke, hp hg]
end

/-! ### Copies -/
theorem putAt_eq : ∀ (vs cs : List Value) (q : Nat), q + vs.length ≤ cs.length → putAt cs q vs = cs.take q ++ vs ++ cs.drop (q + vs.length) := fun vs cs q h => by
  apply List.ext_getElem?
  intro k
  rw [putAt_get]
  have hq : (cs.take q).length = q := by rw [List.length_take]; omega
  by_cases h1 : q ≤ k ∧ k < q + vs.length ∧ k < cs.length
  · rw [if_pos h1, List.append_assoc, List.getElem?_append_right (by omega), hq, List.getElem?_append_left (by omega)]
  · rw [if_neg h1, List.append_assoc]
    by_cases h2 : k < q
    · rw [List.getElem?_append_left (by omega), List.getElem?_take_of_lt h2]
    · by_cases h3 : k < cs.length
      · rw [List.getElem?_append_right (by omega), List.getElem?_append_right (by omega), hq, List.getElem?_drop]
        congr 1; omega
      · rw [List.getElem?_eq_none (by omega), List.getElem?_eq_none (by simp; omega)]
section
variable {P : Program} {n : Nat} {ops : Array Oper} {Q : Exit → Act → World → Prop} {S : Env} {o : Oper} {d : Nat} {g : Bool} {v : Value} {N : Env → World → Prop} {X : Nat → Prop} {w0 w : World} {L : List Res} {x y : Operand}
theorem run_copy_any (w : World) (dT sT ty e : TypeId) {sz by' : Nat} (ht : sliceT P dT e sz by' = true) (b o dLen dCap : Nat) (a : Addr) (sLen sCap : Nat) (cs : List Value) (hn : cs.length = Nat.min sLen dLen * sz)
    (hsrc : ∀ j v, cs[j]? = some v → w.cell? (a.add j) = some v) (hc : ∀ j, j < cs.length → (w.cell? ⟨b, o + j, none⟩).isSome = true) (hf : ∀ j, j < cs.length → w.frozen? ⟨b, o + j, none⟩ = false) (h1 : ∀ v ∈ cs, v.oneCell' = true) :
    (Builtin.copy_ #[dT, sT] ty #[.slice (some ⟨b, o, none⟩) dLen dCap, .slice (some a) sLen sCap]).run P w = .ok (goInt (Nat.min sLen dLen)) (w.setCells b o cs) := by
  obtain ⟨hu, i, hi, hsz, -⟩ := sliceT_spec ht
  have hl := run_loadCells_list (P := P) w a cs hsrc
  have hst := run_storeCells_cells (P := P) b o cs 0 w (by simpa using hc) (by simpa using hf) h1
  simp [Builtin.copy_, run_underlying hu, Builtin.lenOf, Builtin.firstCells, sizeOf, typeInfo, hi, hsz, ← hn, hl, hst]
theorem own_some {e sz b len cap : Nat} {cells : List Value} (h : w.ownsRow 0 e sz (.slice (some ⟨b, 0, none⟩) len cap) len cells) (j : Nat) (hj : j < cells.length) : (w.cell? ⟨b, j, none⟩).isSome = true := by
  have := h.cells (g := b) rfl j _ (List.getElem?_eq_getElem hj)
  rw [Addr.add_mid, Nat.zero_add] at this
  rw [this]; rfl
theorem One.copyCells {t e sz by' b q dLen dCap sLen sCap len cap : Nat} {ad : Addr} {cells cs : List Value} (F : Fr X w0 L w) (k : Nat) (hi : L[k]? = some (own e sz (.slice (some ⟨b, 0, none⟩) len cap) len cells)) (ht : sliceT P t e sz by' = true) (hg : o.guard = none) (hd : o.dst = some d) (hn : Nat.blt d n = true)
    (ho : o.op = .call { callee := .builtin .copy, args := #[x, y], argTypes := #[t, t] }) (hx : Ev S true x (.slice (some ⟨b, q, none⟩) dLen dCap)) (hy : Ev S true y (.slice (some ad) sLen sCap)) (hl : cs.length = Nat.min sLen dLen * sz) (hfit : q + cs.length ≤ cells.length)
    (hsrc : ∀ j u, cs[j]? = some u → w.cell? (ad.add j) = some u) (h1 : ∀ u ∈ cs, u.oneCell' = true)
    (h : ∀ w', Fr X w0 (L.set k (own e sz (.slice (some ⟨b, 0, none⟩) len cap) len (putAt cells q cs))) w' → N ((d, true, .int .i64 (Nat.min sLen dLen : Nat)) :: S) w') : One P n ops Q o S w N := by
  have hO : w.ownsRow 0 e sz (.slice (some ⟨b, 0, none⟩) len cap) len cells := F.get k hi
  have hr := run_copy_any (P := P) w t t o.type e ht b q dLen dCap ad sLen sCap cs hl hsrc (fun j hj => own_some hO _ (by omega)) (fun j hj => hO.frozenAt _) h1
  refine One.wrd hg hd hn (fun a hs => ?_) (h (w.setCells b q cs) (F.upd k hi (Chg.setCells b cs q w) (fun k' hk => Or.inl (by have h1 : k' = b := hk; subst h1; rfl)) (own e sz _ _ _) (ownsRow_setCells hO) fun _ hk => Or.inl hk))
  have ex := hx n a hs rfl
  have ey := hy n a hs rfl
  generalize a.eval = ρ at ex ey ⊢
  simp [execOp, ho, resolve, invoke, builtin, ex, ey, hr, goInt]
/-- A row's room becomes elements. -/
theorem own_ext {e sz b n m cap : Nat} {cells : List Value} (h : w.ownsRow 0 e sz (.slice (some ⟨b, 0, none⟩) n cap) n cells) (hm : n ≤ m) (hc : m ≤ cap) : ∃ ys, ys.length = (m - n) * sz ∧ w.ownsRow 0 e sz (.slice (some ⟨b, 0, none⟩) m cap) m (cells ++ ys) := by
  obtain ⟨hl, h⟩ := h
  rcases h with ⟨h', _⟩ | ⟨g, cap', cur, h', hb, hg, hnc, hcm, hcs, htake⟩
  · cases h'
  · obtain ⟨rfl, rfl⟩ : b = g ∧ cap = cap' := by simpa using h'
    have hmul : n * sz ≤ m * sz := Nat.mul_le_mul_right _ hm
    have hmul2 : m * sz ≤ cap * sz := Nat.mul_le_mul_right _ hc
    refine ⟨(cur.toList.take (m * sz)).drop (n * sz), ?_, ?_, .inr ⟨b, cap, cur, rfl, hb, hg, hc, hcm, hcs, ?_⟩⟩
    · rw [List.length_drop, List.length_take, Nat.sub_mul, Array.length_toList, hcs]
      omega
    · rw [List.length_append, hl, List.length_drop, List.length_take, Array.length_toList, hcs]
      omega
    · rw [← htake]
      have : cur.toList.take (n * sz) = (cur.toList.take (m * sz)).take (n * sz) := by rw [List.take_take]; congr 1; omega
      rw [this, List.take_append_drop]
theorem Fr.ownExt {e sz b n cap : Nat} {cells : List Value} (F : Fr X w0 L w) (k m : Nat) (hi : L[k]? = some (own e sz (.slice (some ⟨b, 0, none⟩) n cap) n cells)) (hm : n ≤ m) (hc : m ≤ cap) : ∃ ys, ys.length = (m - n) * sz ∧ Fr X w0 (L.set k (own e sz (.slice (some ⟨b, 0, none⟩) m cap) m (cells ++ ys))) w := by
  obtain ⟨ys, h1, h2⟩ := own_ext (F.get k hi) hm hc
  exact ⟨ys, h1, F.upd k hi (Chg.refl No w) (fun _ h => h.elim) (own e sz (.slice (some ⟨b, 0, none⟩) m cap) m (cells ++ ys)) h2 fun _ hk => .inl hk⟩
theorem One.appendZ {t tn e sz by' c m k : Nat} {kI : Int} {ad : Addr} {z : Value} {olds : List Value} (F : Fr X w0 L w) (ht : sliceT P t e sz by' = true) (hz : (P.info? e).bind (·.zero) = some z) (hzs : z.cells.size = sz) (hsz : Nat.blt 0 sz = true) (htn : P.underlying tn = some (.int .i64))
    (hg : o.guard = none) (hd : o.dst = some d) (hn : Nat.blt d n = true) (ho : o.op = .call { callee := .builtin .append, args := #[x, y], argTypes := #[t, tn] }) (hx : Ev S true x (.slice (some ad) m c)) (hy : Ev S true y (.int .i64 kI)) (hk : kI = (k : Int))
    (hol : olds.length = m * sz) (hold : ∀ j u, olds[j]? = some u → w.cell? (ad.add j) = some u) (h0 : 0 < k) (hgr : c < m + k) (hb : (m + k) * by' ≤ 140737488355328) (hb' : m + k ≤ 9223372036854775807)
    (h : ∀ b cap cells w', w.heap.size = b → cells.length = (m + k) * sz → cells.take (m * sz) = olds → m + k ≤ cap → Fr X w0 (own e sz (.slice (some ⟨b, 0, none⟩) (m + k) cap) (m + k) cells :: L) w' → N ((d, true, .slice (some ⟨b, 0, none⟩) (m + k) cap) :: S) w') : One P n ops Q o S w N := by
  obtain ⟨hu, i, hin, hs, hby⟩ := sliceT_spec ht
  have hzz : i.zero = some z := by simpa [hin] using hz
  have hsz' : 0 < sz := by simpa using hsz
  subst hk
  subst hs
  subst hby
  have hfc : (Builtin.firstCells i.size m (.slice (some ad) m c)).run P w.drew = .ok olds.toArray w.drew := by
    have hl := run_loadCells_list (P := P) w.drew ad olds (fun j v hj => hold j v hj)
    simp [Builtin.firstCells, ← hol, hl]
  have hfit : Builtin.nextslicecap (m + k) c * i.bytes ≤ 281474976710656 := growslice_fits hgr hb
  have hkb : k * i.bytes ≤ 281474976710656 := by
    have : k * i.bytes ≤ (m + k) * i.bytes := Nat.mul_le_mul_right _ (by omega)
    omega
  have hr := Lib.run_append_grow_zeros (P := P) w t tn o.type e i z .i64 .i64 hu htn hin hzz (some ad) m c olds hfc k h0 hsz' hgr (by omega) hkb hfit
  have hge : m + k ≤ grownCap w (m + k) c e := grownCap_ge w _ _ _
  have hle : grownCap w (m + k) c e ≤ maxLen := grownCap_le_maxLen w (m + k) c e (by unfold maxLen; omega)
  generalize grownCap w (m + k) c e = G at hr hge hle
  have hcells : (olds.toArray ++ Builtin.zeroCells z.cells k ++ Builtin.zeroCells z.cells (G - (m + k))).size = G * i.size := by
    simp only [Array.size_append, List.size_toArray, hol, size_zeroCells, hzs]
    rw [← Nat.add_mul, ← Nat.add_mul]
    congr 1; omega
  have hmk : (m + k) * i.size ≤ G * i.size := Nat.mul_le_mul_right _ hge
  have hm2 : m * i.size ≤ (m + k) * i.size := Nat.mul_le_mul_right _ (by omega)
  refine One.wrd (w' := w.drew.alloc (.cells (olds.toArray ++ Builtin.zeroCells z.cells k ++ Builtin.zeroCells z.cells (G - (m + k))) e)) hg hd hn (fun a hs => ?_) (h w.heap.size G ((olds.toArray ++ Builtin.zeroCells z.cells k ++ Builtin.zeroCells z.cells (G - (m + k))).toList.take ((m + k) * i.size)) _ rfl ?_ ?_ hge ?_)
  · have ex := hx n a hs rfl
    have ey := hy n a hs rfl
    generalize a.eval = ρ at ex ey ⊢
    simp [execOp, ho, resolve, invoke, builtin, ex, ey, hr]
  · rw [List.length_take, Array.length_toList, hcells]; omega
  · rw [List.take_take, Nat.min_eq_left hm2]
    simp only [Array.toList_append, List.append_assoc]
    rw [← hol, List.take_left]
  · refine F.drew.new (Chg.alloc w.drew _) (own e i.size _ _ _) ⟨?_, .inr ⟨w.heap.size, G, _, rfl, Nat.zero_le _, heap_alloc_new w.drew _, hge, hle, hcells, rfl⟩⟩ fun k' hk' => ?_
    · rw [List.length_take, Array.length_toList, hcells]; omega
    · simp [own, Value.ownBlock] at hk'
      show w.heap.size ≤ k'
      omega
end
end Go.Proofs.YtpfkcblhojkaiaaDoor.Eng
