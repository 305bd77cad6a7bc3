/- append onto a row that a call owns; empty literals; a region in which two operations may come first; what lies in a list of owned things, taken out. No statement of the seat is proved here. -/
import Derived.Test.YtpfkcblhojkaiaaDoorBld
namespace Go.Proofs.YtpfkcblhojkaiaaDoor.Eng
open Go.RowKit
set_option linter.unusedVariables false
set_option linter.unusedSimpArgs false

/-! ### Owned things: another order, less of them -/
theorem Mem.erase {w : World} : ∀ {L : List Res} (i : Nat), Mem L w → Mem (L.eraseIdx i) w
  | [], _, h => h
  | _ :: _, 0, h => h.2.2
  | r :: L, i + 1, h => ⟨h.1, fun k hk q hq => h.2.1 k hk q (List.mem_of_mem_eraseIdx hq), Mem.erase i h.2.2⟩
theorem Mem.apart {w : World} : ∀ {L : List Res} (i : Nat) {r : Res}, L[i]? = some r → Mem L w → ∀ q ∈ L.eraseIdx i, ∀ k, r.fp k → ¬ q.fp k
  | [], _, _, h, _ => by simp at h
  | p :: L, 0, r, h, hm => by
    simp at h; subst h
    exact fun q hq k hk => hm.2.1 k hk q hq
  | p :: L, i + 1, r, h, hm => fun q hq k hk hqk => by
    have h' : L[i]? = some r := by simpa using h
    simp only [List.eraseIdx_cons_succ, List.mem_cons] at hq
    rcases hq with rfl | hq
    · exact hm.2.1 k hqk r (List.mem_of_getElem? h') hk
    · exact Mem.apart i h' hm.2.2 q hq k hk hqk
section
variable {X : Nat → Prop} {w0 w w' : World} {L : List Res}
theorem Fr.erase (h : Fr X w0 L w) (i : Nat) : Fr X w0 (L.eraseIdx i) w := ⟨h.chg, h.mem.erase i, fun r hr => h.dom r (List.mem_of_mem_eraseIdx hr)⟩
theorem Fr.pull (h : Fr X w0 L w) (i : Nat) {r : Res} (hi : L[i]? = some r) : Fr X w0 (r :: L.eraseIdx i) w :=
  ⟨h.chg, ⟨h.get i hi, fun k hk q hq => Mem.apart i hi h.mem q hq k hk, h.mem.erase i⟩, fun q hq => by
    rcases List.mem_cons.1 hq with rfl | hq
    · exact h.dom q (List.mem_of_getElem? hi)
    · exact h.dom q (List.mem_of_mem_eraseIdx hq)⟩
end

/-! ### The operations -/
theorem flat_cells {α : Type} {enc : α → List Value} {sz : Nat} (he : ∀ x, (enc x).length = sz) (hsz : 0 < sz) {w : World} {b o : Nat} {xs : List α} (h : ∀ i (hi : i < xs.length), w.rangeAt b (o + i * sz) (enc xs[i])) (j : Nat) (u : Value) (hu : (xs.flatMap enc)[j]? = some u) : w.cell? ((⟨b, o, none⟩ : Addr).add j) = some u := by
  have hj : j < xs.length * sz := by have := (List.getElem?_eq_some_iff.1 hu).1; rwa [flat_length he] at this
  have hq : j / sz < xs.length := (Nat.div_lt_iff_lt_mul hsz).2 hj
  have hmod : j % sz < sz := Nat.mod_lt _ hsz
  have hjj : j / sz * sz + j % sz = j := by rw [Nat.mul_comm]; exact Nat.div_add_mod j sz
  rw [← hjj, flat_get he xs (j / sz) (j % sz) hq hmod] at hu
  have := h (j / sz) hq (j % sz) u hu
  rw [Addr.add_mid]
  rw [← hjj, ← Nat.add_assoc]
  exact this

section
variable {P : Program} {n : Nat} {ops : Array Oper} {Q : Exit → Act → World → Prop} {S : Env} {o : Oper} {d : Nat} {g : Bool} {v : Value} {N : Env → World → Prop} {X : Nat → Prop} {w0 w : World} {L : List Res} {x y : Operand}

theorem run_append_none (t ty e : TypeId) (i : TypeInfo) (size : Nat) (ht : P.underlying t = some (.slice e)) (hi : P.info? e = some i) (c : Nat)
    (v : Value) (n : Nat) (xs : List Value) (hown : w.ownsRow 0 e size v n xs) :
    (Builtin.append_ #[t, t] ty #[v, .slice none 0 c]).run P w = .ok v w := by
  rcases hown.2 with ⟨rfl, rfl⟩ | ⟨g, cap, cur, rfl, _, _, hnc, _⟩
  · simp [Builtin.append_, run_underlying ht, sizeOf, typeInfo, hi, Builtin.lenOf, Builtin.firstCells]
  · simp [Builtin.append_, run_underlying ht, sizeOf, typeInfo, hi, Builtin.lenOf, Builtin.firstCells, hnc, storeCells]

theorem map_range0 (f : Nat → Value) : (Array.range 0).map f = #[] := by kernel_rfl
theorem One.buildNil {α : Type} (enc : α → List Value) {t e sz by' : Nat} (F : Fr X w0 L w) (ht : sliceT P t e sz by' = true)
    (hg : o.guard = none) (hd : o.dst = some d) (hn : Nat.blt d n = true) (ho : o.op = .buildSlice t 0 #[])
    (h : ∀ b w', w.heap.size = b → Fr X w0 (own e sz (.slice (some ⟨b, 0, none⟩) 0 0) ([] : List α).length (([] : List α).flatMap enc) :: L) w' → N ((d, true, .slice (some ⟨b, 0, none⟩) 0 0) :: S) w') : One P n ops Q o S w N := by
  obtain ⟨hu, i, hi, hs, -⟩ := sliceT_spec ht
  refine One.wrd (w' := w.alloc (.cells #[] e)) (v := .slice (some ⟨w.heap.size, 0, none⟩) 0 0) hg hd hn (fun a hs' => ?_)
    (h _ _ rfl (F.new (Chg.alloc w _) (own e sz (.slice (some ⟨w.heap.size, 0, none⟩) 0 0) 0 []) (World.ownsRow_lit w #[] 0 (Nat.zero_le _) (by simp [maxLen]) (by simp)) fun k hk => ?_))
  · simp [execOp, ho, Instr.buildSlice, run_underlying hu, sizeOf, typeInfo, hi, Instr.fill, newRow, map_range0]
  · simp [own, Value.ownBlock] at hk; omega

theorem One.append {α : Type} {enc : α → List Value} {sz t e by' m c : Nat} {A : Option Addr} {z : Value} {xs : List α} (news : List α) (F : Fr X w0 L w) (k : Nat) (hi : L[k]? = some (own e sz v xs.length (xs.flatMap enc))) (ht : sliceT P t e sz by' = true) (hz : (P.info? e).bind (·.zero) = some z) (hzs : z.cells.size = sz) (hsz : Nat.blt 0 sz = true) (he : ∀ x, (enc x).length = sz)
    (hg : o.guard = none) (hd : o.dst = some d) (hn : Nat.blt d n = true) (ho : o.op = .call { callee := .builtin .append, args := #[x, y], argTypes := #[t, t] }) (hx : Ev S true x v) (hy : Ev S true y (.slice A m c))
    (hsrc : RepE enc sz Any w news (.slice A m c)) (h1 : ∀ x ∈ news, (enc x).all (·.oneCell') = true) (hb : (xs.length + news.length) * by' ≤ 140737488355328) (hb' : xs.length + news.length ≤ 9223372036854775807)
    (h : ∀ v' w', v'.ownBlock = v.ownBlock ∨ v'.ownBlock = some w.heap.size → Fr X w0 (L.set k (own e sz v' (xs ++ news).length ((xs ++ news).flatMap enc))) w' → N ((d, true, v') :: S) w') : One P n ops Q o S w N := by
  obtain ⟨hu, i, hin, hs, hby⟩ := sliceT_spec ht
  have hzz : i.zero = some z := by simpa [hin] using hz
  have hsz' : 0 < sz := by simpa using hsz
  have hO : w.ownsRow 0 e sz v xs.length (xs.flatMap enc) := F.get k hi
  obtain ⟨A', c', hA, hnc, hcc, hcells⟩ := hsrc
  obtain ⟨rfl, rfl, rfl⟩ : A = A' ∧ m = news.length ∧ c = c' := by simpa using hA
  have hone : ∀ u ∈ news.flatMap enc, u.oneCell' = true := fun u hu => by
    obtain ⟨x, hx, hxu⟩ := List.mem_flatMap.1 hu
    exact (List.all_eq_true.1 (h1 x hx)) u hxu
  -- what the append comes to
  have key : ∃ v' w', (Builtin.append_ #[t, t] o.type #[v, .slice A news.length c]).run P w = .ok v' w' ∧ w'.ownsRow 0 e sz v' (xs.length + news.length) (xs.flatMap enc ++ news.flatMap enc) ∧ w.grownBy w' v.ownBlock ∧ (v'.ownBlock = v.ownBlock ∨ v'.ownBlock = some w.heap.size) := by
    cases A with
    | none =>
      have hnil : news = [] := by
        by_cases hne : news = []
        · exact hne
        · obtain ⟨b, o, h3, -⟩ := hcells hne
          cases h3
      subst hnil
      exact ⟨v, w, run_append_none t o.type e i sz hu hin c v _ _ hO, by simpa using hO, ⟨rfl, rfl, rfl, Nat.le_refl _, fun _ _ _ => rfl⟩, .inl rfl⟩
    | some ad =>
      obtain ⟨v', w', hr, h3, h4, -, h5⟩ := run_append_own_at (P := P) w 0 t o.type e i z sz by' hu hin hzz hs hby hzs hsz' v xs.length (xs.flatMap enc) hO ad news.length c (news.flatMap enc) (by rw [flat_length he]) (fun j u hu => by
        by_cases hne : news = []
        · subst hne; simp at hu
        · obtain ⟨b, o, h3, -, h6⟩ := hcells hne
          obtain rfl := Option.some.inj h3
          exact flat_cells he hsz' h6 j u hu) hone (by simpa [maxLen] using hb') hb (Nat.zero_le _)
      exact ⟨v', w', hr, h3, h4, h5⟩
  obtain ⟨v', w', hr, h3, h4, h5⟩ := key
  rw [← List.flatMap_append] at h3
  refine One.wrd hg hd hn (fun a hs' => ?_) (h v' w' h5 (F.upd k hi (Chg.grown h4) (fun k' hk => .inl hk) (own e sz v' (xs ++ news).length ((xs ++ news).flatMap enc)) (by rw [List.length_append]; exact h3) fun k' hk => ?_))
  · have ex := hx n a hs' rfl
    have ey := hy n a hs' rfl
    generalize a.eval = ρ at ex ey ⊢
    simp [execOp, ho, resolve, invoke, builtin, ex, ey, hr]
  · have hk' : v'.ownBlock = some k' := hk
    rcases h5 with h5 | h5
    · left
      show v.ownBlock = some k'
      rw [← h5]; exact hk'
    · right
      rw [h5] at hk'
      have : w.heap.size = k' := by simpa using hk'
      omega

/-- Two operations may come first. -/
theorem Hops.two {C : World → Prop} {fuel : Nat} {listed : Array Bool} {o' : Oper} (i j : Nat) (hi : ops[i]? = some o) (hj : ops[j]? = some o') (hr : Region.ready .any ops listed = [i, j])
    (h : One P n ops Q o S w fun S w => C w ∧ Hops P n ops Q C fuel (listed.setIfInBounds i true) S w)
    (h' : One P n ops Q o' S w fun S w => C w ∧ Hops P n ops Q C fuel (listed.setIfInBounds j true) S w) : Hops P n ops Q C (fuel + 1) listed S w := fun a hs => by
  have go : ∀ (q : Nat) (oq : Oper), ops[q]? = some oq → (One P n ops Q oq S w fun S w => C w ∧ Hops P n ops Q C fuel (listed.setIfInBounds q true) S w) → wpOp P ops Q q (fun a' w' => C w' ∧ wpAnyH P .any ops Q C fuel (listed.setIfInBounds q true) a' w') a w := fun q oq hq hone => by
    have h2 := hone a hs (fun a' w' => C w' ∧ wpAnyH P .any ops Q C fuel (listed.setIfInBounds q true) a' w') fun S w a hN hs' => ⟨hN.1, hN.2 a hs'⟩
    unfold wpOp
    rw [hq]
    dsimp only
    split
    · rename_i hw; rw [if_pos hw] at h2; exact .inl h2
    · rename_i hw; rw [if_neg hw] at h2; exact h2
  refine wpAnyH_all hr (by simp) fun q hq => ?_
  rcases (by simpa using hq : q = i ∨ q = j) with rfl | rfl
  · exact go q o hi h
  · exact go q o' hj h'
end
end Go.Proofs.YtpfkcblhojkaiaaDoor.Eng
