/- Pieces of rows and of texts: plain laws. -/
import Derived.Test.YtmmgobhoakaaaaaLawT
namespace Go.Proofs.Ytmmgobhoakaaaaa.Eng
open Go.RowKit
set_option linter.unusedVariables false
set_option linter.unusedSimpArgs false
set_option maxHeartbeats 1000000


def pc {α : Type} (l : List α) (f g : Int) : List α := (l.drop (edgeZ f l.length).toNat).take (max (edgeZ f l.length).toNat (edgeZ g l.length).toNat - (edgeZ f l.length).toNat)
theorem cutL_pc (t : Tr) (f g : Int) : cutL t f g = pc t.list f g := rfl
theorem cutS_pc (t : Tr) (f g : Int) : (cutS t f g).data.toList = pc t.str.data.toList f g := by
  have h : t.str.size = t.str.data.toList.length := by simp
  unfold cutS pc
  rw [ByteArray.data_extract, Array.toList_extract, h]
theorem ba_eq {a b : ByteArray} (h : a.data.toList = b.data.toList) : a = b := by
  cases a; cases b
  simp at h
  rw [h]
theorem pc_get {α : Type} (l : List α) (f g : Int) {p q : Nat} (hp : (edgeZ f l.length).toNat = p) (hq : (edgeZ g l.length).toNat = q) (k : Nat) : (pc l f g)[k]? = if k < max p q - p then l[p + k]? else none := by
  unfold pc
  rw [hp, hq, List.getElem?_take, List.getElem?_drop]
theorem pc_len {α : Type} (l : List α) (f g : Int) {p q : Nat} (hp : (edgeZ f l.length).toNat = p) (hq : (edgeZ g l.length).toNat = q) : (pc l f g).length = max p q - p := by
  unfold pc
  have h1 := edgeZ_le f l.length
  have h2 := edgeZ_le g l.length
  rw [hp, hq, List.length_take, List.length_drop]
  omega
theorem edge_nat (a n : Nat) : (edgeZ (a : Int) n).toNat = min a n := by
  unfold edgeZ
  rw [if_neg (by omega)]
  split <;> omega
theorem pc_all {α : Type} (l : List α) : pc l 0 (l.length : Int) = l := by
  apply List.ext_getElem?
  intro k
  rw [pc_get l 0 (l.length : Int) (edge_nat 0 l.length) (edge_nat l.length l.length)]
  split
  · congr 1; omega
  · rw [List.getElem?_eq_none (by omega)]
theorem pc_nil {α : Type} (l : List α) {p q : Nat} (h : p ≤ q) : pc l (q : Int) (p : Int) = [] := by
  apply List.eq_nil_of_length_eq_zero
  rw [pc_len l _ _ (edge_nat q l.length) (edge_nat p l.length)]
  omega
theorem pc_pc {α : Type} (l : List α) {p q : Nat} (h : p ≤ q) : pc (pc l (p : Int) (q : Int)) 1 3 = pc l ((p + 1 : Nat) : Int) ((min q (p + 3) : Nat) : Int) := by
  have hl := pc_len l (p : Int) (q : Int) (edge_nat p l.length) (edge_nat q l.length)
  apply List.ext_getElem?
  intro k
  rw [pc_get _ 1 3 (edge_nat 1 _) (edge_nat 3 _), pc_get l _ _ (edge_nat (p + 1) _) (edge_nat (min q (p + 3)) _), pc_get l _ _ (edge_nat p _) (edge_nat q _), hl]
  by_cases hk : p + 1 + k < l.length
  · rw [show min p l.length + (min 1 (max (min p l.length) (min q l.length) - min p l.length) + k) = p + (min 1 (max (min p l.length) (min q l.length) - min p l.length) + k) by omega, show min (p + 1) l.length + k = p + 1 + k by omega]
    by_cases h1 : k < max (min (p + 1) l.length) (min (min q (p + 3)) l.length) - min (p + 1) l.length
    · rw [if_pos h1, if_pos (by omega), if_pos (by omega)]
      congr 1
      omega
    · rw [if_neg h1]
      split
      · split
        · omega
        · rfl
      · rfl
  · rw [if_neg (by omega)]
    split
    · rw [List.getElem?_eq_none (by omega)]
    · rfl
theorem pc_mem {α : Type} {l : List α} {f g : Int} {x : α} (h : x ∈ pc l f g) : x ∈ l := List.mem_of_mem_drop (List.mem_of_mem_take h)
theorem sumN_pc {α : Type} (F : α → Nat) (l : List α) (f g : Int) : sumN F (pc l f g) ≤ sumN F l := Nat.le_trans (sumN_take_le _ _ _) (sumN_drop_le _ _ _)
theorem row_pc {l : List Tr} (h : okT (.mk 5 0 ⟨#[]⟩ [] l) = true) (f g : Int) : okT (.mk 5 0 ⟨#[]⟩ [] (pc l f g)) = true := by
  rw [okT_row] at h ⊢
  refine ⟨fun x hx => h.1 x (pc_mem hx), ?_⟩
  have := sumN_pc Tr.cnt l f g
  have := h.2
  omega
theorem txt_eta {t : Tr} (h : okT t = true) (h4 : t.kind = 4) : t = strT' t.str := by
  obtain ⟨k, n, s, ks, l⟩ := t
  have hk : k = 4 := h4
  have hp := (Form.iff.1 (okT_node h).1).2.1
  have h3 := hp.z3 (by omega)
  have h5 := hp.z5 (by omega)
  have h6 := hp.z6 (by omega)
  subst hk
  show _ = Tr.mk 4 0 s [] []
  rw [h3, h5, h6]
theorem okT_strS {t : Tr} (h : okT t = true) : okS t.str = true := by
  obtain ⟨k, n, s, ks, l⟩ := t
  exact (Form.iff.1 (okT_node h).1).2.1.ok
theorem okT_txt {s : ByteArray} (h : okS s = true) : okT (strT' s) = true := okT_leaf (by omega) (fun h => absurd rfl h) (by omega) (by omega) (by omega) (by omega) h
theorem okS_pc {t : Tr} (h : okS t.str = true) (f g : Int) : okS (cutS t f g) = true := by
  have hp := cutS_pc t f g
  unfold okS lowB at h ⊢
  simp only [Bool.and_eq_true, decide_eq_true_eq, List.all_eq_true] at h ⊢
  refine ⟨fun c hc => h.1 c (by rw [hp] at hc; exact pc_mem hc), ?_⟩
  have h1 : (cutS t f g).size = (pc t.str.data.toList f g).length := by rw [← hp]; simp
  have h2 : (pc t.str.data.toList f g).length ≤ t.str.data.toList.length := by unfold pc; simp; omega
  have h3 : t.str.data.toList.length = t.str.size := by simp
  omega
theorem cut_row {t : Tr} (h : okT t = true) (h5 : t.kind = 5) (f g : Int) : cutR t f g = some (.mk 5 0 ⟨#[]⟩ [] (pc t.list f g)) ∧ okT (.mk 5 0 ⟨#[]⟩ [] (pc t.list f g)) = true := by
  have h1 : okT (.mk 5 0 ⟨#[]⟩ [] (pc t.list f g)) = true := row_pc (by rw [← rowT_eta h h5]; exact h) f g
  refine ⟨?_, h1⟩
  unfold cutR
  rw [if_pos h, if_neg (by omega), if_pos h5, cutL_pc, toldR_true h1]
theorem cut_txt {t : Tr} (h : okT t = true) (h4 : t.kind = 4) (f g : Int) : cutR t f g = some (strT' (cutS t f g)) ∧ okT (strT' (cutS t f g)) = true := by
  refine ⟨?_, okT_txt (okS_pc (okT_strS h) f g)⟩
  unfold cutR
  rw [if_pos h, if_pos h4]
theorem cut_some {t : Tr} {f g : Int} {r : Option Tr} (hr : r = cutR t f g) (h : r.isSome = true) : okT t = true ∧ (t.kind = 4 ∨ t.kind = 5) := by
  subst hr
  unfold cutR at h
  split at h
  · rename_i h1
    refine ⟨h1, ?_⟩
    split at h
    · exact .inl (by assumption)
    · split at h
      · exact .inr (by assumption)
      · cases h
  · cases h
theorem cutR_ok (t : Tr) (f g : Int) : okT ((cutR t f g).getD zeroT) = true := getD_ok fun x hx => by
  obtain ⟨h, hk⟩ := cut_some (f := f) (g := g) rfl (by rw [hx]; rfl)
  rcases hk with hk | hk
  · rw [(cut_txt h hk f g).1] at hx; obtain rfl := Option.some.inj hx; exact (cut_txt h hk f g).2
  · rw [(cut_row h hk f g).1] at hx; obtain rfl := Option.some.inj hx; exact (cut_row h hk f g).2
theorem txt_pp (t : Tr) {p q : Nat} (h : p ≤ q) : cutS (strT' (cutS t (p : Int) (q : Int))) 1 3 = cutS t ((p + 1 : Nat) : Int) ((min q (p + 3) : Nat) : Int) := by
  apply ba_eq
  rw [cutS_pc (strT' (cutS t (p : Int) (q : Int))), show (strT' (cutS t (p : Int) (q : Int))).str = cutS t (p : Int) (q : Int) from rfl, cutS_pc, cutS_pc, pc_pc _ h]
theorem txt_all (t : Tr) : cutS t 0 (t.str.size : Int) = t.str := by
  apply ba_eq
  rw [cutS_pc, show (t.str.size : Int) = (t.str.data.toList.length : Int) by simp, pc_all]
theorem txt_nil (t : Tr) {p q : Nat} (h : p ≤ q) : (cutS t (q : Int) (p : Int)).size = 0 := by
  have h1 : (cutS t (q : Int) (p : Int)).size = (cutS t (q : Int) (p : Int)).data.toList.length := by simp
  rw [h1, cutS_pc, pc_nil _ h]
  rfl
theorem nil_len : (⟨#[]⟩ : ByteArray).size = 0 := rfl
/-- A piece of a piece; all of it; nothing of it. -/
theorem piece {t : Tr} {p q : Nat} (hpq : p ≤ q) {r r2 r3 r4 r5 : Option Tr} (hr : r = cutR t (p : Int) (q : Int)) (h : r.isSome = true) (hr2 : r2 = cutR (r.getD zeroT) 1 3) (hr3 : r3 = cutR t ((p + 1 : Nat) : Int) ((min q (p + 3) : Nat) : Int)) (hr4 : r4 = cutR t 0 ((t.list.length : Int) + (t.str.size : Int))) (hr5 : r5 = cutR t (q : Int) (p : Int)) :
    r2 = r3 ∧ r3.isSome = true ∧ r4 = some t ∧ r5.isSome = true ∧ (((r5.getD zeroT).list.length : Int) + ((r5.getD zeroT).str.size : Int)) = 0 := by
  obtain ⟨hok, hk⟩ := cut_some hr h
  rcases hk with h4 | h5
  · have e := txt_eta hok h4
    have hl : t.list.length = 0 := by rw [e]; rfl
    obtain ⟨c1, o1⟩ := cut_txt hok h4 (p : Int) (q : Int)
    have e1 : r.getD zeroT = strT' (cutS t (p : Int) (q : Int)) := by rw [hr, c1]; rfl
    obtain ⟨c2, -⟩ := cut_txt o1 rfl 1 3
    obtain ⟨c3, -⟩ := cut_txt hok h4 ((p + 1 : Nat) : Int) ((min q (p + 3) : Nat) : Int)
    obtain ⟨c4, -⟩ := cut_txt hok h4 0 ((t.list.length : Int) + (t.str.size : Int))
    obtain ⟨c5, -⟩ := cut_txt hok h4 (q : Int) (p : Int)
    have hs : ((t.str.size : Nat) : Int) = (t.str.data.toList.length : Int) := by simp
    refine ⟨?_, by rw [hr3, c3]; rfl, ?_, by rw [hr5, c5]; rfl, ?_⟩
    · rw [hr2, hr3, e1, c2, c3, txt_pp t hpq]
    · rw [hr4, c4, hl, show ((0 : Nat) : Int) + (t.str.size : Int) = (t.str.size : Int) by omega, txt_all, ← e]
    · rw [hr5, c5]
      have h1 := txt_nil t hpq
      show ((0 : Nat) : Int) + ((cutS t (q : Int) (p : Int)).size : Int) = 0
      rw [h1]
      rfl
  · have e := rowT_eta hok h5
    have hs : t.str.size = 0 := by rw [e]; rfl
    obtain ⟨c1, o1⟩ := cut_row hok h5 (p : Int) (q : Int)
    have e1 : r.getD zeroT = .mk 5 0 ⟨#[]⟩ [] (pc t.list (p : Int) (q : Int)) := by rw [hr, c1]; rfl
    obtain ⟨c2, -⟩ := cut_row o1 rfl 1 3
    obtain ⟨c3, -⟩ := cut_row hok h5 ((p + 1 : Nat) : Int) ((min q (p + 3) : Nat) : Int)
    obtain ⟨c4, -⟩ := cut_row hok h5 0 ((t.list.length : Int) + (t.str.size : Int))
    obtain ⟨c5, -⟩ := cut_row hok h5 (q : Int) (p : Int)
    refine ⟨?_, by rw [hr3, c3]; rfl, ?_, by rw [hr5, c5]; rfl, ?_⟩
    · rw [hr2, hr3, e1, c2, c3]
      show some (Tr.mk 5 0 ⟨#[]⟩ [] (pc (pc t.list (p : Int) (q : Int)) 1 3)) = _
      rw [pc_pc _ hpq]
    · rw [hr4, c4, hs, show (t.list.length : Int) + ((0 : Nat) : Int) = (t.list.length : Int) by omega, pc_all, ← e]
    · rw [hr5, c5, pc_nil _ hpq]
      rfl

end Go.Proofs.Ytmmgobhoakaaaaa.Eng
