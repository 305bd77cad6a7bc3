/- FnPartEach returns true for all bytes: a tree with parts is what comes of nothing when its parts are set, or put, in their order. No condition. -/
import Derived.Test.YtphchpbfhcniaaaLawE
import Derived.Test.YtphchpbfhcniaaaLawP
import Derived.Test.YtphchpbfhcniaaaDraw5
import Derived.Test.YtphchpbfhcniaaaArgB
import Derived.Test.YtphchpbfhcniaaaRows
namespace Go.Proofs.Ytphchpbfhcniaaa.Eng
open Go.RowKit Go.ChangeShapes Go.WideShapes Go.ChangeAt
set_option linter.unusedVariables false
set_option linter.unusedSimpArgs false
set_option maxHeartbeats 1000000
set_option linter.constructorNameAsVariable false
namespace GPartEach


def tO (t : Tr) (i : Nat) : Tr := if i = 0 then zeroT else if t.kind = 5 then .mk 5 0 ⟨#[]⟩ [] (t.list.take i) else .mk 6 0 ⟨#[]⟩ (t.keys.take i) (t.list.take i)
theorem key_eta {t : Tr} (h : okT t = true) (h6 : t.kind = 6) : t = .mk 6 0 ⟨#[]⟩ t.keys t.list := by
  obtain ⟨k, n, s, ks, l⟩ := t
  have hk : k = 6 := h6
  have hp := (Form.iff.1 (okT_node h).1).2.1
  have h3 := hp.z3 (by omega)
  have h4 := hp.z4 (by omega)
  subst hk
  show _ = Tr.mk 6 0 ⟨#[]⟩ ks l
  rw [h3, h4]
theorem take_nth {ks : List ByteArray} {i j : Nat} (h : j < i) : nth (ks.take i) j = nth ks j := by
  unfold nth
  rw [List.getD_eq_getElem?_getD, List.getD_eq_getElem?_getD, List.getElem?_take, if_pos h]
theorem tO_ok {t : Tr} (h : okT t = true) (h5 : 5 ≤ t.kind) (i : Nat) : okT (tO t i) = true := by
  unfold tO
  split
  · exact okT_zeroT
  · have hc := okT_cnt h
    rw [cnt_list] at hc
    have hs := sumN_take_le Tr.cnt t.list i
    split
    · rw [okT_row]
      exact ⟨fun x hx => form_child h (List.mem_of_mem_take hx), by omega⟩
    · have h6 : t.kind = 6 := by have := (okT_six h).1; omega
      have hl := okT_len h h6
      have hk := (okT_six h).2.2
      refine okT_of (Form.iff.2 ⟨by omega, ⟨by omega, fun _ => rfl, fun h => absurd rfl h, by omega, by omega, by omega, by omega, by omega, okS_nil, fun _ => by simp [hl], fun j hj => ?_⟩, fun x hx => form_child h (List.mem_of_mem_take hx)⟩) (by rw [cnt_list]; show 1 + sumN Tr.cnt (t.list.take i) ≤ 60; omega)
      have hj' : j < i ∧ j < t.keys.length := by simp at hj; omega
      rw [take_nth hj'.1]
      refine ⟨(hk j hj'.2).1, fun h0 => ?_⟩
      rw [take_nth (by omega)]
      exact (hk j hj'.2).2 h0
theorem tO_full {t : Tr} (h : okT t = true) (h5 : 5 ≤ t.kind) (h0 : t.list.length ≠ 0) : tO t t.list.length = t := by
  unfold tO
  rw [if_neg h0]
  split
  · rename_i h5; rw [List.take_length]; exact (rowT_eta h h5).symm
  · have h6 : t.kind = 6 := by have := (okT_six h).1; omega
    rw [List.take_length, ← okT_len h h6, List.take_length]
    exact (key_eta h h6).symm
theorem setL_end {l : List Tr} {x : Tr} : setL l l.length x = l ++ [x] := by
  unfold setL
  rw [show l.length + 1 - l.length = 1 by omega]
  simp
theorem step_set {t : Tr} (h : okT t = true) (h5 : t.kind = 5) {i : Nat} (hi : i < t.list.length) : setR (tO t i) t.list[i] (i : Int) = some (tO t (i + 1)) := by
  have ho := tO_ok h (by omega) i
  have ho1 := tO_ok h (by omega) (i + 1)
  have hx := okT_child h (List.getElem_mem hi)
  have hl := okT_len60 h
  have hk : (tO t i).kind = 0 ∨ (tO t i).kind = 5 := by
    unfold tO
    split
    · exact .inl rfl
    · exact .inr rfl
  have hll : (tO t i).list = t.list.take i := by
    unfold tO
    split
    · rename_i h0; rw [h0]; rfl
    · rfl
  have hlen : (tO t i).list.length = i := by rw [hll]; simp; omega
  have hB : setB (tO t i) t.list[i] (i : Int) = true := by
    unfold setB
    rw [ho, hx, hlen]
    rcases hk with hk | hk <;> rw [hk] <;> simp <;> omega
  have hz : setZ (tO t i) (i : Int) = i := by unfold setZ; rw [if_neg (by omega)]; omega
  have hT : setT (tO t i) t.list[i] (i : Int) = tO t (i + 1) := by
    unfold setT
    rw [hz, hll]
    have e := setL_end (l := t.list.take i) (x := t.list[i])
    rw [show (t.list.take i).length = i by simp; omega] at e
    rw [e, ← List.take_succ_eq_append_getElem hi]
    unfold tO
    rw [if_neg (by omega), if_pos h5]
  unfold setR
  rw [if_pos hB, hT, toldR_true ho1]
theorem put_end {α : Type} {key : ByteArray} {x : α} : ∀ {ks : List ByteArray} {l : List α}, ks.length = l.length → (∀ k ∈ ks, ltS k key = true) → putK ks key = ks ++ [key] ∧ putL ks l key x = l ++ [x]
  | [], [], _, _ => ⟨putK_nil key, putL_nil key x⟩
  | [], _ :: _, h, _ => by simp at h
  | _ :: _, [], h, _ => by simp at h
  | k :: ks, a :: l, h, hk => by
    obtain ⟨h1, h2⟩ := put_end (x := x) (ks := ks) (l := l) (by simpa using h) fun k' hk' => hk k' (by simp [hk'])
    rw [putK_cons, putL_cons, if_pos (hk k (by simp)), if_pos (hk k (by simp)), h1, h2]
    exact ⟨rfl, rfl⟩
theorem step_put {t : Tr} (h : okT t = true) (h6 : t.kind = 6) {i : Nat} (hi : i < t.list.length) : putR (tO t i) (nth t.keys i) t.list[i] = some (tO t (i + 1)) := by
  have ho := tO_ok h (by omega) i
  have ho1 := tO_ok h (by omega) (i + 1)
  have hx := okT_child h (List.getElem_mem hi)
  have hl := okT_len h h6
  have hks : okS (nth t.keys i) = true := ((okT_six h).2.2 i (by omega)).1
  have hk : (tO t i).kind = 0 ∨ (tO t i).kind = 6 := by
    unfold tO
    split
    · exact .inl rfl
    · rw [if_neg (by omega)]; exact .inr rfl
  have hll : (tO t i).list = t.list.take i := by
    unfold tO
    split
    · rename_i h0; rw [h0]; rfl
    · rw [if_neg (by omega)]; rfl
  have hkk : (tO t i).keys = t.keys.take i := by
    unfold tO
    split
    · rename_i h0; rw [h0]; rfl
    · rw [if_neg (by omega)]; rfl
  have hT : putT (tO t i) (nth t.keys i) t.list[i] = tO t (i + 1) := by
    unfold putT
    rw [hll, hkk]
    obtain ⟨e1, e2⟩ := put_end (key := nth t.keys i) (x := t.list[i]) (ks := t.keys.take i) (l := t.list.take i) (by simp [hl]) fun k hk => by
      obtain ⟨j, hj, rfl⟩ := List.getElem_of_mem hk
      have hj' : j < i ∧ j < t.keys.length := by simp at hj; omega
      rw [List.getElem_take, ← nth_eq hj'.2]
      exact okT_sorted' h j i hj'.1 (by omega)
    rw [e1, e2, ← List.take_succ_eq_append_getElem hi, nth_eq (by omega : i < t.keys.length), ← List.take_succ_eq_append_getElem (by omega)]
    unfold tO
    rw [if_neg (by omega), if_neg (by omega)]
  rw [putR_of (putC_of ho hx hks hk), hT, toldR_true ho1]
theorem yes40 {b : Bool} {n : Int} (h : (((b != b) || (n != n)) || !b) = false) : b = true := by cases b <;> simp at h ⊢
theorem fin18 {t u : Tr} (h : okT t = true) (h5 : 5 ≤ t.kind) {i : Nat} (hi : i = t.list.length) (hu : u = tO t i) : ((((t.list.length : Int) == 0) && (u.kind == 0)) || decide (u = t)) = true := by
  by_cases h0 : t.list.length = 0
  · rw [hu, hi, h0]; rfl
  · rw [hu, hi, tO_full h h5 h0]; simp

set_option maxHeartbeats 4000000 in
set_option maxRecDepth 100000 in
theorem walk (code : List UInt8) (v : Value) (w : World) (hp : RepE bCells 1 Any w code v) :
    Calls Try.prog 10 #[v] w fun e w' => e = .returned (.bool true) ∧ Chg No w w' := by
  obtain ⟨A, c, rfl, -⟩ := hp.open
  refine enter Try.func10 rfl rfl rfl ?_
  have F0 := Fr.start w
  refine Cod.seq fun K1 hK1 => ?_
  refine Cod.region ?_
  refine Ops.step (One.val rfl rfl rfl (yld_assign rfl ev_c) ?_)
  refine Ops.nil fun a hS => ?_
  refine hK1 _ _ ?_ a hS
  refine Cod.seq fun K2 hK2 => ?_
  refine Cod.seq fun K3 hK3 => ?_
  refine Cod.region ?_
  refine Ops.step (One.val rfl rfl rfl (yld_move rfl (ev_t rfl)) ?_)
  refine Ops.step (One.val rfl rfl rfl (yld_len sl22 rfl (ev_t rfl)) ?_)
  refine Ops.step (One.val rfl rfl rfl (yld_gtr rfl (ev_t rfl) ev_c) ?_)
  refine Ops.nil fun a hS => ?_
  refine hK3 _ _ ?_ a hS
  refine Cod.cond rfl (fun hc14 => ?_) (fun hc14 => ?_)
  · skip
    refine Cod.seq fun K4 hK4 => ?_
    refine Cod.region ?_
    refine Ops.step (One.val rfl rfl rfl (yld_assign rfl ev_c) ?_)
    refine Ops.nil fun a hS => ?_
    refine hK4 _ _ ?_ a hS
    refine Cod.ret fun a hS => ?_
    try simp only [Exit.then, Exit.inBlock]
    exact ret1 (t := 2) rfl hS rfl ⟨rfl, F0.chg⟩
  · skip
    refine Cod.skip fun a hS => ?_
    refine hK2 _ _ ?_ a hS
    refine Cod.seq fun K5 hK5 => ?_
    refine Cod.region ?_
    refine Ops.step (One.val rfl rfl rfl (yld_move rfl (ev_t rfl)) ?_)
    refine Ops.step (One.call rfl rfl rfl (ent_f rfl (evl1 (ev_t rfl)) (enters en34)) (drawEach_ct code _ _ (hp.chg F0.chg)) (fun e w1 hw1 => ?_))
    obtain ⟨xa, ta, rfl, C1, hrsa, hda⟩ := hw1
    have hwa := hda.wt
    obtain ⟨Grsa, hGa⟩ : ∃ G, G = New w w1 := ⟨_, rfl⟩
    rw [← hGa] at hrsa
    obtain ⟨A3a, c3a, A4a, c4a, hxa⟩ := rep_x (rps_get hrsa 0 rfl)
    subst hxa
    have F1 := F0.new C1 (rps Grsa [(ta, (x5 ta.kind ta.num ta.str (.slice A3a ta.keys.length c3a) (.slice A4a ta.list.length c4a)).val)]) hrsa (by rw [hGa]; exact New.new)
    refine ⟨_, rfl, ?_⟩
    refine Ops.step (One.alloc F1 zero26 rfl rfl rfl rfl ?_)
    intro b1 w2 hb1 F2
    change Fr _ _ [blk _ _ [_, _, _, _, _], _] _ at F2
    refine Ops.step (One.storeN (vs := [_, _, _, _, _]) F2 0 rfl sz26 rfl rfl rfl (ev_t rfl) (ev_t rfl) rfl rfl (rps_oneC (F2.get 1 rfl) 0 rfl) ?_)
    intro w3 F3
    change Fr _ _ [blk _ _ [_, _, _, _, _], _] _ at F3
    refine Ops.nil fun a hS => ?_
    refine hK5 _ _ ?_ a hS
    refine Cod.seq fun K6 hK6 => ?_
    refine Cod.region ?_
    refine Ops.step (One.val rfl rfl rfl (yld_loadN ag26 rfl (ev_t rfl) (fun _ => F3.range (m := 5) (cs' := [_, _, _, _, _]) 0 rfl rfl) rfl) ?_)
    refine Ops.step (One.call rfl rfl rfl (ent_f rfl (evl1 (ev_t rfl)) (enters en35)) (each_ct ta _ _ (rps_get (F3.get 1 rfl) 0 rfl) hda.fit (by omega)) (fun e w4 hw4 => ?_))
    obtain ⟨ea1, Ea1, rfl, C4, hEa1, hEab1⟩ := hw4
    obtain ⟨Az1, cz1, hez1, -⟩ := hEa1.rep.open
    subst hez1
    have F4_ := F3.new C4 (sepL Ea1 (eachL ta) _) hEa1 hEab1
    obtain ⟨xs1, hxl1, F4⟩ := F4_.toEl
    refine ⟨_, rfl, ?_⟩
    refine Ops.step (One.val rfl rfl rfl (yld_move rfl (ev_t rfl)) ?_)
    refine Ops.step (One.val rfl rfl rfl (yld_extract rfl (ev_t rfl) rfl) ?_)
    refine Ops.step (One.val rfl rfl rfl (yld_extract rfl (ev_t rfl) rfl) ?_)
    refine Ops.step (One.val rfl rfl rfl (yld_assign rfl (ev_t rfl)) ?_)
    refine Ops.step (One.val rfl rfl rfl (yld_assign rfl (ev_t rfl)) ?_)
    refine Ops.nil fun a hS => ?_
    refine hK6 _ _ ?_ a hS
    refine Cod.seq fun K7 hK7 => ?_
    refine Cod.region ?_
    refine Ops.step (One.val rfl rfl rfl (yld_loadN ag26 rfl (ev_t rfl) (fun _ => F4.range (m := 5) (cs' := [_, _, _, _, _]) 1 rfl rfl) rfl) ?_)
    refine Ops.step (One.call rfl rfl rfl (ent_f rfl (evl1 (ev_t rfl)) (enters en36)) (specEach_ct ta _ _ (rps_get (F4.get 2 rfl) 0 rfl) hda.fit (by omega)) (fun e w5 hw5 => ?_))
    obtain ⟨ea2, Ea2, rfl, C5, hEa2, hEab2⟩ := hw5
    obtain ⟨Az2, cz2, hez2, -⟩ := hEa2.rep.open
    subst hez2
    have F5_ := F4.new C5 (sepL Ea2 (eachL ta) _) hEa2 hEab2
    obtain ⟨xs2, hxl2, F5⟩ := F5_.toEl
    refine ⟨_, rfl, ?_⟩
    refine Ops.step (One.val rfl rfl rfl (yld_move rfl (ev_t rfl)) ?_)
    refine Ops.step (One.val rfl rfl rfl (yld_extract rfl (ev_t rfl) rfl) ?_)
    refine Ops.step (One.val rfl rfl rfl (yld_extract rfl (ev_t rfl) rfl) ?_)
    refine Ops.step (One.val rfl rfl rfl (yld_assign rfl (ev_t rfl)) ?_)
    refine Ops.step (One.val rfl rfl rfl (yld_assign rfl (ev_t rfl)) ?_)
    refine Ops.nil fun a hS => ?_
    refine hK7 _ _ ?_ a hS
    refine Cod.seq fun K8 hK8 => ?_
    refine Cod.seq fun K9 hK9 => ?_
    refine Cod.region ?_
    refine Ops.step (One.val rfl rfl rfl (yld_move rfl (ev_t rfl)) ?_)
    refine Ops.step (One.val rfl rfl rfl (yld_move rfl (ev_t rfl)) ?_)
    refine Ops.step (One.val rfl rfl rfl (yld_bneq Try.underlying4 rfl (ev_t rfl) (ev_t rfl)) ?_)
    refine Ops.step (One.val rfl rfl rfl (yld_move rfl (ev_t rfl)) ?_)
    refine Ops.step (One.val (gd_some rfl rfl) rfl rfl (yld_move rfl (ev_t rfl)) ?_)
    refine Ops.step (One.val (gd_some rfl rfl) rfl rfl (yld_len sl24 rfl (ev_g rfl)) ?_)
    refine Ops.step (One.val (gd_some rfl rfl) rfl rfl (yld_move rfl (ev_t rfl)) ?_)
    refine Ops.step (One.val (gd_some rfl rfl) rfl rfl (yld_len sl24 rfl (ev_g rfl)) ?_)
    refine Ops.step (One.val (gd_some rfl rfl) rfl rfl (yld_neq rfl (ev_g rfl) (ev_g rfl)) ?_)
    refine Ops.step (One.val rfl rfl rfl (yld_or rfl (ev_t rfl) (ev_g rfl)) ?_)
    refine Ops.step (One.val rfl rfl rfl (yld_move rfl (ev_t rfl)) ?_)
    refine Ops.step (One.val (gd_some rfl rfl) rfl rfl (yld_move rfl (ev_t rfl)) ?_)
    refine Ops.step (One.val (gd_some rfl rfl) rfl rfl (yld_not rfl (ev_g rfl)) ?_)
    refine Ops.step (One.val rfl rfl rfl (yld_or rfl (ev_t rfl) (ev_g rfl)) ?_)
    refine Ops.nil fun a hS => ?_
    refine hK9 _ _ ?_ a hS
    refine Cod.cond rfl (fun hc40 => ?_) (fun hc40 => ?_)
    · skip
      skip
      refine Cod.seq fun K10 hK10 => ?_
      refine Cod.region ?_
      refine Ops.step (One.val rfl rfl rfl (yld_move rfl (ev_t rfl)) ?_)
      refine Ops.step (One.val rfl rfl rfl (yld_move rfl (ev_t rfl)) ?_)
      refine Ops.step (One.val rfl rfl rfl (yld_beql Try.underlying4 rfl (ev_t rfl) (ev_t rfl)) ?_)
      refine Ops.step (One.val rfl rfl rfl (yld_move rfl (ev_t rfl)) ?_)
      refine Ops.step (One.val (gd_some rfl rfl) rfl rfl (yld_move rfl (ev_t rfl)) ?_)
      refine Ops.step (One.val (gd_some rfl rfl) rfl rfl (yld_len sl24 rfl (ev_g rfl)) ?_)
      refine Ops.step (One.val (gd_some rfl rfl) rfl rfl (yld_move rfl (ev_t rfl)) ?_)
      refine Ops.step (One.val (gd_some rfl rfl) rfl rfl (yld_len sl24 rfl (ev_g rfl)) ?_)
      refine Ops.step (One.val (gd_some rfl rfl) rfl rfl (yld_eql rfl (ev_g rfl) (ev_g rfl)) ?_)
      refine Ops.step (One.val rfl rfl rfl (yld_and rfl (ev_t rfl) (ev_g rfl)) ?_)
      refine Ops.step (One.val rfl rfl rfl (yld_assign rfl (ev_t rfl)) ?_)
      refine Ops.nil fun a hS => ?_
      refine hK10 _ _ ?_ a hS
      refine Cod.ret fun a hS => ?_
      try simp only [Exit.then, Exit.inBlock]
      exact ret1 (t := 2) rfl hS rfl ⟨ret_b (by simp), F5.chg⟩
    · skip
      obtain ⟨hok, hk5, hel⟩ := each_ok (t := ta) (yes40 hc40)
      rw [hel] at F5 hxl1 hxl2
      have hl59 := okT_len60 hok
      refine Cod.skip fun a hS => ?_
      refine hK8 _ _ ?_ a hS
      refine Cod.seq fun K11 hK11 => ?_
      refine Cod.region ?_
      refine Ops.step (One.val rfl rfl rfl (yld_build (cells := [.int .i64 0, .int .i64 0, .string ⟨#[]⟩, .slice none 0 0, .slice none 0 0]) rfl (evp0) (by kernel_rfl)) ?_)
      refine Ops.step (One.alloc F5 zero26 rfl rfl rfl rfl ?_)
      intro b2 w6 hb2 F6
      change Fr _ _ [blk _ _ [_, _, _, _, _], _, _, blk _ _ [_, _, _, _, _], _] _ at F6
      refine Ops.step (One.storeN (vs := [_, _, _, _, _]) F6 0 rfl sz26 rfl rfl rfl (ev_t rfl) (ev_t rfl) rfl rfl rfl ?_)
      intro w7 F7
      change Fr _ _ [blk _ _ [_, _, _, _, _], _, _, blk _ _ [_, _, _, _, _], _] _ at F7
      refine Ops.nil fun a hS => ?_
      refine hK11 _ _ ?_ a hS
      refine Cod.seq fun K12 hK12 => ?_
      refine Cod.seq fun K13 hK13 => ?_
      refine Cod.region ?_
      refine Ops.step (One.val rfl rfl rfl (yld_assign rfl ev_c) ?_)
      refine Ops.nil fun a hS => ?_
      refine hK13 _ _ ?_ a hS
      refine Cod.block ?_
      rw [hel] at *
      have F8 := F7.pull 4 rfl
      have F9 := F8.pull 4 rfl
      have F10 := F9.pull 4 rfl
      have F11 := F10.pull 4 rfl
      have F12 := F11.pull 4 rfl
      refine Cod.loop (fun i : Nat × V5 × Tr × (Nat → Prop) => [(3, true, .pointer (some ⟨b1, 0, none⟩)), (4, true, .slice Az1 ta.list.length cz1), (6, true, .slice Az2 ta.list.length cz2), (8, true, .pointer (some ⟨b2, 0, none⟩)), (9, true, .int .i64 (i.1 : Int))]) (fun i w' => i.1 ≤ ta.list.length ∧ i.2.2.1 = tO ta i.1 ∧ Fr No w [blk b2 26 (enc5 i.2.1), sep i.2.2.2 i.2.2.1 i.2.1.val, elR Ea2 ta.list (.slice Az2 ta.list.length cz2) xs2, elR Ea1 ta.list (.slice Az1 ta.list.length cz1) xs1, blk b1 26 (enc5 (x5 ta.kind ta.num ta.str (.slice A3a ta.keys.length c3a) (.slice A4a ta.list.length c4a))), rps Grsa [(ta, (x5 ta.kind ta.num ta.str (.slice A3a ta.keys.length c3a) (.slice A4a ta.list.length c4a)).val)]] w') (fun i => ta.list.length - i.1) (0, z5, zeroT, No) ⟨rfl, rfl, rfl, rfl, rfl, trivial⟩ ⟨Nat.zero_le _, rfl, (F12.new (Chg.refl _ _) (sep No zeroT z5.val) (sep_leaf _ 0 0 ⟨#[]⟩) (fun k hk => hk.elim)).pull 1 rfl⟩ ?_
      intro i w8 hW K14 hK14
      obtain ⟨ix, xo, TO, Go⟩ := i
      obtain ⟨hi0, hTOe, F13⟩ := hW
      dsimp only at *
      have hTO : okT TO = true := by rw [hTOe]; exact tO_ok hok hk5 ix
      obtain ⟨A3o, c3o, A4o, c4o, hxo⟩ := rep_x (F13.get 1 rfl).rep
      subst hxo
      refine Cod.seq fun K15 hK15 => ?_
      refine Cod.seq fun K16 hK16 => ?_
      refine Cod.region ?_
      refine Ops.step (One.val rfl rfl rfl (yld_move rfl (ev_t rfl)) ?_)
      refine Ops.step (One.val rfl rfl rfl (yld_move rfl (ev_t rfl)) ?_)
      refine Ops.step (One.val rfl rfl rfl (yld_len sl24 rfl (ev_t rfl)) ?_)
      refine Ops.step (One.val rfl rfl rfl (yld_lss rfl (ev_t rfl) (ev_t rfl)) ?_)
      refine Ops.nil fun a hS => ?_
      refine hK16 _ _ ?_ a hS
      refine Cod.cond rfl (fun hc55 => ?_) (fun hc55 => ?_)
      · skip
        have hi : ix < ta.list.length := by simpa using hc55
        have hokc := okT_child hok (List.getElem_mem hi)
        have hx1 : ix < xs1.length := by omega
        have hx2 : ix < xs2.length := by omega
        obtain ⟨y1, p1, hy1⟩ := el_at (F13.get 3 rfl) ix hx1
        obtain ⟨y2, p2, hy2⟩ := el_at (F13.get 2 rfl) ix hx2
        obtain ⟨R1, hR1⟩ : ∃ R, R = setR TO (ta.list[ix]) (ix : Int) := ⟨_, rfl⟩
        have hO1 : okT (R1.getD zeroT) = true := by rw [hR1]; exact setR_ok _ _ _
        refine Cod.skip fun a hS => ?_
        refine hK15 _ _ ?_ a hS
        refine Cod.seq fun K17 hK17 => ?_
        refine Cod.block ?_
        refine Cod.cut (fun i : Nat × V5 × (Nat → Prop) => [(3, true, .pointer (some ⟨b1, 0, none⟩)), (4, true, .slice Az1 ta.list.length cz1), (6, true, .slice Az2 ta.list.length cz2), (8, true, .pointer (some ⟨b2, 0, none⟩)), (9, true, .int .i64 (ix : Int)), (10, true, .pointer (some ⟨i.1, 0, none⟩)), (11, true, .bool R1.isSome)]) (fun i w' => Fr No w [blk i.1 26 (enc5 i.2.1), sep i.2.2 (R1.getD zeroT) i.2.1.val, blk b2 26 (enc5 (x5 TO.kind TO.num TO.str (.slice A3o TO.keys.length c3o) (.slice A4o TO.list.length c4o))), sep Go TO (x5 TO.kind TO.num TO.str (.slice A3o TO.keys.length c3o) (.slice A4o TO.list.length c4o)).val, elR Ea2 ta.list (.slice Az2 ta.list.length cz2) xs2, elR Ea1 ta.list (.slice Az1 ta.list.length cz1) xs1, blk b1 26 (enc5 (x5 ta.kind ta.num ta.str (.slice A3a ta.keys.length c3a) (.slice A4a ta.list.length c4a))), rps Grsa [(ta, (x5 ta.kind ta.num ta.str (.slice A3a ta.keys.length c3a) (.slice A4a ta.list.length c4a)).val)]] w') (fun K18 hK18 => ?_) ?_
        · skip
          have F14 := F13.drew
          refine Cod.draw (C_of F14) (by kernel_rfl) ?_
          refine Hops.take 0 rfl (by kernel_rfl) (fun _ _ _ h => h) rfl rfl rfl F14 (fun w F => (yld_loadN ag26 rfl (ev_t rfl) (fun _ => F.range (m := 5) (cs' := [_, _, _, _, _]) 0 rfl rfl) rfl)) ?_
          refine Hops.take 1 rfl (by kernel_rfl) (fun _ _ _ h => h) rfl rfl rfl F14 (fun w F => (yld_move rfl (ev_t rfl))) ?_
          refine Hops.take 2 rfl (by kernel_rfl) (fun _ _ _ h => h) rfl rfl rfl F14 (fun w F => (yld_move rfl (ev_t rfl))) ?_
          refine Hops.take 3 rfl (by kernel_rfl) (fun _ _ _ h => h) rfl rfl rfl F14 (fun w F => (yld_move rfl (ev_t rfl))) ?_
          refine Hops.take 4 rfl (by kernel_rfl) (fun _ _ _ h => h) rfl rfl rfl F14 (fun w F => (yld_indexG (b := y1) (q := p1) (i := ix) sl24 rfl (ev_t rfl) (ev_t rfl) (fun _ => hy1) (fun _ => hi))) ?_
          refine Hops.take 5 rfl (by kernel_rfl) (fun _ _ _ h => h) rfl rfl rfl F14 (fun w F => (yld_loadN (cs := [(xs1[ix]'hx1).a, (xs1[ix]'hx1).b, (xs1[ix]'hx1).c, (xs1[ix]'hx1).d, (xs1[ix]'hx1).e]) ag26 rfl (ev_t rfl) (fun _ => el_rng (F.get 3 rfl) hy1 ix hx1) rfl)) ?_
          refine Hops.two 6 10 rfl rfl (by kernel_rfl) ?_ ?_
          · skip
            refine (One.call rfl rfl rfl (ent_f rfl (evl3 (ev_t rfl) (ev_t rfl) (ev_t rfl)) (enters en24)) (set_ct TO (ta.list[ix]'hi) (ix : Int) (by omega) _ _ _ (F14.get 1 rfl).rep (el_rep (F14.get 3 rfl) ix hi hx1) (okT_fit hTO) (okT_fit hokc) (okT_w hTO) (okT_w hokc)) (fun e w9 hw9 => ?_))
            rw [← hR1] at hw9
            obtain ⟨e1, E1, rfl, C9, hE1, hEb1⟩ := hw9
            obtain ⟨A3e1, c3e1, A4e1, c4e1, hxe1⟩ := rep_x hE1.rep
            subst hxe1
            have F15 := F14.new C9 (sep E1 (R1.getD zeroT) (x5 (R1.getD zeroT).kind (R1.getD zeroT).num (R1.getD zeroT).str (.slice A3e1 (R1.getD zeroT).keys.length c3e1) (.slice A4e1 (R1.getD zeroT).list.length c4e1)).val) hE1 hEb1
            refine ⟨_, rfl, ?_⟩
            refine ⟨F15.drop1, ?_⟩
            refine Hops.take 7 rfl (by kernel_rfl) (fun _ _ _ h => h) rfl rfl rfl F15.drop1 (fun w F => (yld_move rfl (ev_t rfl))) ?_
            refine Hops.take 8 rfl (by kernel_rfl) (fun _ _ _ h => h) rfl rfl rfl F15.drop1 (fun w F => (yld_extract rfl (ev_t rfl) rfl)) ?_
            refine Hops.take 9 rfl (by kernel_rfl) (fun _ _ _ h => h) rfl rfl rfl F15.drop1 (fun w F => (yld_extract rfl (ev_t rfl) rfl)) ?_
            refine Hops.one 10 rfl (by kernel_rfl) (One.alloc F15 zero26 rfl rfl rfl rfl ?_)
            intro b3 w10 hb3 F16
            refine ⟨(F16.erase 1).drop1, ?_⟩
            change Fr _ _ [blk _ _ [_, _, _, _, _], _, blk _ _ [_, _, _, _, _], _, _, _, blk _ _ [_, _, _, _, _], _] _ at F16
            refine Hops.one 11 rfl (by kernel_rfl) (One.storeN (vs := [_, _, _, _, _]) F16 0 rfl sz26 rfl rfl rfl (ev_t rfl) (ev_t rfl) rfl rfl (Sep.one (x := (x5 (R1.getD zeroT).kind (R1.getD zeroT).num (R1.getD zeroT).str (.slice A3e1 (R1.getD zeroT).keys.length c3e1) (.slice A4e1 (R1.getD zeroT).list.length c4e1))) (F16.get 1 rfl)) ?_)
            intro w11 F17
            refine ⟨(F17.erase 1).drop1, ?_⟩
            change Fr _ _ [blk _ _ [_, _, _, _, _], _, blk _ _ [_, _, _, _, _], _, _, _, blk _ _ [_, _, _, _, _], _] _ at F17
            refine Hops.one 12 rfl (by kernel_rfl) (One.val rfl rfl rfl (yld_assign rfl (ev_t rfl)) ?_)
            refine ⟨(F17.erase 1).drop1, ?_⟩
            refine Hops.nil (by kernel_rfl) fun a hS => ?_
            have F18 := F17.pull 7 rfl
            have F19 := F18.pull 7 rfl
            have F20 := F19.pull 7 rfl
            have F21 := F20.pull 7 rfl
            have F22 := F21.pull 7 rfl
            have F23 := F22.pull 7 rfl
            have F24 := F23.pull 7 rfl
            have F25 := F24.pull 7 rfl
            exact hK18 (b3, (x5 (R1.getD zeroT).kind (R1.getD zeroT).num (R1.getD zeroT).str (.slice A3e1 (R1.getD zeroT).keys.length c3e1) (.slice A4e1 (R1.getD zeroT).list.length c4e1)), E1) _ a (hS.sub ⟨rfl, rfl, rfl, rfl, rfl, rfl, rfl, trivial⟩) F25
          · skip
            refine (One.alloc F14 zero26 rfl rfl rfl rfl ?_)
            intro b4 w12 hb4 F26
            refine ⟨F26.drop1, ?_⟩
            change Fr _ _ [blk _ _ [_, _, _, _, _], blk _ _ [_, _, _, _, _], _, _, _, blk _ _ [_, _, _, _, _], _] _ at F26
            refine Hops.one 6 rfl (by kernel_rfl) (One.call rfl rfl rfl (ent_f rfl (evl3 (ev_t rfl) (ev_t rfl) (ev_t rfl)) (enters en24)) (set_ct TO (ta.list[ix]'hi) (ix : Int) (by omega) _ _ _ (F26.get 2 rfl).rep (el_rep (F26.get 4 rfl) ix hi hx1) (okT_fit hTO) (okT_fit hokc) (okT_w hTO) (okT_w hokc)) (fun e w13 hw13 => ?_))
            rw [← hR1] at hw13
            obtain ⟨e2, E2, rfl, C13, hE2, hEb2⟩ := hw13
            obtain ⟨A3e2, c3e2, A4e2, c4e2, hxe2⟩ := rep_x hE2.rep
            subst hxe2
            have F27 := F26.new C13 (sep E2 (R1.getD zeroT) (x5 (R1.getD zeroT).kind (R1.getD zeroT).num (R1.getD zeroT).str (.slice A3e2 (R1.getD zeroT).keys.length c3e2) (.slice A4e2 (R1.getD zeroT).list.length c4e2)).val) hE2 hEb2
            refine ⟨_, rfl, ?_⟩
            refine ⟨(F27.erase 1).drop1, ?_⟩
            refine Hops.take 7 rfl (by kernel_rfl) (fun _ _ _ h => h) rfl rfl rfl (F27.erase 1).drop1 (fun w F => (yld_move rfl (ev_t rfl))) ?_
            refine Hops.take 8 rfl (by kernel_rfl) (fun _ _ _ h => h) rfl rfl rfl (F27.erase 1).drop1 (fun w F => (yld_extract rfl (ev_t rfl) rfl)) ?_
            refine Hops.take 9 rfl (by kernel_rfl) (fun _ _ _ h => h) rfl rfl rfl (F27.erase 1).drop1 (fun w F => (yld_extract rfl (ev_t rfl) rfl)) ?_
            refine Hops.one 11 rfl (by kernel_rfl) (One.storeN (vs := [_, _, _, _, _]) F27 1 rfl sz26 rfl rfl rfl (ev_t rfl) (ev_t rfl) rfl rfl (Sep.one (x := (x5 (R1.getD zeroT).kind (R1.getD zeroT).num (R1.getD zeroT).str (.slice A3e2 (R1.getD zeroT).keys.length c3e2) (.slice A4e2 (R1.getD zeroT).list.length c4e2))) (F27.get 0 rfl)) ?_)
            intro w14 F28
            refine ⟨(F28.erase 1).drop1, ?_⟩
            change Fr _ _ [_, blk _ _ [_, _, _, _, _], blk _ _ [_, _, _, _, _], _, _, _, blk _ _ [_, _, _, _, _], _] _ at F28
            refine Hops.one 12 rfl (by kernel_rfl) (One.val rfl rfl rfl (yld_assign rfl (ev_t rfl)) ?_)
            refine ⟨(F28.erase 1).drop1, ?_⟩
            refine Hops.nil (by kernel_rfl) fun a hS => ?_
            have F29 := F28.pull 7 rfl
            have F30 := F29.pull 7 rfl
            have F31 := F30.pull 7 rfl
            have F32 := F31.pull 7 rfl
            have F33 := F32.pull 7 rfl
            have F34 := F33.pull 7 rfl
            have F35 := F34.pull 6 rfl
            have F36 := F35.pull 7 rfl
            exact hK18 (b4, (x5 (R1.getD zeroT).kind (R1.getD zeroT).num (R1.getD zeroT).str (.slice A3e2 (R1.getD zeroT).keys.length c3e2) (.slice A4e2 (R1.getD zeroT).list.length c4e2)), E2) _ a (hS.sub ⟨rfl, rfl, rfl, rfl, rfl, rfl, rfl, trivial⟩) F36
        · skip
          intro i w15 hW
          obtain ⟨bn, xn, Gn⟩ := i
          have F37 := hW
          dsimp only at *
          refine Cod.cut (fun i : V5 × (Nat → Prop) => [(3, true, .pointer (some ⟨b1, 0, none⟩)), (4, true, .slice Az1 ta.list.length cz1), (6, true, .slice Az2 ta.list.length cz2), (8, true, .pointer (some ⟨b2, 0, none⟩)), (9, true, .int .i64 (ix : Int)), (10, true, .pointer (some ⟨bn, 0, none⟩)), (11, true, .bool true)]) (fun i w' => Fr No w [blk bn 26 (enc5 i.1), sep i.2 (tO ta (ix + 1)) i.1.val, blk b2 26 (enc5 (x5 TO.kind TO.num TO.str (.slice A3o TO.keys.length c3o) (.slice A4o TO.list.length c4o))), sep Go TO (x5 TO.kind TO.num TO.str (.slice A3o TO.keys.length c3o) (.slice A4o TO.list.length c4o)).val, elR Ea2 ta.list (.slice Az2 ta.list.length cz2) xs2, elR Ea1 ta.list (.slice Az1 ta.list.length cz1) xs1, blk b1 26 (enc5 (x5 ta.kind ta.num ta.str (.slice A3a ta.keys.length c3a) (.slice A4a ta.list.length c4a))), rps Grsa [(ta, (x5 ta.kind ta.num ta.str (.slice A3a ta.keys.length c3a) (.slice A4a ta.list.length c4a)).val)]] w') (fun K19 hK19 => ?_) ?_
          · skip
            refine Cod.seq fun K20 hK20 => ?_
            refine Cod.region ?_
            refine Ops.step (One.val rfl rfl rfl (yld_field fi26_0 rfl (ev_t rfl)) ?_)
            refine Ops.step (One.val rfl rfl rfl (yld_load1 on3 rfl (ev_t rfl) (fun _ => F37.cell 6 rfl rfl)) ?_)
            refine Ops.step (One.val rfl rfl rfl (yld_eql rfl (ev_t rfl) ev_c) ?_)
            refine Ops.nil fun a hS => ?_
            refine hK20 _ _ ?_ a hS
            refine Cod.cond rfl (fun hc70 => ?_) (fun hc70 => ?_)
            · skip
              have h6 : ta.kind = 6 := by simpa using hc70
              have hkl := okT_len hok h6
              have hks := okS_size ((okT_six hok).2.2 ix (by omega)).1
              obtain ⟨kb, ko, hka, -, hkr⟩ := (rep_s (rps_get (F37.get 7 rfl) 0 rfl)).at ix (by omega)
              have F38 := F37.drew
              refine Cod.draw (C_of F38.drop1) (by kernel_rfl) ?_
              refine Hops.take 0 rfl (by kernel_rfl) (fun _ _ _ h => h) rfl rfl rfl F38.drop1 (fun w F => (yld_loadN ag26 rfl (ev_t rfl) (fun _ => F.range (m := 5) (cs' := [_, _, _, _, _]) 1 rfl rfl) rfl)) ?_
              refine Hops.take 1 rfl (by kernel_rfl) (fun _ _ _ h => h) rfl rfl rfl F38.drop1 (fun w F => (yld_field fi26_3 rfl (ev_t rfl))) ?_
              refine Hops.take 2 rfl (by kernel_rfl) (fun _ _ _ h => h) rfl rfl rfl F38.drop1 (fun w F => (yld_load1 on23 rfl (ev_t rfl) (fun _ => F.cell 5 rfl rfl))) ?_
              refine Hops.take 3 rfl (by kernel_rfl) (fun _ _ _ h => h) rfl rfl rfl F38.drop1 (fun w F => (yld_move rfl (ev_t rfl))) ?_
              refine Hops.take 4 rfl (by kernel_rfl) (fun _ _ _ h => h) rfl rfl rfl F38.drop1 (fun w F => (yld_indexG (b := kb) (q := ko) (i := ix) sl23 rfl (ev_t rfl) (ev_t rfl) (fun _ => hka) (fun _ => by omega))) ?_
              refine Hops.take 6 rfl (by kernel_rfl) (fun _ _ _ h => h) rfl rfl rfl F38.drop1 (fun w F => (yld_move rfl (ev_t rfl))) ?_
              refine Hops.take 7 rfl (by kernel_rfl) (fun _ _ _ h => h) rfl rfl rfl F38.drop1 (fun w F => (yld_move rfl (ev_t rfl))) ?_
              refine Hops.take 8 rfl (by kernel_rfl) (fun _ _ _ h => h) rfl rfl rfl F38.drop1 (fun w F => (yld_indexG (b := y1) (q := p1) (i := ix) sl24 rfl (ev_t rfl) (ev_t rfl) (fun _ => hy1) (fun _ => hi))) ?_
              refine Hops.take 9 rfl (by kernel_rfl) (fun _ _ _ h => h) rfl rfl rfl F38.drop1 (fun w F => (yld_loadN (cs := [(xs1[ix]'hx1).a, (xs1[ix]'hx1).b, (xs1[ix]'hx1).c, (xs1[ix]'hx1).d, (xs1[ix]'hx1).e]) ag26 rfl (ev_t rfl) (fun _ => el_rng (F.get 4 rfl) hy1 ix hx1) rfl)) ?_
              refine Hops.one 5 rfl (by kernel_rfl) (One.val rfl rfl rfl (yld_load1 on9 rfl (ev_t rfl) (fun _ => rangeAt_cell hkr (j := 0) (by rw [← nth_eq (by omega : ix < ta.keys.length)]; rfl))) ?_)
              refine ⟨F38.drop1, ?_⟩
              refine Hops.one 10 rfl (by kernel_rfl) (One.call rfl rfl rfl (ent_f rfl (evl3 (ev_t rfl) (ev_t rfl) (ev_t rfl)) (enters en42)) (partPut_ct TO (ta.list[ix]'hi) (nth ta.keys ix) (by omega) _ _ _ (F38.get 3 rfl).rep (el_rep (F38.get 5 rfl) ix hi hx1) (okT_fit hTO) (okT_fit hokc) (okT_w hTO) (okT_w hokc)) (fun e w16 hw16 => ?_))
              obtain ⟨R2, hR2⟩ : ∃ R, R = putR TO (nth ta.keys ix) (ta.list[ix]'hi) := ⟨_, rfl⟩
              have hO2 : okT (R2.getD zeroT) = true := by rw [hR2]; exact putR_ok TO (nth ta.keys ix) (ta.list[ix]'hi)
              rw [← hR2] at hw16
              obtain ⟨e3, E3, rfl, C16, hE3, hEb3⟩ := hw16
              obtain ⟨A3e3, c3e3, A4e3, c4e3, hxe3⟩ := rep_x hE3.rep
              subst hxe3
              have F39 := F38.new C16 (sep E3 (R2.getD zeroT) (x5 (R2.getD zeroT).kind (R2.getD zeroT).num (R2.getD zeroT).str (.slice A3e3 (R2.getD zeroT).keys.length c3e3) (.slice A4e3 (R2.getD zeroT).list.length c4e3)).val) hE3 hEb3
              refine ⟨_, rfl, ?_⟩
              refine ⟨(F39.erase 1).drop1, ?_⟩
              refine Hops.take 11 rfl (by kernel_rfl) (fun _ _ _ h => h) rfl rfl rfl (F39.erase 1).drop1 (fun w F => (yld_move rfl (ev_t rfl))) ?_
              refine Hops.take 12 rfl (by kernel_rfl) (fun _ _ _ h => h) rfl rfl rfl (F39.erase 1).drop1 (fun w F => (yld_extract rfl (ev_t rfl) rfl)) ?_
              refine Hops.take 13 rfl (by kernel_rfl) (fun _ _ _ h => h) rfl rfl rfl (F39.erase 1).drop1 (fun w F => (yld_extract rfl (ev_t rfl) rfl)) ?_
              refine Hops.one 14 rfl (by kernel_rfl) (One.storeN (vs := [_, _, _, _, _]) F39 1 rfl sz26 rfl rfl rfl (ev_t rfl) (ev_t rfl) rfl rfl (Sep.one (x := (x5 (R2.getD zeroT).kind (R2.getD zeroT).num (R2.getD zeroT).str (.slice A3e3 (R2.getD zeroT).keys.length c3e3) (.slice A4e3 (R2.getD zeroT).list.length c4e3))) (F39.get 0 rfl)) ?_)
              intro w17 F40
              refine ⟨(F40.erase 1).drop1, ?_⟩
              change Fr _ _ [_, blk _ _ [_, _, _, _, _], _, blk _ _ [_, _, _, _, _], _, _, _, blk _ _ [_, _, _, _, _], _] _ at F40
              refine Hops.one 15 rfl (by kernel_rfl) (One.val rfl rfl rfl (yld_assign rfl (ev_t rfl)) ?_)
              refine ⟨(F40.erase 1).drop1, ?_⟩
              refine Hops.nil (by kernel_rfl) fun a hS => ?_
              have F41 := F40.pull 8 rfl
              have F42 := F41.pull 8 rfl
              have F43 := F42.pull 8 rfl
              have F44 := F43.pull 8 rfl
              have F45 := F44.pull 8 rfl
              have F46 := F45.pull 8 rfl
              have F47 := F46.pull 6 rfl
              have F48 := F47.pull 7 rfl
              have F49 := F48.erase 8
              have e4 := step_put hok h6 hi
              rw [← hTOe, ← hR2] at e4
              rw [e4] at hS F49
              exact hK19 ((x5 ((some (tO ta (ix + 1))).getD zeroT).kind ((some (tO ta (ix + 1))).getD zeroT).num ((some (tO ta (ix + 1))).getD zeroT).str (.slice A3e3 ((some (tO ta (ix + 1))).getD zeroT).keys.length c3e3) (.slice A4e3 ((some (tO ta (ix + 1))).getD zeroT).list.length c4e3)), E3) _ a (hS.sub ⟨rfl, rfl, rfl, rfl, rfl, rfl, rfl, trivial⟩) F49
            · skip
              have h5 : ta.kind = 5 := by have h := hc70; have := (okT_six hok).1; simp at h; omega
              have e3 := step_set hok h5 hi
              rw [← hTOe, ← hR1] at e3
              refine Cod.skip fun a hS => ?_
              have F50 := F37.pull 7 rfl
              have F51 := F50.pull 7 rfl
              have F52 := F51.pull 7 rfl
              have F53 := F52.pull 7 rfl
              have F54 := F53.pull 7 rfl
              have F55 := F54.pull 7 rfl
              have F56 := F55.pull 7 rfl
              have F57 := F56.pull 7 rfl
              rw [e3] at hS F57
              exact hK19 (xn, Gn) _ a (hS.sub ⟨rfl, rfl, rfl, rfl, rfl, rfl, rfl, trivial⟩) F57
          · skip
            intro i w18 hW
            obtain ⟨xv, Gv⟩ := i
            have F58 := hW
            dsimp only at *
            obtain ⟨A3v, c3v, A4v, c4v, hxv⟩ := rep_x (F58.get 1 rfl).rep
            subst hxv
            have hON := tO_ok hok hk5 (ix + 1)
            refine Cod.seq fun K21 hK21 => ?_
            refine Cod.seq fun K22 hK22 => ?_
            have F59 := F58.drew
            refine Cod.draw (C_of F59) (by kernel_rfl) ?_
            refine Hops.take 0 rfl (by kernel_rfl) (fun _ _ _ h => h) rfl rfl rfl F59 (fun w F => (yld_move rfl (ev_t rfl))) ?_
            refine Hops.take 1 rfl (by kernel_rfl) (fun _ _ _ h => h) rfl rfl rfl F59 (fun w F => (yld_not rfl (ev_t rfl))) ?_
            refine Hops.take 2 rfl (by kernel_rfl) (fun _ _ _ h => h) rfl rfl rfl F59 (fun w F => (yld_move rfl (ev_t rfl))) ?_
            refine Hops.take 3 rfl (by kernel_rfl) (fun _ _ _ h => h) (gd_some rfl rfl) rfl rfl F59 (fun w F => (yld_move rfl (ev_t rfl))) ?_
            refine Hops.take 4 rfl (by kernel_rfl) (fun _ _ _ h => h) (gd_some rfl rfl) rfl rfl F59 (fun w F => (yld_move rfl (ev_t rfl))) ?_
            refine Hops.take 5 rfl (by kernel_rfl) (fun _ _ _ h => h) (gd_some rfl rfl) rfl rfl F59 (fun w F => (yld_indexG (b := y1) (q := p1) (i := ix) sl24 rfl (ev_g rfl) (ev_g rfl) (fun _ => hy1) (fun _ => hi))) ?_
            refine Hops.take 6 rfl (by kernel_rfl) (fun _ _ _ h => h) (gd_some rfl rfl) rfl rfl F59 (fun w F => (yld_loadN (cs := [(xs1[ix]'hx1).a, (xs1[ix]'hx1).b, (xs1[ix]'hx1).c, (xs1[ix]'hx1).d, (xs1[ix]'hx1).e]) ag26 rfl (ev_g rfl) (fun _ => el_rng (F.get 5 rfl) hy1 ix hx1) rfl)) ?_
            refine Hops.take 7 rfl (by kernel_rfl) (fun _ _ _ h => h) (gd_some rfl rfl) rfl rfl F59 (fun w F => (yld_move rfl (ev_t rfl))) ?_
            refine Hops.take 8 rfl (by kernel_rfl) (fun _ _ _ h => h) (gd_some rfl rfl) rfl rfl F59 (fun w F => (yld_move rfl (ev_t rfl))) ?_
            refine Hops.take 9 rfl (by kernel_rfl) (fun _ _ _ h => h) (gd_some rfl rfl) rfl rfl F59 (fun w F => (yld_indexG (b := y2) (q := p2) (i := ix) sl24 rfl (ev_g rfl) (ev_g rfl) (fun _ => hy2) (fun _ => hi))) ?_
            refine Hops.take 10 rfl (by kernel_rfl) (fun _ _ _ h => h) (gd_some rfl rfl) rfl rfl F59 (fun w F => (yld_loadN (cs := [(xs2[ix]'hx2).a, (xs2[ix]'hx2).b, (xs2[ix]'hx2).c, (xs2[ix]'hx2).d, (xs2[ix]'hx2).e]) ag26 rfl (ev_g rfl) (fun _ => el_rng (F.get 4 rfl) hy2 ix hx2) rfl)) ?_
            have hvs := valSame_ct (ta.list[ix]'hi) (ta.list[ix]'hi) _ _ w18.drew (el_rep (F59.get 5 rfl) ix hi hx1) (el_rep (F59.get 4 rfl) ix hi hx2)
            refine Hops.one 11 rfl (by kernel_rfl) (One.gcall (R := Chg No w18.drew) (gd_some rfl rfl) rfl rfl (ent_f rfl (evl2 (ev_g rfl) (ev_g rfl)) (enters en20)) (Chg.refl _ _) (fun hg => hvs) ?_)
            intro w19 C19
            have F60 := F59.call C19
            refine ⟨F60, ?_⟩
            refine Hops.take 12 rfl (by kernel_rfl) (fun _ _ _ h => h) (gd_some rfl rfl) rfl rfl F60 (fun w F => (yld_not rfl (ev_g rfl))) ?_
            refine Hops.take 13 rfl (by kernel_rfl) (fun _ _ _ h => h) rfl rfl rfl F60 (fun w F => (yld_or rfl (ev_t rfl) (ev_g rfl))) ?_
            refine Hops.nil (by kernel_rfl) fun a hS => ?_
            refine hK22 _ _ ?_ a hS
            refine Cod.cond rfl (fun hc98 => ?_) (fun hc98 => ?_)
            · skip
              simp at hc98
            · skip
              skip
              refine Cod.skip fun a hS => ?_
              refine hK21 _ _ ?_ a hS
              refine Cod.region ?_
              refine Ops.step (One.val rfl rfl rfl (yld_loadN ag26 rfl (ev_t rfl) (fun _ => F60.range (m := 5) (cs' := [_, _, _, _, _]) 0 rfl rfl) rfl) ?_)
              refine Ops.step (One.storeN (vs := [_, _, _, _, _]) F60 2 rfl sz26 rfl rfl rfl (ev_t rfl) (ev_t rfl) rfl rfl (Sep.one (x := (x5 (tO ta (ix + 1)).kind (tO ta (ix + 1)).num (tO ta (ix + 1)).str (.slice A3v (tO ta (ix + 1)).keys.length c3v) (.slice A4v (tO ta (ix + 1)).list.length c4v))) (F60.get 1 rfl)) ?_)
              intro w20 F61
              change Fr _ _ [blk _ _ [_, _, _, _, _], _, blk _ _ [_, _, _, _, _], _, _, _, blk _ _ [_, _, _, _, _], _] _ at F61
              refine Ops.nil fun a hS => ?_
              refine hK17 _ _ ?_ a hS
              refine Cod.region ?_
              refine Ops.step (One.val rfl rfl rfl (yld_move rfl (ev_t rfl)) ?_)
              refine Ops.step (One.val rfl rfl rfl (yld_inc rfl (ev_t rfl) (fun _ => by omega)) ?_)
              refine Ops.step (One.val rfl rfl rfl (yld_assign rfl (ev_t rfl)) ?_)
              refine Ops.nil fun a hS => ?_
              have F62 := F61.pull 7 rfl
              have F63 := F62.pull 7 rfl
              have F64 := F63.pull 7 rfl
              have F65 := F64.pull 7 rfl
              have F66 := F65.pull 5 rfl
              have F67 := F66.pull 6 rfl
              have F68 := F67.erase 6
              have F69 := F68.erase 6
              exact hK14 (ix + 1, (x5 (tO ta (ix + 1)).kind (tO ta (ix + 1)).num (tO ta (ix + 1)).str (.slice A3v (tO ta (ix + 1)).keys.length c3v) (.slice A4v (tO ta (ix + 1)).list.length c4v)), tO ta (ix + 1), Gv) _ a (hS.sub ⟨rfl, rfl, rfl, rfl, rfl, trivial⟩) ⟨by show ix + 1 ≤ _; omega, rfl, F69⟩ (by show ta.list.length - (ix + 1) < ta.list.length - ix; omega)
      · skip
        have hie : ix = ta.list.length := by simp at hc55; omega
        refine Cod.exit fun a hS => ?_
        simp only [Exit.then, Exit.inBlock, ↓reduceIte]
        refine hK12 _ _ ?_ a hS
        refine Cod.seq fun K23 hK23 => ?_
        refine Cod.region ?_
        refine Ops.step (One.val rfl rfl rfl (yld_move rfl (ev_t rfl)) ?_)
        refine Ops.step (One.val rfl rfl rfl (yld_len sl24 rfl (ev_t rfl)) ?_)
        refine Ops.step (One.val rfl rfl rfl (yld_eql rfl (ev_t rfl) ev_c) ?_)
        refine Ops.step (One.val rfl rfl rfl (yld_move rfl (ev_t rfl)) ?_)
        refine Ops.step (One.val (gd_some rfl rfl) rfl rfl (yld_field fi26_0 rfl (ev_t rfl)) ?_)
        refine Ops.step (One.val (gd_some rfl rfl) rfl rfl (yld_load1 on3 rfl (ev_g rfl) (fun _ => F13.cell 0 rfl rfl)) ?_)
        refine Ops.step (One.val (gd_some rfl rfl) rfl rfl (yld_eql rfl (ev_g rfl) ev_c) ?_)
        refine Ops.step (One.val rfl rfl rfl (yld_and rfl (ev_t rfl) (ev_g rfl)) ?_)
        refine Ops.step (One.val rfl rfl rfl (yld_move rfl (ev_t rfl)) ?_)
        refine Ops.step (One.val (gd_some rfl rfl) rfl rfl (yld_loadN ag26 rfl (ev_t rfl) (fun _ => F13.range (m := 5) (cs' := [_, _, _, _, _]) 0 rfl rfl) rfl) ?_)
        refine Ops.step (One.val (gd_some rfl rfl) rfl rfl (yld_loadN ag26 rfl (ev_t rfl) (fun _ => F13.range (m := 5) (cs' := [_, _, _, _, _]) 4 rfl rfl) rfl) ?_)
        refine Ops.step (One.gcall (R := Chg No w8) (gd_some rfl rfl) rfl rfl (ent_f rfl (evl2 (ev_g rfl) (ev_g rfl)) (enters en20)) (Chg.refl _ _) (fun hg => valSame_ct TO ta _ _ _ (F13.get 1 rfl).rep (rps_get (F13.get 5 rfl) 0 rfl)) ?_)
        intro w21 C21
        have F70 := F13.call C21
        refine Ops.step (One.val rfl rfl rfl (yld_or rfl (ev_t rfl) (ev_g rfl)) ?_)
        refine Ops.step (One.val rfl rfl rfl (yld_assign rfl (ev_t rfl)) ?_)
        refine Ops.nil fun a hS => ?_
        refine hK23 _ _ ?_ a hS
        refine Cod.ret fun a hS => ?_
        try simp only [Exit.then, Exit.inBlock]
        exact ret1 (t := 2) rfl hS rfl ⟨ret_b (fin18 hok hk5 hie hTOe), F70.chg⟩


theorem ownKnob_none : ownKnob Try.prog.godebug = none := by kernel_rfl
theorem params_ok : ∀ t ∈ Try.f10.params.toList, Try.prog.readableRec t = true ∧ t < Try.prog.types.size := by
  rw [Try.params10]
  intro t ht
  simp only [List.mem_cons, List.not_mem_nil, or_false] at ht
  rcases ht with rfl <;> exact ⟨by kernel_rfl, of_decide_eq_true (by kernel_rfl)⟩
set_option maxRecDepth 100000 in
theorem lifted (os : Os) (started : os.Started) (H : Type) (enc : TypeId × Value → H) :
    ReturnsInHanded {} Try.checked os 10 .any (Rows.fnPartEachSpec.pre6 enc Try.prog Try.f10 Rows.fnPartEachRow.domain false) (Rows.fnPartEachSpec.post enc Try.prog Try.f10 false true false false) := by
  refine returnsInHanded_of_change (C := Try.checked) ownKnob_none started (by kernel_rfl) Try.func10
    (ChangeSpec.witness6 (enc := enc) (C := Try.checked) false ⟨#[], #[.slice none 0 0], []⟩ 8 (by kernel_rfl) (by kernel_rfl) (by kernel_rfl) (by kernel_rfl)) ?_
  intro W base args ds gs before hval0 hW hcnd _
  have hval : ∀ (j : Nat) t v, Try.f10.params[j]? = some t → args[j]? = some v → Value.okWide Try.prog W .any base t v := hval0
  have hW' := hW
  obtain ⟨p, q, hA0, hV, rfl, hfz, hnd⟩ := hW
  have hA : DataW.TrodAll enc Try.prog W 0 (fun _ => true) true Try.f10.params.toList args.toList ds p := hA0
  rw [Try.params10] at hA hval
  obtain ⟨v0, d0, rfl, rfl, h0⟩ := trodAll_one hA
  obtain ⟨rfl, rfl⟩ := trodVars_none hV
  obtain ⟨code, hp⟩ := open_bytes (hval 0 _ v0 rfl rfl) h0
  refine (walk code v0 W hp).mono fun e W' ⟨he, hc⟩ => ?_
  subst he
  exact ⟨_, rfl, post_chg laidOut rfl params_ok hW' (fun _ _ _ => (trodAll_cons_mk (shut_bool Try.underlying4 _) trodAll_mk0)) rfl rfl hc (ok_one (by kernel_rfl) rfl (okWide_bool_mk Try.underlying4 _))⟩

theorem over : Rows.fnPartEachRow.holds Try.pinned (OpenSpec.ofChange Rows.fnPartEachSpec) :=
  OpenClaim.holds_of_wide 10 Try.f10 rfl rfl rfl rfl rfl rfl rfl ⟨rfl, rfl, rfl, rfl, rfl⟩ rfl rfl rfl rfl rfl (by kernel_rfl) Try.func10 (by kernel_rfl)
    (of_decide_eq_true (by kernel_rfl)) (by unfold Func.isWrapper; first | (rw [if_pos (by decide +kernel)]; kernel_rfl) | (rw [if_neg (by decide +kernel)]; exact ⟨rfl, rfl⟩))
    (fun os started H enc _ => lifted os started H enc)

/-- The statement. -/
theorem proved : Rows.FnPartEachSaid := over
#print axioms proved

end GPartEach
end Go.Proofs.Ytphchpbfhcniaaa.Eng
