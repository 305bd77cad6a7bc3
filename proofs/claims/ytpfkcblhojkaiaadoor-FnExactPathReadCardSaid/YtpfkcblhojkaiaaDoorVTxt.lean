/- Walks of both ValText and what they call: the text of a tree. -/
import Derived.Test.YtpfkcblhojkaiaaDoorPTxt
import Derived.Test.YtpfkcblhojkaiaaDoorOk
import Derived.Test.YtpfkcblhojkaiaaDoorLaiJ
import Derived.Test.YtpfkcblhojkaiaaDoorApp
namespace Go.Proofs.YtpfkcblhojkaiaaDoor.Eng
open Go.RowKit
set_option linter.unusedVariables false
set_option linter.unusedSimpArgs false
set_option maxHeartbeats 1000000


theorem len_cnt : ∀ l : List Tr, l.length ≤ sumN Tr.cnt l
  | [] => Nat.zero_le _
  | .mk k n s ks l' :: l => by
    rw [List.length_cons, sumN_cons, Tr.cnt_mk]
    have := len_cnt l
    omega
abbrev bs (l : List UInt8) : ByteArray := ⟨l.toArray⟩
theorem bs_list (l : List UInt8) : (bs l).data.toList = l := by simp
theorem bs_eq (s : ByteArray) : s = bs s.data.toList := txt_eq rfl
theorem bs_app (a b : List UInt8) : bs a ++ bs b = bs (a ++ b) := txt_eq (by rw [txt_app, bs_list, bs_list])
theorem bs_appL (a : List UInt8) (s : ByteArray) : bs a ++ s = bs (a ++ s.data.toList) := txt_eq (by rw [txt_app, bs_list])
theorem bs_size (l : List UInt8) : (bs l).size = l.length := by
  show l.toArray.size = _
  simp
def itemAt (k : Int) (ks : List ByteArray) (i : Nat) (t : List UInt8) : List UInt8 := if k = 6 then (nth ks i).data.toList ++ 58 :: t else t
def itemL (k : Int) (ks : List ByteArray) (ts : List (List UInt8)) : List (List UInt8) := ts.mapIdx fun i t => itemAt k ks i t
mutual
def Tr.txt : Tr → List UInt8
  | .mk k n s ks l => if k = 0 then [110, 117, 108, 108] else if k = 1 then [102, 97, 108, 115, 101] else if k = 2 then [116, 114, 117, 101] else if k = 3 then Lib.itoa n else if k = 4 then 39 :: (s.data.toList ++ [39])
    else if k = 6 then 123 :: (Lib.join (itemL k ks (Tr.txts l)) [44] ++ [125]) else 91 :: (Lib.join (itemL k ks (Tr.txts l)) [44] ++ [93])
def Tr.txts : List Tr → List (List UInt8)
  | [] => []
  | x :: l => x.txt :: Tr.txts l
end
theorem txts_len : ∀ l : List Tr, (Tr.txts l).length = l.length
  | [] => rfl
  | x :: l => by rw [Tr.txts, List.length_cons, List.length_cons, txts_len l]
theorem txts_get : ∀ (l : List Tr) (i : Nat) (h : i < l.length) (h' : i < (Tr.txts l).length), (Tr.txts l)[i] = l[i].txt
  | x :: l, 0, _, _ => rfl
  | x :: l, i + 1, h, h' => by
    simp only [Tr.txts, List.getElem_cons_succ]
    exact txts_get l i (by simpa using h) (by simpa [Tr.txts] using h')
theorem itemL_len (k : Int) (ks : List ByteArray) (l : List Tr) : (itemL k ks (Tr.txts l)).length = l.length := by simp [itemL, txts_len]
theorem itemL_get {k : Int} {ks : List ByteArray} {l : List Tr} (i : Nat) (h : i < l.length) : (itemL k ks (Tr.txts l))[i]'(by rw [itemL_len]; exact h) = itemAt k ks i l[i].txt := by
  simp only [itemL, List.getElem_mapIdx]
  rw [txts_get l i h]
def joinI (k : Int) (ks : List ByteArray) (l : List Tr) (i : Nat) : List UInt8 := Lib.join ((itemL k ks (Tr.txts l)).take i) [44]
theorem join_snoc (y : List UInt8) : ∀ xs : List (List UInt8), xs ≠ [] → Lib.join (xs ++ [y]) [44] = Lib.join xs [44] ++ ([44] ++ y)
  | [], h => absurd rfl h
  | x :: r, _ => by
    rw [List.cons_append, Lib.join_cons, Lib.join_cons]
    unfold Lib.joinTail
    simp
theorem joinI_zero (k : Int) (ks : List ByteArray) (l : List Tr) : joinI k ks l 0 = [] := rfl
theorem joinI_one {k : Int} {ks : List ByteArray} {l : List Tr} (h : 0 < l.length) : joinI k ks l 1 = itemAt k ks 0 l[0].txt := by
  unfold joinI
  rw [List.take_succ_eq_append_getElem (by rw [itemL_len]; exact h), List.take_zero, List.nil_append, Lib.join_one, itemL_get 0 h]
theorem joinI_step {k : Int} {ks : List ByteArray} {l : List Tr} {i : Nat} (h : i < l.length) (h0 : 0 < i) : joinI k ks l (i + 1) = joinI k ks l i ++ ([44] ++ itemAt k ks i l[i].txt) := by
  unfold joinI
  rw [List.take_succ_eq_append_getElem (by rw [itemL_len]; exact h), join_snoc _ _ (by
    intro e
    have := congrArg List.length e
    rw [List.length_take, itemL_len, List.length_nil, Nat.min_eq_left (by omega)] at this
    omega), itemL_get i h]
theorem joinI_end (k : Int) (ks : List ByteArray) (l : List Tr) : joinI k ks l l.length = Lib.join (itemL k ks (Tr.txts l)) [44] := by
  unfold joinI
  rw [List.take_of_length_le (by rw [itemL_len]; exact Nat.le_refl _)]
theorem itemAt_le {k : Int} {ks : List ByteArray} {i : Nat} {t : List UInt8} (h : k = 6 → (nth ks i).size ≤ 12) : (itemAt k ks i t).length ≤ t.length + 13 := by
  unfold itemAt
  split
  · rename_i hk
    have := h hk
    have e : (nth ks i).data.toList.length = (nth ks i).size := by simp
    rw [List.length_append, List.length_cons, e]
    omega
  · omega
theorem joinI_le {k : Int} {ks : List ByteArray} {l : List Tr} (hk : k = 6 → ∀ i, i < l.length → (nth ks i).size ≤ 12) (b : Nat) (hb : ∀ x ∈ l, x.txt.length + 20 ≤ b * x.cnt) : ∀ i, i ≤ l.length → (joinI k ks l i).length ≤ b * sumN Tr.cnt (l.take i)
  | 0, _ => by rw [joinI_zero]; exact Nat.zero_le _
  | i + 1, hi => by
    have h1 := joinI_le hk b hb i (by omega)
    have h2 := hb l[i] (List.getElem_mem (by omega))
    have h3 := itemAt_le (k := k) (ks := ks) (i := i) (t := (l[i]'(by omega)).txt) fun h => hk h i (by omega)
    rw [sumN_take Tr.cnt l i (by omega), Nat.mul_add]
    rcases Nat.eq_zero_or_pos i with h0 | h0
    · subst h0
      rw [joinI_one (by omega)]
      omega
    · rw [joinI_step (by omega) h0, List.length_append, List.length_append]
      have : [(44 : UInt8)].length = 1 := rfl
      omega
theorem txt_le : ∀ (t : Tr) (d : Int), Form d t → t.txt.length + 20 ≤ 2000000 * t.cnt := Tr.ind (p := fun t => ∀ d, Form d t → t.txt.length + 20 ≤ 2000000 * t.cnt) fun k n s ks l H d hf => by
  obtain ⟨hd, hp, hl⟩ := Form.iff.1 hf
  have hj := joinI_le (k := k) (ks := ks) (l := l) (fun h i hi => by
    have h1 := hp.len h
    exact okS_size (hp.keys i (by omega)).1) 2000000 (fun x hx => H x hx _ (hl x hx)) l.length (Nat.le_refl _)
  rw [joinI_end, List.take_length] at hj
  have hs : s.data.toList.length ≤ 12 := by have := okS_size hp.ok; simpa using this
  have hn : (Lib.itoa n).length ≤ 1000002 := by
    have h1 := itoaS_size n
    have h2 : (itoaS n).size = (Lib.itoa n).length := bs_size _
    have h3 := hp.n0
    have h4 := hp.n1
    omega
  rw [Tr.txt, Tr.cnt_mk, Nat.mul_add]
  repeat' split
  all_goals try simp only [List.length_cons, List.length_append, List.length_nil]
  all_goals omega
theorem txt_size {t : Tr} {d : Int} (h : Form d t) (hc : t.cnt ≤ 60) : t.txt.length ≤ 120000000 := by
  have := txt_le t d h
  omega
def TxtOk (f : FuncId) (t : Tr) : Prop := ∀ (d : Int) (v : Value) (w : World), Rep Any w t v → Form d t → t.cnt ≤ 60 → PowTab w → Calls Tryd.prog f #[v] w fun e w' => e = .returned (.string (bs t.txt)) ∧ Chg No w w'
theorem txt3 {k n : Int} {s : ByteArray} {ks : List ByteArray} {l : List Tr} (h : k = 3) : (Tr.mk k n s ks l).txt = Lib.itoa n := by subst h; rw [Tr.txt]; rfl
theorem txt4 {k n : Int} {s : ByteArray} {ks : List ByteArray} {l : List Tr} (h : k = 4) : bs (Tr.mk k n s ks l).txt = (⟨#[39]⟩ ++ s) ++ ⟨#[39]⟩ := by
  subst h
  rw [Tr.txt]
  refine (txt_eq ?_).symm
  rw [txt_app, txt_app]
  rfl
theorem txt6 {k n : Int} {s : ByteArray} {ks : List ByteArray} {l : List Tr} (h : k = 6) : bs (Tr.mk k n s ks l).txt = (⟨#[123]⟩ ++ bs (joinI k ks l l.length)) ++ ⟨#[125]⟩ := by
  subst h
  rw [Tr.txt, joinI_end]
  refine (txt_eq ?_).symm
  rw [txt_app, txt_app, bs_list]
  rfl
theorem txt5 {k n : Int} {s : ByteArray} {ks : List ByteArray} {l : List Tr} (h : k = 5) : bs (Tr.mk k n s ks l).txt = (⟨#[91]⟩ ++ bs (joinI k ks l l.length)) ++ ⟨#[93]⟩ := by
  subst h
  rw [Tr.txt, joinI_end]
  refine (txt_eq ?_).symm
  rw [txt_app, txt_app, bs_list]
  rfl


section
variable {k : Int} {ks : List ByteArray} {l : List Tr} {i : Nat} {key : ByteArray}
theorem item6 (h6 : k = 6) (hk : nth ks i = key) (t : List UInt8) : (key ++ ⟨#[58]⟩) ++ bs t = bs (itemAt k ks i t) := by
  unfold itemAt
  rw [if_pos h6, hk]
  refine txt_eq ?_
  rw [txt_app, txt_app, bs_list]
  simp
theorem item5 (h6 : k ≠ 6) (t : List UInt8) : bs t = bs (itemAt k ks i t) := by unfold itemAt; rw [if_neg h6]
theorem outA (h : i < l.length) (h0 : 0 < i) (h6 : k = 6) (hk : nth ks i = key) : (((bs (joinI k ks l i) ++ ⟨#[44]⟩) ++ key) ++ ⟨#[58]⟩) ++ bs l[i].txt = bs (joinI k ks l (i + 1)) := by
  rw [joinI_step h h0]
  unfold itemAt
  rw [if_pos h6, hk]
  refine txt_eq ?_
  simp only [txt_app, bs_list]
  simp
theorem outB (h : i < l.length) (h0 : 0 < i) (h6 : k ≠ 6) : (bs (joinI k ks l i) ++ ⟨#[44]⟩) ++ bs l[i].txt = bs (joinI k ks l (i + 1)) := by
  rw [joinI_step h h0]
  unfold itemAt
  rw [if_neg h6]
  refine txt_eq ?_
  simp only [txt_app, bs_list]
  simp
theorem outC (h : i < l.length) (h0 : i = 0) (h6 : k = 6) (hk : nth ks i = key) : ((bs (joinI k ks l i) ++ key) ++ ⟨#[58]⟩) ++ bs l[i].txt = bs (joinI k ks l (i + 1)) := by
  subst h0
  rw [joinI_one h, joinI_zero]
  unfold itemAt
  rw [if_pos h6, hk]
  refine txt_eq ?_
  simp only [txt_app, bs_list]
  simp
theorem outD (h : i < l.length) (h0 : i = 0) (h6 : k ≠ 6) : bs (joinI k ks l i) ++ bs l[i].txt = bs (joinI k ks l (i + 1)) := by
  subst h0
  rw [joinI_one h, joinI_zero]
  unfold itemAt
  rw [if_neg h6]
  refine txt_eq ?_
  simp only [txt_app, bs_list]
  simp
def itemsB (k : Int) (ks : List ByteArray) (l : List Tr) : List ByteArray := (itemL k ks (Tr.txts l)).map bs
theorem itemsB_len : (itemsB k ks l).length = l.length := by simp [itemsB, itemL_len]
theorem itemsB_snoc (h : i < l.length) : (itemsB k ks l).take i ++ [bs (itemAt k ks i l[i].txt)] = (itemsB k ks l).take (i + 1) := by
  rw [List.take_succ_eq_append_getElem (by rw [itemsB_len]; exact h)]
  congr 2
  simp only [itemsB, List.getElem_map]
  rw [itemL_get i h]
theorem itemsB_txt : (itemsB k ks l).map (·.data.toList) = itemL k ks (Tr.txts l) := by
  unfold itemsB
  rw [List.map_map]
  have : ((fun x : ByteArray => x.data.toList) ∘ bs) = id := by
    funext x
    exact bs_list x
  rw [this, List.map_id]
end
theorem joinq_ct {k : Int} {ks : List ByteArray} {l : List Tr} {q : List ByteArray} (hq : q = itemsB k ks l) (v : Value) (w : World) (h : RepS Any w q v) (hN : l.length ≤ 1000) (hJ : (joinI k ks l l.length).length ≤ 120000000) :
    Calls Tryd.prog 93 #[v, .string ⟨#[44]⟩] w fun e w' => e = .returned (.string (bs (joinI k ks l l.length))) ∧ Chg No w w' := by
  subst hq
  rw [joinI_end] at hJ ⊢
  have := join_ct (itemsB k ks l) v w h (by rw [itemsB_len]; exact hN) (by rw [itemsB_txt]; omega)
  rw [itemsB_txt] at this
  exact this

set_option maxHeartbeats 4000000 in
set_option maxRecDepth 100000 in
theorem l1Text_of (k n : Int) (s : ByteArray) (ks : List ByteArray) (l : List Tr) (H : ∀ t ∈ l, TxtOk 60 t) : TxtOk 60 (.mk k n s ks l) := by
  intro d v w hr hf hc60 hT
  obtain ⟨v3, v4, rfl, h3, h4⟩ := hr.open
  obtain ⟨A3, c3, rfl, hn3⟩ := h3.open
  obtain ⟨A4, c4, rfl, hn4⟩ := h4.open
  obtain ⟨hd, hp, hfl⟩ := Form.iff.1 hf
  rw [Tr.cnt_mk] at hc60
  have hk0 := hp.k0
  have hk6 := hp.k6
  have hn0 := hp.n0
  have hn1 := hp.n1
  have hss := okS_size hp.ok
  have hky : k = 6 → ∀ i, i < l.length → (nth ks i).size ≤ 12 := fun h i hi => by
    have h1 := hp.len h
    exact okS_size (hp.keys i (by omega)).1
  have hjl := joinI_le (k := k) (ks := ks) (l := l) hky 2000000 (fun x hx => txt_le x _ (hfl x hx))
  have h39 : (⟨#[39]⟩ : ByteArray).size = 1 := rfl
  have h44 : (⟨#[44]⟩ : ByteArray).size = 1 := rfl
  have h58 : (⟨#[58]⟩ : ByteArray).size = 1 := rfl
  have h91 : (⟨#[91]⟩ : ByteArray).size = 1 := rfl
  have h93 : (⟨#[93]⟩ : ByteArray).size = 1 := rfl
  have h123 : (⟨#[123]⟩ : ByteArray).size = 1 := rfl
  have h125 : (⟨#[125]⟩ : ByteArray).size = 1 := rfl
  refine enter Tryd.func60 rfl rfl rfl ?_
  have F0 := Fr.start w
  refine Cod.seq fun K1 hK1 => ?_
  refine Cod.region ?_
  refine Ops.step (One.box F0 rfl rfl rfl rfl (ev_t rfl) ?_)
  intro b1 w1 hb1 F1
  change Fr _ _ [blk _ _ [_, _, _, _, _]] _ at F1
  refine Ops.step (One.val rfl rfl rfl (yld_assign rfl ev_c) ?_)
  refine Ops.nil fun a hS => ?_
  refine hK1 _ _ ?_ a hS
  refine Cod.seq fun K2 hK2 => ?_
  refine Cod.seq fun K3 hK3 => ?_
  refine Cod.region ?_
  refine Ops.step (One.val rfl rfl rfl (yld_field fi33_0 rfl (ev_t rfl)) ?_)
  refine Ops.step (One.val rfl rfl rfl (yld_load1 on3 rfl (ev_t rfl) (fun _ => F1.cell 0 rfl rfl)) ?_)
  refine Ops.nil fun a hS => ?_
  refine hK3 _ _ ?_ a hS
  refine Cod.block ?_
  refine Cod.seq fun K4 hK4 => ?_
  refine Cod.region ?_
  refine Ops.step (One.val rfl rfl rfl (yld_eql rfl (ev_t rfl) ev_c) ?_)
  refine Ops.step (One.val rfl rfl rfl (yld_assign rfl (ev_t rfl)) ?_)
  refine Ops.nil fun a hS => ?_
  refine hK4 _ _ ?_ a hS
  refine Cod.cond rfl (fun hc7 => ?_) (fun hc7 => ?_)
  · skip
    obtain hkk : k = 0 := by simpa using hc7
    refine Cod.seq fun K5 hK5 => ?_
    refine Cod.region ?_
    refine Ops.step (One.val rfl rfl rfl (yld_assign rfl ev_c) ?_)
    refine Ops.nil fun a hS => ?_
    refine hK5 _ _ ?_ a hS
    refine Cod.ret fun a hS => ?_
    try simp only [Exit.then, Exit.inBlock]
    exact ret1 (t := 2) rfl hS rfl ⟨by subst hkk; rfl, F1.chg⟩
  · skip
    have e0 : k ≠ 0 := by simpa using hc7
    refine Cod.seq fun K6 hK6 => ?_
    refine Cod.region ?_
    refine Ops.step (One.val rfl rfl rfl (yld_eql rfl (ev_t rfl) ev_c) ?_)
    refine Ops.step (One.val rfl rfl rfl (yld_assign rfl (ev_t rfl)) ?_)
    refine Ops.nil fun a hS => ?_
    refine hK6 _ _ ?_ a hS
    refine Cod.cond rfl (fun hc9 => ?_) (fun hc9 => ?_)
    · skip
      obtain hkk : k = 1 := by simpa using hc9
      refine Cod.seq fun K7 hK7 => ?_
      refine Cod.region ?_
      refine Ops.step (One.val rfl rfl rfl (yld_assign rfl ev_c) ?_)
      refine Ops.nil fun a hS => ?_
      refine hK7 _ _ ?_ a hS
      refine Cod.ret fun a hS => ?_
      try simp only [Exit.then, Exit.inBlock]
      exact ret1 (t := 2) rfl hS rfl ⟨by subst hkk; rfl, F1.chg⟩
    · skip
      have e1 : k ≠ 1 := by simpa using hc9
      refine Cod.seq fun K8 hK8 => ?_
      refine Cod.region ?_
      refine Ops.step (One.val rfl rfl rfl (yld_eql rfl (ev_t rfl) ev_c) ?_)
      refine Ops.step (One.val rfl rfl rfl (yld_assign rfl (ev_t rfl)) ?_)
      refine Ops.nil fun a hS => ?_
      refine hK8 _ _ ?_ a hS
      refine Cod.cond rfl (fun hc11 => ?_) (fun hc11 => ?_)
      · skip
        obtain hkk : k = 2 := by simpa using hc11
        refine Cod.seq fun K9 hK9 => ?_
        refine Cod.region ?_
        refine Ops.step (One.val rfl rfl rfl (yld_assign rfl ev_c) ?_)
        refine Ops.nil fun a hS => ?_
        refine hK9 _ _ ?_ a hS
        refine Cod.ret fun a hS => ?_
        try simp only [Exit.then, Exit.inBlock]
        exact ret1 (t := 2) rfl hS rfl ⟨by subst hkk; rfl, F1.chg⟩
      · skip
        have e2 : k ≠ 2 := by simpa using hc11
        refine Cod.seq fun K10 hK10 => ?_
        refine Cod.region ?_
        refine Ops.step (One.val rfl rfl rfl (yld_eql rfl (ev_t rfl) ev_c) ?_)
        refine Ops.step (One.val rfl rfl rfl (yld_assign rfl (ev_t rfl)) ?_)
        refine Ops.nil fun a hS => ?_
        refine hK10 _ _ ?_ a hS
        refine Cod.cond rfl (fun hc13 => ?_) (fun hc13 => ?_)
        · skip
          obtain hkk : k = 3 := by simpa using hc13
          refine Cod.seq fun K11 hK11 => ?_
          refine Cod.region ?_
          refine Ops.step (One.val rfl rfl rfl (yld_field fi33_1 rfl (ev_t rfl)) ?_)
          refine Ops.step (One.val rfl rfl rfl (yld_load1 on3 rfl (ev_t rfl) (fun _ => F1.cell 0 rfl rfl)) ?_)
          refine Ops.step (One.call rfl rfl rfl (ent_f rfl (evl1 (ev_t rfl)) (enters en85)) (l11Dec_ct n (by omega) (by omega) _) (fun e w2 hw2 => ?_))
          obtain ⟨rfl, C2⟩ := hw2
          have F2 := F1.call C2
          refine ⟨_, rfl, ?_⟩
          refine Ops.step (One.val rfl rfl rfl (yld_assign rfl (ev_t rfl)) ?_)
          refine Ops.nil fun a hS => ?_
          refine hK11 _ _ ?_ a hS
          refine Cod.ret fun a hS => ?_
          try simp only [Exit.then, Exit.inBlock]
          exact ret1 (t := 2) rfl hS rfl ⟨by rw [txt3 hkk]; rfl, F2.chg⟩
        · skip
          have e3 : k ≠ 3 := by simpa using hc13
          refine Cod.seq fun K12 hK12 => ?_
          refine Cod.region ?_
          refine Ops.step (One.val rfl rfl rfl (yld_eql rfl (ev_t rfl) ev_c) ?_)
          refine Ops.step (One.val rfl rfl rfl (yld_assign rfl (ev_t rfl)) ?_)
          refine Ops.nil fun a hS => ?_
          refine hK12 _ _ ?_ a hS
          refine Cod.cond rfl (fun hc18 => ?_) (fun hc18 => ?_)
          · skip
            obtain hkk : k = 4 := by simpa using hc18
            refine Cod.seq fun K13 hK13 => ?_
            refine Cod.region ?_
            refine Ops.step (One.val rfl rfl rfl (yld_field fi33_2 rfl (ev_t rfl)) ?_)
            refine Ops.step (One.val rfl rfl rfl (yld_load1 on9 rfl (ev_t rfl) (fun _ => F1.cell 0 rfl rfl)) ?_)
            refine Ops.step (One.val rfl rfl rfl (yld_sadd rfl ev_c (ev_t rfl) (fun _ => by omega)) ?_)
            refine Ops.step (One.val rfl rfl rfl (yld_sadd rfl (ev_t rfl) ev_c (fun _ => by simp only [ByteArray.size_append, bs_size, List.length_cons, List.length_nil]; omega)) ?_)
            refine Ops.step (One.val rfl rfl rfl (yld_assign rfl (ev_t rfl)) ?_)
            refine Ops.nil fun a hS => ?_
            refine hK13 _ _ ?_ a hS
            refine Cod.ret fun a hS => ?_
            try simp only [Exit.then, Exit.inBlock]
            exact ret1 (t := 2) rfl hS rfl ⟨by rw [txt4 hkk], F1.chg⟩
          · skip
            have e4 : k ≠ 4 := by simpa using hc18
            refine Cod.skip fun a hS => ?_
            refine hK2 _ _ ?_ a hS
            refine Cod.seq fun K14 hK14 => ?_
            refine Cod.region ?_
            refine Ops.step (One.val rfl rfl rfl (yld_assign rfl ev_c) ?_)
            refine Ops.nil fun a hS => ?_
            refine hK14 _ _ ?_ a hS
            refine Cod.seq fun K15 hK15 => ?_
            refine Cod.seq fun K16 hK16 => ?_
            refine Cod.region ?_
            refine Ops.step (One.val rfl rfl rfl (yld_assign rfl ev_c) ?_)
            refine Ops.nil fun a hS => ?_
            refine hK16 _ _ ?_ a hS
            refine Cod.block ?_
            refine Cod.loop (fun i : Nat => [(1, true, .pointer (some ⟨b1, 0, none⟩)), (3, true, .string (bs (joinI k ks l i))), (4, true, .int .i64 (i : Int))]) (fun i w' => i ≤ l.length ∧ Fr No w [blk b1 33 [.int .i64 k, .int .i64 n, .string s, .slice A3 ks.length c3, .slice A4 l.length c4]] w') (fun i => l.length - i) 0 ⟨rfl, rfl, rfl, trivial⟩ ⟨Nat.zero_le _, F1⟩ ?_
            intro i w3 hW K17 hK17
            obtain ⟨hi0, F3⟩ := hW
            refine Cod.seq fun K18 hK18 => ?_
            refine Cod.seq fun K19 hK19 => ?_
            refine Cod.region ?_
            refine Ops.step (One.val rfl rfl rfl (yld_move rfl (ev_t rfl)) ?_)
            refine Ops.step (One.val rfl rfl rfl (yld_field fi33_4 rfl (ev_t rfl)) ?_)
            refine Ops.step (One.val rfl rfl rfl (yld_load1 on31 rfl (ev_t rfl) (fun _ => F3.cell 0 rfl rfl)) ?_)
            refine Ops.step (One.val rfl rfl rfl (yld_len sl31 rfl (ev_t rfl)) ?_)
            refine Ops.step (One.val rfl rfl rfl (yld_lss rfl (ev_t rfl) (ev_t rfl)) ?_)
            refine Ops.nil fun a hS => ?_
            refine hK19 _ _ ?_ a hS
            refine Cod.cond rfl (fun hc28 => ?_) (fun hc28 => ?_)
            · skip
              have hi : i < l.length := by simpa using hc28
              obtain ⟨b, o, cs, rfl, -, hlc, hrx, ht⟩ := h4.at i hi
              have hwi := sumN_mem Tr.cnt (List.getElem_mem hi)
              have hJ : (joinI k ks l i).length ≤ 120000000 := by
                have h1 := hjl i (by omega)
                have h2 := sumN_take_le Tr.cnt l i
                omega
              have hX2 := txt_size (hfl _ (List.getElem_mem hi)) (by omega)
              refine Cod.skip fun a hS => ?_
              refine hK18 _ _ ?_ a hS
              refine Cod.seq fun K20 hK20 => ?_
              refine Cod.block ?_
              refine Cod.seq fun K21 hK21 => ?_
              refine Cod.seq fun K22 hK22 => ?_
              refine Cod.region ?_
              refine Ops.step (One.val rfl rfl rfl (yld_move rfl (ev_t rfl)) ?_)
              refine Ops.step (One.val rfl rfl rfl (yld_gtr rfl (ev_t rfl) ev_c) ?_)
              refine Ops.nil fun a hS => ?_
              refine hK22 _ _ ?_ a hS
              refine Cod.cond rfl (fun hc32 => ?_) (fun hc32 => ?_)
              · skip
                have hpos : 0 < i := by simp at hc32; omega
                refine Cod.region ?_
                refine Ops.step (One.val rfl rfl rfl (yld_move rfl (ev_t rfl)) ?_)
                refine Ops.step (One.val rfl rfl rfl (yld_sadd rfl (ev_t rfl) ev_c (fun _ => by simp only [ByteArray.size_append, bs_size, List.length_cons, List.length_nil]; omega)) ?_)
                refine Ops.step (One.val rfl rfl rfl (yld_assign rfl (ev_t rfl)) ?_)
                refine Ops.nil fun a hS => ?_
                refine hK21 _ _ ?_ a hS
                refine Cod.seq fun K23 hK23 => ?_
                refine Cod.seq fun K24 hK24 => ?_
                refine Cod.region ?_
                refine Ops.step (One.val rfl rfl rfl (yld_field fi33_0 rfl (ev_t rfl)) ?_)
                refine Ops.step (One.val rfl rfl rfl (yld_load1 on3 rfl (ev_t rfl) (fun _ => F3.cell 0 rfl rfl)) ?_)
                refine Ops.step (One.val rfl rfl rfl (yld_eql rfl (ev_t rfl) ev_c) ?_)
                refine Ops.nil fun a hS => ?_
                refine hK24 _ _ ?_ a hS
                refine Cod.cond rfl (fun hc37 => ?_) (fun hc37 => ?_)
                · skip
                  have h6 : k = 6 := by simpa using hc37
                  have hik : i < ks.length := by have := hp.len h6; omega
                  have hnk := nth_eq hik
                  have hky1 := hky h6 i hi
                  rw [hnk] at hky1
                  obtain ⟨kb, ko, rfl, -, hkr⟩ := h3.at i hik
                  refine Cod.region ?_
                  refine Ops.step (One.val rfl rfl rfl (yld_move rfl (ev_t rfl)) ?_)
                  refine Ops.step (One.val rfl rfl rfl (yld_field fi33_3 rfl (ev_t rfl)) ?_)
                  refine Ops.step (One.val rfl rfl rfl (yld_load1 on22 rfl (ev_t rfl) (fun _ => F3.cell 0 rfl rfl)) ?_)
                  refine Ops.step (One.val rfl rfl rfl (yld_move rfl (ev_t rfl)) ?_)
                  refine Ops.step (One.val rfl rfl rfl (yld_indexN sl22 rfl (ev_t rfl) (ev_t rfl) (fun _ => by omega)) ?_)
                  refine Ops.step (One.val rfl rfl rfl (yld_load1 on9 rfl (ev_t rfl) (fun _ => rangeAt_cell (rng hkr F3.chg) (j := 0) rfl)) ?_)
                  refine Ops.step (One.val rfl rfl rfl (yld_sadd rfl (ev_t rfl) (ev_t rfl) (fun _ => by simp only [ByteArray.size_append, bs_size, List.length_cons, List.length_nil]; omega)) ?_)
                  refine Ops.step (One.val rfl rfl rfl (yld_sadd rfl (ev_t rfl) ev_c (fun _ => by simp only [ByteArray.size_append, bs_size, List.length_cons, List.length_nil]; omega)) ?_)
                  refine Ops.step (One.val rfl rfl rfl (yld_assign rfl (ev_t rfl)) ?_)
                  refine Ops.nil fun a hS => ?_
                  refine hK23 _ _ ?_ a hS
                  refine Cod.region ?_
                  refine Ops.step (One.val rfl rfl rfl (yld_move rfl (ev_t rfl)) ?_)
                  refine Ops.step (One.val rfl rfl rfl (yld_field fi33_4 rfl (ev_t rfl)) ?_)
                  refine Ops.step (One.val rfl rfl rfl (yld_load1 on31 rfl (ev_t rfl) (fun _ => F3.cell 0 rfl rfl)) ?_)
                  refine Ops.step (One.val rfl rfl rfl (yld_move rfl (ev_t rfl)) ?_)
                  refine Ops.step (One.val rfl rfl rfl (yld_indexN sl31 rfl (ev_t rfl) (ev_t rfl) (fun _ => by omega)) ?_)
                  refine Ops.step (One.val rfl rfl rfl (yld_loadN ag33 rfl (ev_t rfl) (fun _ => rng hrx F3.chg) hlc) ?_)
                  refine Ops.step (One.call rfl rfl rfl (ent_f rfl (evl1 (ev_t rfl)) (enters en60)) (H _ (List.getElem_mem hi) _ _ _ (ht.chg F3.chg) (hfl _ (List.getElem_mem hi)) (by omega) (hT.chg F3.chg)) (fun e w4 hw4 => ?_))
                  obtain ⟨rfl, C4⟩ := hw4
                  have F4 := F3.call C4
                  refine ⟨_, rfl, ?_⟩
                  refine Ops.step (One.val rfl rfl rfl (yld_sadd rfl (ev_t rfl) (ev_t rfl) (fun _ => by simp only [ByteArray.size_append, bs_size, List.length_cons, List.length_nil]; omega)) ?_)
                  refine Ops.step (One.val rfl rfl rfl (yld_assign rfl (ev_t rfl)) ?_)
                  refine Ops.nil fun a hS => ?_
                  refine hK20 _ _ ?_ a hS
                  refine Cod.region ?_
                  refine Ops.step (One.val rfl rfl rfl (yld_move rfl (ev_t rfl)) ?_)
                  refine Ops.step (One.val rfl rfl rfl (yld_inc rfl (ev_t rfl) (fun _ => by omega)) ?_)
                  refine Ops.step (One.val rfl rfl rfl (yld_assign rfl (ev_t rfl)) ?_)
                  refine Ops.nil fun a hS => ?_
                  first
                    | (rw [outA hi hpos h6 hnk] at hS; exact hK17 (i + 1) _ a (hS.sub ⟨rfl, rfl, rfl, trivial⟩) ⟨by omega, F4⟩ (by omega))
                    | (rw [outB hi hpos hn6] at hS; exact hK17 (i + 1) _ a (hS.sub ⟨rfl, rfl, rfl, trivial⟩) ⟨by omega, F4⟩ (by omega))
                    | (rw [outC hi hz h6 hnk] at hS; exact hK17 (i + 1) _ a (hS.sub ⟨rfl, rfl, rfl, trivial⟩) ⟨by omega, F4⟩ (by omega))
                    | (rw [outD hi hz hn6] at hS; exact hK17 (i + 1) _ a (hS.sub ⟨rfl, rfl, rfl, trivial⟩) ⟨by omega, F4⟩ (by omega))
                · skip
                  have hn6 : k ≠ 6 := by simpa using hc37
                  refine Cod.skip fun a hS => ?_
                  refine hK23 _ _ ?_ a hS
                  refine Cod.region ?_
                  refine Ops.step (One.val rfl rfl rfl (yld_move rfl (ev_t rfl)) ?_)
                  refine Ops.step (One.val rfl rfl rfl (yld_field fi33_4 rfl (ev_t rfl)) ?_)
                  refine Ops.step (One.val rfl rfl rfl (yld_load1 on31 rfl (ev_t rfl) (fun _ => F3.cell 0 rfl rfl)) ?_)
                  refine Ops.step (One.val rfl rfl rfl (yld_move rfl (ev_t rfl)) ?_)
                  refine Ops.step (One.val rfl rfl rfl (yld_indexN sl31 rfl (ev_t rfl) (ev_t rfl) (fun _ => by omega)) ?_)
                  refine Ops.step (One.val rfl rfl rfl (yld_loadN ag33 rfl (ev_t rfl) (fun _ => rng hrx F3.chg) hlc) ?_)
                  refine Ops.step (One.call rfl rfl rfl (ent_f rfl (evl1 (ev_t rfl)) (enters en60)) (H _ (List.getElem_mem hi) _ _ _ (ht.chg F3.chg) (hfl _ (List.getElem_mem hi)) (by omega) (hT.chg F3.chg)) (fun e w5 hw5 => ?_))
                  obtain ⟨rfl, C5⟩ := hw5
                  have F5 := F3.call C5
                  refine ⟨_, rfl, ?_⟩
                  refine Ops.step (One.val rfl rfl rfl (yld_sadd rfl (ev_t rfl) (ev_t rfl) (fun _ => by simp only [ByteArray.size_append, bs_size, List.length_cons, List.length_nil]; omega)) ?_)
                  refine Ops.step (One.val rfl rfl rfl (yld_assign rfl (ev_t rfl)) ?_)
                  refine Ops.nil fun a hS => ?_
                  refine hK20 _ _ ?_ a hS
                  refine Cod.region ?_
                  refine Ops.step (One.val rfl rfl rfl (yld_move rfl (ev_t rfl)) ?_)
                  refine Ops.step (One.val rfl rfl rfl (yld_inc rfl (ev_t rfl) (fun _ => by omega)) ?_)
                  refine Ops.step (One.val rfl rfl rfl (yld_assign rfl (ev_t rfl)) ?_)
                  refine Ops.nil fun a hS => ?_
                  first
                    | (rw [outA hi hpos h6 hnk] at hS; exact hK17 (i + 1) _ a (hS.sub ⟨rfl, rfl, rfl, trivial⟩) ⟨by omega, F5⟩ (by omega))
                    | (rw [outB hi hpos hn6] at hS; exact hK17 (i + 1) _ a (hS.sub ⟨rfl, rfl, rfl, trivial⟩) ⟨by omega, F5⟩ (by omega))
                    | (rw [outC hi hz h6 hnk] at hS; exact hK17 (i + 1) _ a (hS.sub ⟨rfl, rfl, rfl, trivial⟩) ⟨by omega, F5⟩ (by omega))
                    | (rw [outD hi hz hn6] at hS; exact hK17 (i + 1) _ a (hS.sub ⟨rfl, rfl, rfl, trivial⟩) ⟨by omega, F5⟩ (by omega))
              · skip
                have hz : i = 0 := by simp at hc32; omega
                refine Cod.skip fun a hS => ?_
                refine hK21 _ _ ?_ a hS
                refine Cod.seq fun K25 hK25 => ?_
                refine Cod.seq fun K26 hK26 => ?_
                refine Cod.region ?_
                refine Ops.step (One.val rfl rfl rfl (yld_field fi33_0 rfl (ev_t rfl)) ?_)
                refine Ops.step (One.val rfl rfl rfl (yld_load1 on3 rfl (ev_t rfl) (fun _ => F3.cell 0 rfl rfl)) ?_)
                refine Ops.step (One.val rfl rfl rfl (yld_eql rfl (ev_t rfl) ev_c) ?_)
                refine Ops.nil fun a hS => ?_
                refine hK26 _ _ ?_ a hS
                refine Cod.cond rfl (fun hc37 => ?_) (fun hc37 => ?_)
                · skip
                  have h6 : k = 6 := by simpa using hc37
                  have hik : i < ks.length := by have := hp.len h6; omega
                  have hnk := nth_eq hik
                  have hky1 := hky h6 i hi
                  rw [hnk] at hky1
                  obtain ⟨kb, ko, rfl, -, hkr⟩ := h3.at i hik
                  refine Cod.region ?_
                  refine Ops.step (One.val rfl rfl rfl (yld_move rfl (ev_t rfl)) ?_)
                  refine Ops.step (One.val rfl rfl rfl (yld_field fi33_3 rfl (ev_t rfl)) ?_)
                  refine Ops.step (One.val rfl rfl rfl (yld_load1 on22 rfl (ev_t rfl) (fun _ => F3.cell 0 rfl rfl)) ?_)
                  refine Ops.step (One.val rfl rfl rfl (yld_move rfl (ev_t rfl)) ?_)
                  refine Ops.step (One.val rfl rfl rfl (yld_indexN sl22 rfl (ev_t rfl) (ev_t rfl) (fun _ => by omega)) ?_)
                  refine Ops.step (One.val rfl rfl rfl (yld_load1 on9 rfl (ev_t rfl) (fun _ => rangeAt_cell (rng hkr F3.chg) (j := 0) rfl)) ?_)
                  refine Ops.step (One.val rfl rfl rfl (yld_sadd rfl (ev_t rfl) (ev_t rfl) (fun _ => by simp only [ByteArray.size_append, bs_size, List.length_cons, List.length_nil]; omega)) ?_)
                  refine Ops.step (One.val rfl rfl rfl (yld_sadd rfl (ev_t rfl) ev_c (fun _ => by simp only [ByteArray.size_append, bs_size, List.length_cons, List.length_nil]; omega)) ?_)
                  refine Ops.step (One.val rfl rfl rfl (yld_assign rfl (ev_t rfl)) ?_)
                  refine Ops.nil fun a hS => ?_
                  refine hK25 _ _ ?_ a hS
                  refine Cod.region ?_
                  refine Ops.step (One.val rfl rfl rfl (yld_move rfl (ev_t rfl)) ?_)
                  refine Ops.step (One.val rfl rfl rfl (yld_field fi33_4 rfl (ev_t rfl)) ?_)
                  refine Ops.step (One.val rfl rfl rfl (yld_load1 on31 rfl (ev_t rfl) (fun _ => F3.cell 0 rfl rfl)) ?_)
                  refine Ops.step (One.val rfl rfl rfl (yld_move rfl (ev_t rfl)) ?_)
                  refine Ops.step (One.val rfl rfl rfl (yld_indexN sl31 rfl (ev_t rfl) (ev_t rfl) (fun _ => by omega)) ?_)
                  refine Ops.step (One.val rfl rfl rfl (yld_loadN ag33 rfl (ev_t rfl) (fun _ => rng hrx F3.chg) hlc) ?_)
                  refine Ops.step (One.call rfl rfl rfl (ent_f rfl (evl1 (ev_t rfl)) (enters en60)) (H _ (List.getElem_mem hi) _ _ _ (ht.chg F3.chg) (hfl _ (List.getElem_mem hi)) (by omega) (hT.chg F3.chg)) (fun e w6 hw6 => ?_))
                  obtain ⟨rfl, C6⟩ := hw6
                  have F6 := F3.call C6
                  refine ⟨_, rfl, ?_⟩
                  refine Ops.step (One.val rfl rfl rfl (yld_sadd rfl (ev_t rfl) (ev_t rfl) (fun _ => by simp only [ByteArray.size_append, bs_size, List.length_cons, List.length_nil]; omega)) ?_)
                  refine Ops.step (One.val rfl rfl rfl (yld_assign rfl (ev_t rfl)) ?_)
                  refine Ops.nil fun a hS => ?_
                  refine hK20 _ _ ?_ a hS
                  refine Cod.region ?_
                  refine Ops.step (One.val rfl rfl rfl (yld_move rfl (ev_t rfl)) ?_)
                  refine Ops.step (One.val rfl rfl rfl (yld_inc rfl (ev_t rfl) (fun _ => by omega)) ?_)
                  refine Ops.step (One.val rfl rfl rfl (yld_assign rfl (ev_t rfl)) ?_)
                  refine Ops.nil fun a hS => ?_
                  first
                    | (rw [outA hi hpos h6 hnk] at hS; exact hK17 (i + 1) _ a (hS.sub ⟨rfl, rfl, rfl, trivial⟩) ⟨by omega, F6⟩ (by omega))
                    | (rw [outB hi hpos hn6] at hS; exact hK17 (i + 1) _ a (hS.sub ⟨rfl, rfl, rfl, trivial⟩) ⟨by omega, F6⟩ (by omega))
                    | (rw [outC hi hz h6 hnk] at hS; exact hK17 (i + 1) _ a (hS.sub ⟨rfl, rfl, rfl, trivial⟩) ⟨by omega, F6⟩ (by omega))
                    | (rw [outD hi hz hn6] at hS; exact hK17 (i + 1) _ a (hS.sub ⟨rfl, rfl, rfl, trivial⟩) ⟨by omega, F6⟩ (by omega))
                · skip
                  have hn6 : k ≠ 6 := by simpa using hc37
                  refine Cod.skip fun a hS => ?_
                  refine hK25 _ _ ?_ a hS
                  refine Cod.region ?_
                  refine Ops.step (One.val rfl rfl rfl (yld_move rfl (ev_t rfl)) ?_)
                  refine Ops.step (One.val rfl rfl rfl (yld_field fi33_4 rfl (ev_t rfl)) ?_)
                  refine Ops.step (One.val rfl rfl rfl (yld_load1 on31 rfl (ev_t rfl) (fun _ => F3.cell 0 rfl rfl)) ?_)
                  refine Ops.step (One.val rfl rfl rfl (yld_move rfl (ev_t rfl)) ?_)
                  refine Ops.step (One.val rfl rfl rfl (yld_indexN sl31 rfl (ev_t rfl) (ev_t rfl) (fun _ => by omega)) ?_)
                  refine Ops.step (One.val rfl rfl rfl (yld_loadN ag33 rfl (ev_t rfl) (fun _ => rng hrx F3.chg) hlc) ?_)
                  refine Ops.step (One.call rfl rfl rfl (ent_f rfl (evl1 (ev_t rfl)) (enters en60)) (H _ (List.getElem_mem hi) _ _ _ (ht.chg F3.chg) (hfl _ (List.getElem_mem hi)) (by omega) (hT.chg F3.chg)) (fun e w7 hw7 => ?_))
                  obtain ⟨rfl, C7⟩ := hw7
                  have F7 := F3.call C7
                  refine ⟨_, rfl, ?_⟩
                  refine Ops.step (One.val rfl rfl rfl (yld_sadd rfl (ev_t rfl) (ev_t rfl) (fun _ => by simp only [ByteArray.size_append, bs_size, List.length_cons, List.length_nil]; omega)) ?_)
                  refine Ops.step (One.val rfl rfl rfl (yld_assign rfl (ev_t rfl)) ?_)
                  refine Ops.nil fun a hS => ?_
                  refine hK20 _ _ ?_ a hS
                  refine Cod.region ?_
                  refine Ops.step (One.val rfl rfl rfl (yld_move rfl (ev_t rfl)) ?_)
                  refine Ops.step (One.val rfl rfl rfl (yld_inc rfl (ev_t rfl) (fun _ => by omega)) ?_)
                  refine Ops.step (One.val rfl rfl rfl (yld_assign rfl (ev_t rfl)) ?_)
                  refine Ops.nil fun a hS => ?_
                  first
                    | (rw [outA hi hpos h6 hnk] at hS; exact hK17 (i + 1) _ a (hS.sub ⟨rfl, rfl, rfl, trivial⟩) ⟨by omega, F7⟩ (by omega))
                    | (rw [outB hi hpos hn6] at hS; exact hK17 (i + 1) _ a (hS.sub ⟨rfl, rfl, rfl, trivial⟩) ⟨by omega, F7⟩ (by omega))
                    | (rw [outC hi hz h6 hnk] at hS; exact hK17 (i + 1) _ a (hS.sub ⟨rfl, rfl, rfl, trivial⟩) ⟨by omega, F7⟩ (by omega))
                    | (rw [outD hi hz hn6] at hS; exact hK17 (i + 1) _ a (hS.sub ⟨rfl, rfl, rfl, trivial⟩) ⟨by omega, F7⟩ (by omega))
            · skip
              obtain rfl : i = l.length := by simp at hc28; omega
              have hJ : (joinI k ks l l.length).length ≤ 120000000 := by
                have h1 := hjl l.length (by omega)
                have h2 := sumN_take_le Tr.cnt l l.length
                omega
              refine Cod.exit fun a hS => ?_
              simp only [Exit.then, Exit.inBlock, ↓reduceIte]
              refine hK15 _ _ ?_ a hS
              refine Cod.seq fun K27 hK27 => ?_
              refine Cod.seq fun K28 hK28 => ?_
              refine Cod.region ?_
              refine Ops.step (One.val rfl rfl rfl (yld_field fi33_0 rfl (ev_t rfl)) ?_)
              refine Ops.step (One.val rfl rfl rfl (yld_load1 on3 rfl (ev_t rfl) (fun _ => F3.cell 0 rfl rfl)) ?_)
              refine Ops.step (One.val rfl rfl rfl (yld_eql rfl (ev_t rfl) ev_c) ?_)
              refine Ops.nil fun a hS => ?_
              refine hK28 _ _ ?_ a hS
              refine Cod.cond rfl (fun hc56 => ?_) (fun hc56 => ?_)
              · skip
                have h6 : k = 6 := by simpa using hc56
                refine Cod.seq fun K29 hK29 => ?_
                refine Cod.region ?_
                refine Ops.step (One.val rfl rfl rfl (yld_move rfl (ev_t rfl)) ?_)
                refine Ops.step (One.val rfl rfl rfl (yld_sadd rfl ev_c (ev_t rfl) (fun _ => by simp only [ByteArray.size_append, bs_size, List.length_cons, List.length_nil]; omega)) ?_)
                refine Ops.step (One.val rfl rfl rfl (yld_sadd rfl (ev_t rfl) ev_c (fun _ => by simp only [ByteArray.size_append, bs_size, List.length_cons, List.length_nil]; omega)) ?_)
                refine Ops.step (One.val rfl rfl rfl (yld_assign rfl (ev_t rfl)) ?_)
                refine Ops.nil fun a hS => ?_
                refine hK29 _ _ ?_ a hS
                refine Cod.ret fun a hS => ?_
                try simp only [Exit.then, Exit.inBlock]
                exact ret1 (t := 2) rfl hS rfl ⟨by rw [txt6 h6], F3.chg⟩
              · skip
                have hn6 : k ≠ 6 := by simpa using hc56
                have h5 : k = 5 := by omega
                refine Cod.skip fun a hS => ?_
                refine hK27 _ _ ?_ a hS
                refine Cod.seq fun K30 hK30 => ?_
                refine Cod.region ?_
                refine Ops.step (One.val rfl rfl rfl (yld_move rfl (ev_t rfl)) ?_)
                refine Ops.step (One.val rfl rfl rfl (yld_sadd rfl ev_c (ev_t rfl) (fun _ => by simp only [ByteArray.size_append, bs_size, List.length_cons, List.length_nil]; omega)) ?_)
                refine Ops.step (One.val rfl rfl rfl (yld_sadd rfl (ev_t rfl) ev_c (fun _ => by simp only [ByteArray.size_append, bs_size, List.length_cons, List.length_nil]; omega)) ?_)
                refine Ops.step (One.val rfl rfl rfl (yld_assign rfl (ev_t rfl)) ?_)
                refine Ops.nil fun a hS => ?_
                refine hK30 _ _ ?_ a hS
                refine Cod.ret fun a hS => ?_
                try simp only [Exit.then, Exit.inBlock]
                exact ret1 (t := 2) rfl hS rfl ⟨by rw [txt5 h5], F3.chg⟩

set_option maxHeartbeats 4000000 in
set_option maxRecDepth 100000 in
theorem text_of (k n : Int) (s : ByteArray) (ks : List ByteArray) (l : List Tr) (H : ∀ t ∈ l, TxtOk 63 t) : TxtOk 63 (.mk k n s ks l) := by
  intro d v w hr hf hc60 hT
  obtain ⟨v3, v4, rfl, h3, h4⟩ := hr.open
  obtain ⟨A3, c3, rfl, hn3⟩ := h3.open
  obtain ⟨A4, c4, rfl, hn4⟩ := h4.open
  obtain ⟨hd, hp, hfl⟩ := Form.iff.1 hf
  rw [Tr.cnt_mk] at hc60
  have hk0 := hp.k0
  have hk6 := hp.k6
  have hn0 := hp.n0
  have hn1 := hp.n1
  have hss := okS_size hp.ok
  have hky : k = 6 → ∀ i, i < l.length → (nth ks i).size ≤ 12 := fun h i hi => by
    have h1 := hp.len h
    exact okS_size (hp.keys i (by omega)).1
  have hjl := joinI_le (k := k) (ks := ks) (l := l) hky 2000000 (fun x hx => txt_le x _ (hfl x hx))
  have h39 : (⟨#[39]⟩ : ByteArray).size = 1 := rfl
  have h44 : (⟨#[44]⟩ : ByteArray).size = 1 := rfl
  have h58 : (⟨#[58]⟩ : ByteArray).size = 1 := rfl
  have h91 : (⟨#[91]⟩ : ByteArray).size = 1 := rfl
  have h93 : (⟨#[93]⟩ : ByteArray).size = 1 := rfl
  have h123 : (⟨#[123]⟩ : ByteArray).size = 1 := rfl
  have h125 : (⟨#[125]⟩ : ByteArray).size = 1 := rfl
  refine enter Tryd.func63 rfl rfl rfl ?_
  have F0 := Fr.start w
  refine Cod.seq fun K1 hK1 => ?_
  refine Cod.region ?_
  refine Ops.step (One.box F0 rfl rfl rfl rfl (ev_t rfl) ?_)
  intro b1 w1 hb1 F1
  change Fr _ _ [blk _ _ [_, _, _, _, _]] _ at F1
  refine Ops.step (One.val rfl rfl rfl (yld_assign rfl ev_c) ?_)
  refine Ops.nil fun a hS => ?_
  refine hK1 _ _ ?_ a hS
  refine Cod.seq fun K2 hK2 => ?_
  refine Cod.seq fun K3 hK3 => ?_
  refine Cod.region ?_
  refine Ops.step (One.val rfl rfl rfl (yld_field fi33_0 rfl (ev_t rfl)) ?_)
  refine Ops.step (One.val rfl rfl rfl (yld_load1 on3 rfl (ev_t rfl) (fun _ => F1.cell 0 rfl rfl)) ?_)
  refine Ops.nil fun a hS => ?_
  refine hK3 _ _ ?_ a hS
  refine Cod.block ?_
  refine Cod.seq fun K4 hK4 => ?_
  refine Cod.region ?_
  refine Ops.step (One.val rfl rfl rfl (yld_eql rfl (ev_t rfl) ev_c) ?_)
  refine Ops.step (One.val rfl rfl rfl (yld_assign rfl (ev_t rfl)) ?_)
  refine Ops.nil fun a hS => ?_
  refine hK4 _ _ ?_ a hS
  refine Cod.cond rfl (fun hc9 => ?_) (fun hc9 => ?_)
  · skip
    obtain hkk : k = 0 := by simpa using hc9
    refine Cod.seq fun K5 hK5 => ?_
    refine Cod.region ?_
    refine Ops.step (One.val rfl rfl rfl (yld_assign rfl ev_c) ?_)
    refine Ops.nil fun a hS => ?_
    refine hK5 _ _ ?_ a hS
    refine Cod.ret fun a hS => ?_
    try simp only [Exit.then, Exit.inBlock]
    exact ret1 (t := 2) rfl hS rfl ⟨by subst hkk; rfl, F1.chg⟩
  · skip
    have e0 : k ≠ 0 := by simpa using hc9
    refine Cod.seq fun K6 hK6 => ?_
    refine Cod.region ?_
    refine Ops.step (One.val rfl rfl rfl (yld_eql rfl (ev_t rfl) ev_c) ?_)
    refine Ops.step (One.val rfl rfl rfl (yld_assign rfl (ev_t rfl)) ?_)
    refine Ops.nil fun a hS => ?_
    refine hK6 _ _ ?_ a hS
    refine Cod.cond rfl (fun hc11 => ?_) (fun hc11 => ?_)
    · skip
      obtain hkk : k = 1 := by simpa using hc11
      refine Cod.seq fun K7 hK7 => ?_
      refine Cod.region ?_
      refine Ops.step (One.val rfl rfl rfl (yld_assign rfl ev_c) ?_)
      refine Ops.nil fun a hS => ?_
      refine hK7 _ _ ?_ a hS
      refine Cod.ret fun a hS => ?_
      try simp only [Exit.then, Exit.inBlock]
      exact ret1 (t := 2) rfl hS rfl ⟨by subst hkk; rfl, F1.chg⟩
    · skip
      have e1 : k ≠ 1 := by simpa using hc11
      refine Cod.seq fun K8 hK8 => ?_
      refine Cod.region ?_
      refine Ops.step (One.val rfl rfl rfl (yld_eql rfl (ev_t rfl) ev_c) ?_)
      refine Ops.step (One.val rfl rfl rfl (yld_assign rfl (ev_t rfl)) ?_)
      refine Ops.nil fun a hS => ?_
      refine hK8 _ _ ?_ a hS
      refine Cod.cond rfl (fun hc13 => ?_) (fun hc13 => ?_)
      · skip
        obtain hkk : k = 2 := by simpa using hc13
        refine Cod.seq fun K9 hK9 => ?_
        refine Cod.region ?_
        refine Ops.step (One.val rfl rfl rfl (yld_assign rfl ev_c) ?_)
        refine Ops.nil fun a hS => ?_
        refine hK9 _ _ ?_ a hS
        refine Cod.ret fun a hS => ?_
        try simp only [Exit.then, Exit.inBlock]
        exact ret1 (t := 2) rfl hS rfl ⟨by subst hkk; rfl, F1.chg⟩
      · skip
        have e2 : k ≠ 2 := by simpa using hc13
        refine Cod.seq fun K10 hK10 => ?_
        refine Cod.region ?_
        refine Ops.step (One.val rfl rfl rfl (yld_eql rfl (ev_t rfl) ev_c) ?_)
        refine Ops.step (One.val rfl rfl rfl (yld_assign rfl (ev_t rfl)) ?_)
        refine Ops.nil fun a hS => ?_
        refine hK10 _ _ ?_ a hS
        refine Cod.cond rfl (fun hc15 => ?_) (fun hc15 => ?_)
        · skip
          obtain hkk : k = 3 := by simpa using hc15
          refine Cod.seq fun K11 hK11 => ?_
          refine Cod.region ?_
          refine Ops.step (One.val rfl rfl rfl (yld_field fi33_1 rfl (ev_t rfl)) ?_)
          refine Ops.step (One.val rfl rfl rfl (yld_load1 on3 rfl (ev_t rfl) (fun _ => F1.cell 0 rfl rfl)) ?_)
          refine Ops.step (One.call rfl rfl rfl (ent_f rfl (evl1 (ev_t rfl)) (enters en50)) (itoa_ct n _ (by omega) (by omega) (hT.chg F1.chg)) (fun e w2 hw2 => ?_))
          obtain ⟨rfl, C2⟩ := hw2
          have F2 := F1.call C2
          refine ⟨_, rfl, ?_⟩
          refine Ops.step (One.val rfl rfl rfl (yld_assign rfl (ev_t rfl)) ?_)
          refine Ops.nil fun a hS => ?_
          refine hK11 _ _ ?_ a hS
          refine Cod.ret fun a hS => ?_
          try simp only [Exit.then, Exit.inBlock]
          exact ret1 (t := 2) rfl hS rfl ⟨by rw [txt3 hkk]; rfl, F2.chg⟩
        · skip
          have e3 : k ≠ 3 := by simpa using hc15
          refine Cod.seq fun K12 hK12 => ?_
          refine Cod.region ?_
          refine Ops.step (One.val rfl rfl rfl (yld_eql rfl (ev_t rfl) ev_c) ?_)
          refine Ops.step (One.val rfl rfl rfl (yld_assign rfl (ev_t rfl)) ?_)
          refine Ops.nil fun a hS => ?_
          refine hK12 _ _ ?_ a hS
          refine Cod.cond rfl (fun hc20 => ?_) (fun hc20 => ?_)
          · skip
            obtain hkk : k = 4 := by simpa using hc20
            refine Cod.seq fun K13 hK13 => ?_
            refine Cod.region ?_
            refine Ops.step (One.val rfl rfl rfl (yld_field fi33_2 rfl (ev_t rfl)) ?_)
            refine Ops.step (One.val rfl rfl rfl (yld_load1 on9 rfl (ev_t rfl) (fun _ => F1.cell 0 rfl rfl)) ?_)
            refine Ops.step (One.val rfl rfl rfl (yld_sadd rfl ev_c (ev_t rfl) (fun _ => by omega)) ?_)
            refine Ops.step (One.val rfl rfl rfl (yld_sadd rfl (ev_t rfl) ev_c (fun _ => by simp only [ByteArray.size_append, bs_size, List.length_cons, List.length_nil]; omega)) ?_)
            refine Ops.step (One.val rfl rfl rfl (yld_assign rfl (ev_t rfl)) ?_)
            refine Ops.nil fun a hS => ?_
            refine hK13 _ _ ?_ a hS
            refine Cod.ret fun a hS => ?_
            try simp only [Exit.then, Exit.inBlock]
            exact ret1 (t := 2) rfl hS rfl ⟨by rw [txt4 hkk], F1.chg⟩
          · skip
            have e4 : k ≠ 4 := by simpa using hc20
            refine Cod.skip fun a hS => ?_
            refine hK2 _ _ ?_ a hS
            refine Cod.seq fun K14 hK14 => ?_
            refine Cod.region ?_
            refine Ops.step (One.buildNil sCells F1 sl22 rfl rfl rfl rfl ?_)
            intro b2 w3 hb2 F3
            refine Ops.step (One.val rfl rfl rfl (yld_assign rfl (ev_t rfl)) ?_)
            refine Ops.nil fun a hS => ?_
            refine hK14 _ _ ?_ a hS
            refine Cod.seq fun K15 hK15 => ?_
            refine Cod.seq fun K16 hK16 => ?_
            refine Cod.region ?_
            refine Ops.step (One.val rfl rfl rfl (yld_field fi33_4 rfl (ev_t rfl)) ?_)
            refine Ops.step (One.val rfl rfl rfl (yld_load1 on31 rfl (ev_t rfl) (fun _ => F3.cell 1 rfl rfl)) ?_)
            refine Ops.step (One.val rfl rfl rfl (yld_len sl31 rfl (ev_t rfl)) ?_)
            refine Ops.step (One.val rfl rfl rfl (yld_move rfl ev_c) ?_)
            refine Ops.nil fun a hS => ?_
            refine hK16 _ _ ?_ a hS
            refine Cod.block ?_
            have F4 := F3.pull 1 rfl
            have F5 := F4.pull 1 rfl
            refine Cod.loop (fun i : Nat × List ByteArray × Value => [(1, true, .pointer (some ⟨b1, 0, none⟩)), (3, true, i.2.2), (28, true, .slice A4 l.length c4), (29, true, .int .i64 (l.length : Int)), (30, true, .int .i64 (i.1 : Int))]) (fun i w' => i.1 ≤ l.length ∧ i.2.1 = (itemsB k ks l).take i.1 ∧ Fr No w [own 9 1 i.2.2 i.2.1.length (i.2.1.flatMap sCells), blk b1 33 [.int .i64 k, .int .i64 n, .string s, .slice A3 ks.length c3, .slice A4 l.length c4]] w') (fun i => l.length - i.1) (0, [], .slice (some ⟨b2, 0, none⟩) 0 0) ⟨rfl, rfl, rfl, rfl, rfl, trivial⟩ ⟨Nat.zero_le _, rfl, F5⟩ ?_
            intro i w4 hW K17 hK17
            obtain ⟨i, q, lv⟩ := i
            obtain ⟨hi0, hq, F6⟩ := hW
            dsimp only at *
            refine Cod.seq fun K18 hK18 => ?_
            refine Cod.region ?_
            refine Ops.step (One.val rfl rfl rfl (yld_lss rfl (ev_t rfl) (ev_t rfl)) ?_)
            refine Ops.nil fun a hS => ?_
            refine hK18 _ _ ?_ a hS
            refine Cod.seq fun K19 hK19 => ?_
            refine Cod.cond rfl (fun hc31 => ?_) (fun hc31 => ?_)
            · skip
              have hi : i < l.length := by simpa using hc31
              obtain ⟨b, o, cs, rfl, -, hlc, hrx, ht⟩ := h4.at i hi
              have hwi := sumN_mem Tr.cnt (List.getElem_mem hi)
              have hJ : (joinI k ks l i).length ≤ 120000000 := by
                have h1 := hjl i (by omega)
                have h2 := sumN_take_le Tr.cnt l i
                omega
              have hX2 := txt_size (hfl _ (List.getElem_mem hi)) (by omega)
              obtain ⟨y1, y2, y3, y4, y5, rfl⟩ := five hlc
              have hql : q.length ≤ 60 := by
                rw [hq, List.length_take]
                have := len_cnt l
                omega
              refine Cod.skip fun a hS => ?_
              refine hK19 _ _ ?_ a hS
              refine Cod.seq fun K20 hK20 => ?_
              refine Cod.block ?_
              refine Cod.seq fun K21 hK21 => ?_
              refine Cod.region ?_
              refine Ops.step (One.val rfl rfl rfl (yld_move rfl (ev_t rfl)) ?_)
              refine Ops.step (One.val rfl rfl rfl (yld_indexN sl31 rfl (ev_t rfl) (ev_t rfl) (fun _ => by omega)) ?_)
              refine Ops.step (One.val rfl rfl rfl (yld_loadN ag33 rfl (ev_t rfl) (fun _ => rng hrx F6.chg) rfl) ?_)
              refine Ops.step (One.alloc F6 zero33 rfl rfl rfl rfl ?_)
              intro b3 w5 hb3 F7
              change Fr _ _ [blk _ _ [_, _, _, _, _], _, blk _ _ [_, _, _, _, _]] _ at F7
              refine Ops.step (One.val rfl rfl rfl (yld_assign rfl (ev_t rfl)) ?_)
              refine Ops.step (One.storeN (vs := [_, _, _, _, _]) F7 0 rfl sz33 rfl rfl rfl (ev_t rfl) (ev_t rfl) rfl rfl ht.one ?_)
              intro w6 F8
              change Fr _ _ [blk _ _ [_, _, _, _, _], _, blk _ _ [_, _, _, _, _]] _ at F8
              refine Ops.nil fun a hS => ?_
              refine hK21 _ _ ?_ a hS
              refine Cod.seq fun K22 hK22 => ?_
              refine Cod.region ?_
              refine Ops.step (One.val rfl rfl rfl (yld_loadN ag33 rfl (ev_t rfl) (fun _ => F8.range (m := 5) (cs' := [_, _, _, _, _]) 0 rfl rfl) rfl) ?_)
              refine Ops.step (One.call rfl rfl rfl (ent_f rfl (evl1 (ev_t rfl)) (enters en63)) (H _ (List.getElem_mem hi) _ _ _ (ht.chg F8.chg) (hfl _ (List.getElem_mem hi)) (by omega) (hT.chg F8.chg)) (fun e w7 hw7 => ?_))
              obtain ⟨rfl, C7⟩ := hw7
              have F9 := F8.call C7
              refine ⟨_, rfl, ?_⟩
              refine Ops.step (One.val rfl rfl rfl (yld_assign rfl (ev_t rfl)) ?_)
              refine Ops.nil fun a hS => ?_
              refine hK22 _ _ ?_ a hS
              refine Cod.seq fun K23 hK23 => ?_
              refine Cod.seq fun K24 hK24 => ?_
              refine Cod.region ?_
              refine Ops.step (One.val rfl rfl rfl (yld_field fi33_0 rfl (ev_t rfl)) ?_)
              refine Ops.step (One.val rfl rfl rfl (yld_load1 on3 rfl (ev_t rfl) (fun _ => F9.cell 2 rfl rfl)) ?_)
              refine Ops.step (One.val rfl rfl rfl (yld_eql rfl (ev_t rfl) ev_c) ?_)
              refine Ops.nil fun a hS => ?_
              refine hK24 _ _ ?_ a hS
              refine Cod.cond rfl (fun hc39 => ?_) (fun hc39 => ?_)
              · skip
                have h6 : k = 6 := by simpa using hc39
                have hik : i < ks.length := by have := hp.len h6; omega
                have hnk := nth_eq hik
                have hky1 := hky h6 i hi
                rw [hnk] at hky1
                obtain ⟨kb, ko, rfl, -, hkr⟩ := h3.at i hik
                have hit := item6 h6 hnk (l[i]'hi).txt
                refine Cod.region ?_
                refine Ops.step (One.val rfl rfl rfl (yld_field fi33_3 rfl (ev_t rfl)) ?_)
                refine Ops.step (One.val rfl rfl rfl (yld_load1 on22 rfl (ev_t rfl) (fun _ => F9.cell 2 rfl rfl)) ?_)
                refine Ops.step (One.val rfl rfl rfl (yld_move rfl (ev_t rfl)) ?_)
                refine Ops.step (One.val rfl rfl rfl (yld_indexN sl22 rfl (ev_t rfl) (ev_t rfl) (fun _ => by omega)) ?_)
                refine Ops.step (One.val rfl rfl rfl (yld_load1 on9 rfl (ev_t rfl) (fun _ => rangeAt_cell (rng hkr F9.chg) (j := 0) rfl)) ?_)
                refine Ops.step (One.val rfl rfl rfl (yld_sadd rfl (ev_t rfl) ev_c (fun _ => by simp only [ByteArray.size_append, bs_size, List.length_cons, List.length_nil]; omega)) ?_)
                refine Ops.step (One.val rfl rfl rfl (yld_move rfl (ev_t rfl)) ?_)
                refine Ops.step (One.val rfl rfl rfl (yld_sadd rfl (ev_t rfl) (ev_t rfl) (fun _ => by simp only [ByteArray.size_append, bs_size, List.length_cons, List.length_nil]; omega)) ?_)
                refine Ops.step (One.val rfl rfl rfl (yld_assign rfl (ev_t rfl)) ?_)
                refine Ops.nil fun a hS => ?_
                refine hK23 _ _ ?_ a hS
                refine Cod.region ?_
                refine Ops.step (One.val rfl rfl rfl (yld_move rfl (ev_t rfl)) ?_)
                refine Ops.step (One.val rfl rfl rfl (yld_move rfl (ev_t rfl)) ?_)
                refine Ops.step (One.buildSlice (cells := [.string ((ks[i]'hik ++ ⟨#[58]⟩) ++ bs (l[i]'hi).txt)]) F9 sl22 zero9 rfl rfl rfl rfl (evp1 (ev_t rfl)) rfl rfl (by kernel_rfl) ?_)
                intro b4 w8 hb4 F10
                refine Ops.step (One.append (enc := sCells) [((ks[i]'hik ++ ⟨#[58]⟩) ++ bs (l[i]'hi).txt)] F10 2 rfl sl22 zero9 rfl rfl (fun _ => rfl) rfl rfl rfl rfl (ev_t rfl) (ev_t rfl) ((blk_rep (enc := sCells) (sz := 1) (xs := [((ks[i]'hik ++ ⟨#[58]⟩) ++ bs (l[i]'hi).txt)]) (fun _ => rfl) (by simpa [sCells] using F10.get 0 rfl) (by simp) (by simp)).weak fun _ _ => trivial) (fun _ _ => rfl) (by simp; omega) (by simp; omega) ?_)
                intro u19 w9 hu19 F11
                change Fr _ _ [_, blk _ _ [_, _, _, _, _], _, blk _ _ [_, _, _, _, _]] _ at F11
                refine Ops.step (One.val rfl rfl rfl (yld_assign rfl (ev_t rfl)) ?_)
                refine Ops.nil fun a hS => ?_
                refine hK20 _ _ ?_ a hS
                refine Cod.region ?_
                refine Ops.step (One.val rfl rfl rfl (yld_inc rfl (ev_t rfl) (fun _ => by omega)) ?_)
                refine Ops.step (One.val rfl rfl rfl (yld_move rfl (ev_t rfl)) ?_)
                refine Ops.nil fun a hS => ?_
                have F12 := F11.pull 3 rfl
                have F13 := F12.pull 3 rfl
                have F14 := F13.erase 2
                have F15 := F14.erase 2
                exact hK17 (i + 1, _, _) _ a (hS.sub ⟨rfl, rfl, rfl, rfl, rfl, trivial⟩) ⟨by show i + 1 ≤ _; omega, by rw [hq, hit]; exact itemsB_snoc hi, F15⟩ (by show l.length - (i + 1) < l.length - i; omega)
              · skip
                have hn6 : k ≠ 6 := by simpa using hc39
                have hit := item5 (i := i) (ks := ks) hn6 (l[i]'hi).txt
                refine Cod.skip fun a hS => ?_
                refine hK23 _ _ ?_ a hS
                refine Cod.region ?_
                refine Ops.step (One.val rfl rfl rfl (yld_move rfl (ev_t rfl)) ?_)
                refine Ops.step (One.val rfl rfl rfl (yld_move rfl (ev_t rfl)) ?_)
                refine Ops.step (One.buildSlice (cells := [.string (bs (l[i]'hi).txt)]) F9 sl22 zero9 rfl rfl rfl rfl (evp1 (ev_t rfl)) rfl rfl (by kernel_rfl) ?_)
                intro b5 w10 hb5 F16
                refine Ops.step (One.append (enc := sCells) [(bs (l[i]'hi).txt)] F16 2 rfl sl22 zero9 rfl rfl (fun _ => rfl) rfl rfl rfl rfl (ev_t rfl) (ev_t rfl) ((blk_rep (enc := sCells) (sz := 1) (xs := [(bs (l[i]'hi).txt)]) (fun _ => rfl) (by simpa [sCells] using F16.get 0 rfl) (by simp) (by simp)).weak fun _ _ => trivial) (fun _ _ => rfl) (by simp; omega) (by simp; omega) ?_)
                intro u19 w11 hu19 F17
                change Fr _ _ [_, blk _ _ [_, _, _, _, _], _, blk _ _ [_, _, _, _, _]] _ at F17
                refine Ops.step (One.val rfl rfl rfl (yld_assign rfl (ev_t rfl)) ?_)
                refine Ops.nil fun a hS => ?_
                refine hK20 _ _ ?_ a hS
                refine Cod.region ?_
                refine Ops.step (One.val rfl rfl rfl (yld_inc rfl (ev_t rfl) (fun _ => by omega)) ?_)
                refine Ops.step (One.val rfl rfl rfl (yld_move rfl (ev_t rfl)) ?_)
                refine Ops.nil fun a hS => ?_
                have F18 := F17.pull 3 rfl
                have F19 := F18.pull 3 rfl
                have F20 := F19.erase 2
                have F21 := F20.erase 2
                exact hK17 (i + 1, _, _) _ a (hS.sub ⟨rfl, rfl, rfl, rfl, rfl, trivial⟩) ⟨by show i + 1 ≤ _; omega, by rw [hq, hit]; exact itemsB_snoc hi, F21⟩ (by show l.length - (i + 1) < l.length - i; omega)
            · skip
              obtain rfl : i = l.length := by simp at hc31; omega
              have hJ : (joinI k ks l l.length).length ≤ 120000000 := by
                have h1 := hjl l.length (by omega)
                have h2 := sumN_take_le Tr.cnt l l.length
                omega
              have hqe : q = itemsB k ks l := by rw [hq, List.take_of_length_le (by rw [itemsB_len]; exact Nat.le_refl _)]
              have hl60 : l.length ≤ 1000 := by
                have := len_cnt l
                omega
              refine Cod.exit fun a hS => ?_
              simp only [Exit.then, Exit.inBlock, ↓reduceIte]
              refine hK15 _ _ ?_ a hS
              refine Cod.seq fun K25 hK25 => ?_
              refine Cod.seq fun K26 hK26 => ?_
              refine Cod.region ?_
              refine Ops.step (One.val rfl rfl rfl (yld_field fi33_0 rfl (ev_t rfl)) ?_)
              refine Ops.step (One.val rfl rfl rfl (yld_load1 on3 rfl (ev_t rfl) (fun _ => F6.cell 1 rfl rfl)) ?_)
              refine Ops.step (One.val rfl rfl rfl (yld_eql rfl (ev_t rfl) ev_c) ?_)
              refine Ops.nil fun a hS => ?_
              refine hK26 _ _ ?_ a hS
              refine Cod.cond rfl (fun hc55 => ?_) (fun hc55 => ?_)
              · skip
                have h6 : k = 6 := by simpa using hc55
                refine Cod.seq fun K27 hK27 => ?_
                refine Cod.region ?_
                refine Ops.step (One.val rfl rfl rfl (yld_move rfl (ev_t rfl)) ?_)
                refine Ops.step (One.call rfl rfl rfl (ent_f rfl (evl2 (ev_t rfl) ev_c) (enters en93)) (joinq_ct hqe _ _ (ownS (F6.get 0 rfl)) hl60 hJ) (fun e w12 hw12 => ?_))
                obtain ⟨rfl, C12⟩ := hw12
                have F22 := F6.call C12
                refine ⟨_, rfl, ?_⟩
                refine Ops.step (One.val rfl rfl rfl (yld_sadd rfl ev_c (ev_t rfl) (fun _ => by simp only [ByteArray.size_append, bs_size, List.length_cons, List.length_nil]; omega)) ?_)
                refine Ops.step (One.val rfl rfl rfl (yld_sadd rfl (ev_t rfl) ev_c (fun _ => by simp only [ByteArray.size_append, bs_size, List.length_cons, List.length_nil]; omega)) ?_)
                refine Ops.step (One.val rfl rfl rfl (yld_assign rfl (ev_t rfl)) ?_)
                refine Ops.nil fun a hS => ?_
                refine hK27 _ _ ?_ a hS
                refine Cod.ret fun a hS => ?_
                try simp only [Exit.then, Exit.inBlock]
                exact ret1 (t := 2) rfl hS rfl ⟨by rw [txt6 h6], F22.chg⟩
              · skip
                have hn6 : k ≠ 6 := by simpa using hc55
                have h5 : k = 5 := by omega
                refine Cod.skip fun a hS => ?_
                refine hK25 _ _ ?_ a hS
                refine Cod.seq fun K28 hK28 => ?_
                refine Cod.region ?_
                refine Ops.step (One.val rfl rfl rfl (yld_move rfl (ev_t rfl)) ?_)
                refine Ops.step (One.call rfl rfl rfl (ent_f rfl (evl2 (ev_t rfl) ev_c) (enters en93)) (joinq_ct hqe _ _ (ownS (F6.get 0 rfl)) hl60 hJ) (fun e w13 hw13 => ?_))
                obtain ⟨rfl, C13⟩ := hw13
                have F23 := F6.call C13
                refine ⟨_, rfl, ?_⟩
                refine Ops.step (One.val rfl rfl rfl (yld_sadd rfl ev_c (ev_t rfl) (fun _ => by simp only [ByteArray.size_append, bs_size, List.length_cons, List.length_nil]; omega)) ?_)
                refine Ops.step (One.val rfl rfl rfl (yld_sadd rfl (ev_t rfl) ev_c (fun _ => by simp only [ByteArray.size_append, bs_size, List.length_cons, List.length_nil]; omega)) ?_)
                refine Ops.step (One.val rfl rfl rfl (yld_assign rfl (ev_t rfl)) ?_)
                refine Ops.nil fun a hS => ?_
                refine hK28 _ _ ?_ a hS
                refine Cod.ret fun a hS => ?_
                try simp only [Exit.then, Exit.inBlock]
                exact ret1 (t := 2) rfl hS rfl ⟨by rw [txt5 h5], F23.chg⟩


theorem l1Text_ct (t : Tr) : TxtOk 60 t := Tr.ind (p := TxtOk 60) l1Text_of t
theorem text_ct (t : Tr) : TxtOk 63 t := Tr.ind (p := TxtOk 63) text_of t
noncomputable def valTxt (t : Tr) : ByteArray := if (decide (Form 6 t) && decide ((t.cnt : Int) ≤ 60)) = true then bs t.txt else ⟨#[]⟩

set_option maxRecDepth 100000 in
theorem specText_ct (t : Tr) (v : Value) (w : World) (hr : Rep Any w t v) (hf : t.Fit) (hw : t.wt ≤ 1048576) (hT : PowTab w) :
    Calls Tryd.prog 27 #[v] w fun e w' => e = .returned (.string (valTxt t)) ∧ Chg No w w' := by
  obtain ⟨v3, v4, ev, -, -⟩ := hr.form
  subst ev
  refine enter Tryd.func27 rfl rfl rfl ?_
  have F0 := Fr.start w
  refine Cod.seq fun K1 hK1 => ?_
  refine Cod.region ?_
  refine Ops.step (One.box F0 rfl rfl rfl rfl (ev_t rfl) ?_)
  intro b1 w1 hb1 F1
  change Fr _ _ [blk _ _ [_, _, _, _, _]] _ at F1
  refine Ops.step (One.val rfl rfl rfl (yld_assign rfl ev_c) ?_)
  refine Ops.nil fun a hS => ?_
  refine hK1 _ _ ?_ a hS
  refine Cod.seq fun K2 hK2 => ?_
  refine Cod.seq fun K3 hK3 => ?_
  refine Cod.region ?_
  refine Ops.step (One.val rfl rfl rfl (yld_loadN ag33 rfl (ev_t rfl) (fun _ => F1.range (m := 5) (cs' := [_, _, _, _, _]) 0 rfl rfl) rfl) ?_)
  refine Ops.step (One.call rfl rfl rfl (ent_f rfl (evl1 (ev_t rfl)) (enters en37)) (specOk_ct t _ _ (hr.chg F1.chg) hf hw) (fun e w2 hw2 => ?_))
  obtain ⟨rfl, C2⟩ := hw2
  have F2 := F1.call C2
  refine ⟨_, rfl, ?_⟩
  refine Ops.step (One.val rfl rfl rfl (yld_not rfl (ev_t rfl)) ?_)
  refine Ops.nil fun a hS => ?_
  refine hK3 _ _ ?_ a hS
  refine Cod.cond rfl (fun hc5 => ?_) (fun hc5 => ?_)
  · skip
    have hm : valTxt t = ⟨#[]⟩ := if_neg (fun h => by rw [h] at hc5; cases hc5)
    refine Cod.seq fun K4 hK4 => ?_
    refine Cod.region ?_
    refine Ops.step (One.val rfl rfl rfl (yld_assign rfl ev_c) ?_)
    refine Ops.nil fun a hS => ?_
    refine hK4 _ _ ?_ a hS
    refine Cod.ret fun a hS => ?_
    try simp only [Exit.then, Exit.inBlock]
    exact ret1 (t := 2) rfl hS rfl ⟨by rw [hm], F2.chg⟩
  · skip
    have hok : (decide (Form 6 t) && decide ((t.cnt : Int) ≤ 60)) = true := by simpa using hc5
    have hm : valTxt t = bs t.txt := if_pos hok
    obtain ⟨hfm, hcn⟩ : Form 6 t ∧ t.cnt ≤ 60 := by
      simp at hok
      exact ⟨hok.1, by omega⟩
    refine Cod.skip fun a hS => ?_
    refine hK2 _ _ ?_ a hS
    refine Cod.seq fun K5 hK5 => ?_
    refine Cod.region ?_
    refine Ops.step (One.val rfl rfl rfl (yld_loadN ag33 rfl (ev_t rfl) (fun _ => F2.range (m := 5) (cs' := [_, _, _, _, _]) 0 rfl rfl) rfl) ?_)
    refine Ops.step (One.call rfl rfl rfl (ent_f rfl (evl1 (ev_t rfl)) (enters en60)) (l1Text_ct t _ _ _ (hr.chg F2.chg) hfm hcn (hT.chg F2.chg)) (fun e w3 hw3 => ?_))
    obtain ⟨rfl, C3⟩ := hw3
    have F3 := F2.call C3
    refine ⟨_, rfl, ?_⟩
    refine Ops.step (One.val rfl rfl rfl (yld_assign rfl (ev_t rfl)) ?_)
    refine Ops.nil fun a hS => ?_
    refine hK5 _ _ ?_ a hS
    refine Cod.ret fun a hS => ?_
    try simp only [Exit.then, Exit.inBlock]
    exact ret1 (t := 2) rfl hS rfl ⟨by rw [hm], F3.chg⟩

set_option maxRecDepth 100000 in
theorem valText_ct (t : Tr) (v : Value) (w : World) (hr : Rep Any w t v) (hf : t.Fit) (hw : t.wt ≤ 1048576) (hT : PowTab w) :
    Calls Tryd.prog 29 #[v] w fun e w' => e = .returned (.string (valTxt t)) ∧ Chg No w w' := by
  obtain ⟨v3, v4, ev, -, -⟩ := hr.form
  subst ev
  refine enter Tryd.func29 rfl rfl rfl ?_
  have F0 := Fr.start w
  refine Cod.seq fun K1 hK1 => ?_
  refine Cod.region ?_
  refine Ops.step (One.box F0 rfl rfl rfl rfl (ev_t rfl) ?_)
  intro b1 w1 hb1 F1
  change Fr _ _ [blk _ _ [_, _, _, _, _]] _ at F1
  refine Ops.step (One.val rfl rfl rfl (yld_assign rfl ev_c) ?_)
  refine Ops.nil fun a hS => ?_
  refine hK1 _ _ ?_ a hS
  refine Cod.seq fun K2 hK2 => ?_
  refine Cod.seq fun K3 hK3 => ?_
  refine Cod.region ?_
  refine Ops.step (One.val rfl rfl rfl (yld_loadN ag33 rfl (ev_t rfl) (fun _ => F1.range (m := 5) (cs' := [_, _, _, _, _]) 0 rfl rfl) rfl) ?_)
  refine Ops.step (One.call rfl rfl rfl (ent_f rfl (evl1 (ev_t rfl)) (enters en36)) (valOk_ct t _ _ (hr.chg F1.chg) hf) (fun e w2 hw2 => ?_))
  obtain ⟨rfl, C2⟩ := hw2
  have F2 := F1.call C2
  refine ⟨_, rfl, ?_⟩
  refine Ops.step (One.val rfl rfl rfl (yld_not rfl (ev_t rfl)) ?_)
  refine Ops.nil fun a hS => ?_
  refine hK3 _ _ ?_ a hS
  refine Cod.cond rfl (fun hc5 => ?_) (fun hc5 => ?_)
  · skip
    have hm : valTxt t = ⟨#[]⟩ := if_neg (fun h => by rw [h] at hc5; cases hc5)
    refine Cod.seq fun K4 hK4 => ?_
    refine Cod.region ?_
    refine Ops.step (One.val rfl rfl rfl (yld_assign rfl ev_c) ?_)
    refine Ops.nil fun a hS => ?_
    refine hK4 _ _ ?_ a hS
    refine Cod.ret fun a hS => ?_
    try simp only [Exit.then, Exit.inBlock]
    exact ret1 (t := 2) rfl hS rfl ⟨by rw [hm], F2.chg⟩
  · skip
    have hok : (decide (Form 6 t) && decide ((t.cnt : Int) ≤ 60)) = true := by simpa using hc5
    have hm : valTxt t = bs t.txt := if_pos hok
    obtain ⟨hfm, hcn⟩ : Form 6 t ∧ t.cnt ≤ 60 := by
      simp at hok
      exact ⟨hok.1, by omega⟩
    refine Cod.skip fun a hS => ?_
    refine hK2 _ _ ?_ a hS
    refine Cod.seq fun K5 hK5 => ?_
    refine Cod.region ?_
    refine Ops.step (One.val rfl rfl rfl (yld_loadN ag33 rfl (ev_t rfl) (fun _ => F2.range (m := 5) (cs' := [_, _, _, _, _]) 0 rfl rfl) rfl) ?_)
    refine Ops.step (One.call rfl rfl rfl (ent_f rfl (evl1 (ev_t rfl)) (enters en63)) (text_ct t _ _ _ (hr.chg F2.chg) hfm hcn (hT.chg F2.chg)) (fun e w3 hw3 => ?_))
    obtain ⟨rfl, C3⟩ := hw3
    have F3 := F2.call C3
    refine ⟨_, rfl, ?_⟩
    refine Ops.step (One.val rfl rfl rfl (yld_assign rfl (ev_t rfl)) ?_)
    refine Ops.nil fun a hS => ?_
    refine hK5 _ _ ?_ a hS
    refine Cod.ret fun a hS => ?_
    try simp only [Exit.then, Exit.inBlock]
    exact ret1 (t := 2) rfl hS rfl ⟨by rw [hm], F3.chg⟩

end Go.Proofs.YtpfkcblhojkaiaaDoor.Eng
