/- How the program reads the text of a way, and what every reader comes to: plain laws. -/
import Derived.Test.YtpfkcblhojkaiaaDoorPRd
import Derived.Test.YtpfkcblhojkaiaaDoorShR
namespace Go.Proofs.YtpfkcblhojkaiaaDoor.Eng
open Go.RowKit
set_option linter.unusedVariables false
set_option linter.unusedSimpArgs false
set_option maxHeartbeats 1000000


theorem idxB : ∀ (l : List UInt8) (c : UInt8), decide (Lib.indexByte l c < 0) = !l.contains c
  | [], c => rfl
  | b :: l, c => by
    have ih := idxB l c
    have hge := Lib.indexByte_ge l c
    unfold Lib.indexByte
    rw [List.contains_cons]
    by_cases h : b = c
    · subst h
      simp
    · have h1 : (b == c) = false := by simpa using h
      have h2 : (c == b) = false := by simpa using fun e : c = b => h e.symm
      rw [h1, h2, Bool.false_or, ← ih]
      simp only [Bool.false_eq_true, if_false]
      by_cases h3 : Lib.indexByte l c = -1
      · rw [h3]; rfl
      · have h4 : (Lib.indexByte l c == -1) = false := by simpa using h3
        rw [h4]
        simp only [Bool.false_eq_true, if_false]
        exact decide_eq_decide.2 (by omega)
/-- How far the program's reader goes. -/
def upN (ends l : List UInt8) : Nat := runN (fun c => !ends.contains c) l
def atoiV (t : List UInt8) : Int := match Lib.atoiAll t with
  | .ok v => v
  | .range => Lib.atoiSat t
  | _ => 0
def rdI (l : List UInt8) : Option (Stp × Nat) :=
  if hd l 46 = true then some (⟨true, bs ((l.drop 1).take (upN [46, 91] (l.drop 1))), 0⟩, 1 + upN [46, 91] (l.drop 1))
  else if hd l 91 = true then some (⟨false, ⟨#[]⟩, atoiV ((l.drop 1).take (upN [93] (l.drop 1)))⟩, 1 + upN [93] (l.drop 1) + (if hd (l.drop (1 + upN [93] (l.drop 1))) 93 = true then 1 else 0))
  else none
theorem fold_ge : ∀ (l : List UInt8) (n : Nat), n ≤ l.foldl (fun n c => n * 10 + (c.toNat - 48)) n
  | [], n => Nat.le_refl _
  | c :: l, n => by
    have := fold_ge l (n * 10 + (c.toNat - 48))
    rw [List.foldl_cons]
    omega
theorem parse_fold : ∀ (l : List UInt8) (n : Nat), (∀ c ∈ l, isD c = true) → l.foldl (fun n c => n * 10 + (c.toNat - 48)) n < 1000000000000 → Lib.parseUint10 n l = .ok (l.foldl (fun n c => n * 10 + (c.toNat - 48)) n)
  | [], n, _, _ => rfl
  | c :: l, n, ha, hb => by
    rw [List.foldl_cons] at hb ⊢
    have hc := isD_nat (ha c (by simp))
    have hg := fold_ge l (n * 10 + (c.toNat - 48))
    unfold Lib.parseUint10
    rw [if_pos hc, if_neg (by omega), if_neg (by omega)]
    exact parse_fold l _ (fun x hx => ha x (by simp [hx])) hb
theorem parse_dec {u : Nat} (h : u < 1000000000) : Lib.parseMag (Lib.decDigits u) = .ok u := by
  have hv := valD_dec u
  unfold valD at hv
  have hp := parse_fold (Lib.decDigits u) 0 (dec_all u) (by rw [hv]; omega)
  rw [hv] at hp
  unfold Lib.parseMag
  rw [if_neg, hp]
  intro e
  have := dec_pos u
  rw [e] at this
  simp at this
theorem atoi_itoa {n : Int} (h0 : -1000000000 < n) (h1 : n < 1000000000) : Lib.atoiAll (Lib.itoa n) = .ok n := by
  by_cases hn : n < 0
  · have e : Lib.itoa n = 45 :: Lib.decDigits n.natAbs := by unfold Lib.itoa; rw [if_pos hn]
    have h45 : (45 : UInt8).toNat = 45 := rfl
    have hp := parse_dec (u := n.natAbs) (by omega)
    rw [e]
    unfold Lib.atoiAll
    simp only [h45]
    simp [hp]
    rw [if_neg (by omega)]
    congr 1
    omega
  · have e : Lib.itoa n = Lib.decDigits n.toNat := by unfold Lib.itoa; rw [if_neg hn]
    have hp := parse_dec (u := n.toNat) (by omega)
    obtain ⟨c, r, e2, hc⟩ := dec_head n.toNat
    have hc2 := isD_nat hc
    rw [e]
    rw [e2] at hp ⊢
    unfold Lib.atoiAll
    have h43 : ¬ (c.toNat = 43 ∨ c.toNat = 45) := by omega
    have h45 : ¬ c.toNat = 45 := by omega
    dsimp only
    rw [if_neg h43, hp]
    simp only [h45]
    simp
    rw [if_neg (by omega)]
    congr 1
    omega
theorem atoiV_itoa {n : Int} (h0 : -1000000000 < n) (h1 : n < 1000000000) : atoiV (Lib.itoa n) = n := by
  unfold atoiV
  rw [atoi_itoa h0 h1]
theorem upN_span {ends a r : List UInt8} (ha : ∀ x ∈ a, ends.contains x = false) (hr : ∀ c r0, r = c :: r0 → ends.contains c = true) : upN ends (a ++ r) = a.length := by
  unfold upN runN
  rw [takeWhile_span (fun x hx => by rw [ha x hx]; rfl) (fun c r0 e => by rw [hr c r0 e]; rfl)]
theorem low_ends {x : UInt8} (h : low x = true) : [(46 : UInt8), 91].contains x = false := by
  cases hc : [(46 : UInt8), 91].contains x with
  | false => rfl
  | true =>
    simp at hc
    rcases hc with rfl | rfl <;> revert h <;> decide
theorem itoa_chars {n : Int} {x : UInt8} (h : x ∈ Lib.itoa n) : x = 45 ∨ isD x = true := by
  unfold Lib.itoa at h
  split at h
  · rcases List.mem_cons.1 h with h | h
    · exact .inl h
    · exact .inr (dec_all _ x h)
  · exact .inr (dec_all _ x h)
theorem itoa_ends {n : Int} {x : UInt8} (h : x ∈ Lib.itoa n) : [(93 : UInt8)].contains x = false := by
  cases hc : [(93 : UInt8)].contains x with
  | false => rfl
  | true =>
    simp at hc
    subst hc
    rcases itoa_chars h with h | h <;> revert h <;> decide
/-- A reader of steps that knows every good step. -/
def Reads (f : List UInt8 → Option (Stp × Nat)) : Prop := ∀ s r, s.ok = true → EndS r → f (stpL s ++ r) = some (s, (stpL s).length)
theorem reads_spec : Reads rdStep := fun _ _ h1 h2 => rdStep_ok h1 h2
theorem reads_impl : Reads rdI := fun s r hs hr => by
  obtain ⟨m, key, pl⟩ := s
  cases m with
  | true =>
    have h1 : okS key = true ∧ pl = 0 := by unfold Stp.ok at hs; simp at hs; exact hs
    have e : stpL ⟨true, key, pl⟩ = 46 :: key.data.toList := by unfold stpL; rw [if_pos rfl]
    have hl : upN [46, 91] (key.data.toList ++ r) = key.data.toList.length := upN_span (fun x hx => low_ends (low_all h1.1 x hx)) fun c r0 e => by
      rcases hr c r0 e with rfl | rfl <;> decide
    unfold rdI
    rw [e, List.cons_append, if_pos (hd_iff.2 rfl), List.drop_succ_cons, List.drop_zero, hl, List.take_left' rfl, h1.2, ← bs_eq key, List.length_cons]
    congr 2
    omega
  | false =>
    have h1 : key = ⟨#[]⟩ ∧ -60 ≤ pl ∧ pl < 60 := by
      unfold Stp.ok at hs
      rw [if_neg (by simp)] at hs
      simp at hs
      exact ⟨hs.1.1, hs.1.2, hs.2⟩
    have e : stpL ⟨false, key, pl⟩ = 91 :: (Lib.itoa pl ++ [93]) := by unfold stpL; rw [if_neg (by simp)]
    have e2 : (Lib.itoa pl ++ [93]) ++ r = Lib.itoa pl ++ 93 :: r := by simp
    have hl : upN [93] (Lib.itoa pl ++ 93 :: r) = (Lib.itoa pl).length := upN_span (fun x hx => itoa_ends hx) fun c r0 e => by
      rw [List.cons.injEq] at e
      rw [← e.1]
      decide
    have e3 : (91 :: (Lib.itoa pl ++ 93 :: r)).drop (1 + (Lib.itoa pl).length) = 93 :: r := by
      rw [Nat.add_comm, List.drop_succ_cons, List.drop_left' rfl]
    unfold rdI
    rw [e, List.cons_append, if_neg (fun h => by have := hd_iff.1 h; simp at this), if_pos (hd_iff.2 rfl), List.drop_succ_cons, List.drop_zero, e2, hl, List.take_left' rfl, e3, if_pos (hd_iff.2 rfl), atoiV_itoa (by omega) (by omega), h1.1, List.length_cons, List.length_append, List.length_cons, List.length_nil]
    congr 2
    omega
theorem stpL_cons (s : Stp) : ∃ c r, stpL s = c :: r ∧ (c = 46 ∨ c = 91) := by
  unfold stpL
  split
  · exact ⟨_, _, rfl, .inl rfl⟩
  · exact ⟨_, _, rfl, .inr rfl⟩
theorem stepsL_cons (s : Stp) (q : List Stp) : stepsL (s :: q) = stpL s ++ stepsL q := by simp [stepsL]
theorem stepsL_end (q : List Stp) : EndS (stepsL q) := fun c r0 e => by
  cases q with
  | nil => cases e
  | cons s q =>
    obtain ⟨d, r, e2, hd⟩ := stpL_cons s
    rw [stepsL_cons, e2, List.cons_append, List.cons.injEq] at e
    rw [← e.1]
    exact hd
theorem stepsL_nil {q : List Stp} (h : stepsL q = []) : q = [] := by
  cases q with
  | nil => rfl
  | cons s q =>
    obtain ⟨d, r, e2, -⟩ := stpL_cons s
    rw [stepsL_cons, e2, List.cons_append] at h
    cases h
theorem stepsL_inj : ∀ p q : List Stp, (∀ s ∈ p, s.ok = true) → (∀ s ∈ q, s.ok = true) → stepsL p = stepsL q → p = q
  | [], q, _, _, h => (stepsL_nil h.symm).symm
  | s :: p, [], _, _, h => stepsL_nil h
  | s :: p, s' :: q, hp, hq, h => by
    rw [stepsL_cons, stepsL_cons] at h
    have h1 := reads_spec s (stepsL p) (hp s (by simp)) (stepsL_end p)
    have h2 := reads_spec s' (stepsL q) (hq s' (by simp)) (stepsL_end q)
    rw [h, h2] at h1
    obtain ⟨rfl, -⟩ := Prod.mk.inj (Option.some.inj h1)
    rw [stepsL_inj p q (fun x hx => hp x (by simp [hx])) (fun x hx => hq x (by simp [hx])) (List.append_cancel_left h)]
theorem pathOk_all {p : List Stp} (h : pathOk p = true) : ∀ s ∈ p, s.ok = true := fun s hs => by
  obtain ⟨i, hi, rfl⟩ := List.getElem_of_mem hs
  exact pathOk_in h i hi
/-- No good way has this text. -/
def Gone (t : ByteArray) : Prop := ∀ p, pathOk p = true → pathS p ≠ t
def ReadsTo (t : ByteArray) : Option (List Stp) → Prop
  | some p => pathOk p = true ∧ pathS p = t
  | none => Gone t
theorem ReadsTo.uniq {t : ByteArray} {r r' : Option (List Stp)} (h : ReadsTo t r) (h' : ReadsTo t r') : r = r' := by
  cases r with
  | none =>
    cases r' with
    | none => rfl
    | some p => exact absurd h'.2 (h p h'.1)
  | some p =>
    cases r' with
    | none => exact absurd h.2 (h' p h.1)
    | some q =>
      have e := congrArg (fun s : ByteArray => s.data.toList) (h.2.trans h'.2.symm)
      simp only [pathS_L, pathL, List.cons.injEq, true_and] at e
      rw [stepsL_inj p q (pathOk_all h.1) (pathOk_all h'.1) e]
/-- What has been read, of every good way that has this text, and what is left of it. -/
def Pre (t : ByteArray) (out : List Stp) (k : Nat) : Prop := ∀ p, pathOk p = true → pathS p = t → ∃ q, p = out ++ q ∧ t.data.toList.drop k = stepsL q
theorem pathS_t {p : List Stp} {t : ByteArray} (h : pathS p = t) : t.data.toList = 36 :: stepsL p := by rw [← h, pathS_L]; rfl
theorem Pre.start (t : ByteArray) : Pre t [] (if hd t.data.toList 36 = true then 1 else 0) := fun p _ h => by
  have e := pathS_t h
  refine ⟨p, rfl, ?_⟩
  rw [if_pos (hd_iff.2 (by rw [e]; rfl)), e, List.drop_succ_cons, List.drop_zero]
theorem Pre.one (t : ByteArray) : Pre t [] 1 := fun p _ h => by
  refine ⟨p, rfl, ?_⟩
  rw [pathS_t h, List.drop_succ_cons, List.drop_zero]
theorem gone_head {t : ByteArray} (h : hd t.data.toList 36 = false) : Gone t := fun p _ h2 => by
  rw [pathS_t h2] at h
  cases h
theorem Pre.cons {t : ByteArray} {out : List Stp} {k : Nat} (h : Pre t out k) (hk : k < t.size) {p : List Stp} (h1 : pathOk p = true) (h2 : pathS p = t) : ∃ s q, p = out ++ s :: q ∧ s.ok = true ∧ t.data.toList.drop k = stpL s ++ stepsL q := by
  obtain ⟨q, e, hq⟩ := h p h1 h2
  cases q with
  | nil =>
    have h3 := congrArg List.length hq
    rw [List.length_drop, txt_len] at h3
    have : (stepsL []).length = 0 := rfl
    omega
  | cons s q => exact ⟨s, q, e, pathOk_all h1 s (by rw [e]; simp), by rw [hq, stepsL_cons]⟩
theorem Pre.next {t : ByteArray} {out : List Stp} {k n : Nat} {s : Stp} {f : List UInt8 → Option (Stp × Nat)} (h : Pre t out k) (hf : Reads f) (hk : k < t.size) (hr : f (t.data.toList.drop k) = some (s, n)) : Pre t (out ++ [s]) (k + n) := fun p h1 h2 => by
  obtain ⟨s0, q, e, hs, hq⟩ := h.cons hk h1 h2
  rw [hq, hf s0 (stepsL q) hs (stepsL_end q)] at hr
  obtain ⟨rfl, rfl⟩ := Prod.mk.inj (Option.some.inj hr)
  refine ⟨q, by rw [e]; simp, ?_⟩
  rw [← List.drop_drop, hq, List.drop_left' rfl]
theorem Pre.stuck {t : ByteArray} {out : List Stp} {k : Nat} {f : List UInt8 → Option (Stp × Nat)} (h : Pre t out k) (hf : Reads f) (hk : k < t.size) (hr : f (t.data.toList.drop k) = none) : Gone t := fun p h1 h2 => by
  obtain ⟨s0, q, e, hs, hq⟩ := h.cons hk h1 h2
  rw [hq, hf s0 (stepsL q) hs (stepsL_end q)] at hr
  cases hr
theorem Pre.fin {t : ByteArray} {out : List Stp} {k : Nat} (h : Pre t out k) (hk : t.size ≤ k) {p : List Stp} (h1 : pathOk p = true) (h2 : pathS p = t) : p = out := by
  obtain ⟨q, e, hq⟩ := h p h1 h2
  rw [List.drop_eq_nil_of_le (by rw [txt_len]; exact hk)] at hq
  rw [e, stepsL_nil hq.symm, List.append_nil]
theorem itoa_len3 {n : Int} (h0 : -60 ≤ n) (h1 : n < 60) : (Lib.itoa n).length ≤ 3 := by
  unfold Lib.itoa
  split
  · have := nDig_le (u := n.natAbs) (k := 2) (by omega) (by omega)
    rw [List.length_cons, Lib.decDigits_length]
    omega
  · have := nDig_le (u := n.toNat) (k := 2) (by omega) (by omega)
    rw [Lib.decDigits_length]
    omega
theorem stpL_le {s : Stp} (h : s.ok = true) : (stpL s).length ≤ 13 := by
  unfold stpL
  split
  · rename_i hm
    have := stp_ks h hm
    rw [List.length_cons, txt_len]
    omega
  · rename_i hm
    have hp := stp_pl h (by simpa using hm)
    have := itoa_len3 hp.1 hp.2
    rw [List.length_cons, List.length_append, List.length_cons, List.length_nil]
    omega
theorem stepsL_le : ∀ p : List Stp, (∀ s ∈ p, s.ok = true) → (stepsL p).length ≤ 13 * p.length
  | [], _ => Nat.le_refl _
  | s :: p, h => by
    have h1 := stpL_le (h s (by simp))
    have h2 := stepsL_le p fun x hx => h x (by simp [hx])
    rw [stepsL_cons, List.length_append, List.length_cons]
    omega
theorem pathS_79 {p : List Stp} (h : pathOk p = true) : (pathS p).size ≤ 79 := by
  have h1 := stepsL_le p (pathOk_all h)
  have h2 := pathOk_len h
  rw [← txt_len, pathS_L]
  unfold pathL
  rw [List.length_cons]
  omega
theorem gone_long {t : ByteArray} (h : 120 < t.size) : Gone t := fun p h1 h2 => by
  have := pathS_79 h1
  rw [h2] at this
  omega
theorem gone_empty {t : ByteArray} (h : t.size = 0) : Gone t := fun p h1 h2 => by
  have h3 := congrArg List.length (pathS_t h2)
  rw [txt_len, List.length_cons] at h3
  omega
/-- What the program's last comparison comes to. -/
theorem Pre.last {t : ByteArray} {out : List Stp} {k : Nat} (h : Pre t out k) (h0 : 0 < t.size) (hk : t.size ≤ k ∨ 6 < out.length) : if pathTxt out = t then pathOk out = true ∧ pathS out = t else Gone t := by
  unfold pathTxt
  by_cases ho : pathOk out = true
  · rw [if_pos ho]
    split
    · rename_i e; exact ⟨ho, e⟩
    · rename_i e
      intro p h1 h2
      rcases hk with hk | hk
      · exact e (by rw [← h.fin hk h1 h2]; exact h2)
      · have := pathOk_len ho; omega
  · rw [if_neg ho]
    split
    · rename_i e
      rw [← e] at h0
      exact absurd h0 (by decide)
    · intro p h1 h2
      rcases hk with hk | hk
      · exact ho (by rw [← h.fin hk h1 h2]; exact h1)
      · obtain ⟨q, e, -⟩ := h p h1 h2
        have := pathOk_len h1
        rw [e, List.length_append] at this
        omega
theorem rdI_le {l : List UInt8} {s : Stp} {k : Nat} (h : rdI l = some (s, k)) : 1 ≤ k ∧ k ≤ l.length ∧ s.key.size ≤ l.length := by
  have hrun : ∀ P (q : List UInt8), runN P q ≤ q.length := runN_le
  unfold rdI at h
  split at h
  · rename_i hh
    obtain ⟨r, rfl⟩ := hd_cons hh
    obtain ⟨rfl, rfl⟩ := Prod.mk.inj (Option.some.inj h)
    rw [List.drop_succ_cons, List.drop_zero, List.length_cons]
    have h1 : upN [46, 91] r ≤ r.length := runN_le _ r
    refine ⟨by omega, by omega, ?_⟩
    show (bs _).size ≤ _
    rw [bs_size, List.length_take]
    omega
  · split at h
    · rename_i hh
      obtain ⟨r, rfl⟩ := hd_cons hh
      obtain ⟨rfl, rfl⟩ := Prod.mk.inj (Option.some.inj h)
      rw [List.drop_succ_cons, List.drop_zero, List.length_cons]
      have h1 : upN [93] r ≤ r.length := runN_le _ r
      refine ⟨by omega, ?_, Nat.zero_le _⟩
      split
      · rename_i h93
        rw [Nat.add_comm 1, List.drop_succ_cons] at h93
        obtain ⟨r2, hr2⟩ := hd_cons h93
        have h3 := congrArg List.length hr2
        rw [List.length_drop, List.length_cons] at h3
        omega
      · omega
    · cases h

end Go.Proofs.YtpfkcblhojkaiaaDoor.Eng
