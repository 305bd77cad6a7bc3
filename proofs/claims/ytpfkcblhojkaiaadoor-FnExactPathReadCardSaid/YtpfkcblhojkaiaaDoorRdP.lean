/- How the text of a way is read: plain laws. -/
import Derived.Test.YtpfkcblhojkaiaaDoorVInj
namespace Go.Proofs.YtpfkcblhojkaiaaDoor.Eng
open Go.RowKit
set_option linter.unusedVariables false
set_option linter.unusedSimpArgs false
set_option maxHeartbeats 1000000


def hd (l : List UInt8) (c : UInt8) : Bool := decide (l.head? = some c)
def valD (d : List UInt8) : Nat := d.foldl (fun n c => n * 10 + (c.toNat - 48)) 0
/-- What a number's text tells. -/
def num1 (t : List UInt8) : Option Int :=
  if (if hd t 45 = true then t.drop 1 else t) = [] ∨ 17 < (if hd t 45 = true then t.drop 1 else t).length ∨ (hd (if hd t 45 = true then t.drop 1 else t) 48 = true ∧ (1 < (if hd t 45 = true then t.drop 1 else t).length ∨ hd t 45 = true)) ∨ (if hd t 45 = true then t.drop 1 else t).all isD = false then none
  else some (if hd t 45 = true then -(valD (t.drop 1) : Int) else (valD t : Int))
def sgN (l : List UInt8) : Nat := if hd l 45 = true then 1 else 0
def digN (l : List UInt8) : Nat := sgN l + ((l.drop (sgN l)).takeWhile isD).length
def rdNum (l : List UInt8) : Option (Int × Nat) := match num1 (l.take (digN l)) with
  | none => none
  | some n => some (n, digN l)
def letN (l : List UInt8) : Nat := (l.takeWhile low).length
def rdStep (l : List UInt8) : Option (Stp × Nat) :=
  if hd l 46 = true then some (⟨true, bs ((l.drop 1).take (letN (l.drop 1))), 0⟩, 1 + letN (l.drop 1))
  else if hd l 91 = true then match rdNum (l.drop 1) with
    | none => none
    | some (n, k) => if hd (l.drop (1 + k)) 93 = true then some (⟨false, ⟨#[]⟩, n⟩, 1 + k + 1) else none
  else none
def stpL (s : Stp) : List UInt8 := if s.m = true then 46 :: s.key.data.toList else 91 :: (Lib.itoa s.pl ++ [93])
def stepsL (p : List Stp) : List UInt8 := p.flatMap stpL
def pathL (p : List Stp) : List UInt8 := 36 :: stepsL p
theorem stpS_L (s : Stp) : (stpS s).data.toList = stpL s := by
  unfold stpS stpL
  split
  · rw [txt_app]; rfl
  · rw [txt_app, txt_app]
    show ([91] ++ (itoaS s.pl).data.toList) ++ [93] = _
    unfold itoaS
    simp
theorem pathS_L (p : List Stp) : (pathS p).data.toList = pathL p := by
  have key : ∀ (q : List Stp) (a : ByteArray), (q.foldl (fun out s => out ++ stpS s) a).data.toList = a.data.toList ++ stepsL q := by
    intro q
    induction q with
    | nil => intro a; simp [stepsL]
    | cons s q ih =>
      intro a
      rw [List.foldl_cons, ih, txt_app, stpS_L]
      simp [stepsL]
  unfold pathS
  rw [key]
  rfl
theorem valD_snoc (d : List UInt8) (c : UInt8) : valD (d ++ [c]) = valD d * 10 + (c.toNat - 48) := by
  unfold valD
  rw [List.foldl_append]
  rfl
theorem valD_dec (u : Nat) : valD (Lib.decDigits u) = u := by
  induction u using Nat.strongRecOn with
  | _ u ih =>
    by_cases h : u < 10
    · rw [Lib.decDigits_one h]
      show 0 * 10 + ((UInt8.ofNat (48 + u)).toNat - 48) = u
      rw [dig_nat h]
      omega
    · rw [dec_step (by omega), valD_snoc, ih (u / 10) (by omega), dig_nat (by omega)]
      omega
theorem isD_nat {c : UInt8} (h : isD c = true) : 48 ≤ c.toNat ∧ c.toNat ≤ 57 := by
  unfold isD at h
  simp at h
  exact h
theorem ofNat_back {c : UInt8} (h : 48 ≤ c.toNat) : UInt8.ofNat (48 + (c.toNat - 48)) = c := by
  rw [show 48 + (c.toNat - 48) = c.toNat by omega]
  exact UInt8.ofNat_toNat
/-- Digits without a nought ahead are the digits of their number. -/
theorem dec_valD : ∀ (n : Nat) (d : List UInt8), d.length = n + 1 → (∀ c ∈ d, isD c = true) → (d.head? = some 48 → d.length = 1) → Lib.decDigits (valD d) = d ∧ (d.head? ≠ some 48 → 1 ≤ valD d)
  | 0, d, hl, ha, _ => by
    match d, hl with
    | [c], _ =>
      have hc := isD_nat (ha c (by simp))
      have hv : valD [c] = c.toNat - 48 := by show 0 * 10 + (c.toNat - 48) = _; omega
      rw [hv]
      refine ⟨?_, fun h => ?_⟩
      · rw [Lib.decDigits_one (by omega), ofNat_back hc.1]
      · have hne : c.toNat ≠ 48 := fun e => by
          apply h
          rw [List.head?_cons]
          congr 1
          exact UInt8.toNat_inj.1 e
        omega
  | n + 1, d, hl, ha, hz => by
    obtain ⟨d0, c, rfl⟩ : ∃ d0 c, d = d0 ++ [c] := by
      have hne : d ≠ [] := by intro e; rw [e] at hl; simp at hl
      exact ⟨d.dropLast, d.getLast hne, (List.dropLast_concat_getLast hne).symm⟩
    have hl0 : d0.length = n + 1 := by rw [List.length_append] at hl; simp at hl; omega
    obtain ⟨x, r, rfl⟩ : ∃ x r, d0 = x :: r := by
      cases d0 with
      | nil => simp at hl0
      | cons x r => exact ⟨x, r, rfl⟩
    have hx : (x :: r : List UInt8).head? ≠ some 48 := fun e => by
      have h1 := hz (by simpa using e)
      simp at h1
    obtain ⟨h1, h2⟩ := dec_valD n (x :: r) hl0 (fun y hy => ha y (by simp at hy ⊢; rcases hy with rfl | hy; exact .inl rfl; exact .inr (.inl hy))) (fun e => absurd e hx)
    have hc := isD_nat (ha c (by simp))
    have h3 := h2 hx
    rw [valD_snoc]
    refine ⟨?_, fun _ => by omega⟩
    rw [dec_step (by omega), show (valD (x :: r) * 10 + (c.toNat - 48)) / 10 = valD (x :: r) by omega, show (valD (x :: r) * 10 + (c.toNat - 48)) % 10 = c.toNat - 48 by omega, h1, ofNat_back hc.1]
theorem dec_nozero {u : Nat} (h : (Lib.decDigits u).head? = some 48) : u = 0 := by
  induction u using Nat.strongRecOn with
  | _ u ih =>
    by_cases hu : u < 10
    · rw [Lib.decDigits_one hu, List.head?_cons] at h
      have := congrArg UInt8.toNat (Option.some.inj h)
      rw [dig_nat hu] at this
      have e : (48 : UInt8).toNat = 48 := rfl
      omega
    · rw [dec_step (by omega)] at h
      obtain ⟨c, r, e, -⟩ := dec_head (u / 10)
      rw [e] at h
      have h1 := ih (u / 10) (by omega) (by rw [e]; simpa using h)
      omega
theorem hd_iff {l : List UInt8} {c : UInt8} : hd l c = true ↔ l.head? = some c := by unfold hd; simp
theorem num1_sound {t : List UInt8} {n : Int} (h : num1 t = some n) : Lib.itoa n = t := by
  unfold num1 at h
  by_cases hn : hd t 45 = true
  · simp only [hn, if_true] at h
    split at h
    · cases h
    · rename_i hc
      obtain rfl := Option.some.inj h
      simp only [not_or, not_and, Bool.not_eq_false] at hc
      obtain ⟨h1, h2, h3, h4⟩ := hc
      obtain ⟨r, rfl⟩ : ∃ r, t = 45 :: r := by
        have := hd_iff.1 hn
        cases t with
        | nil => simp at this
        | cons x r => rw [List.head?_cons] at this; exact ⟨r, by rw [Option.some.inj this]⟩
      rw [List.drop_succ_cons, List.drop_zero] at h1 h2 h3 h4 ⊢
      have hall : ∀ c ∈ r, isD c = true := List.all_eq_true.1 h4
      have hnz : r.head? ≠ some 48 := fun e => (h3 (hd_iff.2 e)).2 trivial
      obtain ⟨e1, e2⟩ := dec_valD (r.length - 1) r (by have := List.length_pos_iff.2 h1; omega) hall (fun e => absurd e hnz)
      have h5 := e2 hnz
      unfold Lib.itoa
      rw [if_pos (by omega), show (-(valD r : Int)).natAbs = valD r by omega, e1]
  · simp only [hn, Bool.false_eq_true, if_false] at h
    split at h
    · cases h
    · rename_i hc
      obtain rfl := Option.some.inj h
      simp only [not_or, not_and, Bool.not_eq_false] at hc
      obtain ⟨h1, h2, h3, h4⟩ := hc
      have hall : ∀ c ∈ t, isD c = true := List.all_eq_true.1 h4
      have hlt := List.length_pos_iff.2 h1
      obtain ⟨e1, -⟩ := dec_valD (t.length - 1) t (by omega) hall (fun e => by
        have := (h3 (hd_iff.2 e)).1
        omega)
      unfold Lib.itoa
      rw [if_neg (by omega), Int.toNat_natCast, e1]
theorem nDig_le {u k : Nat} (h : u < 10 ^ k) (hk : 1 ≤ k) : Lib.nDigits u ≤ k := by
  induction k generalizing u with
  | zero => omega
  | succ k ih =>
    by_cases hu : u < 10
    · rw [Lib.nDigits_small hu]; omega
    · rw [Lib.nDigits_big hu]
      have h1 : u / 10 < 10 ^ k := by rw [Nat.pow_succ] at h; omega
      have h2 : 1 ≤ k := by
        rcases Nat.eq_zero_or_pos k with rfl | h2
        · simp at h1; omega
        · exact h2
      have := ih h1 h2
      omega
theorem num1_itoa {n : Int} (h0 : -1000000000 < n) (h1 : n < 1000000000) : num1 (Lib.itoa n) = some n := by
  have hlen : ∀ u : Nat, u < 1000000000 → (Lib.decDigits u).length ≤ 9 := fun u hu => by
    rw [Lib.decDigits_length]
    exact nDig_le (k := 9) (by omega) (by omega)
  have hall : ∀ u : Nat, (Lib.decDigits u).all isD = true := fun u => List.all_eq_true.2 (dec_all u)
  unfold Lib.itoa
  by_cases hn : n < 0
  · rw [if_pos hn]
    obtain ⟨c, r, e, hc⟩ := dec_head n.natAbs
    have hd45 : hd (45 :: Lib.decDigits n.natAbs) 45 = true := hd_iff.2 rfl
    unfold num1
    simp only [hd45, if_true, List.drop_succ_cons, List.drop_zero]
    rw [if_neg, valD_dec]
    · congr 1; omega
    · rintro (h | h | ⟨h, -⟩ | h)
      · have := dec_pos n.natAbs
        rw [h] at this
        simp at this
      · have := hlen n.natAbs (by omega)
        omega
      · have := dec_nozero (hd_iff.1 h)
        omega
      · rw [hall] at h; cases h
  · rw [if_neg hn]
    obtain ⟨c, r, e, hc⟩ := dec_head n.toNat
    have hd45 : hd (Lib.decDigits n.toNat) 45 = false := by
      cases h : hd (Lib.decDigits n.toNat) 45 with
      | false => rfl
      | true =>
        have := hd_iff.1 h
        rw [e, List.head?_cons] at this
        rw [Option.some.inj this] at hc
        revert hc
        decide
    unfold num1
    simp only [hd45, Bool.false_eq_true, if_false]
    rw [if_neg, valD_dec]
    · congr 1; omega
    · rintro (h | h | ⟨h, h'⟩ | h)
      · have := dec_pos n.toNat
        rw [h] at this
        simp at this
      · have := hlen n.toNat (by omega)
        omega
      · have h2 := dec_nozero (hd_iff.1 h)
        rw [h2, Lib.decDigits_one (by omega)] at h'
        rcases h' with h' | h'
        · simp at h'
        · exact h'
      · rw [hall] at h; cases h
theorem takeWhile_span {P : UInt8 → Bool} {a r : List UInt8} (ha : ∀ x ∈ a, P x = true) (hr : Stop P r) : (a ++ r).takeWhile P = a := by
  induction a with
  | nil =>
    cases r with
    | nil => rfl
    | cons c r => rw [List.nil_append, List.takeWhile_cons, hr c r rfl]; rfl
  | cons x a ih =>
    rw [List.cons_append, List.takeWhile_cons, ha x (by simp)]
    simp only [if_true]
    rw [ih fun y hy => ha y (by simp [hy])]
theorem rdNum_itoa {n : Int} {r : List UInt8} (h0 : -1000000000 < n) (h1 : n < 1000000000) (hr : Stop isD r) : rdNum (Lib.itoa n ++ r) = some (n, (Lib.itoa n).length) := by
  have hk : digN (Lib.itoa n ++ r) = (Lib.itoa n).length := by
    unfold digN
    by_cases hn : n < 0
    · have e : Lib.itoa n = 45 :: Lib.decDigits n.natAbs := by unfold Lib.itoa; rw [if_pos hn]
      have hs : sgN (Lib.itoa n ++ r) = 1 := by unfold sgN; rw [if_pos (hd_iff.2 (by rw [e]; rfl))]
      rw [hs, e, List.cons_append, List.drop_succ_cons, List.drop_zero, takeWhile_span (dec_all _) hr, List.length_cons]
      omega
    · have e : Lib.itoa n = Lib.decDigits n.toNat := by unfold Lib.itoa; rw [if_neg hn]
      have hs : sgN (Lib.itoa n ++ r) = 0 := by
        unfold sgN
        rw [if_neg]
        intro h
        obtain ⟨c, q, e2, hc⟩ := dec_head n.toNat
        have := hd_iff.1 h
        rw [e, e2, List.cons_append, List.head?_cons] at this
        rw [Option.some.inj this] at hc
        revert hc
        decide
      rw [hs, List.drop_zero, e, takeWhile_span (dec_all _) hr]
      omega
  unfold rdNum
  rw [hk, List.take_left' rfl, num1_itoa h0 h1]
/-- What stands behind a step. -/
def EndS (r : List UInt8) : Prop := ∀ c r0, r = c :: r0 → c = 46 ∨ c = 91
theorem EndS.low {r : List UInt8} (h : EndS r) : Stop low r := fun c r0 e => by
  rcases h c r0 e with rfl | rfl <;> decide
theorem stop93 (r : List UInt8) : Stop isD (93 :: r) := fun c r0 e => by
  rw [List.cons.injEq] at e
  rw [← e.1]
  decide
theorem rdStep_ok {s : Stp} {r : List UInt8} (hs : s.ok = true) (hr : EndS r) : rdStep (stpL s ++ r) = some (s, (stpL s).length) := by
  obtain ⟨m, key, pl⟩ := s
  cases m with
  | true =>
    have h1 : okS key = true ∧ pl = 0 := by unfold Stp.ok at hs; simp at hs; exact hs
    have e : stpL ⟨true, key, pl⟩ = 46 :: key.data.toList := by unfold stpL; rw [if_pos rfl]
    have hl : letN (key.data.toList ++ r) = key.data.toList.length := by unfold letN; rw [takeWhile_span (low_all h1.1) hr.low]
    unfold rdStep
    rw [e, List.cons_append, if_pos (hd_iff.2 rfl), List.drop_succ_cons, List.drop_zero, hl, List.take_left' rfl, h1.2, ← bs_eq key, List.length_cons]
    congr 2
    omega
  | false =>
    have h1 : key = ⟨#[]⟩ ∧ -60 ≤ pl ∧ pl < 60 := by
      unfold Stp.ok at hs
      rw [if_neg (by simp)] at hs
      simp at hs
      exact ⟨hs.1.1, hs.1.2, hs.2⟩
    have e : stpL ⟨false, key, pl⟩ = 91 :: (Lib.itoa pl ++ [93]) := by unfold stpL; rw [if_neg (by simp)]
    have e2 : (Lib.itoa pl ++ [93]) ++ r = Lib.itoa pl ++ 93 :: r := by simp
    have hn := rdNum_itoa (n := pl) (r := 93 :: r) (by omega) (by omega) (stop93 r)
    unfold rdStep
    rw [e, List.cons_append, if_neg (fun h => by have := hd_iff.1 h; simp at this), if_pos (hd_iff.2 rfl), List.drop_succ_cons, List.drop_zero, e2, hn]
    have e3 : (91 :: (Lib.itoa pl ++ 93 :: r)).drop (1 + (Lib.itoa pl).length) = 93 :: r := by
      rw [Nat.add_comm, List.drop_succ_cons, List.drop_left' rfl]
    simp only [e3]
    rw [if_pos (hd_iff.2 rfl), h1.1, List.length_cons, List.length_append, List.length_cons, List.length_nil]
    congr 2
    omega
theorem takeWhile_take {P : UInt8 → Bool} (l : List UInt8) : l.take (l.takeWhile P).length = l.takeWhile P := by
  induction l with
  | nil => rfl
  | cons x l ih =>
    rw [List.takeWhile_cons]
    split
    · rw [List.length_cons, List.take_succ_cons, ih]
    · rfl
theorem digN_le (l : List UInt8) : digN l ≤ l.length := by
  unfold digN sgN
  have h : ∀ q : List UInt8, (q.takeWhile isD).length ≤ q.length := fun q => (List.takeWhile_prefix (p := isD)).length_le
  split
  · rename_i hh
    have h1 := hd_iff.1 hh
    have h2 := h (l.drop 1)
    rw [List.length_drop] at h2
    cases l with
    | nil => simp at h1
    | cons x l => simp at h2 ⊢; omega
  · have h2 := h (l.drop 0)
    rw [List.drop_zero] at h2 ⊢
    omega
theorem hd_cons {l : List UInt8} {c : UInt8} (h : hd l c = true) : ∃ r, l = c :: r := by
  have := hd_iff.1 h
  cases l with
  | nil => simp at this
  | cons x r => rw [List.head?_cons] at this; exact ⟨r, by rw [Option.some.inj this]⟩
theorem rdStep_sound {l : List UInt8} {s : Stp} {k : Nat} (h : rdStep l = some (s, k)) : l.take k = stpL s ∧ 1 ≤ k ∧ k ≤ l.length := by
  unfold rdStep at h
  split at h
  · rename_i hh
    obtain ⟨r, rfl⟩ := hd_cons hh
    rw [List.drop_succ_cons, List.drop_zero] at h
    obtain ⟨rfl, rfl⟩ := Prod.mk.inj (Option.some.inj h)
    have hle : letN r ≤ r.length := (List.takeWhile_prefix (p := low)).length_le
    refine ⟨?_, by omega, by rw [List.length_cons]; omega⟩
    unfold stpL
    rw [if_pos rfl, Nat.add_comm, List.take_succ_cons, bs_list]
  · split at h
    · rename_i hh
      obtain ⟨r, rfl⟩ := hd_cons hh
      rw [List.drop_succ_cons, List.drop_zero] at h
      cases hn : rdNum r with
      | none => rw [hn] at h; cases h
      | some nk =>
        obtain ⟨n, q⟩ := nk
        rw [hn] at h
        simp only at h
        split at h
        · rename_i h93
          obtain ⟨rfl, rfl⟩ := Prod.mk.inj (Option.some.inj h)
          rw [Nat.add_comm 1 q, List.drop_succ_cons] at h93
          obtain ⟨r2, hr2⟩ := hd_cons h93
          have hq : q = digN r ∧ num1 (r.take (digN r)) = some n := by
            unfold rdNum at hn
            cases h1 : num1 (r.take (digN r)) with
            | none => rw [h1] at hn; cases hn
            | some m =>
              rw [h1] at hn
              obtain ⟨rfl, rfl⟩ := Prod.mk.inj (Option.some.inj hn)
              exact ⟨rfl, rfl⟩
          have hi := num1_sound hq.2
          rw [← hq.1] at hi
          have hlt : q < r.length := by
            rcases Nat.lt_or_ge q r.length with h1 | h1
            · exact h1
            · rw [List.drop_eq_nil_of_le h1] at hr2; cases hr2
          refine ⟨?_, by omega, by rw [List.length_cons]; omega⟩
          unfold stpL
          rw [if_neg (by simp), show 1 + q + 1 = (q + 1) + 1 by omega, List.take_succ_cons, hi, List.take_succ_eq_append_getElem hlt]
          congr 3
          rw [List.drop_eq_getElem_cons hlt, List.cons.injEq] at hr2
          exact hr2.1
        · cases h
    · cases h

end Go.Proofs.YtpfkcblhojkaiaaDoor.Eng
