/- Tables of numbers that are listed, and what strconv.Itoa gives, as plain data. No statement of the seat is proved here. -/
import Derived.Test.YtpfkcblhojkaiaaDoorMem
import Derived.Test.YtpfkcblhojkaiaaDoorShI
import Derived.Lib.LaidTab
namespace Go.Proofs.YtpfkcblhojkaiaaDoor.Eng
open Go.RowKit
set_option linter.unusedVariables false
set_option linter.unusedSimpArgs false
theorem Chg.grow (w : World) (k : Nat) (os : Array Obj) : Chg No w (Sort.grow (w.drewN k) os) :=
  ⟨rfl, rfl, rfl, by simp [Sort.grow, World.drewN], fun b hb _ => by
    show (w.heap ++ os)[b]? = w.heap[b]?
    rw [Array.getElem?_append_left hb]⟩
theorem var_stay {P : Program} {w w' : World} {n : String} {cs : Array Value} (hc : Chg No w w') (h : w.var? P n = some cs) : w'.var? P n = some cs := by
  unfold World.var? at h ⊢
  cases hg : P.globalNamed n with
  | none => rw [hg] at h; cases h
  | some g =>
    rw [hg] at h
    simp only [Option.bind_some] at h ⊢
    split at h
    · rename_i c t' fr hb
      rw [hc.block g (blk_lt hb) id, hb]
      exact h
    · cases h
/-- The table of powers of ten is there. -/
def PowTab (w : World) : Prop := Lib.TabIs Tryd.prog w "internal/strconv.uint64pow10" .u64 Lib.pow10Tab
theorem PowTab.chg {w w' : World} (h : PowTab w) (hc : Chg No w w') : PowTab w' := var_stay hc h
theorem powTab_of {W : World} {g t : Nat} {cs : Array Value} {fuel : Nat} {p : List MemPlace} {d : DataW Unit} (hg : Tryd.prog.globalNamed "internal/strconv.uint64pow10" = some g) (ht : (Tryd.prog.globals[g]?).map (·.type) = some t) (hv : W.var? Tryd.prog "internal/strconv.uint64pow10" = some cs) (hlaid : d = Lib.tabData .u64 Lib.pow10Tab)
    (hd : DataW.trod (fun _ => ()) Tryd.prog W 0 (fun _ => true) false fuel t cs.toList = some (d, p)) : PowTab W := by
  have htt : (match Tryd.prog.globalNamed "internal/strconv.uint64pow10" with | some g => (Tryd.prog.globals[g]?).map (·.type) | none => none) = some 153 := by kernel_rfl
  rw [hg] at htt
  obtain rfl := Option.some.inj (ht.symm.trans htt)
  subst hlaid
  have h := Lib.cells_of_tab Tryd.underlying153 Tryd.underlying139 (by kernel_rfl) (by kernel_rfl) hd
  show W.var? _ _ = _
  rw [hv, ← h]
def itoaS (n : Int) : ByteArray := ⟨(Lib.itoa n).toArray⟩
theorem itoa_ct (n : Int) (w : World) (h0 : -9223372036854775808 ≤ n) (h1 : n ≤ 9223372036854775807) (ht : PowTab w) : Calls Tryd.prog 50 #[.int .i64 n] w fun e w' => e = .returned (.string (itoaS n)) ∧ Chg No w w' :=
  (Tryd.strconv_Itoa n h0 h1 w ht).mono fun e w' ⟨he, k, os, hw⟩ => ⟨he, by rw [hw]; exact Chg.grow w k os⟩
theorem txt_eq {a : ByteArray} {l : List UInt8} (h : a.data.toList = l) : a = ⟨l.toArray⟩ := by
  subst h
  cases a
  simp
theorem txt_app (a b : ByteArray) : (a ++ b).data.toList = a.data.toList ++ b.data.toList := by simp
theorem dec_step {r : Nat} (h : 10 ≤ r) : Lib.decDigits r = Lib.decDigits (r / 10) ++ [UInt8.ofNat (48 + r % 10)] := by rw [Lib.decDigits, dif_neg (by omega)]
theorem nDigits_le (u : Nat) : Lib.nDigits u ≤ u + 1 := by
  induction u using Nat.strongRecOn with
  | _ u ih =>
    by_cases h : u < 10
    · rw [Lib.nDigits_small h]; omega
    · rw [Lib.nDigits_big h]
      have := ih (u / 10) (by omega)
      omega
theorem itoaS_size (n : Int) : (itoaS n).size ≤ n.natAbs + 2 := by
  have hs : (itoaS n).size = (Lib.itoa n).length := by
    show (Lib.itoa n).toArray.size = _
    simp
  rw [hs]
  unfold Lib.itoa
  split
  · rw [List.length_cons, Lib.decDigits_length]
    have := nDigits_le n.natAbs
    omega
  · rw [Lib.decDigits_length]
    have := nDigits_le n.toNat
    omega
end Go.Proofs.YtpfkcblhojkaiaaDoor.Eng
