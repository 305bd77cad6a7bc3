/- Parts of slices and of texts. No statement of the seat is proved here. -/
import Derived.Test.YtpfkcblhojkaiaaDoorAli
import Derived.Laws.Slices
import Derived.Laws.Strings2
namespace Go.Proofs.YtpfkcblhojkaiaaDoor.Eng
open Go.RowKit
set_option linter.unusedVariables false
set_option linter.unusedSimpArgs false
section
variable {P : Program} {n : Nat} {S : Env} {o : Oper} {g : Bool} {v : Value} {w : World} {x y z : Operand} {t : TypeId}
theorem yld_slc {A : Option Addr} {m c l h : Nat} {e sz by' : Nat} (ht : sliceT P t e sz by' = true) (ho : o.op = .slice t x (some y) (some z) none) (hx : Ev S g x (.slice A m c)) (hy : Ev S g y (.int .i64 (l : Int))) (hz : Ev S g z (.int .i64 (h : Int))) (h1 : l ≤ h) (h2 : h ≤ c) : Yld P n S o g w (sliced A l h c sz) := fun a hs hg => by
  have ex := hx n a hs hg
  have ey := hy n a hs hg
  have ez := hz n a hs hg
  generalize a.eval = ρ at ex ey ez ⊢
  obtain ⟨hu, i, hi, hsz, -⟩ := sliceT_spec ht
  have he : P.elem t = e := by simp [Program.elem, hu]
  have hu' : P.underlying t = some (.slice (P.elem t)) := by rw [he]; exact hu
  have hr := run_slice_lh (P := P) (w := w) t A m c hu' .i64 .i64 (l : Int) (h : Int) (by omega) (by omega) (by omega)
  have hs2 : (sizeOf (P.elem t)).run P w = .ok sz w := by rw [he]; simp [sizeOf, typeInfo, hi, hsz]
  rw [hs2] at hr
  simp only [Int.toNat_natCast] at hr
  simp [execOp, ho, ex, ey, ez, run_sliceAt_slice (P := P) (w := w) t _ _ _ _ hu', hr]
theorem yld_slcS {s : ByteArray} {l h : Nat} (ht : strT P t = true) (ho : o.op = .slice t x (some y) (some z) none) (hx : Ev S g x (.string s)) (hy : Ev S g y (.int .i64 (l : Int))) (hz : Ev S g z (.int .i64 (h : Int))) (h1 : l ≤ h) (h2 : h ≤ s.size) : Yld P n S o g w (.string (s.extract l h)) := fun a hs hg => by
  have ex := hx n a hs hg
  have ey := hy n a hs hg
  have ez := hz n a hs hg
  generalize a.eval = ρ at ex ey ez ⊢
  have hu := strT_spec ht
  have hr := run_slice_string (P := P) (w := w) t s .i64 .i64 (l : Int) (h : Int) hu (by omega) (by omega) (by omega)
  simp [execOp, ho, ex, ey, ez, run_sliceAt_string (P := P) (w := w) t _ _ _ _ hu, hr]
end
theorem RepL.cut {F : Nat → Prop} {w : World} {l : List Tr} {A : Option Addr} {n c : Nat} (h : RepL F w l (.slice A n c)) (a b : Nat) (hab : a ≤ b) (hb : b ≤ l.length) : RepL F w ((l.drop a).take (b - a)) (sliced A a b c 5) := by
  obtain ⟨A', c', f, e, h2, h3, h4, h5⟩ := h
  obtain ⟨rfl, rfl, rfl⟩ : A = A' ∧ n = l.length ∧ c = c' := by simpa using e
  have hlen : ((l.drop a).take (b - a)).length = b - a := by simp; omega
  refine ⟨if c = a then A else A.map (·.add (a * 5)), c - a, fun i => f (a + i), by rw [hlen]; rfl, by rw [hlen]; omega, by omega, fun hm => ?_, fun i hi => ?_⟩
  · rw [hlen] at hm ⊢
    obtain ⟨bb, o, rfl, hF, hf⟩ := h4 (by omega)
    refine ⟨bb, o + a * 5, ?_, hF, fun i hi => ?_⟩
    · rw [if_neg (by omega), Option.map_some, Addr.add_mid]
    · obtain ⟨h6, h7⟩ := hf (a + i) (by omega)
      refine ⟨h6, ?_⟩
      rw [show o + a * 5 + i * 5 = o + (a + i) * 5 by omega]
      exact h7
  · rw [hlen] at hi
    have := h5 (a + i) (by omega)
    simp only [List.getElem_take, List.getElem_drop]
    exact this
theorem ext_mem {s : ByteArray} {a b : Nat} {c : UInt8} (h : c ∈ (s.extract a b).data.toList) : c ∈ s.data.toList := by
  rw [ByteArray.data_extract] at h
  rw [Array.mem_toList_iff] at h ⊢
  obtain ⟨i, hi, rfl⟩ := Array.getElem_of_mem h
  rw [Array.getElem_extract]
  exact Array.getElem_mem _
theorem okS_ext {s : ByteArray} (h : okS s = true) (a b : Nat) : okS (s.extract a b) = true := by
  unfold okS lowB at h ⊢
  simp only [Bool.and_eq_true, decide_eq_true_eq, List.all_eq_true] at h ⊢
  refine ⟨fun c hc => h.1 c (ext_mem hc), ?_⟩
  rw [ByteArray.size_extract]
  have := h.2
  omega
end Go.Proofs.YtpfkcblhojkaiaaDoor.Eng
