/- Walks of what the laws do to see that nothing is shared: marks are laid in a tree that a call owns, and looked for. -/
import Derived.Test.YtpfkcblhojkaiaaDoorKid
import Derived.Test.YtpfkcblhojkaiaaDoorCopy
namespace Go.Proofs.YtpfkcblhojkaiaaDoor.Eng
open Go.RowKit
set_option linter.unusedVariables false
set_option linter.unusedSimpArgs false
set_option maxHeartbeats 1000000


def addN (k : Int) : Nat → Int
  | 0 => k
  | n + 1 => k + ((n + 1 : Nat) : Int)
theorem addN_eq (k : Int) (n : Nat) : addN k n = k + (n : Int) := by
  cases n with
  | zero => simp [addN]
  | succ n => rfl

set_option maxRecDepth 100000 in
theorem markText_ct (k : Int) (w : World) (hk : k ≤ 4611686018427387904) : Calls Tryd.prog 57 #[.int .i64 k] w fun e w' => e = .returned (.string (mt k)) ∧ Chg No w w' := by
  refine enter Tryd.func57 rfl rfl rfl ?_
  have F0 := Fr.start w
  refine Cod.seq fun K1 hK1 => ?_
  refine Cod.region ?_
  refine Ops.step (One.val rfl rfl rfl (yld_assign rfl ev_c) ?_)
  refine Ops.nil fun a hS => ?_
  refine hK1 _ _ ?_ a hS
  refine Cod.seq fun K2 hK2 => ?_
  refine Cod.seq fun K3 hK3 => ?_
  refine Cod.region ?_
  refine Ops.step (One.val rfl rfl rfl (yld_move rfl (ev_t rfl)) ?_)
  refine Ops.step (One.val rfl rfl rfl (yld_leq rfl (ev_t rfl) ev_c) ?_)
  refine Ops.nil fun a hS => ?_
  refine hK3 _ _ ?_ a hS
  refine Cod.cond rfl (fun hc5 => ?_) (fun hc5 => ?_)
  · skip
    have hk0 : k ≤ 0 := by simpa using hc5
    refine Cod.seq fun K4 hK4 => ?_
    refine Cod.region ?_
    refine Ops.step (One.val rfl rfl rfl (yld_assign rfl ev_c) ?_)
    refine Ops.nil fun a hS => ?_
    refine hK4 _ _ ?_ a hS
    refine Cod.ret fun a hS => ?_
    try simp only [Exit.then, Exit.inBlock]
    exact ret1 (t := 2) rfl hS rfl ⟨by rw [mt, if_pos hk0], F0.chg⟩
  · skip
    have hk0 : ¬ k ≤ 0 := by simpa using hc5
    obtain ⟨q, rfl⟩ := Int.eq_ofNat_of_zero_le (show 0 ≤ k by omega)
    refine Cod.skip fun a hS => ?_
    refine hK2 _ _ ?_ a hS
    refine Cod.seq fun K5 hK5 => ?_
    refine Cod.region ?_
    refine Ops.step (One.val rfl rfl rfl (yld_assign rfl ev_c) ?_)
    refine Ops.nil fun a hS => ?_
    refine hK5 _ _ ?_ a hS
    refine Cod.seq fun K6 hK6 => ?_
    refine Cod.block ?_
    refine Cod.loop (fun i : Nat × ByteArray => [(0, true, .int .i64 (i.1 : Int)), (3, true, .string i.2)]) (fun i w' => mtL q ⟨#[]⟩ = mtL i.1 i.2 ∧ i.1 + i.2.size ≤ q ∧ Fr No w [] w') (fun i => i.1) (q, ⟨#[]⟩) ⟨rfl, rfl, trivial⟩ ⟨rfl, Nat.le_refl _, F0⟩ ?_
    intro i w1 hW K7 hK7
    obtain ⟨r, out⟩ := i
    obtain ⟨hq, hsz, F1⟩ := hW
    dsimp only at *
    refine Cod.seq fun K8 hK8 => ?_
    refine Cod.seq fun K9 hK9 => ?_
    refine Cod.region ?_
    refine Ops.step (One.val rfl rfl rfl (yld_move rfl (ev_t rfl)) ?_)
    refine Ops.step (One.val rfl rfl rfl (yld_gtr rfl (ev_t rfl) ev_c) ?_)
    refine Ops.nil fun a hS => ?_
    refine hK9 _ _ ?_ a hS
    refine Cod.cond rfl (fun hc7 => ?_) (fun hc7 => ?_)
    · skip
      have hr0 : 0 < r := by simp at hc7; omega
      refine Cod.skip fun a hS => ?_
      refine hK8 _ _ ?_ a hS
      refine Cod.block ?_
      refine Cod.seq fun K10 hK10 => ?_
      refine Cod.region ?_
      refine Ops.step (One.val rfl rfl rfl (yld_move rfl (ev_t rfl)) ?_)
      refine Ops.step (One.val rfl rfl rfl (yld_rem rfl (ev_t rfl) ev_c (j := 10) (by omega)) ?_)
      refine Ops.step (One.val rfl rfl rfl (yld_add rfl ev_c (ev_t rfl) (fun _ => by omega)) ?_)
      refine Ops.step (One.val rfl rfl rfl (yld_conv Tryd.underlying3 Tryd.underlying5 rfl (ev_t rfl)) ?_)
      refine Ops.step (One.buildSlice (cells := [.int .u8 (IntKind.u8.wrap (48 + ((r % 10 : Nat) : Int)))]) F1 sl57 zero5 rfl rfl rfl rfl (evp1 (ev_t rfl)) rfl rfl (by kernel_rfl) ?_)
      intro b1 w2 hb1 F2
      refine Ops.step (One.val rfl rfl rfl (yld_text (l := [UInt8.ofNat (48 + r % 10)]) Tryd.underlying57 Tryd.underlying5 Tryd.underlying9 rfl (ev_t rfl) (fun _ => by
      have hd := digit (r % 10) (Nat.mod_lt _ (by omega))
      rw [List.map_cons, List.map_nil, ← hd]
      exact F2.range (m := 1) 0 rfl rfl)) ?_)
      refine Ops.step (One.val rfl rfl rfl (yld_move rfl (ev_t rfl)) ?_)
      refine Ops.step (One.val rfl rfl rfl (yld_sadd rfl (ev_t rfl) (ev_t rfl) (fun _ => by have h1 : (⟨#[UInt8.ofNat (48 + r % 10)]⟩ : ByteArray).size = 1 := rfl; have h2 : (⟨[UInt8.ofNat (48 + r % 10)].toArray⟩ : ByteArray).size = 1 := rfl; omega)) ?_)
      refine Ops.step (One.val rfl rfl rfl (yld_assign rfl (ev_t rfl)) ?_)
      refine Ops.nil fun a hS => ?_
      refine hK10 _ _ ?_ a hS
      refine Cod.region ?_
      refine Ops.step (One.val rfl rfl rfl (yld_move rfl (ev_t rfl)) ?_)
      refine Ops.step (One.val rfl rfl rfl (yld_quo rfl (ev_t rfl) ev_c (j := 10) (by omega) (by omega)) ?_)
      refine Ops.step (One.val rfl rfl rfl (yld_assign rfl (ev_t rfl)) ?_)
      refine Ops.nil fun a hS => ?_
      have hsz' : ((⟨#[UInt8.ofNat (48 + r % 10)]⟩ : ByteArray) ++ out).size = 1 + out.size := by rw [ByteArray.size_append]; rfl
      exact hK7 (r / 10, (⟨#[UInt8.ofNat (48 + r % 10)]⟩ : ByteArray) ++ out) _ a (hS.sub ⟨rfl, rfl, trivial⟩) ⟨by rw [hq]; exact mtL_step r out hr0, by show r / 10 + ((⟨#[UInt8.ofNat (48 + r % 10)]⟩ : ByteArray) ++ out).size ≤ q; omega, F2.drop1⟩ (by show r / 10 < r; omega)
    · skip
      obtain rfl : r = 0 := by simp at hc7; omega
      rw [mtL_zero] at hq
      refine Cod.exit fun a hS => ?_
      simp only [Exit.then, Exit.inBlock, ↓reduceIte]
      refine hK6 _ _ ?_ a hS
      refine Cod.seq fun K11 hK11 => ?_
      refine Cod.region ?_
      refine Ops.step (One.val rfl rfl rfl (yld_move rfl (ev_t rfl)) ?_)
      refine Ops.step (One.val rfl rfl rfl (yld_sadd rfl ev_c (ev_t rfl) (fun _ => by have h1 : (⟨#[109]⟩ : ByteArray).size = 1 := rfl; omega)) ?_)
      refine Ops.step (One.val rfl rfl rfl (yld_assign rfl (ev_t rfl)) ?_)
      refine Ops.nil fun a hS => ?_
      refine hK11 _ _ ?_ a hS
      refine Cod.ret fun a hS => ?_
      try simp only [Exit.then, Exit.inBlock]
      exact ret1 (t := 2) rfl hS rfl ⟨by rw [mt, if_neg hk0, Int.toNat_natCast, hq], F1.chg⟩


theorem SepL.form {w F l v} (h : SepL w F l v) : ∃ A c, v = .slice A l.length c := by
  obtain ⟨xs, Fk, h1, h2, -⟩ := h
  obtain ⟨A, m, c, rfl⟩ := own_form (e := 33) (sz := 5) h2
  have := own_len (e := 33) (sz := 5) h2 rfl
  subst this
  exact ⟨A, c, rfl⟩



end Go.Proofs.YtpfkcblhojkaiaaDoor.Eng
