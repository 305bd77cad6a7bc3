/- Walks of (Val).clone, l1Copy, l1All, slices.Clone: copies that the call owns, no two parts in one block. -/
import Derived.Test.YtpfkcblhojkaiaaDoorVal0
import Derived.Test.YtpfkcblhojkaiaaDoorApp
namespace Go.Proofs.YtpfkcblhojkaiaaDoor.Eng
open Go.RowKit
set_option linter.unusedVariables false
set_option linter.unusedSimpArgs false
set_option maxHeartbeats 1000000


/-- What a copy says of one tree. -/
def CopyOk (f : FuncId) (t : Tr) : Prop := ∀ (v : Value) (w : World), Rep Any w t v → t.wt ≤ 1048576 →
    Calls Tryd.prog f #[v] w fun e w' => ∃ (x : V5) (F : Nat → Prop), e = .returned x.val ∧ Chg No w w' ∧ Sep w' F t x.val ∧ ∀ k, F k → w.heap.size ≤ k
theorem own_one0 {w : World} {e sz n : Nat} {v : Value} {xs : List Value} (h : w.ownsRow 0 e sz v n xs) : v.oneCell' = true := own_one h
theorem one_all {x : V5} (h : (enc5 x).all (·.oneCell') = true) : ∀ y ∈ [x], (enc5 y).all (·.oneCell') = true := fun y hy => by
  obtain rfl := List.mem_singleton.1 hy
  exact h
theorem own_form {w : World} {e sz n : Nat} {v : Value} {xs : List Value} (h : (own e sz v n xs).is w) : ∃ A m c, v = .slice A m c := by
  have h' : w.ownsRow 0 e sz v n xs := h
  rcases h'.2 with ⟨rfl, -⟩ | ⟨g, cap, cur, rfl, -⟩
  · exact ⟨_, _, _, rfl⟩
  · exact ⟨_, _, _, rfl⟩
theorem own_len {w : World} {e sz n m c : Nat} {A : Option Addr} {v : Value} {xs : List Value} (h : (own e sz v n xs).is w) (hv : v = .slice A m c) : m = n := by
  subst hv
  have h' : w.ownsRow 0 e sz (.slice A m c) n xs := h
  rcases h'.2 with ⟨h1, rfl⟩ | ⟨g, cap, cur, h1, -⟩ <;> simp at h1 <;> omega
theorem built_keys {k n : Int} {s : ByteArray} {v : Value} (h : ∃ A m c, v = .slice A m c) : Program.built Tryd.prog 33 [(0, .int .i64 k), (1, .int .i64 n), (2, .string s), (3, v)] = some [.int .i64 k, .int .i64 n, .string s, v, .slice none 0 0].toArray := by
  obtain ⟨A, m, c, rfl⟩ := h
  kernel_rfl
theorem built_list {k : Int} {v : Value} (h : ∃ A m c, v = .slice A m c) : Program.built Tryd.prog 33 [(0, .int .i64 k), (4, v)] = some [.int .i64 k, .int .i64 0, .string ⟨#[]⟩, .slice none 0 0, v].toArray := by
  obtain ⟨A, m, c, rfl⟩ := h
  kernel_rfl
theorem Fr.nilRow {X : Nat → Prop} {w0 w : World} {L : List Res} (h : Fr X w0 L w) (e sz : Nat) : Fr X w0 (own e sz (.slice none 0 0) 0 [] :: L) w := h.new (Chg.refl _ _) (own e sz (.slice none 0 0) 0 []) (World.ownsRow_nil w 0 e sz) fun k hk => by simp [own, Value.ownBlock] at hk
/-- A row is there, and no child yet. -/
theorem Fr.kids0 {X : Nat → Prop} {w0 w : World} {L : List Res} {r : Res} {xs : List V5} (h : Fr X w0 (r :: L) w) : Fr X w0 (r :: kids No [] xs :: L) w := by
  obtain ⟨h1, h2, h3⟩ := h.mem
  refine h.tell _ ⟨h1, fun k hk q hq hqk => ?_, Kd.nil w xs, fun k hk => hk.elim, h3⟩ fun q hq k hk => ?_
  · rcases List.mem_cons.1 hq with rfl | hq
    · exact hqk.elim
    · exact h2 k hk q hq hqk
  · rcases List.mem_cons.1 hq with rfl | hq
    · exact ⟨_, List.mem_cons_self .., hk⟩
    · rcases List.mem_cons.1 hq with rfl | hq
      · exact hk.elim
      · exact ⟨q, by simp [hq], hk⟩





end Go.Proofs.YtpfkcblhojkaiaaDoor.Eng
