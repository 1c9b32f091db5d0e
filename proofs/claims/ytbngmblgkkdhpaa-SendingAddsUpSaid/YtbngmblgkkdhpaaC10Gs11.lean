-- Made by wip/tools/claimp.py of this session's texts; Lean checks it.
import Derived.Test.YtbngmblgkkdhpaaC10Q0
import Derived.Test.YtbngmblgkkdhpaaC10Gs10
import Derived.Test.YtbngmblgkkdhpaaC10Gs5
import Derived.Test.YtbngmblgkkdhpaaC10Gs6
import Derived.Test.YtbngmblgkkdhpaaC10Gs9
namespace Go.Proofs.Ytbngmblgkkdhpaa.Q
open Go.RowKit Go.Proofs.YtbngmblgkkdhpaaW.PrintWords Go.Proofs.YtbngmblgkkdhpaaW.PrintLast Go.Proofs.YtbngmblgkkdhpaaW.PrintMore
attribute [local go_sem] max2_int min2_int max_two min_two max_three min_three max_four min_four
open Go.Proofs.Ytbngmblgkkdhpaa.Base
attribute [local go_sem high] str_leq str_gtr str_geq
set_option linter.unusedVariables false
set_option linter.unusedSimpArgs false
theorem apart_afterR {v v1 u : Value} {n : Nat} (h : Apart v u) (hu : ∀ k, u.ownBlock = some k → k < n) (hat : v1.ownBlock = v.ownBlock ∨ ∃ b, v1.ownBlock = some b ∧ n ≤ b) : Apart v1 u := fun k hk hc => by
  rcases hat with e | ⟨b, e, hb⟩
  · exact h k (by rw [← e]; exact hk) hc
  · rw [e] at hk
    cases hk
    have := hu _ hc
    omega
section
variable {w0 W W1 : World} {g : Nat} {V : RV} {ps : List S33} {bk : List Int} {q : List S63} {st : RX}
theorem ints_grownR {b : Option Nat} (hf : W.grownBy W1 b) {v : Value} {xs : List Int} {base : Nat} (hr : (Kd.int .i64).R 3 W base (fun _ => True) v xs) (hn : ∀ k, v.ownBlock = some k → b ≠ some k) : (Kd.int .i64).R 3 W1 base (fun _ => True) v xs := flat_move rfl hr (fun k hk => hf.block k (own_ty hr hk).lt (fun e => hn k hk e.symm))
theorem ints_putR {g : Nat} (hg : isTy 114 W g) {j : Nat} {u v : Value} {xs : List Int} {base : Nat} (hr : (Kd.int .i64).R 3 W base (fun _ => True) v xs) : (Kd.int .i64).R 3 (W.setCell ⟨g, j, none⟩ u) base (fun _ => True) v xs := flat_move rfl hr (fun k hk => Below.heap_setCell W ⟨g, j, none⟩ u k ((own_ty hr hk).ne hg (by decide)))
theorem RunAt.grownInts (h : RunAt w0 W g V ps bk q st) {b : Option Nat} (hf : W.grownBy W1 b) (hb : ∀ k, b = some k → isTy 3 W k) {t : TypeId} {k : Nat} (hk : isTy t W k) (ht : t ≠ 3) : W1.heap[k]? = W.heap[k]? :=
  hf.block k hk.lt (fun e => hk.ne (hb k e.symm) ht rfl)
theorem RunAt.appDone (h : RunAt w0 W g V ps bk q st) {v1 : Value} {xs1 : List Int} (hr : (Kd.int .i64).R 3 W1 w0.heap.size (fun _ => True) v1 xs1) (hB : Below w0.heap.size w0 W1) (hf : W.grownBy W1 V.vd.ownBlock) (hat : v1.ownBlock = V.vd.ownBlock ∨ ∃ b, v1.ownBlock = some b ∧ W.heap.size ≤ b) :
    RunAt w0 (W1.setCell ⟨g, 4, none⟩ v1) g { V with vd := v1 } ps bk q { st with done := xs1 } := by
  have hty : ∀ k, V.vd.ownBlock = some k → isTy 3 W k := fun k hk => own_ty h.d hk
  have hb1 := (h.grownInts hf hty h.ty (by decide)).trans h.hb
  have hg1 : isTy 114 W1 g := ⟨_, hb1⟩
  have both : ∀ {t k}, isTy t W k → t ≠ 3 → t ≠ 114 → (W1.setCell ⟨g, 4, none⟩ v1).heap[k]? = W.heap[k]? := fun {t k} hk ht ht' => (Below.heap_setCell W1 ⟨g, 4, none⟩ v1 k (hk.ne h.ty ht')).trans (h.grownInts hf hty hk ht)
  exact ⟨blk_put hb1 4 v1 rfl, h.hg, h.psC, h.psc, h.bkC, h.bkc, h.qC, h.qc, below_set hB h.hg, ints_putR hg1 (ints_grownR hf h.l (fun k hk e => h.ld k hk e)), ints_putR hg1 hr, Apart.symm (apart_afterR (Apart.symm h.ld) (fun k hk => (own_ty h.l hk).lt) hat), flat_move rfl h.p (fun k hk => both (own_ty h.p hk) (by decide) (by decide))⟩
end
end Go.Proofs.Ytbngmblgkkdhpaa.Q
