-- Made by wip/tools/claimp.py of this session's texts; Lean checks it.
import Derived.Test.YtplcdpiggpkppaaC12Q0
import Derived.Test.YtplcdpiggpkppaaC12Ge3
import Derived.Test.YtplcdpiggpkppaaC12Ge7
import Derived.Test.YtplcdpiggpkppaaC12Ge8
namespace Go.Proofs.Ytplcdpiggpkppaa.Q
open Go.RowKit Go.Proofs.YtplcdpiggpkppaaW.PrintWords Go.Proofs.YtplcdpiggpkppaaW.PrintLast Go.Proofs.YtplcdpiggpkppaaW.PrintMore
attribute [local go_sem] max2_int min2_int max_two min_two max_three min_three max_four min_four
open Go.Proofs.Ytplcdpiggpkppaa.Base
attribute [local go_sem high] str_leq str_gtr str_geq
set_option linter.unusedVariables false
set_option linter.unusedSimpArgs false
/-- Where broken stands: the bar's own block, the map; what has been added. -/
def BrokAt (w : World) (v0 v1 : Value) (A : List (Int × Int)) (wr : World) : Prop :=
  wr.heap[w.heap.size]? = some (.cells #[v0, v1] 100 (0, 0)) ∧
  (∃ D, wr.ownsMap Try.prog 3 (plainElem Try.prog 3) (w.heap.size + 1) A.length D ∧ Tally D A) ∧ Below w.heap.size w wr
theorem BrokAt.below {w wr w2 : World} {v0 v1 : Value} {A : List (Int × Int)} (h : BrokAt w v0 v1 A wr) (hb : Below wr.heap.size wr w2) : BrokAt w v0 v1 A w2 := by
  obtain ⟨h1, ⟨D, h3, h4⟩, h5⟩ := h
  exact ⟨(hb.block _ (blk_lt h1)).trans h1, ⟨D, h3.kept (grown_of_below hb none) (by simp), h4⟩, below_step h5 hb⟩
theorem BrokAt.added {w wr w2 : World} {v0 v1 : Value} {A B : List (Int × Int)} (h : BrokAt w v0 v1 A wr) (hg : wr.grownBy w2 (some (w.heap.size + 1))) {D : DataW Unit} {n : Nat} (hn : n = B.length) (ho : w2.ownsMap Try.prog 3 (plainElem Try.prog 3) (w.heap.size + 1) n D) (hT : Tally D B) : BrokAt w v0 v1 B w2 := by
  obtain ⟨h1, _, h5⟩ := h
  subst hn
  exact ⟨(hg.block _ (blk_lt h1) (fun e => by injection e with e; omega)).trans h1, ⟨D, ho, hT⟩, pw_below_grown h5 _ h5.size hg (fun j hj => by cases hj; omega)⟩
theorem power_broken.infoP : (Try.prog.info? 57).map (fun i => (i.zero, i.size, i.bytes)) = some (some (.agg #[.int .i64 0, .int .i64 0, .int .i64 0]), 3, 24) := by kernel_rfl
theorem power_broken.infoI : (Try.prog.info? 3).map (fun i => (i.zero, i.size, i.bytes)) = some (some (.int .i64 0), 1, 8) := by kernel_rfl
theorem power_broken.infoS : (Try.prog.info? 3).map (·.size) = some 1 := by kernel_rfl
end Go.Proofs.Ytplcdpiggpkppaa.Q
