-- Made by wip/tools/claimp.py of this session's texts; Lean checks it.
import Derived.Test.YtbngmblgkkdhpaaC10Q0
import Derived.Test.YtbngmblgkkdhpaaC10Gs10
import Derived.Test.YtbngmblgkkdhpaaC10Gs11
import Derived.Test.YtbngmblgkkdhpaaC10Gs3
import Derived.Test.YtbngmblgkkdhpaaC10Gs5
import Derived.Test.YtbngmblgkkdhpaaC10Gs6
import Derived.Test.YtbngmblgkkdhpaaC10Gs9
namespace Go.Proofs.Ytbngmblgkkdhpaa.Q
open Go.RowKit Go.Proofs.YtbngmblgkkdhpaaW.PrintWords Go.Proofs.YtbngmblgkkdhpaaW.PrintLast Go.Proofs.YtbngmblgkkdhpaaW.PrintMore
attribute [local go_sem] max2_int min2_int max_two min_two max_three min_three max_four min_four
open Go.Proofs.Ytbngmblgkkdhpaa.Base
attribute [local go_sem high] str_leq str_gtr str_geq
set_option linter.unusedVariables false
set_option linter.unusedSimpArgs false
def sendOK (q : List S63) (st : RX) (item : Int) : Prop := (0 ≤ item ∧ item < (q.length : Int)) ∧ st.left.length = q.length ∧ st.done.length = q.length ∧ st.parts.length < 1000000000
instance (q : List S63) (st : RX) (item : Int) : Decidable (sendOK q st item) := by unfold sendOK; infer_instance
def firstOK (q : List S63) (st : RX) : Prop := st.left.length = q.length ∧ q.length ≤ 1000000
instance (q : List S63) (st : RX) : Decidable (firstOK q st) := by unfold firstOK; infer_instance
section
variable {w0 W W' W1 W2 : World} {g : Nat} {V V1 : RV} {ps : List S33} {bk : List Int} {q : List S63} {st st2 : RX}
theorem RunTo.bel (h : RunTo w0 W g V ps bk q st W1) : Below w0.heap.size w0 W1 := by obtain ⟨_, h1, _⟩ := h; exact h1.bel
/-- A booked pass, as the run has it. -/
theorem RunAt.pass (h : RunAt w0 W g V ps bk q st) {i : Nat} (hi : i < bk.length) {b : Int} (hb : b = rd bk (i : Int)) (b0 : 0 ≤ b) (b1 : b < (ps.length : Int)) :
    ∃ ab ap A3 c3, V.Ab = some ab ∧ V.Ap = some ap ∧ W.cell? ⟨g, 0, none⟩ = some (.slice (some ap) ps.length V.cp) ∧ W.cell? ⟨g, 1, none⟩ = some (.slice (some ab) bk.length V.cb) ∧ W.cell? (ab.add i) = some (.int .i64 b) ∧
      W.cell? (ap.add (b.toNat * 4)) = some (.string (rd_T33 ps b).f0) ∧ W.cell? ⟨(ap.add (b.toNat * 4)).block, (ap.add (b.toNat * 4)).off + 1, none⟩ = some (.int .i64 (rd_T33 ps b).f1) ∧ W.cell? ⟨(ap.add (b.toNat * 4)).block, (ap.add (b.toNat * 4)).off + 2, none⟩ = some (.int .i64 (rd_T33 ps b).f2) ∧ W.cell? ⟨(ap.add (b.toNat * 4)).block, (ap.add (b.toNat * 4)).off + 3, none⟩ = some (.slice A3 (rd_T33 ps b).f3.length c3) ∧ (rd_T33 ps b).f3.length ≤ c3 ∧ k75.C W A3 (rd_T33 ps b).f3.length (rd_T33 ps b).f3 := by
  obtain ⟨ap, A3, c3, ep, hx0, hx1, hx2, hx3, hs3, hr3⟩ := at_T33 (Kd.C_below h.psC h.bel) b b0 b1
  obtain ⟨ab, eb, hy⟩ := Kd.at_int (Kd.C_below h.bkC h.bel) (i : Int) (by omega) (by omega)
  rw [← hb, Int.toNat_natCast] at hy
  exact ⟨ab, ap, A3, c3, eb, ep, by rw [← ep]; exact h.c0, by rw [← eb]; exact h.c1, hy, hx0, hx1, hx2, hx3, hs3, hr3⟩
end
end Go.Proofs.Ytbngmblgkkdhpaa.Q
