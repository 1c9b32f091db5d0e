-- Made by wip/tools/claimp.py of this session's texts; Lean checks it.
import Derived.Test.YtbngmblgkkdhpaaC10Q0
import Derived.Test.YtbngmblgkkdhpaaC10Gs5
import Derived.Test.YtbngmblgkkdhpaaC10Gs6
import Derived.Test.YtbngmblgkkdhpaaC10Gs9
namespace Go.Proofs.Ytbngmblgkkdhpaa.Q
open Go.RowKit Go.Proofs.YtbngmblgkkdhpaaW.PrintWords Go.Proofs.YtbngmblgkkdhpaaW.PrintLast Go.Proofs.YtbngmblgkkdhpaaW.PrintMore
attribute [local go_sem] max2_int min2_int max_two min_two max_three min_three max_four min_four
open Go.Proofs.Ytbngmblgkkdhpaa.Base
attribute [local go_sem high] str_leq str_gtr str_geq
set_option linter.unusedVariables false
set_option linter.unusedSimpArgs false
/-- Rows of whole numbers that are none of the run's stay. -/
def IntsButR (V : RV) (W W' : World) : Prop := W.heap.size ≤ W'.heap.size ∧ ∀ k, isTy 3 W k → V.vl.ownBlock ≠ some k → V.vd.ownBlock ≠ some k → W'.heap[k]? = W.heap[k]?
theorem IntsButR.below {V : RV} {W W' : World} (h : Below W.heap.size W W') : IntsButR V W W' := ⟨h.size, fun k hk _ _ => h.block k hk.lt⟩
theorem IntsButR.trans {V : RV} {W W1 W2 : World} (h : IntsButR V W W1) (k : IntsButR V W1 W2) : IntsButR V W W2 := ⟨Nat.le_trans h.1 k.1, fun b hb h1 h2 => by
  have e := h.2 b hb h1 h2
  obtain ⟨cs, hc⟩ := hb
  exact (k.2 b ⟨cs, e.trans hc⟩ h1 h2).trans e⟩
def RunTo (w0 W : World) (g : Nat) (V : RV) (ps : List S33) (bk : List Int) (q : List S63) (st : RX) (W' : World) : Prop :=
  ∃ V', RunAt w0 W' g V' ps bk q st ∧ V'.vl = V.vl ∧ V'.vd = V.vd ∧ V'.Ap = V.Ap ∧ V'.Aq = V.Aq ∧ V'.Ab = V.Ab ∧ IntsButR V W W'
def zPart : S61 := ⟨⟨#[]⟩, 0, 0, 0, 0⟩
def partAt (l : List S61) (i : Nat) : S61 := l.getD i zPart
def partCells (x : S61) : List Value := [.string x.f0, .int .i64 x.f1, .int .i64 x.f2, .int .i64 x.f3, .int .i64 x.f4]
section
variable {w0 W W' : World} {g : Nat} {V : RV} {ps : List S33} {bk : List Int} {q : List S63} {st : RX}
theorem RunAt.part (h : RunAt w0 W g V ps bk q st) {i : Nat} (hi : i < st.parts.length) : ∃ gr c, V.vp = .slice (some ⟨gr, 0, none⟩) st.parts.length c ∧ W.cell? ⟨g, 5, none⟩ = some (.slice (some ⟨gr, 0, none⟩) st.parts.length c) ∧
    (∀ j u, (partCells (partAt st.parts i))[j]? = some u → W.cell? ⟨gr, i * 5 + j, none⟩ = some u) ∧ ∀ j, W.frozen? ⟨gr, i * 5 + j, none⟩ = false := by
  obtain ⟨gr, cw, e, _⟩ := Kd.R_form h.p (by omega)
  have hr := h.p
  rw [e] at hr
  obtain ⟨c, hcl, hM, hcc, hfr⟩ := Kd.R_elem hr zPart (i : Int) (by omega) (by omega)
  rw [Int.toNat_natCast] at hM hcc hfr
  have hcs := k61_openM hM
  exact ⟨gr, cw, e, e ▸ (blk_cell h.hb 5).trans rfl, fun j u hu => hcc j u (by rw [hcs]; exact hu), hfr⟩
end
section
variable {w0 W W' W1 W2 : World} {g : Nat} {V V1 : RV} {ps : List S33} {bk : List Int} {q : List S63} {st st2 : RX}
theorem RunTo.refl (h : RunAt w0 W g V ps bk q st) : RunTo w0 W g V ps bk q st W := ⟨V, h, rfl, rfl, rfl, rfl, rfl, IntsButR.below (Below.refl _ _)⟩
theorem RunTo.trans (e1 : V1.vl = V.vl) (e2 : V1.vd = V.vd) (e3 : V1.Ap = V.Ap) (e4 : V1.Aq = V.Aq) (e5 : V1.Ab = V.Ab) (h : IntsButR V W W1) (k : RunTo w0 W1 g V1 ps bk q st2 W2) : RunTo w0 W g V ps bk q st2 W2 := by
  obtain ⟨V', k1, k2, k3, k4, k5, k6, k7⟩ := k
  refine ⟨V', k1, k2.trans e1, k3.trans e2, k4.trans e3, k5.trans e4, k6.trans e5, h.trans ⟨k7.1, fun b hb h1 h2 => k7.2 b hb (by rw [e1]; exact h1) (by rw [e2]; exact h2)⟩⟩
theorem RunTo.then (h : RunTo w0 W g V ps bk q st W1) (k : ∀ V', RunAt w0 W1 g V' ps bk q st → RunTo w0 W1 g V' ps bk q st2 W2) : RunTo w0 W g V ps bk q st2 W2 := by
  obtain ⟨V', h1, h2, h3, h4, h5, h6, h7⟩ := h
  exact RunTo.trans h2 h3 h4 h5 h6 h7 (k V' h1)
theorem RunTo.lower (h : RunTo w0 W g V ps bk q st W1) (hb : Below W1.heap.size W1 W2) : RunTo w0 W g V ps bk q st W2 := by
  obtain ⟨V', h1, h2, h3, h4, h5, h6, h7⟩ := h
  exact ⟨V', h1.below hb, h2, h3, h4, h5, h6, h7.trans (IntsButR.below hb)⟩
theorem RunAt.doneAt (h : RunAt w0 W g V ps bk q st) (i : Int) (h0 : 0 ≤ i) (h1 : i < (st.done.length : Int)) : ∃ gs c, V.vd = .slice (some ⟨gs, 0, none⟩) st.done.length c ∧ W.cell? ⟨g, 4, none⟩ = some (.slice (some ⟨gs, 0, none⟩) st.done.length c) ∧ W.cell? ⟨gs, i.toNat, none⟩ = some (.int .i64 (rd st.done i)) ∧ W.frozen? ⟨gs, i.toNat, none⟩ = false := by
  obtain ⟨gs, c, e, _, _, cells, hb⟩ := Kd.R_form h.d (by omega)
  have hr := h.d
  rw [e] at hr
  obtain ⟨_, _, hC⟩ := Kd.R_reads' hr
  obtain ⟨ad, ea, hx⟩ := Kd.at_int hC i h0 h1
  cases ea
  rw [add_plain] at hx
  exact ⟨gs, c, e, e ▸ (blk_cell h.hb 4).trans rfl, hx, blk_frozen hb _⟩
theorem RunAt.setDone (h : RunAt w0 W g V ps bk q st) {gs n c : Nat} (hv : V.vd = .slice (some ⟨gs, 0, none⟩) n c) (i : Int) (x : Int) : RunAt w0 (W.setCell ⟨gs, i.toNat, none⟩ (.int .i64 x)) g V ps bk q { st with done := st.done.set i.toNat x } := by
  have hs := h.d
  rw [hv] at hs
  obtain ⟨hs', hf⟩ := Kd.R_putg hs i x
  have hty : isTy 3 W gs := own_ty hs rfl
  have hbase : w0.heap.size ≤ gs := Kd.R_base hs gs rfl
  have other : ∀ {t k}, isTy t W k → t ≠ 3 → (W.setCell ⟨gs, i.toNat, none⟩ (.int .i64 x)).heap[k]? = W.heap[k]? := fun {t k} hk ht => hf.block k hk.lt (fun e => hk.ne hty ht (Option.some.inj e))
  have ints : ∀ {v : Value} {xs : List Int}, (Kd.int .i64).R 3 W w0.heap.size (fun _ => True) v xs → v.ownBlock ≠ some gs → (Kd.int .i64).R 3 (W.setCell ⟨gs, i.toNat, none⟩ (.int .i64 x)) w0.heap.size (fun _ => True) v xs := fun {v xs} hr hn => flat_move rfl hr (fun k hk => hf.block k (own_ty hr hk).lt (fun e => hn (by rw [hk, e])))
  exact ⟨(other h.ty (by decide)).trans h.hb, h.hg, h.psC, h.psc, h.bkC, h.bkc, h.qC, h.qc, pw_below_grown h.bel _ h.bel.size hf (fun k e => by cases e; exact hbase), ints h.l (fun e => h.ld gs e (by rw [hv]; rfl)), by rw [hv]; exact hs', h.ld, flat_move rfl h.p (fun k hk => other (own_ty h.p hk) (by decide))⟩
end
end Go.Proofs.Ytbngmblgkkdhpaa.Q
