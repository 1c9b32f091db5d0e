-- Made by wip/tools/claimp.py of this session's texts; Lean checks it.
import Derived.Test.YtbngmblgkkdhpaaC10Q0
import Derived.Test.YtbngmblgkkdhpaaC10Gs2
import Derived.Test.YtbngmblgkkdhpaaC10Gs3
import Derived.Test.YtbngmblgkkdhpaaC10Gs5
import Derived.Test.YtbngmblgkkdhpaaC10Gs6
import Derived.Test.YtbngmblgkkdhpaaC10Gs7
import Derived.Test.YtbngmblgkkdhpaaC10Gs8
namespace Go.Proofs.Ytbngmblgkkdhpaa.Q
open Go.RowKit Go.Proofs.YtbngmblgkkdhpaaW.PrintWords Go.Proofs.YtbngmblgkkdhpaaW.PrintLast Go.Proofs.YtbngmblgkkdhpaaW.PrintMore
attribute [local go_sem] max2_int min2_int max_two min_two max_three min_three max_four min_four
open Go.Proofs.Ytbngmblgkkdhpaa.Base
attribute [local go_sem high] str_leq str_gtr str_geq
set_option linter.unusedVariables false
set_option linter.unusedSimpArgs false
mutual
def perigeeref10_CheckItems.l0 : Nat → List (S63) → Int → Option (Int)
  | 0, _, _ => none
  | k + 1, x0, x3 => if x3 < (x0.length : Int) then (if 0 ≤ x3 then ((perigeeref8_IsName.f k ((rd_T63 x0 x3).f0)).bind fun t103 => (if t103 = true then ((perigeeref10_within.f ((rd_T63 x0 x3).f1) 0 1000000000000).bind fun t104 => (if t104 = true then ((perigeeref10_within.f ((rd_T63 x0 x3).f2) 0 100).bind fun t105 => (if t105 = true then ((perigeeref10_moment.f ((rd_T63 x0 x3).f3)).bind fun t106 => (if t106 = true then ((perigeeref10_moment.f ((rd_T63 x0 x3).f4)).bind fun t107 => (perigeeref10_CheckItems.j1 k x0 x3 (!t107) ((rd_T63 x0 x3).f0) ((rd_T63 x0 x3).f1) ((rd_T63 x0 x3).f2) ((rd_T63 x0 x3).f3) ((rd_T63 x0 x3).f4))) else (perigeeref10_CheckItems.j1 k x0 x3 true ((rd_T63 x0 x3).f0) ((rd_T63 x0 x3).f1) ((rd_T63 x0 x3).f2) ((rd_T63 x0 x3).f3) ((rd_T63 x0 x3).f4)))) else (perigeeref10_CheckItems.j1 k x0 x3 true ((rd_T63 x0 x3).f0) ((rd_T63 x0 x3).f1) ((rd_T63 x0 x3).f2) ((rd_T63 x0 x3).f3) ((rd_T63 x0 x3).f4)))) else (perigeeref10_CheckItems.j1 k x0 x3 true ((rd_T63 x0 x3).f0) ((rd_T63 x0 x3).f1) ((rd_T63 x0 x3).f2) ((rd_T63 x0 x3).f3) ((rd_T63 x0 x3).f4)))) else (some 5))) else (none)) else (some 0)
def perigeeref10_CheckItems.j1 : Nat → List (S63) → Int → Bool → ByteArray → Int → Int → Int → Int → Option (Int)
  | 0, _, _, _, _, _, _, _, _ => none
  | k + 1, x0, x3, x43, x103000, x103001, x103002, x103003, x103004 => if x43 = true then (some 1) else (if x103004 < x103003 then (some 8) else (if x3 > 0 then (if 0 ≤ (wrap64 (x3 - 1)) then (if (wrap64 (x3 - 1)) < (x0.length : Int) then (if ((Op.bytesLess (((rd_T63 x0 (wrap64 (x3 - 1))).f0).toList) x103000.toList) = true) then (perigeeref10_CheckItems.l0 k x0 (wrap64 (x3 + 1))) else (some 8)) else (none)) else (none)) else (perigeeref10_CheckItems.l0 k x0 (wrap64 (x3 + 1)))))
end
/-- What the reference's run holds. -/
structure RX where
  left : List Int
  done : List Int
  parts : List S61
/-- .. and where it lies. -/
structure RV where
  Ap : Option Addr
  cp : Nat
  Ab : Option Addr
  cb : Nat
  Aq : Option Addr
  cq : Nat
  vl : Value
  vd : Value
  vp : Value
structure RunAt (w0 W : World) (g : Nat) (V : RV) (ps : List S33) (bk : List Int) (q : List S63) (st : RX) : Prop where
  hb : W.heap[g]? = some (.cells #[.slice V.Ap ps.length V.cp, .slice V.Ab bk.length V.cb, .slice V.Aq q.length V.cq, V.vl, V.vd, V.vp] 114 (0, 0))
  hg : w0.heap.size ≤ g
  psC : k33.C w0 V.Ap ps.length ps
  psc : ps.length ≤ V.cp
  bkC : (Kd.int .i64).C w0 V.Ab bk.length bk
  bkc : bk.length ≤ V.cb
  qC : k63.C w0 V.Aq q.length q
  qc : q.length ≤ V.cq
  bel : Below w0.heap.size w0 W
  l : (Kd.int .i64).R 3 W w0.heap.size (fun _ => True) V.vl st.left
  d : (Kd.int .i64).R 3 W w0.heap.size (fun _ => True) V.vd st.done
  ld : Apart V.vl V.vd
  p : k61.R 61 W w0.heap.size (fun _ => True) V.vp st.parts
section
variable {w0 W W' : World} {g : Nat} {V : RV} {ps : List S33} {bk : List Int} {q : List S63} {st : RX}
theorem RunAt.ty (h : RunAt w0 W g V ps bk q st) : isTy 114 W g := ⟨_, h.hb⟩
/-- What is turned: one block at most, which is none of the run's. -/
theorem RunAt.grown (h : RunAt w0 W g V ps bk q st) {b : Option Nat} (hf : W.grownBy W' b) (hb : Below w0.heap.size w0 W')
    (hbt : ∀ k, b = some k → (∃ t, isTy t W k ∧ t ≠ 114 ∧ t ≠ 3 ∧ t ≠ 61)) : RunAt w0 W' g V ps bk q st := by
  have key : ∀ {t k}, isTy t W k → (t = 114 ∨ t = 3 ∨ t = 61) → W'.heap[k]? = W.heap[k]? := fun {t k} hk ht => hf.block k hk.lt (fun e => by
    obtain ⟨t', ht', n1, n2, n3⟩ := hbt k e.symm
    refine hk.ne ht' (fun e' => ?_) rfl
    subst e'
    rcases ht with e | e | e
    · exact n1 e
    · exact n2 e
    · exact n3 e)
  exact ⟨(key h.ty (Or.inl rfl)).trans h.hb, h.hg, h.psC, h.psc, h.bkC, h.bkc, h.qC, h.qc, hb, flat_move rfl h.l (fun k hk => key (own_ty h.l hk) (Or.inr (Or.inl rfl))), flat_move rfl h.d (fun k hk => key (own_ty h.d hk) (Or.inr (Or.inl rfl))), h.ld, flat_move rfl h.p (fun k hk => key (own_ty h.p hk) (Or.inr (Or.inr rfl)))⟩
theorem RunAt.below (h : RunAt w0 W g V ps bk q st) (hb : Below W.heap.size W W') : RunAt w0 W' g V ps bk q st := h.grown (grown_of_below hb none) (below_step h.bel hb) (fun k e => by cases e)
theorem RunAt.drewN (h : RunAt w0 W g V ps bk q st) (n : Nat) : RunAt w0 (W.drewN n) g V ps bk q st := h.below (pw_below_drewN (Below.refl _ _) n)
theorem RunAt.c0 (h : RunAt w0 W g V ps bk q st) : W.cell? ⟨g, 0, none⟩ = some (.slice V.Ap ps.length V.cp) := (blk_cell h.hb 0).trans rfl
theorem RunAt.c1 (h : RunAt w0 W g V ps bk q st) : W.cell? ⟨g, 1, none⟩ = some (.slice V.Ab bk.length V.cb) := (blk_cell h.hb 1).trans rfl
theorem RunAt.c2 (h : RunAt w0 W g V ps bk q st) : W.cell? ⟨g, 2, none⟩ = some (.slice V.Aq q.length V.cq) := (blk_cell h.hb 2).trans rfl
theorem RunAt.c3 (h : RunAt w0 W g V ps bk q st) : ∃ A c, V.vl = .slice A st.left.length c ∧ W.cell? ⟨g, 3, none⟩ = some (.slice A st.left.length c) ∧ (Kd.int .i64).C W A st.left.length st.left := by
  obtain ⟨A, c, e, _, hC⟩ := Kd.R_reads h.l
  exact ⟨A, c, e, e ▸ (blk_cell h.hb 3).trans rfl, hC⟩
theorem RunAt.c4 (h : RunAt w0 W g V ps bk q st) : ∃ A c, V.vd = .slice A st.done.length c ∧ W.cell? ⟨g, 4, none⟩ = some (.slice A st.done.length c) ∧ (Kd.int .i64).C W A st.done.length st.done := by
  obtain ⟨A, c, e, _, hC⟩ := Kd.R_reads h.d
  exact ⟨A, c, e, e ▸ (blk_cell h.hb 4).trans rfl, hC⟩
theorem RunAt.c5 (h : RunAt w0 W g V ps bk q st) : ∃ A c, V.vp = .slice A st.parts.length c ∧ W.cell? ⟨g, 5, none⟩ = some (.slice A st.parts.length c) := by
  obtain ⟨A, c, e, _, hC⟩ := Kd.R_reads h.p
  exact ⟨A, c, e, e ▸ (blk_cell h.hb 5).trans rfl⟩
end
end Go.Proofs.Ytbngmblgkkdhpaa.Q
