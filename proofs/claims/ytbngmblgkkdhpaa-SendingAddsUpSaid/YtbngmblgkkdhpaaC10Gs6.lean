-- Made by wip/tools/claimp.py of this session's texts; Lean checks it.
import Derived.Test.YtbngmblgkkdhpaaC10Q0
import Derived.Test.YtbngmblgkkdhpaaC10Gs5
namespace Go.Proofs.Ytbngmblgkkdhpaa.Q
open Go.RowKit Go.Proofs.YtbngmblgkkdhpaaW.PrintWords Go.Proofs.YtbngmblgkkdhpaaW.PrintLast Go.Proofs.YtbngmblgkkdhpaaW.PrintMore
attribute [local go_sem] max2_int min2_int max_two min_two max_three min_three max_four min_four
open Go.Proofs.Ytbngmblgkkdhpaa.Base
attribute [local go_sem high] str_leq str_gtr str_geq
set_option linter.unusedVariables false
set_option linter.unusedSimpArgs false
theorem sndLaidOut : laidOutB Try.prog = true := by kernel_rfl
theorem sndRow : (138 : TypeId) < Try.prog.types.size := of_decide_eq_true (by kernel_rfl)
theorem sndWide : (match Try.prog.underlying 138 with | some (.array _ _) | some (.struct _) => true | _ => false) = true := by rw [Try.underlying138]
set_option maxRecDepth 100000 in
theorem sndLaw : Maps.Keyed Try.prog 138 := Maps.Keyed.of_law (deep_law_laid (P := Try.prog) (k := 138) sndLaidOut (m := 3) (by omega) sndRow (by kernel_rfl) sndWide)
theorem sndTiled : Try.prog.tiled 3 138 = true := by kernel_rfl
theorem sndKeyType : Try.prog.keyType 138 = true := by kernel_rfl
theorem sndCells : Try.prog.cellsOf 138 = 2 := by kernel_rfl
theorem sndCellsI : Try.prog.cellsOf 3 = 1 := by kernel_rfl
theorem sndSize : ∃ m, Try.prog.types.size = m + 2 := ⟨Try.prog.types.size - 2, by kernel_rfl⟩
def keyK (i k : Int) : Lit := .string (keyBytes [.int .i64 i, .int .i64 k])
theorem keyK_of {i k : Int} (hi : (Lit.int .i64 i).wf = true) (hk : (Lit.int .i64 k).wf = true) : keyOf Try.prog 138 (.agg #[.int .i64 i, .int .i64 k]) = some (keyK i k) := by
  obtain ⟨m, hm⟩ := sndSize
  unfold keyOf keyK
  simp only [Try.underlying138]
  rw [if_pos (by simp [sndKeyType, Value.formed, Try.underlying138, sndCells]), hm]
  unfold Program.keyLits
  simp only [Try.underlying138, Value.cells]
  rw [if_pos (by rw [sndCells]; exact ⟨rfl, by simp⟩)]
  simp [sndCellsI, Program.keyLits, Try.underlying3, hi, hk]
set_option maxRecDepth 100000 in
theorem keyK_ne {i k i' k' : Int} (hi : (Lit.int .i64 i).wf = true) (hk : (Lit.int .i64 k).wf = true) (hi' : (Lit.int .i64 i').wf = true) (hk' : (Lit.int .i64 k').wf = true) (h : ¬ (i' = i ∧ k' = k)) : keyK i' k' ≠ keyK i k := fun e => by
  have h1 := keyK_of hi hk
  have h2 := keyK_of hi' hk'
  rw [e] at h2
  have := keyOf_inj_deep (P := Try.prog) (m := 3) (k := 138) sndTiled sndWide h1 h2
  simp only [Value.agg.injEq, Array.mk.injEq, List.cons.injEq, Value.int.injEq, true_and, and_true] at this
  exact h ⟨this.1.symm, this.2.symm⟩
theorem wf64 {x : Int} (h1 : -9223372036854775808 ≤ x) (h2 : x ≤ 9223372036854775807) : (Lit.int .i64 x).wf = true := by
  simp [Lit.wf, IntKind.min, IntKind.max, IntKind.bits, IntKind.signed]
  omega
def zRow : SRow := ⟨z61, 0⟩
def rowAt (l : List SRow) (i : Nat) : SRow := l.getD i zRow
def rowTo (x : SRow) (to_ : Int) : SRow := ⟨⟨x.p.f0, x.p.f1, x.p.f2, to_, x.p.f4⟩, x.n⟩
def rowSize (x : SRow) (s : Int) : SRow := ⟨⟨x.p.f0, x.p.f1, x.p.f2, x.p.f3, s⟩, x.n⟩
def rowCells (x : SRow) : List Value := [.string x.p.f0, .int .i64 x.p.f1, .int .i64 x.p.f2, .int .i64 x.p.f3, .int .i64 x.p.f4, .int .i64 x.n]
section
variable {w0 W W' : World} {g : Nat} {V : SV} {bk : List Int} {q : List S63} {st : SX}
theorem SndAt.row (h : SndAt w0 W g V bk q st) {i : Nat} (hi : i < st.rows.length) : ∃ gr c, V.vr = .slice (some ⟨gr, 0, none⟩) st.rows.length c ∧ W.cell? ⟨g, 6, none⟩ = some (.slice (some ⟨gr, 0, none⟩) st.rows.length c) ∧
    (∀ j u, (rowCells (rowAt st.rows i))[j]? = some u → W.cell? ⟨gr, i * 6 + j, none⟩ = some u) ∧ ∀ j, W.frozen? ⟨gr, i * 6 + j, none⟩ = false := by
  obtain ⟨gr, cw, e, _⟩ := Kd.R_form h.r (by omega)
  have hr := h.r
  rw [e] at hr
  obtain ⟨c, hcl, hM, hcc, hfr⟩ := Kd.R_elem hr zRow (i : Int) (by omega) (by omega)
  rw [Int.toNat_natCast] at hM hcc hfr
  have hcs := kRow_openM hM
  exact ⟨gr, cw, e, e ▸ (blk_cell h.hb 6).trans rfl, fun j u hu => hcc j u (by rw [hcs]; exact hu), hfr⟩
theorem SndAt.setRow (h : SndAt w0 W g V bk q st) {gr n c : Nat} (hv : V.vr = .slice (some ⟨gr, 0, none⟩) n c) {i : Nat} (hi : i < st.rows.length) {jj : Nat} (hjj : jj < 6) {u : Value} {x' : SRow} (hx : (rowCells (rowAt st.rows i)).take jj ++ [u] ++ (rowCells (rowAt st.rows i)).drop (jj + 1) = rowCells x') :
    SndAt w0 (W.setCell ⟨gr, i * 6 + jj, none⟩ u) g V bk q { st with rows := st.rows.set i x' } ∧ IntsBut V W (W.setCell ⟨gr, i * 6 + jj, none⟩ u) := by
  have hr := h.r
  rw [hv] at hr
  have hn : n = st.rows.length := (Kd.R_reads' hr).1
  obtain ⟨cs, hcl, hM, hcc, _⟩ := Kd.R_elem hr zRow (i : Int) (by omega) (by omega)
  have hcs := kRow_openM hM
  rw [Int.toNat_natCast] at hcs
  have hseg := Kd.R_seg (okp := fun _ => False) (seg := [u]) (j := jj) (x' := x') hr (i : Int) (by omega) (by omega) hcl hcc (by show jj + 1 ≤ 6; omega) (by
    rw [hcs]
    have e2 : (rowCells (rowAt st.rows i)).take jj ++ [u] ++ (rowCells (rowAt st.rows i)).drop (jj + [u].length) = rowCells x' := hx
    show kRow.M W w0.heap.size (fun _ => False) x' ((rowCells (rowAt st.rows i)).take jj ++ [u] ++ (rowCells (rowAt st.rows i)).drop (jj + [u].length))
    rw [e2]
    exact kRow_mkM _ _ _ _) (fun _ hk => hk.elim)
  rw [Int.toNat_natCast] at hseg
  have e0 : W.setCells gr (i * kRow.sz + jj) [u] = W.setCell ⟨gr, i * 6 + jj, none⟩ u := rfl
  rw [e0] at hseg
  obtain ⟨hr', hf⟩ := hseg
  have hty : isTy 130 W gr := own_ty hr rfl
  have hbase : w0.heap.size ≤ gr := Kd.R_base hr gr rfl
  have other : ∀ {t k}, isTy t W k → t ≠ 130 → (W.setCell ⟨gr, i * 6 + jj, none⟩ u).heap[k]? = W.heap[k]? := fun {t k} hk ht => hf.block k hk.lt (fun e => hk.ne hty ht (Option.some.inj e))
  exact ⟨⟨(other h.ty (by decide)).trans h.hb, h.hg, h.bkC, h.bkc, h.qC, h.qc, pw_below_grown h.bel _ h.bel.size hf (fun k e => by cases e; exact hbase), flat_move rfl h.o (fun k hk => other (own_ty h.o hk) (by decide)), flat_move rfl h.s (fun k hk => other (own_ty h.s hk) (by decide)), flat_move rfl h.d (fun k hk => other (own_ty h.d hk) (by decide)), h.os, h.od, h.sd,
    h.m.kept hf (fun e => h.mTy hty (Option.some.inj e)), h.mg, by rw [hv]; exact hr', flat_move rfl h.wy (fun k hk => other (own_ty h.wy hk) (by decide)), h.wl, ways_move h.ws (fun k hk => other hk (by decide)), by show V.mn ≤ (st.rows.set i x').length; rw [List.length_set]; exact h.mnl⟩, ⟨hf.size, fun k hk _ _ => other hk (by decide)⟩⟩
theorem SndAt.setRowTo (h : SndAt w0 W g V bk q st) {gr n c : Nat} (hv : V.vr = .slice (some ⟨gr, 0, none⟩) n c) {i : Nat} (hi : i < st.rows.length) (to_ : Int) :
    SndAt w0 (W.setCell ⟨gr, i * 6 + 3, none⟩ (.int .i64 to_)) g V bk q { st with rows := st.rows.set i (rowTo (rowAt st.rows i) to_) } ∧ IntsBut V W (W.setCell ⟨gr, i * 6 + 3, none⟩ (.int .i64 to_)) := h.setRow hv hi (by decide) rfl
theorem SndAt.setRowSize (h : SndAt w0 W g V bk q st) {gr n c : Nat} (hv : V.vr = .slice (some ⟨gr, 0, none⟩) n c) {i : Nat} (hi : i < st.rows.length) (s : Int) :
    SndAt w0 (W.setCell ⟨gr, i * 6 + 4, none⟩ (.int .i64 s)) g V bk q { st with rows := st.rows.set i (rowSize (rowAt st.rows i) s) } ∧ IntsBut V W (W.setCell ⟨gr, i * 6 + 4, none⟩ (.int .i64 s)) := h.setRow hv hi (by decide) rfl
/-- An append to the rows, told in the sender. -/
theorem SndAt.appRow (h : SndAt w0 W g V bk q st) {W1 : World} {v1 : Value} {rows1 : List SRow} (hr : kRow.R 130 W1 w0.heap.size (fun _ => True) v1 rows1) (hB : Below w0.heap.size w0 W1) (hf : W.grownBy W1 V.vr.ownBlock) (hlen : st.rows.length ≤ rows1.length) :
    SndAt w0 (W1.setCell ⟨g, 6, none⟩ v1) g { V with vr := v1 } bk q { st with rows := rows1 } ∧ IntsBut V W (W1.setCell ⟨g, 6, none⟩ v1) := by
  have hne : ∀ {t k}, isTy t W k → t ≠ 130 → some k ≠ V.vr.ownBlock := fun {t k} hk ht e => hk.ne (own_ty h.r e.symm) ht rfl
  have other : ∀ {t k}, isTy t W k → t ≠ 130 → W1.heap[k]? = W.heap[k]? := fun {t k} hk ht => hf.block k hk.lt (hne hk ht)
  have hb1 := (other h.ty (by decide)).trans h.hb
  have hg1 : isTy 110 W1 g := ⟨_, hb1⟩
  have both : ∀ {t k}, isTy t W k → t ≠ 130 → t ≠ 110 → (W1.setCell ⟨g, 6, none⟩ v1).heap[k]? = W.heap[k]? := fun {t k} hk ht ht' => (Below.heap_setCell W1 ⟨g, 6, none⟩ v1 k (hk.ne h.ty ht')).trans (other hk ht)
  refine ⟨⟨blk_put hb1 6 v1 rfl, h.hg, h.bkC, h.bkc, h.qC, h.qc, below_set hB h.hg, flat_move rfl h.o (fun k hk => both (own_ty h.o hk) (by decide) (by decide)), flat_move rfl h.s (fun k hk => both (own_ty h.s hk) (by decide) (by decide)), flat_move rfl h.d (fun k hk => both (own_ty h.d hk) (by decide) (by decide)), h.os, h.od, h.sd,
    ?_, h.mg, flat_move rfl hr (fun k hk => Below.heap_setCell W1 ⟨g, 6, none⟩ v1 k ((own_ty hr hk).ne hg1 (by decide))), flat_move rfl h.wy (fun k hk => both (own_ty h.wy hk) (by decide) (by decide)), h.wl, ways_move h.ws (fun k hk => both hk (by decide) (by decide)), Nat.le_trans h.mnl hlen⟩, ⟨by simpa [World.setCell] using hf.size, fun k hk _ _ => both hk (by decide) (by decide)⟩⟩
  have hm1 := h.m.kept hf (fun e => h.mTy (own_ty h.r e.symm) rfl)
  exact World.ownsMap.setCell hm1 (h.mTy h.ty) v1
theorem SndAt.storeOpen (h : SndAt w0 W g V bk q st) (hmn : V.mn < st.rows.length) (hmx : st.rows.length < maxLen) (i k n : Int) (hi : (Lit.int .i64 i).wf = true) (hk : (Lit.int .i64 k).wf = true) (hn : (Lit.int .i64 n).wf = true) :
    ∃ W', (Instr.mapUpdate 106 (.map (some V.gm)) (.agg #[.int .i64 i, .int .i64 k]) (.int .i64 n)).run Try.prog W = .ok () W' ∧ SndAt w0 W' g { V with mn := V.mn + 1 } bk q { st with opn := st.opn.put (keyK i k) (.lit (.int .i64 n)) } ∧ IntsBut V W W' := by
  obtain ⟨W', hrun, ho, ht⟩ := World.ownsMap.store h.m sndLaw (Try.underlying106) (Nat.lt_trans hmn hmx) (keyK_of hi hk) (plainElem_int (H := Unit) (Try.underlying3) hn)
  have hf := ht.grown
  have other : ∀ {t k}, isTy t W k → W'.heap[k]? = W.heap[k]? := fun {t k} hk => hf.block k hk.lt (fun e => h.mTy hk (Option.some.inj e).symm)
  exact ⟨W', hrun, ⟨(other h.ty).trans h.hb, h.hg, h.bkC, h.bkc, h.qC, h.qc, pw_below_grown h.bel _ h.bel.size hf (fun k e => by cases e; exact h.mg), flat_move rfl h.o (fun k hk => other (own_ty h.o hk)), flat_move rfl h.s (fun k hk => other (own_ty h.s hk)), flat_move rfl h.d (fun k hk => other (own_ty h.d hk)), h.os, h.od, h.sd,
    ho, h.mg, flat_move rfl h.r (fun k hk => other (own_ty h.r hk)), flat_move rfl h.wy (fun k hk => other (own_ty h.wy hk)), h.wl, ways_move h.ws (fun k hk => other hk), hmn⟩, ⟨hf.size, fun k hk _ _ => other hk⟩⟩
end
/-- What the map holds for an item in a pass. -/
def openD (D : SMapD) (i k : Int) : Int := match D.atKey (keyK i k) (.lit (.int .i64 0)) with
  | .lit (.int .i64 c) => c
  | _ => 0
theorem SndAt.look {w0 W : World} {g : Nat} {V : SV} {bk : List Int} {q : List S63} {st : SX} (h : SndAt w0 W g V bk q st) {i k : Int} (hi : (Lit.int .i64 i).wf = true) (hk : (Lit.int .i64 k).wf = true) :
    (Instr.lookup 106 (.map (some V.gm)) (.agg #[.int .i64 i, .int .i64 k]) true).run Try.prog W = .ok (.tuple #[.int .i64 (openD st.opn i k), .bool (Maps.has st.opn (keyK i k))]) W := by
  obtain ⟨v, ps, hrun, hv⟩ := World.ownsMap.look_ok h.m sndLaw (Try.underlying106) (Try.zeroValue3 W) (plainElem_int (H := Unit) (Try.underlying3) (by decide : (Lit.int .i64 0).wf = true)) (keyK_of hi hk)
  obtain ⟨c, rfl, hc, _⟩ := plainElem_int_inv (Try.underlying3) hv
  simp only [Prod.mk.injEq] at hc
  have e : openD st.opn i k = c := by unfold openD; rw [hc.1]
  rw [e]
  exact hrun
/-- The row that goes on, or a new one. -/
def giveOpen (st : SX) (item pass frm : Int) (nm : ByteArray) : SX := { st with rows := st.rows ++ [⟨⟨nm, pass, frm, 0, 0⟩, (st.rows.length : Int)⟩], opn := st.opn.put (keyK item pass) (.lit (.int .i64 (st.rows.length : Int))) }
def giveTo (st : SX) (n : Nat) (to_ : Int) : SX := { st with rows := st.rows.set n (rowTo (rowAt st.rows n) to_) }
def giveSize (st : SX) (n : Nat) (size : Int) : SX := { st with rows := st.rows.set n (rowSize (rowAt st.rows n) (wrap64 ((rowAt st.rows n).p.f4 + size))) }
def giveSent (st : SX) (item size : Int) : SX := { st with sent := st.sent.set item.toNat (wrap64 (rd st.sent item + size)) }
def giveDone (st : SX) (item to_ : Int) : SX := { st with done := st.done.set item.toNat to_ }
def giveEnd (q : List S63) (st : SX) (n : Nat) (item to_ size : Int) : SX :=
  let st4 := giveSent (giveSize (giveTo st n to_) n size) item size
  if rd st4.sent item = (rd_T63 q item).f1 then giveDone st4 item to_ else st4
def giveX (q : List S63) (st : SX) (item pass frm to_ size : Int) : SX :=
  if Maps.has st.opn (keyK item pass) = true ∧ (rowAt st.rows (openD st.opn item pass).toNat).p.f3 = frm then giveEnd q st (openD st.opn item pass).toNat item to_ size
  else giveEnd q (giveOpen st item pass frm (rd_T63 q item).f0) st.rows.length item to_ size
theorem SndTo.step {w0 W W1 W2 : World} {g : Nat} {V V1 : SV} {bk : List Int} {q : List S63} {st2 : SX} (e1 : V1.vs = V.vs) (e2 : V1.vd = V.vd) (e3 : V1.vo = V.vo) (h : IntsBut V W W1) {V2 : SV} (k : SndAt w0 W2 g V2 bk q st2) (f1 : V2.vs = V1.vs) (f2 : V2.vd = V1.vd) (f3 : V2.vo = V1.vo) (hi : IntsBut V1 W1 W2) : SndTo w0 W g V bk q st2 W2 := SndTo.trans e1 e2 e3 h ⟨V2, k, f1, f2, f3, hi⟩
theorem ints_set {w0 W : World} {g : Nat} {V : SV} {bk : List Int} {q : List S63} {st : SX} (h : SndAt w0 W g V bk q st) {gs n c : Nat} (hv : V.vs = .slice (some ⟨gs, 0, none⟩) n c ∨ V.vd = .slice (some ⟨gs, 0, none⟩) n c) (i : Nat) (x : Value) : IntsBut V W (W.setCell ⟨gs, i, none⟩ x) :=
  ⟨Nat.le_of_eq (by simp [World.setCell]), fun k hk h1 h2 => Below.heap_setCell W ⟨gs, i, none⟩ x k (fun e => by
    have e : k = gs := e
    subst e
    rcases hv with hv | hv
    · exact h1 (by rw [hv]; rfl)
    · exact h2 (by rw [hv]; rfl))⟩
theorem rd_set_same {l : List Int} {i v : Int} (h0 : 0 ≤ i) (h1 : i < (l.length : Int)) : rd (l.set i.toNat v) i = v := by
  unfold rd
  rw [List.getD_eq_getElem?_getD, List.getElem?_set_self (by omega)]
  rfl
theorem SndAt.sentAt {w0 W : World} {g : Nat} {V : SV} {bk : List Int} {q : List S63} {st : SX} (h : SndAt w0 W g V bk q st) (i : Int) (h0 : 0 ≤ i) (h1 : i < (st.sent.length : Int)) : ∃ gs c, V.vs = .slice (some ⟨gs, 0, none⟩) st.sent.length c ∧ W.cell? ⟨g, 3, none⟩ = some (.slice (some ⟨gs, 0, none⟩) st.sent.length c) ∧ W.cell? ⟨gs, i.toNat, none⟩ = some (.int .i64 (rd st.sent i)) ∧ W.frozen? ⟨gs, i.toNat, none⟩ = false := by
  obtain ⟨gs, c, e, _, _, cells, hb⟩ := Kd.R_form h.s (by omega)
  have hr := h.s
  rw [e] at hr
  obtain ⟨ad, ea, hx⟩ := Kd.at_int (Kd.R_reads' hr).2.2 i h0 h1
  injection ea with ea
  subst ea
  rw [add_plain] at hx
  exact ⟨gs, c, e, e ▸ (blk_cell h.hb 3).trans rfl, hx, blk_frozen hb _⟩
theorem SndAt.doneAt {w0 W : World} {g : Nat} {V : SV} {bk : List Int} {q : List S63} {st : SX} (h : SndAt w0 W g V bk q st) (i : Int) (h0 : 0 ≤ i) (h1 : i < (st.done.length : Int)) : ∃ gs c, V.vd = .slice (some ⟨gs, 0, none⟩) st.done.length c ∧ W.cell? ⟨g, 4, none⟩ = some (.slice (some ⟨gs, 0, none⟩) st.done.length c) ∧ W.cell? ⟨gs, i.toNat, none⟩ = some (.int .i64 (rd st.done i)) ∧ W.frozen? ⟨gs, i.toNat, none⟩ = false := by
  obtain ⟨gs, c, e, _, _, cells, hb⟩ := Kd.R_form h.d (by omega)
  have hr := h.d
  rw [e] at hr
  obtain ⟨ad, ea, hx⟩ := Kd.at_int (Kd.R_reads' hr).2.2 i h0 h1
  injection ea with ea
  subst ea
  rw [add_plain] at hx
  exact ⟨gs, c, e, e ▸ (blk_cell h.hb 4).trans rfl, hx, blk_frozen hb _⟩
theorem snd_store_step {PP : Program} {ops : Array Oper} {o : Oper} {a : Act} {Q : Exit → Act → World → Prop} {Kc : Act → World → Prop} {W w1 : World} (hw : Region.wanted o (yielded ops a.tmps) = true) (hN : o.dst = none) (hrun : (execOp a.eval o).run PP W = .ok .skip w1) (h : Kc (a.put none undef) w1) : if Region.wanted o (yielded ops a.tmps) = true then Oper.wp PP o a W Kc Q else Kc (a.put none undef) W := by
  rw [if_pos hw]
  unfold Oper.wp
  rw [hrun]
  show Kc (a.put o.dst undef) w1
  rw [hN]
  exact h
theorem snd_skip {PP : Program} {ops : Array Oper} {rest : List Oper} {o : Oper} {a : Act} {Q : Exit → Act → World → Prop} {W w1 : World} (hgd : o.guard = none) (hN : o.dst = none)
    (hrun : (execOp a.eval o).run PP W = .ok .skip w1) (h : ∀ w', w' = w1 → wpList PP ops Q rest a w') : wpList PP ops Q (o :: rest) a W := by
  refine wpList_plain hgd fun K hK => ?_
  unfold Oper.wp
  rw [hrun]
  show K (a.put o.dst undef) w1
  rw [hN]
  exact hK _ _ (h _ rfl)
theorem name_held {w0 W : World} {Aq : Option Addr} {aq : Addr} {q : List S63} {item : Int} {nm : ByteArray} (hC : k63.C w0 Aq q.length q) (he : Aq = some aq) (hn : nm = (rd_T63 q item).f0) (h0 : 0 ≤ item) (h1 : item < (q.length : Int)) (hb : Below w0.heap.size w0 W) : W.cell? (aq.add (item.toNat * 5)) = some (.string nm) := by
  obtain ⟨ad, e, y, _⟩ := at_T63 (Kd.C_below hC hb) item h0 h1
  rw [he] at e
  injection e with e
  subst e
  rw [hn]
  exact y
theorem reps_one6 {α : Type} {R : α → List Value → Prop} {x : α} {cs : List Value} (h : R x cs) : Reps R cs.length [x] cs := by
  have := Reps.snoc (size := cs.length) (Reps.none R cs.length) h rfl
  simpa using this
def zRowV : Value := .agg #[.string ⟨#[]⟩, .int .i64 0, .int .i64 0, .int .i64 0, .int .i64 0, .int .i64 0]
theorem rowInfo : (Try.prog.info? 130).map (fun i => (i.zero, i.size, i.bytes)) = some (some zRowV, 6, 56) := by kernel_rfl
set_option maxHeartbeats 16000000 in
set_option maxRecDepth 100000 in
theorem give_calls {w0 W : World} {g : Nat} {V : SV} {bk : List Int} {q : List S63} {st : SX} (item pass frm to_ size : Int) (h : SndAt w0 W g V bk q st) (hi : 0 ≤ item ∧ item < (q.length : Int)) (hs : st.sent.length = q.length) (hd : st.done.length = q.length) (hq : q.length ≤ 1000000)
    (hp : (Lit.int .i64 pass).wf = true) (hn : Maps.has st.opn (keyK item pass) = true → 0 ≤ openD st.opn item pass ∧ openD st.opn item pass < (st.rows.length : Int)) (hr : st.rows.length < 1000000000) :
    Calls Try.prog 91 #[.pointer (some ⟨g, 0, none⟩), .int .i64 item, .int .i64 pass, .int .i64 frm, .int .i64 to_, .int .i64 size] W fun e w' => e = .returned (.tuple #[]) ∧ SndTo w0 W g V bk q (giveX q st item pass frm to_ size) w' := by
  have hiw : (Lit.int .i64 item).wf = true := wf64 (by omega) (by omega)
  obtain ⟨W1, hW1⟩ : ∃ W1, W1 = W.alloc (.cells #[.int .i64 item, .int .i64 pass] 138) := ⟨_, rfl⟩
  obtain ⟨kb, hkb⟩ : ∃ kb, kb = W.heap.size := ⟨_, rfl⟩
  have hB1 : Below W.heap.size W W1 := by rw [hW1]; exact below_alloc (Below.refl _ W) _
  have hk : W1.heap[kb]? = some (.cells #[.int .i64 item, .int .i64 pass] 138 (0, 0)) := by rw [hW1, hkb]; exact blk_new W _
  have h1 := h.below hB1
  have k0 : W1.cell? ⟨kb, 0, none⟩ = some (.int .i64 item) := (blk_cell hk 0).trans rfl
  have k1 : W1.cell? ⟨kb, 1, none⟩ = some (.int .i64 pass) := (blk_cell hk 1).trans rfl
  have hl := fun m => (h1.drewN m).look hiw hp
  have h0 := h1.c5
  have HS := Aside0.mk h1
  have HIB := Aside0.mk (IntsBut.below (V := V) hB1)
  have HI := Aside0.mk hi
  have HSL := Aside0.mk hs
  have HDL := Aside0.mk hd
  have HW1 := Aside0.mk hW1
  have HKB := Aside0.mk hkb
  have HKK := Aside0.mk hk
  have HIW := Aside0.mk hiw
  have HPW := Aside0.mk hp
  have HM := Aside0.mk h.mnl
  have HR := Aside0.mk hr
  have HN := Aside0.mk hn
  have i2 : item < (q.length : Int) := hi.2
  have i3 : (0 : Int) ≤ item := hi.1
  have i4 : item < (st.sent.length : Int) := by omega
  have i5 : item < (st.done.length : Int) := by omega
  obtain ⟨s0, hs0⟩ : ∃ s0, s0 = rd st.sent item := ⟨_, rfl⟩
  obtain ⟨s5, hs5⟩ : ∃ s5, s5 = wrap64 (s0 + size) := ⟨_, rfl⟩
  obtain ⟨f1, hf1⟩ : ∃ f1, f1 = (rd_T63 q item).f1 := ⟨_, rfl⟩
  have HS0 := Aside0.mk hs0
  have HS5 := Aside0.mk hs5
  have HF1 := Aside0.mk hf1
  clear h h1 hi hs hd hn hr hiw hp hB1 hk hW1 hkb hs0 hs5 hf1 hq
  by_cases hF : Maps.has st.opn (keyK item pass) = true ∧ (rowAt st.rows (openD st.opn item pass).toNat).p.f3 = frm
  · obtain ⟨hF1, hF2⟩ := hF
    obtain ⟨n, hnn⟩ := Int.eq_ofNat_of_zero_le (HN.out hF1).1
    have hnl : n < st.rows.length := by have := (HN.out hF1).2; omega
    have hX : giveX q st item pass frm to_ size = giveEnd q st n item to_ size := by unfold giveX; rw [if_pos ⟨hF1, hF2⟩, hnn, Int.toNat_natCast]
    rw [hnn, Int.toNat_natCast] at hF2
    rw [hF1, hnn] at hl
    obtain ⟨sx, hsx⟩ : ∃ sx, sx = st := ⟨_, rfl⟩
    rw [← hsx] at hnl hF2
    have HX := Aside0.mk (show giveX q st item pass frm to_ size = giveEnd q sx n item to_ size by rw [hsx]; exact hX)
    have HNL := Aside0.mk hnl
    have HR3 := Aside0.mk (show (rowAt sx.rows n).p.f3 = frm from hF2)
    have HSXE := Aside0.mk hsx
    have HSX := Aside0.mk (show sx.sent = st.sent ∧ sx.done = st.done by rw [hsx]; exact ⟨rfl, rfl⟩)
    have i1 : (n : Int) < (sx.rows.length : Int) := by omega
    have i0 : (0 : Int) ≤ (n : Int) := by omega
    clear hF1 hF2 hnn hnl hX hsx HN
    go_enter Try.func91, Try.ntmps91
    go_wp2
    rw [← HW1.out, ← HKB.out]
    clear HW1 HKB
    go_quiet (fail)
    obtain ⟨W2, hW2⟩ : ∃ W2, W2 = W1.drewN nq := ⟨_, rfl⟩
    rw [← hW2]
    have HT2 := Aside0.mk (show SndTo w0 W g V bk q sx W2 by rw [hW2, HSXE.out]; exact SndTo.step rfl rfl rfl HIB.out (HS.out.drewN nq) rfl rfl rfl (IntsBut.below (pw_below_drewN (Below.refl _ _) nq)))
    obtain ⟨gr2, c2, x62, y32, fz3⟩ : ∃ gr2 c2, W2.cell? ⟨g, 6, none⟩ = some (.slice (some ⟨gr2, 0, none⟩) sx.rows.length c2) ∧ W2.cell? ⟨gr2, n * 6 + 3, none⟩ = some (.int .i64 frm) ∧ W2.frozen? ⟨gr2, n * 6 + 3, none⟩ = false := (by obtain ⟨V2, h2, _⟩ := HT2.out; obtain ⟨gr2, c2, _, x62, hrow, hfz⟩ := h2.row HNL.out; have y := hrow 3 _ rfl; rw [HR3.out] at y; exact ⟨gr2, c2, x62, y, hfz 3⟩)
    have ea2 : (⟨gr2, 0, none⟩ : Addr).add (n * 6) = ⟨gr2, n * 6, none⟩ := add_plain _ _
    clear hW2 hl h0 k0 k1 HS HIB
    by_cases hD : s5 = f1
    · have HD := Aside0.mk hD
      have dD : (s5 == f1) = true := beq_iff_eq.mpr hD
      clear hD
      go_wp2_with (first | ((with_reducible refine gate_store (t := 3) (p := 83) rfl ?_); refine store_event (t := 3) (p := 83) (v := .tmp 80) (w1 := W2.setCell ⟨gr2, n * 6 + 3, none⟩ (.int .i64 to_)) ?hg ?ho ?hn ?hr ?_; (case ho => rfl); (case hg => rfl); (case hn => rfl); (case hr => first | (go_simp; done) | (go_simp; rfl)); intro w3 hw3; have HT3 := Aside0.mk (show SndTo w0 W g V bk q (giveTo sx n to_) w3 by rw [hw3]; obtain ⟨V2, h2, e1, e2, e3, hib⟩ := HT2.out; obtain ⟨gq, cq, eq, x6q, _, _⟩ := h2.row HNL.out; rw [x62] at x6q; injection x6q with x6q; injection x6q with x6q _ _; injection x6q with x6q; injection x6q with x6q _ _; subst x6q; obtain ⟨h3, hi3⟩ := h2.setRowTo eq HNL.out to_; exact SndTo.step e1 e2 e3 hib h3 rfl rfl rfl hi3); clear hw3 x62 fz3 HT2; have HNL3 := Aside0.mk (show n < (giveTo sx n to_).rows.length by show n < (sx.rows.set n _).length; rw [List.length_set]; exact HNL.out); obtain ⟨sy, hsy⟩ : ∃ sy, sy = giveTo sx n to_ := ⟨_, rfl⟩; rw [← hsy] at HT3 HNL3; have HSY := Aside0.mk hsy; have HLY := Aside0.mk (show sy.rows.length = sx.rows.length by rw [hsy]; exact List.length_set ..); clear hsy; obtain ⟨gr3, c3, x63, z4, fz4⟩ : ∃ gr3 c3, w3.cell? ⟨g, 6, none⟩ = some (.slice (some ⟨gr3, 0, none⟩) sx.rows.length c3) ∧ w3.cell? ⟨gr3, n * 6 + 4, none⟩ = some (.int .i64 (rowAt sy.rows n).p.f4) ∧ w3.frozen? ⟨gr3, n * 6 + 4, none⟩ = false := (by obtain ⟨V3, h3, _⟩ := HT3.out; obtain ⟨gr3, c3, _, x63, hrow, hfz⟩ := h3.row HNL3.out; rw [HLY.out] at x63; exact ⟨gr3, c3, x63, hrow 4 _ rfl, hfz 4⟩); obtain ⟨f4, hf4⟩ : ∃ f4, f4 = (rowAt sy.rows n).p.f4 := ⟨_, rfl⟩; rw [← hf4] at z4; have HF4 := Aside0.mk hf4; clear hf4; have ea3 : (⟨gr3, 0, none⟩ : Addr).add (n * 6) = ⟨gr3, n * 6, none⟩ := add_plain _ _) | ((with_reducible refine gate_store (t := 3) (p := 97) rfl ?_); refine store_event (t := 3) (p := 97) (v := .tmp 94) (w1 := w3.setCell ⟨gr3, n * 6 + 4, none⟩ (.int .i64 (wrap64 (f4 + size)))) ?hg ?ho ?hn ?hr ?_; (case ho => rfl); (case hg => rfl); (case hn => rfl); (case hr => first | (go_simp; done) | (go_simp; rfl)); intro w4 hw4; have HT4 := Aside0.mk (show SndTo w0 W g V bk q (giveSize sy n size) w4 by rw [hw4]; obtain ⟨V2, h2, e1, e2, e3, hib⟩ := HT3.out; obtain ⟨gq, cq, eq, x6q, _, _⟩ := h2.row HNL3.out; rw [HLY.out, x63] at x6q; injection x6q with x6q; injection x6q with x6q _ _; injection x6q with x6q; injection x6q with x6q _ _; subst x6q; obtain ⟨h3, hi3⟩ := h2.setRowSize eq HNL3.out (wrap64 (f4 + size)); rw [HF4.out] at h3 hi3 ⊢; exact SndTo.step e1 e2 e3 hib h3 rfl rfl rfl hi3); clear hw4 x63 z4 fz4 HT3; have HSN := Aside0.mk (show (giveSize sy n size).sent = st.sent by show sy.sent = st.sent; rw [HSY.out]; exact HSX.out.1); have HDN := Aside0.mk (show (giveSize sy n size).done = st.done by show sy.done = st.done; rw [HSY.out]; exact HSX.out.2); obtain ⟨sz, hsz⟩ : ∃ sz, sz = giveSize sy n size := ⟨_, rfl⟩; rw [← hsz] at HT4 HSN HDN; have HSZ := Aside0.mk hsz; clear hsz; obtain ⟨gs, cs, x3s, y3s, fz3s, hvs⟩ : ∃ gs cs, w4.cell? ⟨g, 3, none⟩ = some (.slice (some ⟨gs, 0, none⟩) st.sent.length cs) ∧ w4.cell? ⟨gs, item.toNat, none⟩ = some (.int .i64 s0) ∧ w4.frozen? ⟨gs, item.toNat, none⟩ = false ∧ V.vs = .slice (some ⟨gs, 0, none⟩) st.sent.length cs := (by obtain ⟨V4, h4, e1, _⟩ := HT4.out; have hh := h4.sentAt item i3 (by rw [HSN.out]; exact i4); rw [HSN.out] at hh; obtain ⟨gs, cs, a1, a2, a3, a4⟩ := hh; rw [← HS0.out] at a3; exact ⟨gs, cs, a2, a3, a4, by rw [← e1]; exact a1⟩); have HVS := Aside0.mk hvs; clear hvs; have ea4 : (⟨gs, 0, none⟩ : Addr).add item.toNat = ⟨gs, item.toNat, none⟩ := add_plain _ _) | ((with_reducible refine gate_store (t := 3) (p := 107) rfl ?_); refine store_event (t := 3) (p := 107) (v := .tmp 106) (w1 := w4.setCell ⟨gs, item.toNat, none⟩ (.int .i64 (wrap64 (s0 + size)))) ?hg ?ho ?hn ?hr ?_; (case ho => rfl); (case hg => rfl); (case hn => rfl); (case hr => first | (go_simp; done) | (go_simp; rfl)); intro w5 hw5; have HT5 := Aside0.mk (show SndTo w0 W g V bk q (giveSent sz item size) w5 by rw [hw5]; obtain ⟨V2, h2, e1, e2, e3, hib⟩ := HT4.out; have h3 := h2.setSent (e1.trans HVS.out) item (wrap64 (s0 + size)); have hi3 := ints_set h2 (Or.inl (e1.trans HVS.out)) item.toNat (.int .i64 (wrap64 (s0 + size))); rw [HS0.out, ← HSN.out] at h3 hi3 ⊢; exact SndTo.step e1 e2 e3 hib h3 rfl rfl rfl hi3); clear hw5 x3s y3s fz3s HT4; have HSN5 := Aside0.mk (show (giveSent sz item size).sent = st.sent.set item.toNat s5 by show sz.sent.set item.toNat (wrap64 (rd sz.sent item + size)) = _; rw [HSN.out, ← HS0.out, ← HS5.out]); have HDN5 := Aside0.mk (show (giveSent sz item size).done = st.done from HDN.out); obtain ⟨su, hsu⟩ : ∃ su, su = giveSent sz item size := ⟨_, rfl⟩; rw [← hsu] at HT5 HSN5 HDN5; have HSU := Aside0.mk hsu; clear hsu; have hrd5 := rd_set_same (l := st.sent) (v := s5) i3 i4; obtain ⟨As, cs5, x3u, y3u⟩ : ∃ As cs5, w5.cell? ⟨g, 3, none⟩ = some (.slice (some As) st.sent.length cs5) ∧ w5.cell? (As.add item.toNat) = some (.int .i64 s5) := (by obtain ⟨V5, h5, _⟩ := HT5.out; obtain ⟨A, c, _, a2, a3⟩ := h5.c3; have hlen : su.sent.length = st.sent.length := (by rw [HSN5.out, List.length_set]); obtain ⟨ad, ea, hx⟩ := Kd.at_int a3 item i3 (by rw [hlen]; exact i4); subst ea; rw [HSN5.out, hrd5] at hx; rw [hlen] at a2; exact ⟨ad, c, a2, hx⟩); obtain ⟨aq, cq, x1u, y1u⟩ : ∃ aq cq, w5.cell? ⟨g, 1, none⟩ = some (.slice (some aq) q.length cq) ∧ w5.cell? ⟨(aq.add (item.toNat * 5)).block, (aq.add (item.toNat * 5)).off + 1, none⟩ = some (.int .i64 f1) := (by obtain ⟨V5, h5, _⟩ := HT5.out; obtain ⟨ad, ea, _, hy, _⟩ := at_T63 (Kd.C_below h5.qC h5.bel) item i3 i2; have a1 := h5.c1; rw [ea] at a1; rw [← HF1.out] at hy; exact ⟨ad, V5.cq, a1, hy⟩); clear hrd5))
      go_quiet (fail)
      obtain ⟨w6, hw6⟩ : ∃ w6, w6 = w5.drewN nq := ⟨_, rfl⟩
      rw [← hw6]
      have HT6 := Aside0.mk (show SndTo w0 W g V bk q su w6 by rw [hw6]; obtain ⟨V5, h5, e1, e2, e3, hib⟩ := HT5.out; exact SndTo.step e1 e2 e3 hib (h5.drewN nq) rfl rfl rfl (IntsBut.below (pw_below_drewN (Below.refl _ _) nq)))
      have HRD := Aside0.mk (show rd su.sent item = s5 by rw [HSN5.out]; exact rd_set_same i3 i4)
      clear hw6 HT5 x3u y3u x1u y1u
      obtain ⟨gd, cd, x4, y4d, fz5, hvd⟩ : ∃ gd cd, w6.cell? ⟨g, 4, none⟩ = some (.slice (some ⟨gd, 0, none⟩) st.done.length cd) ∧ w6.cell? ⟨gd, item.toNat, none⟩ = some (.int .i64 (rd st.done item)) ∧ w6.frozen? ⟨gd, item.toNat, none⟩ = false ∧ V.vd = .slice (some ⟨gd, 0, none⟩) st.done.length cd := (by obtain ⟨V5, h5, _, e2, _⟩ := HT6.out; have hh := h5.doneAt item i3 (by rw [HDN5.out]; exact i5); rw [HDN5.out] at hh; obtain ⟨gd, cd, a1, a2, a4, a3⟩ := hh; exact ⟨gd, cd, a2, a4, a3, by rw [← e2]; exact a1⟩)
      have HVD := Aside0.mk hvd
      clear hvd
      have ea6 : (⟨gd, 0, none⟩ : Addr).add item.toNat = ⟨gd, item.toNat, none⟩ := add_plain _ _
      go_wp2
      go_end0
      refine ⟨rfl, ?_⟩
      rw [HX.out]
      unfold giveEnd
      rw [← HSY.out, ← HSZ.out, ← HSU.out]
      simp only [HRD.out]
      rw [← HF1.out, if_pos HD.out]
      obtain ⟨V2, h2, e1, e2, e3, hib⟩ := HT6.out
      have h3 := h2.setDone (e2.trans HVD.out) item to_
      have hi3 := ints_set h2 (Or.inr (e2.trans HVD.out)) item.toNat (.int .i64 to_)
      exact SndTo.step e1 e2 e3 hib h3 rfl rfl rfl hi3
    · have HD := Aside0.mk hD
      have dD : (s5 == f1) = false := beq_eq_false_iff_ne.mpr hD
      clear hD
      go_wp2_with (first | ((with_reducible refine gate_store (t := 3) (p := 83) rfl ?_); refine store_event (t := 3) (p := 83) (v := .tmp 80) (w1 := W2.setCell ⟨gr2, n * 6 + 3, none⟩ (.int .i64 to_)) ?hg ?ho ?hn ?hr ?_; (case ho => rfl); (case hg => rfl); (case hn => rfl); (case hr => first | (go_simp; done) | (go_simp; rfl)); intro w3 hw3; have HT3 := Aside0.mk (show SndTo w0 W g V bk q (giveTo sx n to_) w3 by rw [hw3]; obtain ⟨V2, h2, e1, e2, e3, hib⟩ := HT2.out; obtain ⟨gq, cq, eq, x6q, _, _⟩ := h2.row HNL.out; rw [x62] at x6q; injection x6q with x6q; injection x6q with x6q _ _; injection x6q with x6q; injection x6q with x6q _ _; subst x6q; obtain ⟨h3, hi3⟩ := h2.setRowTo eq HNL.out to_; exact SndTo.step e1 e2 e3 hib h3 rfl rfl rfl hi3); clear hw3 x62 fz3 HT2; have HNL3 := Aside0.mk (show n < (giveTo sx n to_).rows.length by show n < (sx.rows.set n _).length; rw [List.length_set]; exact HNL.out); obtain ⟨sy, hsy⟩ : ∃ sy, sy = giveTo sx n to_ := ⟨_, rfl⟩; rw [← hsy] at HT3 HNL3; have HSY := Aside0.mk hsy; have HLY := Aside0.mk (show sy.rows.length = sx.rows.length by rw [hsy]; exact List.length_set ..); clear hsy; obtain ⟨gr3, c3, x63, z4, fz4⟩ : ∃ gr3 c3, w3.cell? ⟨g, 6, none⟩ = some (.slice (some ⟨gr3, 0, none⟩) sx.rows.length c3) ∧ w3.cell? ⟨gr3, n * 6 + 4, none⟩ = some (.int .i64 (rowAt sy.rows n).p.f4) ∧ w3.frozen? ⟨gr3, n * 6 + 4, none⟩ = false := (by obtain ⟨V3, h3, _⟩ := HT3.out; obtain ⟨gr3, c3, _, x63, hrow, hfz⟩ := h3.row HNL3.out; rw [HLY.out] at x63; exact ⟨gr3, c3, x63, hrow 4 _ rfl, hfz 4⟩); obtain ⟨f4, hf4⟩ : ∃ f4, f4 = (rowAt sy.rows n).p.f4 := ⟨_, rfl⟩; rw [← hf4] at z4; have HF4 := Aside0.mk hf4; clear hf4; have ea3 : (⟨gr3, 0, none⟩ : Addr).add (n * 6) = ⟨gr3, n * 6, none⟩ := add_plain _ _) | ((with_reducible refine gate_store (t := 3) (p := 97) rfl ?_); refine store_event (t := 3) (p := 97) (v := .tmp 94) (w1 := w3.setCell ⟨gr3, n * 6 + 4, none⟩ (.int .i64 (wrap64 (f4 + size)))) ?hg ?ho ?hn ?hr ?_; (case ho => rfl); (case hg => rfl); (case hn => rfl); (case hr => first | (go_simp; done) | (go_simp; rfl)); intro w4 hw4; have HT4 := Aside0.mk (show SndTo w0 W g V bk q (giveSize sy n size) w4 by rw [hw4]; obtain ⟨V2, h2, e1, e2, e3, hib⟩ := HT3.out; obtain ⟨gq, cq, eq, x6q, _, _⟩ := h2.row HNL3.out; rw [HLY.out, x63] at x6q; injection x6q with x6q; injection x6q with x6q _ _; injection x6q with x6q; injection x6q with x6q _ _; subst x6q; obtain ⟨h3, hi3⟩ := h2.setRowSize eq HNL3.out (wrap64 (f4 + size)); rw [HF4.out] at h3 hi3 ⊢; exact SndTo.step e1 e2 e3 hib h3 rfl rfl rfl hi3); clear hw4 x63 z4 fz4 HT3; have HSN := Aside0.mk (show (giveSize sy n size).sent = st.sent by show sy.sent = st.sent; rw [HSY.out]; exact HSX.out.1); have HDN := Aside0.mk (show (giveSize sy n size).done = st.done by show sy.done = st.done; rw [HSY.out]; exact HSX.out.2); obtain ⟨sz, hsz⟩ : ∃ sz, sz = giveSize sy n size := ⟨_, rfl⟩; rw [← hsz] at HT4 HSN HDN; have HSZ := Aside0.mk hsz; clear hsz; obtain ⟨gs, cs, x3s, y3s, fz3s, hvs⟩ : ∃ gs cs, w4.cell? ⟨g, 3, none⟩ = some (.slice (some ⟨gs, 0, none⟩) st.sent.length cs) ∧ w4.cell? ⟨gs, item.toNat, none⟩ = some (.int .i64 s0) ∧ w4.frozen? ⟨gs, item.toNat, none⟩ = false ∧ V.vs = .slice (some ⟨gs, 0, none⟩) st.sent.length cs := (by obtain ⟨V4, h4, e1, _⟩ := HT4.out; have hh := h4.sentAt item i3 (by rw [HSN.out]; exact i4); rw [HSN.out] at hh; obtain ⟨gs, cs, a1, a2, a3, a4⟩ := hh; rw [← HS0.out] at a3; exact ⟨gs, cs, a2, a3, a4, by rw [← e1]; exact a1⟩); have HVS := Aside0.mk hvs; clear hvs; have ea4 : (⟨gs, 0, none⟩ : Addr).add item.toNat = ⟨gs, item.toNat, none⟩ := add_plain _ _) | ((with_reducible refine gate_store (t := 3) (p := 107) rfl ?_); refine store_event (t := 3) (p := 107) (v := .tmp 106) (w1 := w4.setCell ⟨gs, item.toNat, none⟩ (.int .i64 (wrap64 (s0 + size)))) ?hg ?ho ?hn ?hr ?_; (case ho => rfl); (case hg => rfl); (case hn => rfl); (case hr => first | (go_simp; done) | (go_simp; rfl)); intro w5 hw5; have HT5 := Aside0.mk (show SndTo w0 W g V bk q (giveSent sz item size) w5 by rw [hw5]; obtain ⟨V2, h2, e1, e2, e3, hib⟩ := HT4.out; have h3 := h2.setSent (e1.trans HVS.out) item (wrap64 (s0 + size)); have hi3 := ints_set h2 (Or.inl (e1.trans HVS.out)) item.toNat (.int .i64 (wrap64 (s0 + size))); rw [HS0.out, ← HSN.out] at h3 hi3 ⊢; exact SndTo.step e1 e2 e3 hib h3 rfl rfl rfl hi3); clear hw5 x3s y3s fz3s HT4; have HSN5 := Aside0.mk (show (giveSent sz item size).sent = st.sent.set item.toNat s5 by show sz.sent.set item.toNat (wrap64 (rd sz.sent item + size)) = _; rw [HSN.out, ← HS0.out, ← HS5.out]); have HDN5 := Aside0.mk (show (giveSent sz item size).done = st.done from HDN.out); obtain ⟨su, hsu⟩ : ∃ su, su = giveSent sz item size := ⟨_, rfl⟩; rw [← hsu] at HT5 HSN5 HDN5; have HSU := Aside0.mk hsu; clear hsu; have hrd5 := rd_set_same (l := st.sent) (v := s5) i3 i4; obtain ⟨As, cs5, x3u, y3u⟩ : ∃ As cs5, w5.cell? ⟨g, 3, none⟩ = some (.slice (some As) st.sent.length cs5) ∧ w5.cell? (As.add item.toNat) = some (.int .i64 s5) := (by obtain ⟨V5, h5, _⟩ := HT5.out; obtain ⟨A, c, _, a2, a3⟩ := h5.c3; have hlen : su.sent.length = st.sent.length := (by rw [HSN5.out, List.length_set]); obtain ⟨ad, ea, hx⟩ := Kd.at_int a3 item i3 (by rw [hlen]; exact i4); subst ea; rw [HSN5.out, hrd5] at hx; rw [hlen] at a2; exact ⟨ad, c, a2, hx⟩); obtain ⟨aq, cq, x1u, y1u⟩ : ∃ aq cq, w5.cell? ⟨g, 1, none⟩ = some (.slice (some aq) q.length cq) ∧ w5.cell? ⟨(aq.add (item.toNat * 5)).block, (aq.add (item.toNat * 5)).off + 1, none⟩ = some (.int .i64 f1) := (by obtain ⟨V5, h5, _⟩ := HT5.out; obtain ⟨ad, ea, _, hy, _⟩ := at_T63 (Kd.C_below h5.qC h5.bel) item i3 i2; have a1 := h5.c1; rw [ea] at a1; rw [← HF1.out] at hy; exact ⟨ad, V5.cq, a1, hy⟩); clear hrd5))
      go_quiet (fail)
      obtain ⟨w6, hw6⟩ : ∃ w6, w6 = w5.drewN nq := ⟨_, rfl⟩
      rw [← hw6]
      have HT6 := Aside0.mk (show SndTo w0 W g V bk q su w6 by rw [hw6]; obtain ⟨V5, h5, e1, e2, e3, hib⟩ := HT5.out; exact SndTo.step e1 e2 e3 hib (h5.drewN nq) rfl rfl rfl (IntsBut.below (pw_below_drewN (Below.refl _ _) nq)))
      have HRD := Aside0.mk (show rd su.sent item = s5 by rw [HSN5.out]; exact rd_set_same i3 i4)
      clear hw6 HT5 x3u y3u x1u y1u
      go_wp2
      go_end0
      refine ⟨rfl, ?_⟩
      rw [HX.out]
      unfold giveEnd
      rw [← HSY.out, ← HSZ.out, ← HSU.out]
      simp only [HRD.out]
      rw [← HF1.out, if_neg HD.out]
      exact HT6.out
  · have hX : giveX q st item pass frm to_ size = giveEnd q (giveOpen st item pass frm (rd_T63 q item).f0) st.rows.length item to_ size := by unfold giveX; rw [if_neg hF]
    obtain ⟨nm, hnm⟩ : ∃ nm, nm = (rd_T63 q item).f0 := ⟨_, rfl⟩
    rw [← hnm] at hX
    have HX := Aside0.mk hX
    have HNM := Aside0.mk hnm
    clear hX hnm
    by_cases hH : Maps.has st.opn (keyK item pass) = true
    · obtain ⟨n, hnn⟩ := Int.eq_ofNat_of_zero_le (HN.out hH).1
      have hnl : n < st.rows.length := by have := (HN.out hH).2; omega
      have hne : (rowAt st.rows n).p.f3 ≠ frm := fun hc => hF ⟨hH, by rw [hnn, Int.toNat_natCast]; exact hc⟩
      rw [hH, hnn] at hl
      obtain ⟨fo, hfo⟩ : ∃ fo, fo = (rowAt st.rows n).p.f3 := ⟨_, rfl⟩
      rw [← hfo] at hne
      have HOF := Aside0.mk hfo
      have HOL := Aside0.mk hnl
      have dN : (fo != frm) = true := bne_iff_ne.mpr hne
      have dN2 : (fo == frm) = false := beq_eq_false_iff_ne.mpr hne
      have i1 : (n : Int) < (st.rows.length : Int) := by omega
      have i0 : (0 : Int) ≤ (n : Int) := by omega
      clear hF hH hnn hnl hne hfo HN
      go_enter Try.func91, Try.ntmps91
      go_wp2
      rw [← HW1.out, ← HKB.out]
      clear HW1 HKB
      go_quiet (fail)
      obtain ⟨W2, hW2⟩ : ∃ W2, W2 = W1.drewN nq := ⟨_, rfl⟩
      rw [← hW2]
      have h2 : SndAt w0 W2 g V bk q st := by rw [hW2]; exact HS.out.drewN nq
      have HIB2 := Aside0.mk (HIB.out.trans (show IntsBut V W1 W2 by rw [hW2]; exact IntsBut.below (pw_below_drewN (Below.refl _ _) nq)))
      obtain ⟨Ar, cr, evr, x6⟩ := h2.c6
      have x5 := h2.c5
      have x1 := h2.c1
      obtain ⟨aq, eq, y0, _⟩ := at_T63 (Kd.C_below h2.qC h2.bel) item i3 i2
      rw [eq] at x1
      rw [← HNM.out] at y0
      obtain ⟨gr2, c2, _, x6b, hrow, _⟩ := h2.row HOL.out
      rw [x6] at x6b
      injection x6b with x6b
      injection x6b with x6b _ _
      have y3 := hrow 3 _ rfl
      rw [← HOF.out] at y3
      subst x6b
      have HK2 := Aside0.mk (show W2.heap[kb]? = some (.cells #[.int .i64 item, .int .i64 pass] 138 (0, 0)) by rw [hW2]; exact HKK.out)
      have HS2 := Aside0.mk h2
      have HEV := Aside0.mk evr
      have HEQ := Aside0.mk eq
      have HSdq := Aside0.mk h2.qC
      clear h2 hW2 hl h0 k0 k1 HS HIB evr eq y0 x5
      go_wp2
      refine start_ (n := 23) (S := fun w' => w'.heap[g]? = some (.cells #[.slice V.Ab bk.length V.cb, .slice V.Aq q.length V.cq, V.vo, V.vs, V.vd, .map (some V.gm), V.vr, V.vw] 110 (0, 0)) ∧ Below w0.heap.size w0 w' ∧ w'.heap[kb]? = some (.cells #[.int .i64 item, .int .i64 pass] 138 (0, 0))) (ds := [22]) #[false, false, false, false, false, false, false, false, false, false, false, false, false, false, false, false, false, false, false, false, false, false, false] (by kernel_rfl) rfl rfl ⟨HS2.out.hb, (HS2.out.below (below_drew (Below.refl _ _))).bel, HK2.out⟩ (fun hHeld => ?_)
      obtain ⟨wd, hwd⟩ : ∃ wd, wd = W2.drew := ⟨_, rfl⟩
      have hwd' : ({ W2 with drawn := W2.drawn + 1 } : World) = wd := hwd.symm
      have HKd := Aside0.mk (show wd.heap[kb]? = some (.cells #[.int .i64 item, .int .i64 pass] 138 (0, 0)) by rw [hwd]; exact HK2.out)
      have HSd := Aside0.mk (show SndAt w0 wd g V bk q st by rw [hwd]; exact HS2.out.below (below_drew (Below.refl _ _)))
      have HIBd := Aside0.mk (HIB2.out.trans (show IntsBut V W2 wd by rw [hwd]; exact IntsBut.below (below_drew (Below.refl _ _))))
      rw [← hwd] at hHeld ⊢
      clear HIB2 HS2 hwd' x6 x1
      refine pure_ (i := 0) (N := some 47) (v := ?_) (a' := ?_) #[true, false, false, false, false, false, false, false, false, false, false, false, false, false, false, false, false, false, false, false, false, false, false] rfl rfl (by kernel_rfl) (fun _ _ _ h => h) (Or.inl ⟨by rfl, ?_⟩) ?_ ?_
      rotate_left
      · intro w'
        go_simp
        with_reducible rfl
      rotate_left
      · simp only [Act.put, List.setIfInBounds_toArray, List.set_cons_zero, List.set_cons_succ, i64_w, i32_w]
        rfl
      refine pure_ (i := 1) (N := some 48) (v := ?_) (a' := ?_) #[true, true, false, false, false, false, false, false, false, false, false, false, false, false, false, false, false, false, false, false, false, false, false] rfl rfl (by kernel_rfl) (fun _ _ _ h => h) (Or.inl ⟨by rfl, ?_⟩) ?_ ?_
      rotate_left
      · intro w'
        go_simp
        with_reducible rfl
      rotate_left
      · simp only [Act.put, List.setIfInBounds_toArray, List.set_cons_zero, List.set_cons_succ, i64_w, i32_w]
        rfl
      refine pure_ (i := 2) (N := some 49) (v := ?_) (a' := ?_) #[true, true, true, false, false, false, false, false, false, false, false, false, false, false, false, false, false, false, false, false, false, false, false] rfl rfl (by kernel_rfl) (fun _ _ _ h => h) (Or.inl ⟨by rfl, ?_⟩) ?_ ?_
      rotate_left
      · intro w'
        go_simp
        with_reducible rfl
      rotate_left
      · simp only [Act.put, List.setIfInBounds_toArray, List.set_cons_zero, List.set_cons_succ, i64_w, i32_w]
        rfl
      refine pure_ (i := 3) (N := some 50) (v := ?_) (a' := ?_) #[true, true, true, true, false, false, false, false, false, false, false, false, false, false, false, false, false, false, false, false, false, false, false] rfl rfl (by kernel_rfl) (fun _ _ _ h => h) (Or.inl ⟨by rfl, ?_⟩) ?_ ?_
      rotate_left
      · intro w'
        go_simp
        with_reducible rfl
      rotate_left
      · simp only [Act.put, List.setIfInBounds_toArray, List.set_cons_zero, List.set_cons_succ, i64_w, i32_w]
        rfl
      refine take_ (i := 4) (N := some 51) (v := .slice (some ⟨gr2, 0, none⟩) st.rows.length cr) (a' := ?_) #[true, true, true, true, true, false, false, false, false, false, false, false, false, false, false, false, false, false, false, false, false, false, false] rfl rfl (by kernel_rfl) (fun _ _ _ h => h) (Or.inl ⟨by rfl, ?_⟩) hHeld ?_ ?_
      · rintro w' ⟨sb, sB, sk⟩
        have x6 : w'.cell? ⟨g, 6, none⟩ = some V.vr := (blk_cell sb 6).trans rfl
        rw [HEV.out] at x6
        go_simp
        all_goals (first | done | with_reducible rfl)
      rotate_left
      · simp only [Act.put, List.setIfInBounds_toArray, List.set_cons_zero, List.set_cons_succ, i64_w, i32_w]
        rfl
      refine pure_ (i := 5) (N := some 52) (v := ?_) (a' := ?_) #[true, true, true, true, true, true, false, false, false, false, false, false, false, false, false, false, false, false, false, false, false, false, false] rfl rfl (by kernel_rfl) (fun _ _ _ h => h) (Or.inl ⟨by rfl, ?_⟩) ?_ ?_
      rotate_left
      · intro w'
        go_simp
        with_reducible rfl
      rotate_left
      · simp only [Act.put, List.setIfInBounds_toArray, List.set_cons_zero, List.set_cons_succ, i64_w, i32_w]
        rfl
      refine pure_ (i := 6) (N := some 53) (v := ?_) (a' := ?_) #[true, true, true, true, true, true, true, false, false, false, false, false, false, false, false, false, false, false, false, false, false, false, false] rfl rfl (by kernel_rfl) (fun _ _ _ h => h) (Or.inl ⟨by rfl, ?_⟩) ?_ ?_
      rotate_left
      · intro w'
        go_simp
        with_reducible rfl
      rotate_left
      · simp only [Act.put, List.setIfInBounds_toArray, List.set_cons_zero, List.set_cons_succ, i64_w, i32_w]
        rfl
      refine pure_ (i := 7) (N := some 54) (v := ?_) (a' := ?_) #[true, true, true, true, true, true, true, true, false, false, false, false, false, false, false, false, false, false, false, false, false, false, false] rfl rfl (by kernel_rfl) (fun _ _ _ h => h) (Or.inl ⟨by rfl, ?_⟩) ?_ ?_
      rotate_left
      · intro w'
        go_simp
        with_reducible rfl
      rotate_left
      · simp only [Act.put, List.setIfInBounds_toArray, List.set_cons_zero, List.set_cons_succ, i64_w, i32_w]
        rfl
      refine take_ (i := 8) (N := some 55) (v := .slice (some aq) q.length V.cq) (a' := ?_) #[true, true, true, true, true, true, true, true, true, false, false, false, false, false, false, false, false, false, false, false, false, false, false] rfl rfl (by kernel_rfl) (fun _ _ _ h => h) (Or.inl ⟨by rfl, ?_⟩) hHeld ?_ ?_
      · rintro w' ⟨sb, sB, sk⟩
        have x1 : w'.cell? ⟨g, 1, none⟩ = some (.slice V.Aq q.length V.cq) := (blk_cell sb 1).trans rfl
        rw [HEQ.out] at x1
        go_simp
        all_goals (first | done | with_reducible rfl)
      rotate_left
      · simp only [Act.put, List.setIfInBounds_toArray, List.set_cons_zero, List.set_cons_succ, i64_w, i32_w]
        rfl
      refine pure_ (i := 9) (N := some 56) (v := ?_) (a' := ?_) #[true, true, true, true, true, true, true, true, true, true, false, false, false, false, false, false, false, false, false, false, false, false, false] rfl rfl (by kernel_rfl) (fun _ _ _ h => h) (Or.inl ⟨by rfl, ?_⟩) ?_ ?_
      rotate_left
      · intro w'
        go_simp
        with_reducible rfl
      rotate_left
      · simp only [Act.put, List.setIfInBounds_toArray, List.set_cons_zero, List.set_cons_succ, i64_w, i32_w]
        rfl
      refine pure_ (i := 10) (N := some 57) (v := ?_) (a' := ?_) #[true, true, true, true, true, true, true, true, true, true, true, false, false, false, false, false, false, false, false, false, false, false, false] rfl rfl (by kernel_rfl) (fun _ _ _ h => h) (Or.inl ⟨by rfl, ?_⟩) ?_ ?_
      rotate_left
      · intro w'
        go_simp
        with_reducible rfl
      rotate_left
      · simp only [Act.put, List.setIfInBounds_toArray, List.set_cons_zero, List.set_cons_succ, i64_w, i32_w]
        rfl
      refine pure_ (i := 11) (N := some 58) (v := ?_) (a' := ?_) #[true, true, true, true, true, true, true, true, true, true, true, true, false, false, false, false, false, false, false, false, false, false, false] rfl rfl (by kernel_rfl) (fun _ _ _ h => h) (Or.inl ⟨by rfl, ?_⟩) ?_ ?_
      rotate_left
      · intro w'
        go_simp
        with_reducible rfl
      rotate_left
      · simp only [Act.put, List.setIfInBounds_toArray, List.set_cons_zero, List.set_cons_succ, i64_w, i32_w]
        rfl
      refine take_ (i := 12) (N := some 59) (v := .string nm) (a' := ?_) #[true, true, true, true, true, true, true, true, true, true, true, true, true, false, false, false, false, false, false, false, false, false, false] rfl rfl (by kernel_rfl) (fun _ _ _ h => h) (Or.inl ⟨by rfl, ?_⟩) hHeld ?_ ?_
      · rintro w' ⟨sb, sB, sk⟩
        have y0 : w'.cell? (aq.add (item.toNat * 5)) = some (.string nm) := name_held HSdq.out HEQ.out HNM.out i3 i2 sB
        go_simp
        all_goals (first | done | with_reducible rfl)
      rotate_left
      · simp only [Act.put, List.setIfInBounds_toArray, List.set_cons_zero, List.set_cons_succ, i64_w, i32_w]
        rfl
      refine pure_ (i := 13) (N := some 60) (v := ?_) (a' := ?_) #[true, true, true, true, true, true, true, true, true, true, true, true, true, true, false, false, false, false, false, false, false, false, false] rfl rfl (by kernel_rfl) (fun _ _ _ h => h) (Or.inl ⟨by rfl, ?_⟩) ?_ ?_
      rotate_left
      · intro w'
        go_simp
        with_reducible rfl
      rotate_left
      · simp only [Act.put, List.setIfInBounds_toArray, List.set_cons_zero, List.set_cons_succ, i64_w, i32_w]
        rfl
      refine pure_ (i := 14) (N := some 61) (v := ?_) (a' := ?_) #[true, true, true, true, true, true, true, true, true, true, true, true, true, true, true, false, false, false, false, false, false, false, false] rfl rfl (by kernel_rfl) (fun _ _ _ h => h) (Or.inl ⟨by rfl, ?_⟩) ?_ ?_
      rotate_left
      · intro w'
        go_simp
        with_reducible rfl
      rotate_left
      · simp only [Act.put, List.setIfInBounds_toArray, List.set_cons_zero, List.set_cons_succ, i64_w, i32_w]
        rfl
      refine pure_ (i := 15) (N := some 62) (v := ?_) (a' := ?_) #[true, true, true, true, true, true, true, true, true, true, true, true, true, true, true, true, false, false, false, false, false, false, false] rfl rfl (by kernel_rfl) (fun _ _ _ h => h) (Or.inl ⟨by rfl, ?_⟩) ?_ ?_
      rotate_left
      · intro w'
        go_simp
        with_reducible rfl
      rotate_left
      · simp only [Act.put, List.setIfInBounds_toArray, List.set_cons_zero, List.set_cons_succ, i64_w, i32_w]
        rfl
      refine pure_ (i := 16) (N := some 63) (v := ?_) (a' := ?_) #[true, true, true, true, true, true, true, true, true, true, true, true, true, true, true, true, true, false, false, false, false, false, false] rfl rfl (by kernel_rfl) (fun _ _ _ h => h) (Or.inl ⟨by rfl, ?_⟩) ?_ ?_
      rotate_left
      · intro w'
        go_simp
        with_reducible rfl
      rotate_left
      · simp only [Act.put, List.setIfInBounds_toArray, List.set_cons_zero, List.set_cons_succ, i64_w, i32_w]
        rfl
      refine pure_ (i := 17) (N := some 64) (v := ?_) (a' := ?_) #[true, true, true, true, true, true, true, true, true, true, true, true, true, true, true, true, true, true, false, false, false, false, false] rfl rfl (by kernel_rfl) (fun _ _ _ h => h) (Or.inl ⟨by rfl, ?_⟩) ?_ ?_
      rotate_left
      · intro w'
        go_simp
        with_reducible rfl
      rotate_left
      · simp only [Act.put, List.setIfInBounds_toArray, List.set_cons_zero, List.set_cons_succ, i64_w, i32_w]
        rfl
      refine one_ (i := 18) (N := some 65) #[true, true, true, true, true, true, true, true, true, true, true, true, true, true, true, true, true, true, true, false, false, false, false] rfl rfl (by kernel_rfl) (by decide) (fun K hK => ?_)
      refine Kd.R_lit_step kRow (w0 := w0) w0.heap.size 130 ?hg (N := 65) ?hd (xs := [(⟨⟨nm, pass, frm, 0, 0⟩, (st.rows.length : Int)⟩ : SRow)]) (inner := [.string nm, .int .i64 pass, .int .i64 frm, .int .i64 0, .int .i64 0, .int .i64 (st.rows.length : Int)]) (ok := fun _ => True) (okp := fun _ => True) ?hr ?hp (fun _ hk => hk) trivial HSd.out.bel HSd.out.bel.size (by simp) ?_
      (case hd => rfl)
      (case hg => rfl)
      (case hr => first | (go_simp; done) | (go_simp; rfl))
      (case hp => exact Kd.reps_append (ps := []) (cs := []) (Reps.none _ _) (reps_one6 (kRow_mkM _ _ _ (⟨⟨nm, pass, frm, 0, 0⟩, (st.rows.length : Int)⟩ : SRow))))
      intro vl wl ho hb hg_ hnew_
      have HSl := Aside0.mk (show SndAt w0 wl g V bk q st from HSd.out.grown hg_ hb (fun k e => by cases e))
      have HIBl := Aside0.mk (HIBd.out.trans (show IntsBut V wd wl from ⟨hg_.size, fun k hk _ _ => hg_.block k hk.lt (by simp)⟩))
      have HKl := Aside0.mk (show wl.heap[kb]? = some (.cells #[.int .i64 item, .int .i64 pass] 138 (0, 0)) from (hg_.block kb (blk_lt HKd.out) (by simp)).trans HKd.out)
      have HLT := Aside0.mk ho
      clear ho hb hg_ hnew_ HSd HIBd hHeld
      obtain ⟨Al, cl, el⟩ := Kd.R_slice HLT.out
      subst el
      refine hK.out _ _ ⟨HSl.out.hb, HSl.out.bel, HKl.out⟩ (fun hHeld => ?_)
      clear hK K
      refine norm_ (a' := ?_) ?_ ?_
      rotate_left
      · show Act.put _ (some 65) _ = _
        simp only [Act.put, List.setIfInBounds_toArray, List.set_cons_zero, List.set_cons_succ, i64_w, i32_w]
        rfl
      refine one_ (i := 19) (N := some 66) #[true, true, true, true, true, true, true, true, true, true, true, true, true, true, true, true, true, true, true, true, false, false, false] rfl rfl (by kernel_rfl) (by decide) (fun K hK => ?_)
      refine Kd.R_append_rows_step kRow (w0 := w0) w0.heap.size (by rfl) (.tmp 51) (.tmp 65) 107 130 zRowV 56 rfl Try.underlying107 rowInfo rfl (by decide) (by omega) V.vr st.rows [(⟨⟨nm, pass, frm, 0, 0⟩, (st.rows.length : Int)⟩ : SRow)] _ _ _ (fun _ => True) (fun _ => False) (by rw [HEV.out]; rfl) rfl HSl.out.r (Kd.R_reads' HLT.out).2.2 (fun _ _ h => h) (fun _ h => h.elim) (fun _ _ => trivial) HSl.out.bel HSl.out.bel.size (by have := HR.out; simp; omega) ?_
      intro va wa ho hb hg_ hat_
      obtain ⟨Aa, ca, ea⟩ := Kd.R_slice ho
      subst ea
      have HBa := Aside0.mk (show wa.heap[g]? = some (.cells #[.slice V.Ab bk.length V.cb, .slice V.Aq q.length V.cq, V.vo, V.vs, V.vd, .map (some V.gm), V.vr, V.vw] 110 (0, 0)) from (hg_.block g HSl.out.ty.lt (fun e => HSl.out.ty.ne (own_ty HSl.out.r e.symm) (by decide) rfl)).trans HSl.out.hb)
      have HKa := Aside0.mk (show wa.heap[kb]? = some (.cells #[.int .i64 item, .int .i64 pass] 138 (0, 0)) from (hg_.block kb (blk_lt HKl.out) (fun e => (show isTy 138 wl kb from ⟨_, HKl.out⟩).ne (own_ty HSl.out.r e.symm) (by decide) rfl)).trans HKl.out)
      have HOa := Aside0.mk ho
      have HGa := Aside0.mk hg_
      have HBB := Aside0.mk hb
      clear ho hb hg_ hat_ hHeld
      have fz6 : wa.frozen? ⟨g, 6, none⟩ = false := blk_frozen HBa.out 6
      have x6 : wa.cell? ⟨g, 6, none⟩ = some V.vr := (blk_cell HBa.out 6).trans rfl
      refine hK.out _ _ ⟨HBa.out, HBB.out, HKa.out⟩ (fun hHeld => ?_)
      clear hK K
      refine norm_ (a' := ?_) ?_ ?_
      rotate_left
      · show Act.put _ (some 66) _ = _
        simp only [Act.put, List.setIfInBounds_toArray, List.set_cons_zero, List.set_cons_succ, i64_w, i32_w]
        rfl
      refine pure_ (i := 20) (N := some 67) (v := ?_) (a' := ?_) #[true, true, true, true, true, true, true, true, true, true, true, true, true, true, true, true, true, true, true, true, true, false, false] rfl rfl (by kernel_rfl) (fun _ _ _ h => h) (Or.inl ⟨by rfl, ?_⟩) ?_ ?_
      rotate_left
      · intro w'
        go_simp
        with_reducible rfl
      rotate_left
      · simp only [Act.put, List.setIfInBounds_toArray, List.set_cons_zero, List.set_cons_succ, i64_w, i32_w]
        rfl
      refine pure_ (i := 21) (N := some 68) (v := ?_) (a' := ?_) #[true, true, true, true, true, true, true, true, true, true, true, true, true, true, true, true, true, true, true, true, true, true, false] rfl rfl (by kernel_rfl) (fun _ _ _ h => h) (Or.inl ⟨by rfl, ?_⟩) ?_ ?_
      rotate_left
      · intro w'
        go_simp
        with_reducible rfl
      rotate_left
      · simp only [Act.put, List.setIfInBounds_toArray, List.set_cons_zero, List.set_cons_succ, i64_w, i32_w]
        rfl
      refine last_ (i := 22) (N := none) #[true, true, true, true, true, true, true, true, true, true, true, true, true, true, true, true, true, true, true, true, true, true, true] rfl rfl (by kernel_rfl) (by decide) (fun K hK => ?_)
      refine snd_store_step (w1 := wa.setCell ⟨g, 6, none⟩ (.slice Aa (st.rows ++ [(⟨⟨nm, pass, frm, 0, 0⟩, (st.rows.length : Int)⟩ : SRow)]).length ca)) (by rfl) rfl ?hr ?_
      (case hr => first | (go_simp; done) | (go_simp; rfl))
      refine hK.out _ _ ?_
      clear hK K
      refine norm_ (a' := ?_) ?_ ?_
      rotate_left
      · show Act.put _ none undef = _
        simp only [Act.put]
        rfl
      refine done_ (by kernel_rfl) ?_
      obtain ⟨hq5, hi5⟩ := HSl.out.appRow HOa.out HBB.out HGa.out (by simp)
      obtain ⟨w5, hw5⟩ : ∃ w5, w5 = wa.setCell ⟨g, 6, none⟩ (.slice Aa (st.rows ++ [(⟨⟨nm, pass, frm, 0, 0⟩, (st.rows.length : Int)⟩ : SRow)]).length ca) := ⟨_, rfl⟩
      rw [← hw5] at hq5 hi5 ⊢
      have HK5 := Aside0.mk (show w5.heap[kb]? = some (.cells #[.int .i64 item, .int .i64 pass] 138 (0, 0)) by rw [hw5]; exact (Below.heap_setCell wa ⟨g, 6, none⟩ _ kb ((show isTy 138 wl kb from ⟨_, HKl.out⟩).ne HSl.out.ty (by decide))).trans HKa.out)
      have HSv := Aside0.mk hq5
      have HIBv := Aside0.mk (HIBl.out.trans hi5)
      clear hq5 hi5 hw5 HBa HOa HGa HBB fz6 x6 HLT HSl HIBl hHeld
      have x5 := HSv.out.c5
      have k0 : w5.cell? ⟨kb, 0, none⟩ = some (.int .i64 item) := (blk_cell HK5.out 0).trans rfl
      have k1 : w5.cell? ⟨kb, 1, none⟩ = some (.int .i64 pass) := (blk_cell HK5.out 1).trans rfl
      go_wp2
      go_still_tail 6, (by kernel_rfl)
      change wpList _ _ _ _ _ w5.drew
      obtain ⟨w6, hrun, hs6, hi6⟩ := (HSv.out.below (below_drew (Below.refl _ _))).storeOpen (show V.mn < (st.rows ++ [_]).length by have := HM.out; simp; omega) (show (st.rows ++ [_]).length < maxLen by have := HR.out; unfold maxLen; simp; omega) item pass (st.rows.length : Int) HIW.out HPW.out (wf64 (by omega) (by have := HR.out; omega))
      refine snd_skip (w1 := w6) rfl rfl ?hr ?_
      (case hr => show (execOp _ _).run Try.prog w5.drew = _; simp only [execOp]; go_simp; all_goals (first | exact hrun | (simp [hrun, Result.andThen]; done)))
      intro W2 hw7
      have HT2 := Aside0.mk (show SndTo w0 W g V bk q (giveOpen st item pass frm nm) W2 by rw [hw7]; exact ⟨_, hs6, rfl, rfl, rfl, HIBv.out.trans ((IntsBut.below (V := V) (below_drew (Below.refl _ w5))).trans hi6)⟩)
      clear hw7 hs6 hi6 hrun HSv HIBv x5 k0 k1 HK5
      try clear HOF HOL dN dN2 i1 i0
      have HNL2 := Aside0.mk (show st.rows.length < (giveOpen st item pass frm nm).rows.length by show _ < (st.rows ++ [_]).length; simp)
      have HROW := Aside0.mk (show (rowAt (giveOpen st item pass frm nm).rows st.rows.length).p.f3 = 0 by show (rowAt (st.rows ++ [_]) _).p.f3 = 0; unfold rowAt; rw [List.getD_eq_getElem?_getD, List.getElem?_append_right (Nat.le_refl _), Nat.sub_self]; rfl)
      have HSX := Aside0.mk (show (giveOpen st item pass frm nm).sent = st.sent ∧ (giveOpen st item pass frm nm).done = st.done from ⟨rfl, rfl⟩)
      obtain ⟨sx, hsx⟩ : ∃ sx, sx = giveOpen st item pass frm nm := ⟨_, rfl⟩
      rw [← hsx] at HX HT2 HNL2 HROW HSX
      clear hsx
      obtain ⟨n, hn⟩ : ∃ n, n = st.rows.length := ⟨_, rfl⟩
      rw [← hn] at HX HNL2 HROW ⊢
      have HNL := Aside0.mk (show n < sx.rows.length from HNL2.out)
      have i1 : (n : Int) < (sx.rows.length : Int) := by have := HNL.out; omega
      have i0 : (0 : Int) ≤ (n : Int) := by omega
      obtain ⟨gr2, c2, x62, y32, fz3⟩ : ∃ gr2 c2, W2.cell? ⟨g, 6, none⟩ = some (.slice (some ⟨gr2, 0, none⟩) sx.rows.length c2) ∧ W2.cell? ⟨gr2, n * 6 + 3, none⟩ = some (.int .i64 0) ∧ W2.frozen? ⟨gr2, n * 6 + 3, none⟩ = false := (by obtain ⟨V2, h2, _⟩ := HT2.out; obtain ⟨gr2, c2, _, x62, hrow, hfz⟩ := h2.row HNL.out; have y := hrow 3 _ rfl; rw [HROW.out] at y; exact ⟨gr2, c2, x62, y, hfz 3⟩)
      have ea2 : (⟨gr2, 0, none⟩ : Addr).add (n * 6) = ⟨gr2, n * 6, none⟩ := add_plain _ _
      clear hn
      by_cases hD : s5 = f1
      · have HD := Aside0.mk hD
        have dD : (s5 == f1) = true := beq_iff_eq.mpr hD
        clear hD
        go_wp2_with (first | ((with_reducible refine gate_store (t := 3) (p := 83) rfl ?_); refine store_event (t := 3) (p := 83) (v := .tmp 80) (w1 := W2.setCell ⟨gr2, n * 6 + 3, none⟩ (.int .i64 to_)) ?hg ?ho ?hn ?hr ?_; (case ho => rfl); (case hg => rfl); (case hn => rfl); (case hr => first | (go_simp; done) | (go_simp; rfl)); intro w3 hw3; have HT3 := Aside0.mk (show SndTo w0 W g V bk q (giveTo sx n to_) w3 by rw [hw3]; obtain ⟨V2, h2, e1, e2, e3, hib⟩ := HT2.out; obtain ⟨gq, cq, eq, x6q, _, _⟩ := h2.row HNL.out; rw [x62] at x6q; injection x6q with x6q; injection x6q with x6q _ _; injection x6q with x6q; injection x6q with x6q _ _; subst x6q; obtain ⟨h3, hi3⟩ := h2.setRowTo eq HNL.out to_; exact SndTo.step e1 e2 e3 hib h3 rfl rfl rfl hi3); clear hw3 x62 fz3 HT2; have HNL3 := Aside0.mk (show n < (giveTo sx n to_).rows.length by show n < (sx.rows.set n _).length; rw [List.length_set]; exact HNL.out); obtain ⟨sy, hsy⟩ : ∃ sy, sy = giveTo sx n to_ := ⟨_, rfl⟩; rw [← hsy] at HT3 HNL3; have HSY := Aside0.mk hsy; have HLY := Aside0.mk (show sy.rows.length = sx.rows.length by rw [hsy]; exact List.length_set ..); clear hsy; obtain ⟨gr3, c3, x63, z4, fz4⟩ : ∃ gr3 c3, w3.cell? ⟨g, 6, none⟩ = some (.slice (some ⟨gr3, 0, none⟩) sx.rows.length c3) ∧ w3.cell? ⟨gr3, n * 6 + 4, none⟩ = some (.int .i64 (rowAt sy.rows n).p.f4) ∧ w3.frozen? ⟨gr3, n * 6 + 4, none⟩ = false := (by obtain ⟨V3, h3, _⟩ := HT3.out; obtain ⟨gr3, c3, _, x63, hrow, hfz⟩ := h3.row HNL3.out; rw [HLY.out] at x63; exact ⟨gr3, c3, x63, hrow 4 _ rfl, hfz 4⟩); obtain ⟨f4, hf4⟩ : ∃ f4, f4 = (rowAt sy.rows n).p.f4 := ⟨_, rfl⟩; rw [← hf4] at z4; have HF4 := Aside0.mk hf4; clear hf4; have ea3 : (⟨gr3, 0, none⟩ : Addr).add (n * 6) = ⟨gr3, n * 6, none⟩ := add_plain _ _) | ((with_reducible refine gate_store (t := 3) (p := 97) rfl ?_); refine store_event (t := 3) (p := 97) (v := .tmp 94) (w1 := w3.setCell ⟨gr3, n * 6 + 4, none⟩ (.int .i64 (wrap64 (f4 + size)))) ?hg ?ho ?hn ?hr ?_; (case ho => rfl); (case hg => rfl); (case hn => rfl); (case hr => first | (go_simp; done) | (go_simp; rfl)); intro w4 hw4; have HT4 := Aside0.mk (show SndTo w0 W g V bk q (giveSize sy n size) w4 by rw [hw4]; obtain ⟨V2, h2, e1, e2, e3, hib⟩ := HT3.out; obtain ⟨gq, cq, eq, x6q, _, _⟩ := h2.row HNL3.out; rw [HLY.out, x63] at x6q; injection x6q with x6q; injection x6q with x6q _ _; injection x6q with x6q; injection x6q with x6q _ _; subst x6q; obtain ⟨h3, hi3⟩ := h2.setRowSize eq HNL3.out (wrap64 (f4 + size)); rw [HF4.out] at h3 hi3 ⊢; exact SndTo.step e1 e2 e3 hib h3 rfl rfl rfl hi3); clear hw4 x63 z4 fz4 HT3; have HSN := Aside0.mk (show (giveSize sy n size).sent = st.sent by show sy.sent = st.sent; rw [HSY.out]; exact HSX.out.1); have HDN := Aside0.mk (show (giveSize sy n size).done = st.done by show sy.done = st.done; rw [HSY.out]; exact HSX.out.2); obtain ⟨sz, hsz⟩ : ∃ sz, sz = giveSize sy n size := ⟨_, rfl⟩; rw [← hsz] at HT4 HSN HDN; have HSZ := Aside0.mk hsz; clear hsz; obtain ⟨gs, cs, x3s, y3s, fz3s, hvs⟩ : ∃ gs cs, w4.cell? ⟨g, 3, none⟩ = some (.slice (some ⟨gs, 0, none⟩) st.sent.length cs) ∧ w4.cell? ⟨gs, item.toNat, none⟩ = some (.int .i64 s0) ∧ w4.frozen? ⟨gs, item.toNat, none⟩ = false ∧ V.vs = .slice (some ⟨gs, 0, none⟩) st.sent.length cs := (by obtain ⟨V4, h4, e1, _⟩ := HT4.out; have hh := h4.sentAt item i3 (by rw [HSN.out]; exact i4); rw [HSN.out] at hh; obtain ⟨gs, cs, a1, a2, a3, a4⟩ := hh; rw [← HS0.out] at a3; exact ⟨gs, cs, a2, a3, a4, by rw [← e1]; exact a1⟩); have HVS := Aside0.mk hvs; clear hvs; have ea4 : (⟨gs, 0, none⟩ : Addr).add item.toNat = ⟨gs, item.toNat, none⟩ := add_plain _ _) | ((with_reducible refine gate_store (t := 3) (p := 107) rfl ?_); refine store_event (t := 3) (p := 107) (v := .tmp 106) (w1 := w4.setCell ⟨gs, item.toNat, none⟩ (.int .i64 (wrap64 (s0 + size)))) ?hg ?ho ?hn ?hr ?_; (case ho => rfl); (case hg => rfl); (case hn => rfl); (case hr => first | (go_simp; done) | (go_simp; rfl)); intro w5 hw5; have HT5 := Aside0.mk (show SndTo w0 W g V bk q (giveSent sz item size) w5 by rw [hw5]; obtain ⟨V2, h2, e1, e2, e3, hib⟩ := HT4.out; have h3 := h2.setSent (e1.trans HVS.out) item (wrap64 (s0 + size)); have hi3 := ints_set h2 (Or.inl (e1.trans HVS.out)) item.toNat (.int .i64 (wrap64 (s0 + size))); rw [HS0.out, ← HSN.out] at h3 hi3 ⊢; exact SndTo.step e1 e2 e3 hib h3 rfl rfl rfl hi3); clear hw5 x3s y3s fz3s HT4; have HSN5 := Aside0.mk (show (giveSent sz item size).sent = st.sent.set item.toNat s5 by show sz.sent.set item.toNat (wrap64 (rd sz.sent item + size)) = _; rw [HSN.out, ← HS0.out, ← HS5.out]); have HDN5 := Aside0.mk (show (giveSent sz item size).done = st.done from HDN.out); obtain ⟨su, hsu⟩ : ∃ su, su = giveSent sz item size := ⟨_, rfl⟩; rw [← hsu] at HT5 HSN5 HDN5; have HSU := Aside0.mk hsu; clear hsu; have hrd5 := rd_set_same (l := st.sent) (v := s5) i3 i4; obtain ⟨As, cs5, x3u, y3u⟩ : ∃ As cs5, w5.cell? ⟨g, 3, none⟩ = some (.slice (some As) st.sent.length cs5) ∧ w5.cell? (As.add item.toNat) = some (.int .i64 s5) := (by obtain ⟨V5, h5, _⟩ := HT5.out; obtain ⟨A, c, _, a2, a3⟩ := h5.c3; have hlen : su.sent.length = st.sent.length := (by rw [HSN5.out, List.length_set]); obtain ⟨ad, ea, hx⟩ := Kd.at_int a3 item i3 (by rw [hlen]; exact i4); subst ea; rw [HSN5.out, hrd5] at hx; rw [hlen] at a2; exact ⟨ad, c, a2, hx⟩); obtain ⟨aq, cq, x1u, y1u⟩ : ∃ aq cq, w5.cell? ⟨g, 1, none⟩ = some (.slice (some aq) q.length cq) ∧ w5.cell? ⟨(aq.add (item.toNat * 5)).block, (aq.add (item.toNat * 5)).off + 1, none⟩ = some (.int .i64 f1) := (by obtain ⟨V5, h5, _⟩ := HT5.out; obtain ⟨ad, ea, _, hy, _⟩ := at_T63 (Kd.C_below h5.qC h5.bel) item i3 i2; have a1 := h5.c1; rw [ea] at a1; rw [← HF1.out] at hy; exact ⟨ad, V5.cq, a1, hy⟩); clear hrd5))
        go_quiet (fail)
        obtain ⟨w6, hw6⟩ : ∃ w6, w6 = w5.drewN nq := ⟨_, rfl⟩
        rw [← hw6]
        have HT6 := Aside0.mk (show SndTo w0 W g V bk q su w6 by rw [hw6]; obtain ⟨V5, h5, e1, e2, e3, hib⟩ := HT5.out; exact SndTo.step e1 e2 e3 hib (h5.drewN nq) rfl rfl rfl (IntsBut.below (pw_below_drewN (Below.refl _ _) nq)))
        have HRD := Aside0.mk (show rd su.sent item = s5 by rw [HSN5.out]; exact rd_set_same i3 i4)
        clear hw6 HT5 x3u y3u x1u y1u
        obtain ⟨gd, cd, x4, y4d, fz5, hvd⟩ : ∃ gd cd, w6.cell? ⟨g, 4, none⟩ = some (.slice (some ⟨gd, 0, none⟩) st.done.length cd) ∧ w6.cell? ⟨gd, item.toNat, none⟩ = some (.int .i64 (rd st.done item)) ∧ w6.frozen? ⟨gd, item.toNat, none⟩ = false ∧ V.vd = .slice (some ⟨gd, 0, none⟩) st.done.length cd := (by obtain ⟨V5, h5, _, e2, _⟩ := HT6.out; have hh := h5.doneAt item i3 (by rw [HDN5.out]; exact i5); rw [HDN5.out] at hh; obtain ⟨gd, cd, a1, a2, a4, a3⟩ := hh; exact ⟨gd, cd, a2, a4, a3, by rw [← e2]; exact a1⟩)
        have HVD := Aside0.mk hvd
        clear hvd
        have ea6 : (⟨gd, 0, none⟩ : Addr).add item.toNat = ⟨gd, item.toNat, none⟩ := add_plain _ _
        go_wp2
        go_end0
        refine ⟨rfl, ?_⟩
        rw [HX.out]
        unfold giveEnd
        rw [← HSY.out, ← HSZ.out, ← HSU.out]
        simp only [HRD.out]
        rw [← HF1.out, if_pos HD.out]
        obtain ⟨V2, h2, e1, e2, e3, hib⟩ := HT6.out
        have h3 := h2.setDone (e2.trans HVD.out) item to_
        have hi3 := ints_set h2 (Or.inr (e2.trans HVD.out)) item.toNat (.int .i64 to_)
        exact SndTo.step e1 e2 e3 hib h3 rfl rfl rfl hi3
      · have HD := Aside0.mk hD
        have dD : (s5 == f1) = false := beq_eq_false_iff_ne.mpr hD
        clear hD
        go_wp2_with (first | ((with_reducible refine gate_store (t := 3) (p := 83) rfl ?_); refine store_event (t := 3) (p := 83) (v := .tmp 80) (w1 := W2.setCell ⟨gr2, n * 6 + 3, none⟩ (.int .i64 to_)) ?hg ?ho ?hn ?hr ?_; (case ho => rfl); (case hg => rfl); (case hn => rfl); (case hr => first | (go_simp; done) | (go_simp; rfl)); intro w3 hw3; have HT3 := Aside0.mk (show SndTo w0 W g V bk q (giveTo sx n to_) w3 by rw [hw3]; obtain ⟨V2, h2, e1, e2, e3, hib⟩ := HT2.out; obtain ⟨gq, cq, eq, x6q, _, _⟩ := h2.row HNL.out; rw [x62] at x6q; injection x6q with x6q; injection x6q with x6q _ _; injection x6q with x6q; injection x6q with x6q _ _; subst x6q; obtain ⟨h3, hi3⟩ := h2.setRowTo eq HNL.out to_; exact SndTo.step e1 e2 e3 hib h3 rfl rfl rfl hi3); clear hw3 x62 fz3 HT2; have HNL3 := Aside0.mk (show n < (giveTo sx n to_).rows.length by show n < (sx.rows.set n _).length; rw [List.length_set]; exact HNL.out); obtain ⟨sy, hsy⟩ : ∃ sy, sy = giveTo sx n to_ := ⟨_, rfl⟩; rw [← hsy] at HT3 HNL3; have HSY := Aside0.mk hsy; have HLY := Aside0.mk (show sy.rows.length = sx.rows.length by rw [hsy]; exact List.length_set ..); clear hsy; obtain ⟨gr3, c3, x63, z4, fz4⟩ : ∃ gr3 c3, w3.cell? ⟨g, 6, none⟩ = some (.slice (some ⟨gr3, 0, none⟩) sx.rows.length c3) ∧ w3.cell? ⟨gr3, n * 6 + 4, none⟩ = some (.int .i64 (rowAt sy.rows n).p.f4) ∧ w3.frozen? ⟨gr3, n * 6 + 4, none⟩ = false := (by obtain ⟨V3, h3, _⟩ := HT3.out; obtain ⟨gr3, c3, _, x63, hrow, hfz⟩ := h3.row HNL3.out; rw [HLY.out] at x63; exact ⟨gr3, c3, x63, hrow 4 _ rfl, hfz 4⟩); obtain ⟨f4, hf4⟩ : ∃ f4, f4 = (rowAt sy.rows n).p.f4 := ⟨_, rfl⟩; rw [← hf4] at z4; have HF4 := Aside0.mk hf4; clear hf4; have ea3 : (⟨gr3, 0, none⟩ : Addr).add (n * 6) = ⟨gr3, n * 6, none⟩ := add_plain _ _) | ((with_reducible refine gate_store (t := 3) (p := 97) rfl ?_); refine store_event (t := 3) (p := 97) (v := .tmp 94) (w1 := w3.setCell ⟨gr3, n * 6 + 4, none⟩ (.int .i64 (wrap64 (f4 + size)))) ?hg ?ho ?hn ?hr ?_; (case ho => rfl); (case hg => rfl); (case hn => rfl); (case hr => first | (go_simp; done) | (go_simp; rfl)); intro w4 hw4; have HT4 := Aside0.mk (show SndTo w0 W g V bk q (giveSize sy n size) w4 by rw [hw4]; obtain ⟨V2, h2, e1, e2, e3, hib⟩ := HT3.out; obtain ⟨gq, cq, eq, x6q, _, _⟩ := h2.row HNL3.out; rw [HLY.out, x63] at x6q; injection x6q with x6q; injection x6q with x6q _ _; injection x6q with x6q; injection x6q with x6q _ _; subst x6q; obtain ⟨h3, hi3⟩ := h2.setRowSize eq HNL3.out (wrap64 (f4 + size)); rw [HF4.out] at h3 hi3 ⊢; exact SndTo.step e1 e2 e3 hib h3 rfl rfl rfl hi3); clear hw4 x63 z4 fz4 HT3; have HSN := Aside0.mk (show (giveSize sy n size).sent = st.sent by show sy.sent = st.sent; rw [HSY.out]; exact HSX.out.1); have HDN := Aside0.mk (show (giveSize sy n size).done = st.done by show sy.done = st.done; rw [HSY.out]; exact HSX.out.2); obtain ⟨sz, hsz⟩ : ∃ sz, sz = giveSize sy n size := ⟨_, rfl⟩; rw [← hsz] at HT4 HSN HDN; have HSZ := Aside0.mk hsz; clear hsz; obtain ⟨gs, cs, x3s, y3s, fz3s, hvs⟩ : ∃ gs cs, w4.cell? ⟨g, 3, none⟩ = some (.slice (some ⟨gs, 0, none⟩) st.sent.length cs) ∧ w4.cell? ⟨gs, item.toNat, none⟩ = some (.int .i64 s0) ∧ w4.frozen? ⟨gs, item.toNat, none⟩ = false ∧ V.vs = .slice (some ⟨gs, 0, none⟩) st.sent.length cs := (by obtain ⟨V4, h4, e1, _⟩ := HT4.out; have hh := h4.sentAt item i3 (by rw [HSN.out]; exact i4); rw [HSN.out] at hh; obtain ⟨gs, cs, a1, a2, a3, a4⟩ := hh; rw [← HS0.out] at a3; exact ⟨gs, cs, a2, a3, a4, by rw [← e1]; exact a1⟩); have HVS := Aside0.mk hvs; clear hvs; have ea4 : (⟨gs, 0, none⟩ : Addr).add item.toNat = ⟨gs, item.toNat, none⟩ := add_plain _ _) | ((with_reducible refine gate_store (t := 3) (p := 107) rfl ?_); refine store_event (t := 3) (p := 107) (v := .tmp 106) (w1 := w4.setCell ⟨gs, item.toNat, none⟩ (.int .i64 (wrap64 (s0 + size)))) ?hg ?ho ?hn ?hr ?_; (case ho => rfl); (case hg => rfl); (case hn => rfl); (case hr => first | (go_simp; done) | (go_simp; rfl)); intro w5 hw5; have HT5 := Aside0.mk (show SndTo w0 W g V bk q (giveSent sz item size) w5 by rw [hw5]; obtain ⟨V2, h2, e1, e2, e3, hib⟩ := HT4.out; have h3 := h2.setSent (e1.trans HVS.out) item (wrap64 (s0 + size)); have hi3 := ints_set h2 (Or.inl (e1.trans HVS.out)) item.toNat (.int .i64 (wrap64 (s0 + size))); rw [HS0.out, ← HSN.out] at h3 hi3 ⊢; exact SndTo.step e1 e2 e3 hib h3 rfl rfl rfl hi3); clear hw5 x3s y3s fz3s HT4; have HSN5 := Aside0.mk (show (giveSent sz item size).sent = st.sent.set item.toNat s5 by show sz.sent.set item.toNat (wrap64 (rd sz.sent item + size)) = _; rw [HSN.out, ← HS0.out, ← HS5.out]); have HDN5 := Aside0.mk (show (giveSent sz item size).done = st.done from HDN.out); obtain ⟨su, hsu⟩ : ∃ su, su = giveSent sz item size := ⟨_, rfl⟩; rw [← hsu] at HT5 HSN5 HDN5; have HSU := Aside0.mk hsu; clear hsu; have hrd5 := rd_set_same (l := st.sent) (v := s5) i3 i4; obtain ⟨As, cs5, x3u, y3u⟩ : ∃ As cs5, w5.cell? ⟨g, 3, none⟩ = some (.slice (some As) st.sent.length cs5) ∧ w5.cell? (As.add item.toNat) = some (.int .i64 s5) := (by obtain ⟨V5, h5, _⟩ := HT5.out; obtain ⟨A, c, _, a2, a3⟩ := h5.c3; have hlen : su.sent.length = st.sent.length := (by rw [HSN5.out, List.length_set]); obtain ⟨ad, ea, hx⟩ := Kd.at_int a3 item i3 (by rw [hlen]; exact i4); subst ea; rw [HSN5.out, hrd5] at hx; rw [hlen] at a2; exact ⟨ad, c, a2, hx⟩); obtain ⟨aq, cq, x1u, y1u⟩ : ∃ aq cq, w5.cell? ⟨g, 1, none⟩ = some (.slice (some aq) q.length cq) ∧ w5.cell? ⟨(aq.add (item.toNat * 5)).block, (aq.add (item.toNat * 5)).off + 1, none⟩ = some (.int .i64 f1) := (by obtain ⟨V5, h5, _⟩ := HT5.out; obtain ⟨ad, ea, _, hy, _⟩ := at_T63 (Kd.C_below h5.qC h5.bel) item i3 i2; have a1 := h5.c1; rw [ea] at a1; rw [← HF1.out] at hy; exact ⟨ad, V5.cq, a1, hy⟩); clear hrd5))
        go_quiet (fail)
        obtain ⟨w6, hw6⟩ : ∃ w6, w6 = w5.drewN nq := ⟨_, rfl⟩
        rw [← hw6]
        have HT6 := Aside0.mk (show SndTo w0 W g V bk q su w6 by rw [hw6]; obtain ⟨V5, h5, e1, e2, e3, hib⟩ := HT5.out; exact SndTo.step e1 e2 e3 hib (h5.drewN nq) rfl rfl rfl (IntsBut.below (pw_below_drewN (Below.refl _ _) nq)))
        have HRD := Aside0.mk (show rd su.sent item = s5 by rw [HSN5.out]; exact rd_set_same i3 i4)
        clear hw6 HT5 x3u y3u x1u y1u
        go_wp2
        go_end0
        refine ⟨rfl, ?_⟩
        rw [HX.out]
        unfold giveEnd
        rw [← HSY.out, ← HSZ.out, ← HSU.out]
        simp only [HRD.out]
        rw [← HF1.out, if_neg HD.out]
        exact HT6.out
    · rw [Bool.not_eq_true] at hH
      rw [hH] at hl
      obtain ⟨fo, hfo⟩ : ∃ fo, fo = openD st.opn item pass := ⟨_, rfl⟩
      rw [← hfo] at hl
      clear hF hH hfo HN
      go_enter Try.func91, Try.ntmps91
      go_wp2
      rw [← HW1.out, ← HKB.out]
      clear HW1 HKB
      go_quiet (fail)
      obtain ⟨W2, hW2⟩ : ∃ W2, W2 = W1.drewN nq := ⟨_, rfl⟩
      rw [← hW2]
      have h2 : SndAt w0 W2 g V bk q st := by rw [hW2]; exact HS.out.drewN nq
      have HIB2 := Aside0.mk (HIB.out.trans (show IntsBut V W1 W2 by rw [hW2]; exact IntsBut.below (pw_below_drewN (Below.refl _ _) nq)))
      obtain ⟨Ar, cr, evr, x6⟩ := h2.c6
      have x5 := h2.c5
      have x1 := h2.c1
      obtain ⟨aq, eq, y0, _⟩ := at_T63 (Kd.C_below h2.qC h2.bel) item i3 i2
      rw [eq] at x1
      rw [← HNM.out] at y0
      have HK2 := Aside0.mk (show W2.heap[kb]? = some (.cells #[.int .i64 item, .int .i64 pass] 138 (0, 0)) by rw [hW2]; exact HKK.out)
      have HS2 := Aside0.mk h2
      have HEV := Aside0.mk evr
      have HEQ := Aside0.mk eq
      have HSdq := Aside0.mk h2.qC
      clear h2 hW2 hl h0 k0 k1 HS HIB evr eq y0 x5
      go_wp2
      refine start_ (n := 23) (S := fun w' => w'.heap[g]? = some (.cells #[.slice V.Ab bk.length V.cb, .slice V.Aq q.length V.cq, V.vo, V.vs, V.vd, .map (some V.gm), V.vr, V.vw] 110 (0, 0)) ∧ Below w0.heap.size w0 w' ∧ w'.heap[kb]? = some (.cells #[.int .i64 item, .int .i64 pass] 138 (0, 0))) (ds := [22]) #[false, false, false, false, false, false, false, false, false, false, false, false, false, false, false, false, false, false, false, false, false, false, false] (by kernel_rfl) rfl rfl ⟨HS2.out.hb, (HS2.out.below (below_drew (Below.refl _ _))).bel, HK2.out⟩ (fun hHeld => ?_)
      obtain ⟨wd, hwd⟩ : ∃ wd, wd = W2.drew := ⟨_, rfl⟩
      have hwd' : ({ W2 with drawn := W2.drawn + 1 } : World) = wd := hwd.symm
      have HKd := Aside0.mk (show wd.heap[kb]? = some (.cells #[.int .i64 item, .int .i64 pass] 138 (0, 0)) by rw [hwd]; exact HK2.out)
      have HSd := Aside0.mk (show SndAt w0 wd g V bk q st by rw [hwd]; exact HS2.out.below (below_drew (Below.refl _ _)))
      have HIBd := Aside0.mk (HIB2.out.trans (show IntsBut V W2 wd by rw [hwd]; exact IntsBut.below (below_drew (Below.refl _ _))))
      rw [← hwd] at hHeld ⊢
      clear HIB2 HS2 hwd' x6 x1
      refine pure_ (i := 0) (N := some 47) (v := ?_) (a' := ?_) #[true, false, false, false, false, false, false, false, false, false, false, false, false, false, false, false, false, false, false, false, false, false, false] rfl rfl (by kernel_rfl) (fun _ _ _ h => h) (Or.inl ⟨by rfl, ?_⟩) ?_ ?_
      rotate_left
      · intro w'
        go_simp
        with_reducible rfl
      rotate_left
      · simp only [Act.put, List.setIfInBounds_toArray, List.set_cons_zero, List.set_cons_succ, i64_w, i32_w]
        rfl
      refine pure_ (i := 1) (N := some 48) (v := ?_) (a' := ?_) #[true, true, false, false, false, false, false, false, false, false, false, false, false, false, false, false, false, false, false, false, false, false, false] rfl rfl (by kernel_rfl) (fun _ _ _ h => h) (Or.inl ⟨by rfl, ?_⟩) ?_ ?_
      rotate_left
      · intro w'
        go_simp
        with_reducible rfl
      rotate_left
      · simp only [Act.put, List.setIfInBounds_toArray, List.set_cons_zero, List.set_cons_succ, i64_w, i32_w]
        rfl
      refine pure_ (i := 2) (N := some 49) (v := ?_) (a' := ?_) #[true, true, true, false, false, false, false, false, false, false, false, false, false, false, false, false, false, false, false, false, false, false, false] rfl rfl (by kernel_rfl) (fun _ _ _ h => h) (Or.inl ⟨by rfl, ?_⟩) ?_ ?_
      rotate_left
      · intro w'
        go_simp
        with_reducible rfl
      rotate_left
      · simp only [Act.put, List.setIfInBounds_toArray, List.set_cons_zero, List.set_cons_succ, i64_w, i32_w]
        rfl
      refine pure_ (i := 3) (N := some 50) (v := ?_) (a' := ?_) #[true, true, true, true, false, false, false, false, false, false, false, false, false, false, false, false, false, false, false, false, false, false, false] rfl rfl (by kernel_rfl) (fun _ _ _ h => h) (Or.inl ⟨by rfl, ?_⟩) ?_ ?_
      rotate_left
      · intro w'
        go_simp
        with_reducible rfl
      rotate_left
      · simp only [Act.put, List.setIfInBounds_toArray, List.set_cons_zero, List.set_cons_succ, i64_w, i32_w]
        rfl
      refine take_ (i := 4) (N := some 51) (v := .slice Ar st.rows.length cr) (a' := ?_) #[true, true, true, true, true, false, false, false, false, false, false, false, false, false, false, false, false, false, false, false, false, false, false] rfl rfl (by kernel_rfl) (fun _ _ _ h => h) (Or.inl ⟨by rfl, ?_⟩) hHeld ?_ ?_
      · rintro w' ⟨sb, sB, sk⟩
        have x6 : w'.cell? ⟨g, 6, none⟩ = some V.vr := (blk_cell sb 6).trans rfl
        rw [HEV.out] at x6
        go_simp
        all_goals (first | done | with_reducible rfl)
      rotate_left
      · simp only [Act.put, List.setIfInBounds_toArray, List.set_cons_zero, List.set_cons_succ, i64_w, i32_w]
        rfl
      refine pure_ (i := 5) (N := some 52) (v := ?_) (a' := ?_) #[true, true, true, true, true, true, false, false, false, false, false, false, false, false, false, false, false, false, false, false, false, false, false] rfl rfl (by kernel_rfl) (fun _ _ _ h => h) (Or.inl ⟨by rfl, ?_⟩) ?_ ?_
      rotate_left
      · intro w'
        go_simp
        with_reducible rfl
      rotate_left
      · simp only [Act.put, List.setIfInBounds_toArray, List.set_cons_zero, List.set_cons_succ, i64_w, i32_w]
        rfl
      refine pure_ (i := 6) (N := some 53) (v := ?_) (a' := ?_) #[true, true, true, true, true, true, true, false, false, false, false, false, false, false, false, false, false, false, false, false, false, false, false] rfl rfl (by kernel_rfl) (fun _ _ _ h => h) (Or.inl ⟨by rfl, ?_⟩) ?_ ?_
      rotate_left
      · intro w'
        go_simp
        with_reducible rfl
      rotate_left
      · simp only [Act.put, List.setIfInBounds_toArray, List.set_cons_zero, List.set_cons_succ, i64_w, i32_w]
        rfl
      refine pure_ (i := 7) (N := some 54) (v := ?_) (a' := ?_) #[true, true, true, true, true, true, true, true, false, false, false, false, false, false, false, false, false, false, false, false, false, false, false] rfl rfl (by kernel_rfl) (fun _ _ _ h => h) (Or.inl ⟨by rfl, ?_⟩) ?_ ?_
      rotate_left
      · intro w'
        go_simp
        with_reducible rfl
      rotate_left
      · simp only [Act.put, List.setIfInBounds_toArray, List.set_cons_zero, List.set_cons_succ, i64_w, i32_w]
        rfl
      refine take_ (i := 8) (N := some 55) (v := .slice (some aq) q.length V.cq) (a' := ?_) #[true, true, true, true, true, true, true, true, true, false, false, false, false, false, false, false, false, false, false, false, false, false, false] rfl rfl (by kernel_rfl) (fun _ _ _ h => h) (Or.inl ⟨by rfl, ?_⟩) hHeld ?_ ?_
      · rintro w' ⟨sb, sB, sk⟩
        have x1 : w'.cell? ⟨g, 1, none⟩ = some (.slice V.Aq q.length V.cq) := (blk_cell sb 1).trans rfl
        rw [HEQ.out] at x1
        go_simp
        all_goals (first | done | with_reducible rfl)
      rotate_left
      · simp only [Act.put, List.setIfInBounds_toArray, List.set_cons_zero, List.set_cons_succ, i64_w, i32_w]
        rfl
      refine pure_ (i := 9) (N := some 56) (v := ?_) (a' := ?_) #[true, true, true, true, true, true, true, true, true, true, false, false, false, false, false, false, false, false, false, false, false, false, false] rfl rfl (by kernel_rfl) (fun _ _ _ h => h) (Or.inl ⟨by rfl, ?_⟩) ?_ ?_
      rotate_left
      · intro w'
        go_simp
        with_reducible rfl
      rotate_left
      · simp only [Act.put, List.setIfInBounds_toArray, List.set_cons_zero, List.set_cons_succ, i64_w, i32_w]
        rfl
      refine pure_ (i := 10) (N := some 57) (v := ?_) (a' := ?_) #[true, true, true, true, true, true, true, true, true, true, true, false, false, false, false, false, false, false, false, false, false, false, false] rfl rfl (by kernel_rfl) (fun _ _ _ h => h) (Or.inl ⟨by rfl, ?_⟩) ?_ ?_
      rotate_left
      · intro w'
        go_simp
        with_reducible rfl
      rotate_left
      · simp only [Act.put, List.setIfInBounds_toArray, List.set_cons_zero, List.set_cons_succ, i64_w, i32_w]
        rfl
      refine pure_ (i := 11) (N := some 58) (v := ?_) (a' := ?_) #[true, true, true, true, true, true, true, true, true, true, true, true, false, false, false, false, false, false, false, false, false, false, false] rfl rfl (by kernel_rfl) (fun _ _ _ h => h) (Or.inl ⟨by rfl, ?_⟩) ?_ ?_
      rotate_left
      · intro w'
        go_simp
        with_reducible rfl
      rotate_left
      · simp only [Act.put, List.setIfInBounds_toArray, List.set_cons_zero, List.set_cons_succ, i64_w, i32_w]
        rfl
      refine take_ (i := 12) (N := some 59) (v := .string nm) (a' := ?_) #[true, true, true, true, true, true, true, true, true, true, true, true, true, false, false, false, false, false, false, false, false, false, false] rfl rfl (by kernel_rfl) (fun _ _ _ h => h) (Or.inl ⟨by rfl, ?_⟩) hHeld ?_ ?_
      · rintro w' ⟨sb, sB, sk⟩
        have y0 : w'.cell? (aq.add (item.toNat * 5)) = some (.string nm) := name_held HSdq.out HEQ.out HNM.out i3 i2 sB
        go_simp
        all_goals (first | done | with_reducible rfl)
      rotate_left
      · simp only [Act.put, List.setIfInBounds_toArray, List.set_cons_zero, List.set_cons_succ, i64_w, i32_w]
        rfl
      refine pure_ (i := 13) (N := some 60) (v := ?_) (a' := ?_) #[true, true, true, true, true, true, true, true, true, true, true, true, true, true, false, false, false, false, false, false, false, false, false] rfl rfl (by kernel_rfl) (fun _ _ _ h => h) (Or.inl ⟨by rfl, ?_⟩) ?_ ?_
      rotate_left
      · intro w'
        go_simp
        with_reducible rfl
      rotate_left
      · simp only [Act.put, List.setIfInBounds_toArray, List.set_cons_zero, List.set_cons_succ, i64_w, i32_w]
        rfl
      refine pure_ (i := 14) (N := some 61) (v := ?_) (a' := ?_) #[true, true, true, true, true, true, true, true, true, true, true, true, true, true, true, false, false, false, false, false, false, false, false] rfl rfl (by kernel_rfl) (fun _ _ _ h => h) (Or.inl ⟨by rfl, ?_⟩) ?_ ?_
      rotate_left
      · intro w'
        go_simp
        with_reducible rfl
      rotate_left
      · simp only [Act.put, List.setIfInBounds_toArray, List.set_cons_zero, List.set_cons_succ, i64_w, i32_w]
        rfl
      refine pure_ (i := 15) (N := some 62) (v := ?_) (a' := ?_) #[true, true, true, true, true, true, true, true, true, true, true, true, true, true, true, true, false, false, false, false, false, false, false] rfl rfl (by kernel_rfl) (fun _ _ _ h => h) (Or.inl ⟨by rfl, ?_⟩) ?_ ?_
      rotate_left
      · intro w'
        go_simp
        with_reducible rfl
      rotate_left
      · simp only [Act.put, List.setIfInBounds_toArray, List.set_cons_zero, List.set_cons_succ, i64_w, i32_w]
        rfl
      refine pure_ (i := 16) (N := some 63) (v := ?_) (a' := ?_) #[true, true, true, true, true, true, true, true, true, true, true, true, true, true, true, true, true, false, false, false, false, false, false] rfl rfl (by kernel_rfl) (fun _ _ _ h => h) (Or.inl ⟨by rfl, ?_⟩) ?_ ?_
      rotate_left
      · intro w'
        go_simp
        with_reducible rfl
      rotate_left
      · simp only [Act.put, List.setIfInBounds_toArray, List.set_cons_zero, List.set_cons_succ, i64_w, i32_w]
        rfl
      refine pure_ (i := 17) (N := some 64) (v := ?_) (a' := ?_) #[true, true, true, true, true, true, true, true, true, true, true, true, true, true, true, true, true, true, false, false, false, false, false] rfl rfl (by kernel_rfl) (fun _ _ _ h => h) (Or.inl ⟨by rfl, ?_⟩) ?_ ?_
      rotate_left
      · intro w'
        go_simp
        with_reducible rfl
      rotate_left
      · simp only [Act.put, List.setIfInBounds_toArray, List.set_cons_zero, List.set_cons_succ, i64_w, i32_w]
        rfl
      refine one_ (i := 18) (N := some 65) #[true, true, true, true, true, true, true, true, true, true, true, true, true, true, true, true, true, true, true, false, false, false, false] rfl rfl (by kernel_rfl) (by decide) (fun K hK => ?_)
      refine Kd.R_lit_step kRow (w0 := w0) w0.heap.size 130 ?hg (N := 65) ?hd (xs := [(⟨⟨nm, pass, frm, 0, 0⟩, (st.rows.length : Int)⟩ : SRow)]) (inner := [.string nm, .int .i64 pass, .int .i64 frm, .int .i64 0, .int .i64 0, .int .i64 (st.rows.length : Int)]) (ok := fun _ => True) (okp := fun _ => True) ?hr ?hp (fun _ hk => hk) trivial HSd.out.bel HSd.out.bel.size (by simp) ?_
      (case hd => rfl)
      (case hg => rfl)
      (case hr => first | (go_simp; done) | (go_simp; rfl))
      (case hp => exact Kd.reps_append (ps := []) (cs := []) (Reps.none _ _) (reps_one6 (kRow_mkM _ _ _ (⟨⟨nm, pass, frm, 0, 0⟩, (st.rows.length : Int)⟩ : SRow))))
      intro vl wl ho hb hg_ hnew_
      have HSl := Aside0.mk (show SndAt w0 wl g V bk q st from HSd.out.grown hg_ hb (fun k e => by cases e))
      have HIBl := Aside0.mk (HIBd.out.trans (show IntsBut V wd wl from ⟨hg_.size, fun k hk _ _ => hg_.block k hk.lt (by simp)⟩))
      have HKl := Aside0.mk (show wl.heap[kb]? = some (.cells #[.int .i64 item, .int .i64 pass] 138 (0, 0)) from (hg_.block kb (blk_lt HKd.out) (by simp)).trans HKd.out)
      have HLT := Aside0.mk ho
      clear ho hb hg_ hnew_ HSd HIBd hHeld
      obtain ⟨Al, cl, el⟩ := Kd.R_slice HLT.out
      subst el
      refine hK.out _ _ ⟨HSl.out.hb, HSl.out.bel, HKl.out⟩ (fun hHeld => ?_)
      clear hK K
      refine norm_ (a' := ?_) ?_ ?_
      rotate_left
      · show Act.put _ (some 65) _ = _
        simp only [Act.put, List.setIfInBounds_toArray, List.set_cons_zero, List.set_cons_succ, i64_w, i32_w]
        rfl
      refine one_ (i := 19) (N := some 66) #[true, true, true, true, true, true, true, true, true, true, true, true, true, true, true, true, true, true, true, true, false, false, false] rfl rfl (by kernel_rfl) (by decide) (fun K hK => ?_)
      refine Kd.R_append_rows_step kRow (w0 := w0) w0.heap.size (by rfl) (.tmp 51) (.tmp 65) 107 130 zRowV 56 rfl Try.underlying107 rowInfo rfl (by decide) (by omega) V.vr st.rows [(⟨⟨nm, pass, frm, 0, 0⟩, (st.rows.length : Int)⟩ : SRow)] _ _ _ (fun _ => True) (fun _ => False) (by rw [HEV.out]; rfl) rfl HSl.out.r (Kd.R_reads' HLT.out).2.2 (fun _ _ h => h) (fun _ h => h.elim) (fun _ _ => trivial) HSl.out.bel HSl.out.bel.size (by have := HR.out; simp; omega) ?_
      intro va wa ho hb hg_ hat_
      obtain ⟨Aa, ca, ea⟩ := Kd.R_slice ho
      subst ea
      have HBa := Aside0.mk (show wa.heap[g]? = some (.cells #[.slice V.Ab bk.length V.cb, .slice V.Aq q.length V.cq, V.vo, V.vs, V.vd, .map (some V.gm), V.vr, V.vw] 110 (0, 0)) from (hg_.block g HSl.out.ty.lt (fun e => HSl.out.ty.ne (own_ty HSl.out.r e.symm) (by decide) rfl)).trans HSl.out.hb)
      have HKa := Aside0.mk (show wa.heap[kb]? = some (.cells #[.int .i64 item, .int .i64 pass] 138 (0, 0)) from (hg_.block kb (blk_lt HKl.out) (fun e => (show isTy 138 wl kb from ⟨_, HKl.out⟩).ne (own_ty HSl.out.r e.symm) (by decide) rfl)).trans HKl.out)
      have HOa := Aside0.mk ho
      have HGa := Aside0.mk hg_
      have HBB := Aside0.mk hb
      clear ho hb hg_ hat_ hHeld
      have fz6 : wa.frozen? ⟨g, 6, none⟩ = false := blk_frozen HBa.out 6
      have x6 : wa.cell? ⟨g, 6, none⟩ = some V.vr := (blk_cell HBa.out 6).trans rfl
      refine hK.out _ _ ⟨HBa.out, HBB.out, HKa.out⟩ (fun hHeld => ?_)
      clear hK K
      refine norm_ (a' := ?_) ?_ ?_
      rotate_left
      · show Act.put _ (some 66) _ = _
        simp only [Act.put, List.setIfInBounds_toArray, List.set_cons_zero, List.set_cons_succ, i64_w, i32_w]
        rfl
      refine pure_ (i := 20) (N := some 67) (v := ?_) (a' := ?_) #[true, true, true, true, true, true, true, true, true, true, true, true, true, true, true, true, true, true, true, true, true, false, false] rfl rfl (by kernel_rfl) (fun _ _ _ h => h) (Or.inl ⟨by rfl, ?_⟩) ?_ ?_
      rotate_left
      · intro w'
        go_simp
        with_reducible rfl
      rotate_left
      · simp only [Act.put, List.setIfInBounds_toArray, List.set_cons_zero, List.set_cons_succ, i64_w, i32_w]
        rfl
      refine pure_ (i := 21) (N := some 68) (v := ?_) (a' := ?_) #[true, true, true, true, true, true, true, true, true, true, true, true, true, true, true, true, true, true, true, true, true, true, false] rfl rfl (by kernel_rfl) (fun _ _ _ h => h) (Or.inl ⟨by rfl, ?_⟩) ?_ ?_
      rotate_left
      · intro w'
        go_simp
        with_reducible rfl
      rotate_left
      · simp only [Act.put, List.setIfInBounds_toArray, List.set_cons_zero, List.set_cons_succ, i64_w, i32_w]
        rfl
      refine last_ (i := 22) (N := none) #[true, true, true, true, true, true, true, true, true, true, true, true, true, true, true, true, true, true, true, true, true, true, true] rfl rfl (by kernel_rfl) (by decide) (fun K hK => ?_)
      refine snd_store_step (w1 := wa.setCell ⟨g, 6, none⟩ (.slice Aa (st.rows ++ [(⟨⟨nm, pass, frm, 0, 0⟩, (st.rows.length : Int)⟩ : SRow)]).length ca)) (by rfl) rfl ?hr ?_
      (case hr => first | (go_simp; done) | (go_simp; rfl))
      refine hK.out _ _ ?_
      clear hK K
      refine norm_ (a' := ?_) ?_ ?_
      rotate_left
      · show Act.put _ none undef = _
        simp only [Act.put]
        rfl
      refine done_ (by kernel_rfl) ?_
      obtain ⟨hq5, hi5⟩ := HSl.out.appRow HOa.out HBB.out HGa.out (by simp)
      obtain ⟨w5, hw5⟩ : ∃ w5, w5 = wa.setCell ⟨g, 6, none⟩ (.slice Aa (st.rows ++ [(⟨⟨nm, pass, frm, 0, 0⟩, (st.rows.length : Int)⟩ : SRow)]).length ca) := ⟨_, rfl⟩
      rw [← hw5] at hq5 hi5 ⊢
      have HK5 := Aside0.mk (show w5.heap[kb]? = some (.cells #[.int .i64 item, .int .i64 pass] 138 (0, 0)) by rw [hw5]; exact (Below.heap_setCell wa ⟨g, 6, none⟩ _ kb ((show isTy 138 wl kb from ⟨_, HKl.out⟩).ne HSl.out.ty (by decide))).trans HKa.out)
      have HSv := Aside0.mk hq5
      have HIBv := Aside0.mk (HIBl.out.trans hi5)
      clear hq5 hi5 hw5 HBa HOa HGa HBB fz6 x6 HLT HSl HIBl hHeld
      have x5 := HSv.out.c5
      have k0 : w5.cell? ⟨kb, 0, none⟩ = some (.int .i64 item) := (blk_cell HK5.out 0).trans rfl
      have k1 : w5.cell? ⟨kb, 1, none⟩ = some (.int .i64 pass) := (blk_cell HK5.out 1).trans rfl
      go_wp2
      go_still_tail 6, (by kernel_rfl)
      change wpList _ _ _ _ _ w5.drew
      obtain ⟨w6, hrun, hs6, hi6⟩ := (HSv.out.below (below_drew (Below.refl _ _))).storeOpen (show V.mn < (st.rows ++ [_]).length by have := HM.out; simp; omega) (show (st.rows ++ [_]).length < maxLen by have := HR.out; unfold maxLen; simp; omega) item pass (st.rows.length : Int) HIW.out HPW.out (wf64 (by omega) (by have := HR.out; omega))
      refine snd_skip (w1 := w6) rfl rfl ?hr ?_
      (case hr => show (execOp _ _).run Try.prog w5.drew = _; simp only [execOp]; go_simp; all_goals (first | exact hrun | (simp [hrun, Result.andThen]; done)))
      intro W2 hw7
      have HT2 := Aside0.mk (show SndTo w0 W g V bk q (giveOpen st item pass frm nm) W2 by rw [hw7]; exact ⟨_, hs6, rfl, rfl, rfl, HIBv.out.trans ((IntsBut.below (V := V) (below_drew (Below.refl _ w5))).trans hi6)⟩)
      clear hw7 hs6 hi6 hrun HSv HIBv x5 k0 k1 HK5
      try clear HOF HOL dN dN2 i1 i0
      have HNL2 := Aside0.mk (show st.rows.length < (giveOpen st item pass frm nm).rows.length by show _ < (st.rows ++ [_]).length; simp)
      have HROW := Aside0.mk (show (rowAt (giveOpen st item pass frm nm).rows st.rows.length).p.f3 = 0 by show (rowAt (st.rows ++ [_]) _).p.f3 = 0; unfold rowAt; rw [List.getD_eq_getElem?_getD, List.getElem?_append_right (Nat.le_refl _), Nat.sub_self]; rfl)
      have HSX := Aside0.mk (show (giveOpen st item pass frm nm).sent = st.sent ∧ (giveOpen st item pass frm nm).done = st.done from ⟨rfl, rfl⟩)
      obtain ⟨sx, hsx⟩ : ∃ sx, sx = giveOpen st item pass frm nm := ⟨_, rfl⟩
      rw [← hsx] at HX HT2 HNL2 HROW HSX
      clear hsx
      obtain ⟨n, hn⟩ : ∃ n, n = st.rows.length := ⟨_, rfl⟩
      rw [← hn] at HX HNL2 HROW ⊢
      have HNL := Aside0.mk (show n < sx.rows.length from HNL2.out)
      have i1 : (n : Int) < (sx.rows.length : Int) := by have := HNL.out; omega
      have i0 : (0 : Int) ≤ (n : Int) := by omega
      obtain ⟨gr2, c2, x62, y32, fz3⟩ : ∃ gr2 c2, W2.cell? ⟨g, 6, none⟩ = some (.slice (some ⟨gr2, 0, none⟩) sx.rows.length c2) ∧ W2.cell? ⟨gr2, n * 6 + 3, none⟩ = some (.int .i64 0) ∧ W2.frozen? ⟨gr2, n * 6 + 3, none⟩ = false := (by obtain ⟨V2, h2, _⟩ := HT2.out; obtain ⟨gr2, c2, _, x62, hrow, hfz⟩ := h2.row HNL.out; have y := hrow 3 _ rfl; rw [HROW.out] at y; exact ⟨gr2, c2, x62, y, hfz 3⟩)
      have ea2 : (⟨gr2, 0, none⟩ : Addr).add (n * 6) = ⟨gr2, n * 6, none⟩ := add_plain _ _
      clear hn
      by_cases hD : s5 = f1
      · have HD := Aside0.mk hD
        have dD : (s5 == f1) = true := beq_iff_eq.mpr hD
        clear hD
        go_wp2_with (first | ((with_reducible refine gate_store (t := 3) (p := 83) rfl ?_); refine store_event (t := 3) (p := 83) (v := .tmp 80) (w1 := W2.setCell ⟨gr2, n * 6 + 3, none⟩ (.int .i64 to_)) ?hg ?ho ?hn ?hr ?_; (case ho => rfl); (case hg => rfl); (case hn => rfl); (case hr => first | (go_simp; done) | (go_simp; rfl)); intro w3 hw3; have HT3 := Aside0.mk (show SndTo w0 W g V bk q (giveTo sx n to_) w3 by rw [hw3]; obtain ⟨V2, h2, e1, e2, e3, hib⟩ := HT2.out; obtain ⟨gq, cq, eq, x6q, _, _⟩ := h2.row HNL.out; rw [x62] at x6q; injection x6q with x6q; injection x6q with x6q _ _; injection x6q with x6q; injection x6q with x6q _ _; subst x6q; obtain ⟨h3, hi3⟩ := h2.setRowTo eq HNL.out to_; exact SndTo.step e1 e2 e3 hib h3 rfl rfl rfl hi3); clear hw3 x62 fz3 HT2; have HNL3 := Aside0.mk (show n < (giveTo sx n to_).rows.length by show n < (sx.rows.set n _).length; rw [List.length_set]; exact HNL.out); obtain ⟨sy, hsy⟩ : ∃ sy, sy = giveTo sx n to_ := ⟨_, rfl⟩; rw [← hsy] at HT3 HNL3; have HSY := Aside0.mk hsy; have HLY := Aside0.mk (show sy.rows.length = sx.rows.length by rw [hsy]; exact List.length_set ..); clear hsy; obtain ⟨gr3, c3, x63, z4, fz4⟩ : ∃ gr3 c3, w3.cell? ⟨g, 6, none⟩ = some (.slice (some ⟨gr3, 0, none⟩) sx.rows.length c3) ∧ w3.cell? ⟨gr3, n * 6 + 4, none⟩ = some (.int .i64 (rowAt sy.rows n).p.f4) ∧ w3.frozen? ⟨gr3, n * 6 + 4, none⟩ = false := (by obtain ⟨V3, h3, _⟩ := HT3.out; obtain ⟨gr3, c3, _, x63, hrow, hfz⟩ := h3.row HNL3.out; rw [HLY.out] at x63; exact ⟨gr3, c3, x63, hrow 4 _ rfl, hfz 4⟩); obtain ⟨f4, hf4⟩ : ∃ f4, f4 = (rowAt sy.rows n).p.f4 := ⟨_, rfl⟩; rw [← hf4] at z4; have HF4 := Aside0.mk hf4; clear hf4; have ea3 : (⟨gr3, 0, none⟩ : Addr).add (n * 6) = ⟨gr3, n * 6, none⟩ := add_plain _ _) | ((with_reducible refine gate_store (t := 3) (p := 97) rfl ?_); refine store_event (t := 3) (p := 97) (v := .tmp 94) (w1 := w3.setCell ⟨gr3, n * 6 + 4, none⟩ (.int .i64 (wrap64 (f4 + size)))) ?hg ?ho ?hn ?hr ?_; (case ho => rfl); (case hg => rfl); (case hn => rfl); (case hr => first | (go_simp; done) | (go_simp; rfl)); intro w4 hw4; have HT4 := Aside0.mk (show SndTo w0 W g V bk q (giveSize sy n size) w4 by rw [hw4]; obtain ⟨V2, h2, e1, e2, e3, hib⟩ := HT3.out; obtain ⟨gq, cq, eq, x6q, _, _⟩ := h2.row HNL3.out; rw [HLY.out, x63] at x6q; injection x6q with x6q; injection x6q with x6q _ _; injection x6q with x6q; injection x6q with x6q _ _; subst x6q; obtain ⟨h3, hi3⟩ := h2.setRowSize eq HNL3.out (wrap64 (f4 + size)); rw [HF4.out] at h3 hi3 ⊢; exact SndTo.step e1 e2 e3 hib h3 rfl rfl rfl hi3); clear hw4 x63 z4 fz4 HT3; have HSN := Aside0.mk (show (giveSize sy n size).sent = st.sent by show sy.sent = st.sent; rw [HSY.out]; exact HSX.out.1); have HDN := Aside0.mk (show (giveSize sy n size).done = st.done by show sy.done = st.done; rw [HSY.out]; exact HSX.out.2); obtain ⟨sz, hsz⟩ : ∃ sz, sz = giveSize sy n size := ⟨_, rfl⟩; rw [← hsz] at HT4 HSN HDN; have HSZ := Aside0.mk hsz; clear hsz; obtain ⟨gs, cs, x3s, y3s, fz3s, hvs⟩ : ∃ gs cs, w4.cell? ⟨g, 3, none⟩ = some (.slice (some ⟨gs, 0, none⟩) st.sent.length cs) ∧ w4.cell? ⟨gs, item.toNat, none⟩ = some (.int .i64 s0) ∧ w4.frozen? ⟨gs, item.toNat, none⟩ = false ∧ V.vs = .slice (some ⟨gs, 0, none⟩) st.sent.length cs := (by obtain ⟨V4, h4, e1, _⟩ := HT4.out; have hh := h4.sentAt item i3 (by rw [HSN.out]; exact i4); rw [HSN.out] at hh; obtain ⟨gs, cs, a1, a2, a3, a4⟩ := hh; rw [← HS0.out] at a3; exact ⟨gs, cs, a2, a3, a4, by rw [← e1]; exact a1⟩); have HVS := Aside0.mk hvs; clear hvs; have ea4 : (⟨gs, 0, none⟩ : Addr).add item.toNat = ⟨gs, item.toNat, none⟩ := add_plain _ _) | ((with_reducible refine gate_store (t := 3) (p := 107) rfl ?_); refine store_event (t := 3) (p := 107) (v := .tmp 106) (w1 := w4.setCell ⟨gs, item.toNat, none⟩ (.int .i64 (wrap64 (s0 + size)))) ?hg ?ho ?hn ?hr ?_; (case ho => rfl); (case hg => rfl); (case hn => rfl); (case hr => first | (go_simp; done) | (go_simp; rfl)); intro w5 hw5; have HT5 := Aside0.mk (show SndTo w0 W g V bk q (giveSent sz item size) w5 by rw [hw5]; obtain ⟨V2, h2, e1, e2, e3, hib⟩ := HT4.out; have h3 := h2.setSent (e1.trans HVS.out) item (wrap64 (s0 + size)); have hi3 := ints_set h2 (Or.inl (e1.trans HVS.out)) item.toNat (.int .i64 (wrap64 (s0 + size))); rw [HS0.out, ← HSN.out] at h3 hi3 ⊢; exact SndTo.step e1 e2 e3 hib h3 rfl rfl rfl hi3); clear hw5 x3s y3s fz3s HT4; have HSN5 := Aside0.mk (show (giveSent sz item size).sent = st.sent.set item.toNat s5 by show sz.sent.set item.toNat (wrap64 (rd sz.sent item + size)) = _; rw [HSN.out, ← HS0.out, ← HS5.out]); have HDN5 := Aside0.mk (show (giveSent sz item size).done = st.done from HDN.out); obtain ⟨su, hsu⟩ : ∃ su, su = giveSent sz item size := ⟨_, rfl⟩; rw [← hsu] at HT5 HSN5 HDN5; have HSU := Aside0.mk hsu; clear hsu; have hrd5 := rd_set_same (l := st.sent) (v := s5) i3 i4; obtain ⟨As, cs5, x3u, y3u⟩ : ∃ As cs5, w5.cell? ⟨g, 3, none⟩ = some (.slice (some As) st.sent.length cs5) ∧ w5.cell? (As.add item.toNat) = some (.int .i64 s5) := (by obtain ⟨V5, h5, _⟩ := HT5.out; obtain ⟨A, c, _, a2, a3⟩ := h5.c3; have hlen : su.sent.length = st.sent.length := (by rw [HSN5.out, List.length_set]); obtain ⟨ad, ea, hx⟩ := Kd.at_int a3 item i3 (by rw [hlen]; exact i4); subst ea; rw [HSN5.out, hrd5] at hx; rw [hlen] at a2; exact ⟨ad, c, a2, hx⟩); obtain ⟨aq, cq, x1u, y1u⟩ : ∃ aq cq, w5.cell? ⟨g, 1, none⟩ = some (.slice (some aq) q.length cq) ∧ w5.cell? ⟨(aq.add (item.toNat * 5)).block, (aq.add (item.toNat * 5)).off + 1, none⟩ = some (.int .i64 f1) := (by obtain ⟨V5, h5, _⟩ := HT5.out; obtain ⟨ad, ea, _, hy, _⟩ := at_T63 (Kd.C_below h5.qC h5.bel) item i3 i2; have a1 := h5.c1; rw [ea] at a1; rw [← HF1.out] at hy; exact ⟨ad, V5.cq, a1, hy⟩); clear hrd5))
        go_quiet (fail)
        obtain ⟨w6, hw6⟩ : ∃ w6, w6 = w5.drewN nq := ⟨_, rfl⟩
        rw [← hw6]
        have HT6 := Aside0.mk (show SndTo w0 W g V bk q su w6 by rw [hw6]; obtain ⟨V5, h5, e1, e2, e3, hib⟩ := HT5.out; exact SndTo.step e1 e2 e3 hib (h5.drewN nq) rfl rfl rfl (IntsBut.below (pw_below_drewN (Below.refl _ _) nq)))
        have HRD := Aside0.mk (show rd su.sent item = s5 by rw [HSN5.out]; exact rd_set_same i3 i4)
        clear hw6 HT5 x3u y3u x1u y1u
        obtain ⟨gd, cd, x4, y4d, fz5, hvd⟩ : ∃ gd cd, w6.cell? ⟨g, 4, none⟩ = some (.slice (some ⟨gd, 0, none⟩) st.done.length cd) ∧ w6.cell? ⟨gd, item.toNat, none⟩ = some (.int .i64 (rd st.done item)) ∧ w6.frozen? ⟨gd, item.toNat, none⟩ = false ∧ V.vd = .slice (some ⟨gd, 0, none⟩) st.done.length cd := (by obtain ⟨V5, h5, _, e2, _⟩ := HT6.out; have hh := h5.doneAt item i3 (by rw [HDN5.out]; exact i5); rw [HDN5.out] at hh; obtain ⟨gd, cd, a1, a2, a4, a3⟩ := hh; exact ⟨gd, cd, a2, a4, a3, by rw [← e2]; exact a1⟩)
        have HVD := Aside0.mk hvd
        clear hvd
        have ea6 : (⟨gd, 0, none⟩ : Addr).add item.toNat = ⟨gd, item.toNat, none⟩ := add_plain _ _
        go_wp2
        go_end0
        refine ⟨rfl, ?_⟩
        rw [HX.out]
        unfold giveEnd
        rw [← HSY.out, ← HSZ.out, ← HSU.out]
        simp only [HRD.out]
        rw [← HF1.out, if_pos HD.out]
        obtain ⟨V2, h2, e1, e2, e3, hib⟩ := HT6.out
        have h3 := h2.setDone (e2.trans HVD.out) item to_
        have hi3 := ints_set h2 (Or.inr (e2.trans HVD.out)) item.toNat (.int .i64 to_)
        exact SndTo.step e1 e2 e3 hib h3 rfl rfl rfl hi3
      · have HD := Aside0.mk hD
        have dD : (s5 == f1) = false := beq_eq_false_iff_ne.mpr hD
        clear hD
        go_wp2_with (first | ((with_reducible refine gate_store (t := 3) (p := 83) rfl ?_); refine store_event (t := 3) (p := 83) (v := .tmp 80) (w1 := W2.setCell ⟨gr2, n * 6 + 3, none⟩ (.int .i64 to_)) ?hg ?ho ?hn ?hr ?_; (case ho => rfl); (case hg => rfl); (case hn => rfl); (case hr => first | (go_simp; done) | (go_simp; rfl)); intro w3 hw3; have HT3 := Aside0.mk (show SndTo w0 W g V bk q (giveTo sx n to_) w3 by rw [hw3]; obtain ⟨V2, h2, e1, e2, e3, hib⟩ := HT2.out; obtain ⟨gq, cq, eq, x6q, _, _⟩ := h2.row HNL.out; rw [x62] at x6q; injection x6q with x6q; injection x6q with x6q _ _; injection x6q with x6q; injection x6q with x6q _ _; subst x6q; obtain ⟨h3, hi3⟩ := h2.setRowTo eq HNL.out to_; exact SndTo.step e1 e2 e3 hib h3 rfl rfl rfl hi3); clear hw3 x62 fz3 HT2; have HNL3 := Aside0.mk (show n < (giveTo sx n to_).rows.length by show n < (sx.rows.set n _).length; rw [List.length_set]; exact HNL.out); obtain ⟨sy, hsy⟩ : ∃ sy, sy = giveTo sx n to_ := ⟨_, rfl⟩; rw [← hsy] at HT3 HNL3; have HSY := Aside0.mk hsy; have HLY := Aside0.mk (show sy.rows.length = sx.rows.length by rw [hsy]; exact List.length_set ..); clear hsy; obtain ⟨gr3, c3, x63, z4, fz4⟩ : ∃ gr3 c3, w3.cell? ⟨g, 6, none⟩ = some (.slice (some ⟨gr3, 0, none⟩) sx.rows.length c3) ∧ w3.cell? ⟨gr3, n * 6 + 4, none⟩ = some (.int .i64 (rowAt sy.rows n).p.f4) ∧ w3.frozen? ⟨gr3, n * 6 + 4, none⟩ = false := (by obtain ⟨V3, h3, _⟩ := HT3.out; obtain ⟨gr3, c3, _, x63, hrow, hfz⟩ := h3.row HNL3.out; rw [HLY.out] at x63; exact ⟨gr3, c3, x63, hrow 4 _ rfl, hfz 4⟩); obtain ⟨f4, hf4⟩ : ∃ f4, f4 = (rowAt sy.rows n).p.f4 := ⟨_, rfl⟩; rw [← hf4] at z4; have HF4 := Aside0.mk hf4; clear hf4; have ea3 : (⟨gr3, 0, none⟩ : Addr).add (n * 6) = ⟨gr3, n * 6, none⟩ := add_plain _ _) | ((with_reducible refine gate_store (t := 3) (p := 97) rfl ?_); refine store_event (t := 3) (p := 97) (v := .tmp 94) (w1 := w3.setCell ⟨gr3, n * 6 + 4, none⟩ (.int .i64 (wrap64 (f4 + size)))) ?hg ?ho ?hn ?hr ?_; (case ho => rfl); (case hg => rfl); (case hn => rfl); (case hr => first | (go_simp; done) | (go_simp; rfl)); intro w4 hw4; have HT4 := Aside0.mk (show SndTo w0 W g V bk q (giveSize sy n size) w4 by rw [hw4]; obtain ⟨V2, h2, e1, e2, e3, hib⟩ := HT3.out; obtain ⟨gq, cq, eq, x6q, _, _⟩ := h2.row HNL3.out; rw [HLY.out, x63] at x6q; injection x6q with x6q; injection x6q with x6q _ _; injection x6q with x6q; injection x6q with x6q _ _; subst x6q; obtain ⟨h3, hi3⟩ := h2.setRowSize eq HNL3.out (wrap64 (f4 + size)); rw [HF4.out] at h3 hi3 ⊢; exact SndTo.step e1 e2 e3 hib h3 rfl rfl rfl hi3); clear hw4 x63 z4 fz4 HT3; have HSN := Aside0.mk (show (giveSize sy n size).sent = st.sent by show sy.sent = st.sent; rw [HSY.out]; exact HSX.out.1); have HDN := Aside0.mk (show (giveSize sy n size).done = st.done by show sy.done = st.done; rw [HSY.out]; exact HSX.out.2); obtain ⟨sz, hsz⟩ : ∃ sz, sz = giveSize sy n size := ⟨_, rfl⟩; rw [← hsz] at HT4 HSN HDN; have HSZ := Aside0.mk hsz; clear hsz; obtain ⟨gs, cs, x3s, y3s, fz3s, hvs⟩ : ∃ gs cs, w4.cell? ⟨g, 3, none⟩ = some (.slice (some ⟨gs, 0, none⟩) st.sent.length cs) ∧ w4.cell? ⟨gs, item.toNat, none⟩ = some (.int .i64 s0) ∧ w4.frozen? ⟨gs, item.toNat, none⟩ = false ∧ V.vs = .slice (some ⟨gs, 0, none⟩) st.sent.length cs := (by obtain ⟨V4, h4, e1, _⟩ := HT4.out; have hh := h4.sentAt item i3 (by rw [HSN.out]; exact i4); rw [HSN.out] at hh; obtain ⟨gs, cs, a1, a2, a3, a4⟩ := hh; rw [← HS0.out] at a3; exact ⟨gs, cs, a2, a3, a4, by rw [← e1]; exact a1⟩); have HVS := Aside0.mk hvs; clear hvs; have ea4 : (⟨gs, 0, none⟩ : Addr).add item.toNat = ⟨gs, item.toNat, none⟩ := add_plain _ _) | ((with_reducible refine gate_store (t := 3) (p := 107) rfl ?_); refine store_event (t := 3) (p := 107) (v := .tmp 106) (w1 := w4.setCell ⟨gs, item.toNat, none⟩ (.int .i64 (wrap64 (s0 + size)))) ?hg ?ho ?hn ?hr ?_; (case ho => rfl); (case hg => rfl); (case hn => rfl); (case hr => first | (go_simp; done) | (go_simp; rfl)); intro w5 hw5; have HT5 := Aside0.mk (show SndTo w0 W g V bk q (giveSent sz item size) w5 by rw [hw5]; obtain ⟨V2, h2, e1, e2, e3, hib⟩ := HT4.out; have h3 := h2.setSent (e1.trans HVS.out) item (wrap64 (s0 + size)); have hi3 := ints_set h2 (Or.inl (e1.trans HVS.out)) item.toNat (.int .i64 (wrap64 (s0 + size))); rw [HS0.out, ← HSN.out] at h3 hi3 ⊢; exact SndTo.step e1 e2 e3 hib h3 rfl rfl rfl hi3); clear hw5 x3s y3s fz3s HT4; have HSN5 := Aside0.mk (show (giveSent sz item size).sent = st.sent.set item.toNat s5 by show sz.sent.set item.toNat (wrap64 (rd sz.sent item + size)) = _; rw [HSN.out, ← HS0.out, ← HS5.out]); have HDN5 := Aside0.mk (show (giveSent sz item size).done = st.done from HDN.out); obtain ⟨su, hsu⟩ : ∃ su, su = giveSent sz item size := ⟨_, rfl⟩; rw [← hsu] at HT5 HSN5 HDN5; have HSU := Aside0.mk hsu; clear hsu; have hrd5 := rd_set_same (l := st.sent) (v := s5) i3 i4; obtain ⟨As, cs5, x3u, y3u⟩ : ∃ As cs5, w5.cell? ⟨g, 3, none⟩ = some (.slice (some As) st.sent.length cs5) ∧ w5.cell? (As.add item.toNat) = some (.int .i64 s5) := (by obtain ⟨V5, h5, _⟩ := HT5.out; obtain ⟨A, c, _, a2, a3⟩ := h5.c3; have hlen : su.sent.length = st.sent.length := (by rw [HSN5.out, List.length_set]); obtain ⟨ad, ea, hx⟩ := Kd.at_int a3 item i3 (by rw [hlen]; exact i4); subst ea; rw [HSN5.out, hrd5] at hx; rw [hlen] at a2; exact ⟨ad, c, a2, hx⟩); obtain ⟨aq, cq, x1u, y1u⟩ : ∃ aq cq, w5.cell? ⟨g, 1, none⟩ = some (.slice (some aq) q.length cq) ∧ w5.cell? ⟨(aq.add (item.toNat * 5)).block, (aq.add (item.toNat * 5)).off + 1, none⟩ = some (.int .i64 f1) := (by obtain ⟨V5, h5, _⟩ := HT5.out; obtain ⟨ad, ea, _, hy, _⟩ := at_T63 (Kd.C_below h5.qC h5.bel) item i3 i2; have a1 := h5.c1; rw [ea] at a1; rw [← HF1.out] at hy; exact ⟨ad, V5.cq, a1, hy⟩); clear hrd5))
        go_quiet (fail)
        obtain ⟨w6, hw6⟩ : ∃ w6, w6 = w5.drewN nq := ⟨_, rfl⟩
        rw [← hw6]
        have HT6 := Aside0.mk (show SndTo w0 W g V bk q su w6 by rw [hw6]; obtain ⟨V5, h5, e1, e2, e3, hib⟩ := HT5.out; exact SndTo.step e1 e2 e3 hib (h5.drewN nq) rfl rfl rfl (IntsBut.below (pw_below_drewN (Below.refl _ _) nq)))
        have HRD := Aside0.mk (show rd su.sent item = s5 by rw [HSN5.out]; exact rd_set_same i3 i4)
        clear hw6 HT5 x3u y3u x1u y1u
        go_wp2
        go_end0
        refine ⟨rfl, ?_⟩
        rw [HX.out]
        unfold giveEnd
        rw [← HSY.out, ← HSZ.out, ← HSU.out]
        simp only [HRD.out]
        rw [← HF1.out, if_neg HD.out]
        exact HT6.out
end Go.Proofs.Ytbngmblgkkdhpaa.Q
