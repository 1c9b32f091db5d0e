-- Made by wip/tools/claimp.py of this session's texts; Lean checks it.
import Derived.Test.YtbngmblgkkdhpaaC8Q0
import Derived.Test.YtbngmblgkkdhpaaC8Gs5
import Derived.Test.YtbngmblgkkdhpaaC8Gs6
import Derived.Test.YtbngmblgkkdhpaaC8Gs9
namespace Go.Proofs.Ytbngmblgkkdhpaa.Q
open Go.RowKit Go.Proofs.YtbngmblgkkdhpaaW.PrintWords Go.Proofs.YtbngmblgkkdhpaaW.PrintLast Go.Proofs.YtbngmblgkkdhpaaW.PrintMore
attribute [local go_sem] max2_int min2_int max_two min_two max_three min_three max_four min_four
open Go.Proofs.Ytbngmblgkkdhpaa.Base
attribute [local go_sem high] str_leq str_gtr str_geq
set_option linter.unusedVariables false
set_option linter.unusedSimpArgs false
theorem bytes_inj {a b : ByteArray} (h : a.toList = b.toList) : a = b := by
  rw [ByteArray.toList_eq, ByteArray.toList_eq] at h
  cases a
  cases b
  simp at h
  simpa using h
/-- Rows of whole numbers that are none of the run's stay. -/
def IntsButR (V : RV) (W W' : World) : Prop := W.heap.size ≤ W'.heap.size ∧ ∀ k, isTy 3 W k → V.vl.ownBlock ≠ some k → V.vd.ownBlock ≠ some k → W'.heap[k]? = W.heap[k]?
theorem IntsButR.below {V : RV} {W W' : World} (h : Below W.heap.size W W') : IntsButR V W W' := ⟨h.size, fun k hk _ _ => h.block k hk.lt⟩
theorem IntsButR.trans {V : RV} {W W1 W2 : World} (h : IntsButR V W W1) (k : IntsButR V W1 W2) : IntsButR V W W2 := ⟨Nat.le_trans h.1 k.1, fun b hb h1 h2 => by
  have e := h.2 b hb h1 h2
  obtain ⟨cs, hc⟩ := hb
  exact (k.2 b ⟨cs, e.trans hc⟩ h1 h2).trans e⟩
def RunTo (w0 W : World) (g : Nat) (V : RV) (ps : List S33) (bk : List Int) (q : List S63) (st : RX) (W' : World) : Prop :=
  ∃ V', RunAt w0 W' g V' ps bk q st ∧ V'.vl = V.vl ∧ V'.vd = V.vd ∧ V'.Ap = V.Ap ∧ V'.Aq = V.Aq ∧ V'.Ab = V.Ab ∧ IntsButR V W W'
def zPart : S61 := ⟨⟨#[]⟩, 0, 0, 0, 0⟩
def partAt (l : List S61) (i : Nat) : S61 := l.getD i zPart
def partCells (x : S61) : List Value := [.string x.f0, .int .i64 x.f1, .int .i64 x.f2, .int .i64 x.f3, .int .i64 x.f4]
def partTo (x : S61) (to_ : Int) : S61 := ⟨x.f0, x.f1, x.f2, to_, x.f4⟩
def partSize (x : S61) (s : Int) : S61 := ⟨x.f0, x.f1, x.f2, x.f3, s⟩
section
variable {w0 W W' : World} {g : Nat} {V : RV} {ps : List S33} {bk : List Int} {q : List S63} {st : RX}
theorem RunAt.part (h : RunAt w0 W g V ps bk q st) {i : Nat} (hi : i < st.parts.length) : ∃ gr c, V.vp = .slice (some ⟨gr, 0, none⟩) st.parts.length c ∧ W.cell? ⟨g, 5, none⟩ = some (.slice (some ⟨gr, 0, none⟩) st.parts.length c) ∧
    (∀ j u, (partCells (partAt st.parts i))[j]? = some u → W.cell? ⟨gr, i * 5 + j, none⟩ = some u) ∧ ∀ j, W.frozen? ⟨gr, i * 5 + j, none⟩ = false := by
  obtain ⟨gr, cw, e, _⟩ := Kd.R_form h.p (by omega)
  have hr := h.p
  rw [e] at hr
  obtain ⟨c, hcl, hM, hcc, hfr⟩ := Kd.R_elem hr zPart (i : Int) (by omega) (by omega)
  rw [Int.toNat_natCast] at hM hcc hfr
  have hcs := k61_openM hM
  exact ⟨gr, cw, e, e ▸ (blk_cell h.hb 5).trans rfl, fun j u hu => hcc j u (by rw [hcs]; exact hu), hfr⟩
theorem RunAt.setPart (h : RunAt w0 W g V ps bk q st) {gr n c : Nat} (hv : V.vp = .slice (some ⟨gr, 0, none⟩) n c) {i : Nat} (hi : i < st.parts.length) {jj : Nat} (hjj : jj < 5) {u : Value} {x' : S61} (hx : (partCells (partAt st.parts i)).take jj ++ [u] ++ (partCells (partAt st.parts i)).drop (jj + 1) = partCells x') :
    RunAt w0 (W.setCell ⟨gr, i * 5 + jj, none⟩ u) g V ps bk q { st with parts := st.parts.set i x' } ∧ IntsButR V W (W.setCell ⟨gr, i * 5 + jj, none⟩ u) := by
  have hr := h.p
  rw [hv] at hr
  have hn : n = st.parts.length := (Kd.R_reads' hr).1
  obtain ⟨cs, hcl, hM, hcc, _⟩ := Kd.R_elem hr zPart (i : Int) (by omega) (by omega)
  have hcs := k61_openM hM
  rw [Int.toNat_natCast] at hcs
  have hseg := Kd.R_seg (okp := fun _ => False) (seg := [u]) (j := jj) (x' := x') hr (i : Int) (by omega) (by omega) hcl hcc (by show jj + 1 ≤ 5; omega) (by
    rw [hcs]
    have e2 : (partCells (partAt st.parts i)).take jj ++ [u] ++ (partCells (partAt st.parts i)).drop (jj + [u].length) = partCells x' := hx
    show k61.M W w0.heap.size (fun _ => False) x' ((partCells (partAt st.parts i)).take jj ++ [u] ++ (partCells (partAt st.parts i)).drop (jj + [u].length))
    rw [e2]
    exact k61_mkM _ _ _ _) (fun _ hk => hk.elim)
  rw [Int.toNat_natCast] at hseg
  have e0 : W.setCells gr (i * k61.sz + jj) [u] = W.setCell ⟨gr, i * 5 + jj, none⟩ u := rfl
  rw [e0] at hseg
  obtain ⟨hr', hf⟩ := hseg
  have hty : isTy 61 W gr := own_ty hr rfl
  have hbase : w0.heap.size ≤ gr := Kd.R_base hr gr rfl
  have other : ∀ {t k}, isTy t W k → t ≠ 61 → (W.setCell ⟨gr, i * 5 + jj, none⟩ u).heap[k]? = W.heap[k]? := fun {t k} hk ht => hf.block k hk.lt (fun e => hk.ne hty ht (Option.some.inj e))
  exact ⟨⟨(other h.ty (by decide)).trans h.hb, h.hg, h.psC, h.psc, h.bkC, h.bkc, h.qC, h.qc, pw_below_grown h.bel _ h.bel.size hf (fun k e => by cases e; exact hbase), flat_move rfl h.l (fun k hk => other (own_ty h.l hk) (by decide)), flat_move rfl h.d (fun k hk => other (own_ty h.d hk) (by decide)), h.ld, by rw [hv]; exact hr'⟩, ⟨hf.size, fun k hk _ _ => other hk (by decide)⟩⟩
theorem RunAt.setPartTo (h : RunAt w0 W g V ps bk q st) {gr n c : Nat} (hv : V.vp = .slice (some ⟨gr, 0, none⟩) n c) {i : Nat} (hi : i < st.parts.length) (to_ : Int) :
    RunAt w0 (W.setCell ⟨gr, i * 5 + 3, none⟩ (.int .i64 to_)) g V ps bk q { st with parts := st.parts.set i (partTo (partAt st.parts i) to_) } ∧ IntsButR V W (W.setCell ⟨gr, i * 5 + 3, none⟩ (.int .i64 to_)) := h.setPart hv hi (by decide) rfl
theorem RunAt.setPartSize (h : RunAt w0 W g V ps bk q st) {gr n c : Nat} (hv : V.vp = .slice (some ⟨gr, 0, none⟩) n c) {i : Nat} (hi : i < st.parts.length) (s : Int) :
    RunAt w0 (W.setCell ⟨gr, i * 5 + 4, none⟩ (.int .i64 s)) g V ps bk q { st with parts := st.parts.set i (partSize (partAt st.parts i) s) } ∧ IntsButR V W (W.setCell ⟨gr, i * 5 + 4, none⟩ (.int .i64 s)) := h.setPart hv hi (by decide) rfl
/-- An append to the parts, told in the run. -/
theorem RunAt.appPart (h : RunAt w0 W g V ps bk q st) {W1 : World} {v1 : Value} {parts1 : List S61} (hr : k61.R 61 W1 w0.heap.size (fun _ => True) v1 parts1) (hB : Below w0.heap.size w0 W1) (hf : W.grownBy W1 V.vp.ownBlock) :
    RunAt w0 (W1.setCell ⟨g, 5, none⟩ v1) g { V with vp := v1 } ps bk q { st with parts := parts1 } ∧ IntsButR V W (W1.setCell ⟨g, 5, none⟩ v1) := by
  have hne : ∀ {t k}, isTy t W k → t ≠ 61 → some k ≠ V.vp.ownBlock := fun {t k} hk ht e => hk.ne (own_ty h.p e.symm) ht rfl
  have other : ∀ {t k}, isTy t W k → t ≠ 61 → W1.heap[k]? = W.heap[k]? := fun {t k} hk ht => hf.block k hk.lt (hne hk ht)
  have hb1 := (other h.ty (by decide)).trans h.hb
  have hg1 : isTy 114 W1 g := ⟨_, hb1⟩
  have both : ∀ {t k}, isTy t W k → t ≠ 61 → t ≠ 114 → (W1.setCell ⟨g, 5, none⟩ v1).heap[k]? = W.heap[k]? := fun {t k} hk ht ht' => (Below.heap_setCell W1 ⟨g, 5, none⟩ v1 k (hk.ne h.ty ht')).trans (other hk ht)
  exact ⟨⟨blk_put hb1 5 v1 rfl, h.hg, h.psC, h.psc, h.bkC, h.bkc, h.qC, h.qc, below_set hB h.hg, flat_move rfl h.l (fun k hk => both (own_ty h.l hk) (by decide) (by decide)), flat_move rfl h.d (fun k hk => both (own_ty h.d hk) (by decide) (by decide)), h.ld,
    flat_move rfl hr (fun k hk => Below.heap_setCell W1 ⟨g, 5, none⟩ v1 k ((own_ty hr hk).ne hg1 (by decide)))⟩, ⟨by simpa [World.setCell] using hf.size, fun k hk _ _ => both hk (by decide) (by decide)⟩⟩
end
/-- The last part of an item in a pass that ends at a moment, of the first n. -/
def lastD (P : List S61) (nm : ByteArray) (k frm : Int) : Nat → Option Nat
  | 0 => none
  | n + 1 => if (partAt P n).f0 = nm ∧ (partAt P n).f1 = k ∧ (partAt P n).f3 = frm then some n else lastD P nm k frm n
def tellX (P : List S61) (nm : ByteArray) (k frm to_ size : Int) : List S61 :=
  match lastD P nm k frm P.length with
  | some n => P.set n (partSize (partTo (partAt P n) to_) (wrap64 ((partAt P n).f4 + size)))
  | none => P ++ [⟨nm, k, frm, to_, size⟩]
theorem partAt_set {P : List S61} {i : Nat} (hi : i < P.length) (x : S61) : partAt (P.set i x) i = x := by
  unfold partAt
  rw [List.getD_eq_getElem?_getD, List.getElem?_set_self hi]
  rfl
theorem partInfo2 : (Try.prog.info? 61).map (fun i => (i.zero, i.size, i.bytes)) = some (some (.agg #[.string ⟨#[]⟩, .int .i64 0, .int .i64 0, .int .i64 0, .int .i64 0]), 5, 48) := by kernel_rfl
set_option maxHeartbeats 16000000 in
set_option maxRecDepth 100000 in
theorem tell_calls {w0 W : World} {g : Nat} {V : RV} {ps : List S33} {bk : List Int} {q : List S63} {st : RX} (item pass frm to_ size : Int) (h : RunAt w0 W g V ps bk q st) (hi : 0 ≤ item ∧ item < (q.length : Int)) (hr : st.parts.length < 1000000000) :
    Calls Try.prog 121 #[.pointer (some ⟨g, 0, none⟩), .int .i64 item, .int .i64 pass, .int .i64 frm, .int .i64 to_, .int .i64 size] W fun e w' => e = .returned (.tuple #[]) ∧ RunTo w0 W g V ps bk q { st with parts := tellX st.parts (rd_T63 q item).f0 pass frm to_ size } w' := by
  obtain ⟨nm, hnm⟩ : ∃ nm, nm = (rd_T63 q item).f0 := ⟨_, rfl⟩
  rw [← hnm]
  have HS := Aside0.mk h
  have HR := Aside0.mk hr
  have HNM := Aside0.mk hnm
  have i2 : item < (q.length : Int) := hi.2
  have i3 : (0 : Int) ≤ item := hi.1
  obtain ⟨Ar, cr, evr, x5⟩ := h.c5
  have x2 := h.c2
  obtain ⟨aq, eq, y0, _⟩ := at_T63 (Kd.C_below h.qC h.bel) item i3 i2
  rw [eq] at x2
  rw [← hnm] at y0
  have HEV := Aside0.mk evr
  have HEQ := Aside0.mk eq
  have hw1 : wrap64 ((st.parts.length : Int) - 1) = (st.parts.length : Int) - 1 := by unfold wrap64; omega
  clear h hr hnm hi evr eq
  go_enter Try.func121, Try.ntmps121
  go_wp2
  go_loopg [12] st.parts.length (fun kq v12 w' => ∃ z : Int, v12 = .int .i64 z ∧ Aside0 (z = (kq : Int) - 1) ∧ Aside0 (kq ≤ st.parts.length) ∧ Aside0 (lastD st.parts nm pass frm kq = lastD st.parts nm pass frm st.parts.length) ∧ Aside0 (∃ n, w' = W.drewN n))
  case atStart => exact ⟨(st.parts.length : Int) - 1, (by first | rfl | (rw [hw1]) | (simp [hw1]; done)), ⟨rfl⟩, ⟨Nat.le_refl _⟩, ⟨rfl⟩, ⟨0, rfl⟩⟩
  case round =>
    clear hw1
    obtain ⟨z, rfl, HZ, HK, HL, HW⟩ := hrel
    obtain ⟨n, rfl⟩ := HW.out
    cases gk with
    | zero =>
      have hz : z = -1 := by have := HZ.out; omega
      subst hz
      have HX := Aside0.mk (show tellX st.parts nm pass frm to_ size = st.parts ++ [⟨nm, pass, frm, to_, size⟩] by unfold tellX; rw [← HL.out]; rfl)
      obtain ⟨W2, hW2⟩ : ∃ W2, W2 = W.drewN n := ⟨_, rfl⟩
      have h2 : RunAt w0 W2 g V ps bk q st := by rw [hW2]; exact HS.out.drewN n
      have HIB2 := Aside0.mk (show IntsButR V W W2 by rw [hW2]; exact IntsButR.below (pw_below_drewN (Below.refl _ _) n))
      have HS2 := Aside0.mk h2
      have HSdq := Aside0.mk h2.qC
      rw [← hW2]
      clear x5 x2 y0 HS h2 hW2 HZ HK HL HW
      go_wp2
      refine start_ (n := 23) (S := fun w' => w'.heap[g]? = some (.cells #[.slice V.Ap ps.length V.cp, .slice V.Ab bk.length V.cb, .slice V.Aq q.length V.cq, V.vl, V.vd, V.vp] 114 (0, 0)) ∧ Below w0.heap.size w0 w') (ds := [22]) #[false, false, false, false, false, false, false, false, false, false, false, false, false, false, false, false, false, false, false, false, false, false, false] (by kernel_rfl) rfl rfl ⟨HS2.out.hb, (HS2.out.below (below_drew (Below.refl _ _))).bel⟩ (fun hHeld => ?_)
      obtain ⟨wd, hwd⟩ : ∃ wd, wd = W2.drew := ⟨_, rfl⟩
      have hwd' : ({ W2 with drawn := W2.drawn + 1 } : World) = wd := hwd.symm
      have HSd := Aside0.mk (show RunAt w0 wd g V ps bk q st by rw [hwd]; exact HS2.out.below (below_drew (Below.refl _ _)))
      have HIBd := Aside0.mk (HIB2.out.trans (show IntsButR V W2 wd by rw [hwd]; exact IntsButR.below (below_drew (Below.refl _ _))))
      rw [← hwd] at hHeld ⊢
      clear HIB2 HS2 hwd'
      refine pure_ (i := 0) (N := some 71) (v := ?_) (a' := ?_) #[true, false, false, false, false, false, false, false, false, false, false, false, false, false, false, false, false, false, false, false, false, false, false] rfl rfl (by kernel_rfl) (fun _ _ _ h => h) (Or.inl ⟨by rfl, ?_⟩) ?_ ?_
      rotate_left
      · intro w'
        go_simp
        with_reducible rfl
      rotate_left
      · simp only [Act.put, List.setIfInBounds_toArray, List.set_cons_zero, List.set_cons_succ, i64_w, i32_w]
        rfl
      refine pure_ (i := 1) (N := some 72) (v := ?_) (a' := ?_) #[true, true, false, false, false, false, false, false, false, false, false, false, false, false, false, false, false, false, false, false, false, false, false] rfl rfl (by kernel_rfl) (fun _ _ _ h => h) (Or.inl ⟨by rfl, ?_⟩) ?_ ?_
      rotate_left
      · intro w'
        go_simp
        with_reducible rfl
      rotate_left
      · simp only [Act.put, List.setIfInBounds_toArray, List.set_cons_zero, List.set_cons_succ, i64_w, i32_w]
        rfl
      refine pure_ (i := 2) (N := some 73) (v := ?_) (a' := ?_) #[true, true, true, false, false, false, false, false, false, false, false, false, false, false, false, false, false, false, false, false, false, false, false] rfl rfl (by kernel_rfl) (fun _ _ _ h => h) (Or.inl ⟨by rfl, ?_⟩) ?_ ?_
      rotate_left
      · intro w'
        go_simp
        with_reducible rfl
      rotate_left
      · simp only [Act.put, List.setIfInBounds_toArray, List.set_cons_zero, List.set_cons_succ, i64_w, i32_w]
        rfl
      refine pure_ (i := 3) (N := some 74) (v := ?_) (a' := ?_) #[true, true, true, true, false, false, false, false, false, false, false, false, false, false, false, false, false, false, false, false, false, false, false] rfl rfl (by kernel_rfl) (fun _ _ _ h => h) (Or.inl ⟨by rfl, ?_⟩) ?_ ?_
      rotate_left
      · intro w'
        go_simp
        with_reducible rfl
      rotate_left
      · simp only [Act.put, List.setIfInBounds_toArray, List.set_cons_zero, List.set_cons_succ, i64_w, i32_w]
        rfl
      refine take_ (i := 4) (N := some 75) (v := .slice Ar st.parts.length cr) (a' := ?_) #[true, true, true, true, true, false, false, false, false, false, false, false, false, false, false, false, false, false, false, false, false, false, false] rfl rfl (by kernel_rfl) (fun _ _ _ h => h) (Or.inl ⟨by rfl, ?_⟩) hHeld ?_ ?_
      · rintro w' ⟨sb, sB⟩
        have x5 : w'.cell? ⟨g, 5, none⟩ = some V.vp := (blk_cell sb 5).trans rfl
        rw [HEV.out] at x5
        go_simp
        all_goals (first | done | with_reducible rfl)
      rotate_left
      · simp only [Act.put, List.setIfInBounds_toArray, List.set_cons_zero, List.set_cons_succ, i64_w, i32_w]
        rfl
      refine pure_ (i := 5) (N := some 76) (v := ?_) (a' := ?_) #[true, true, true, true, true, true, false, false, false, false, false, false, false, false, false, false, false, false, false, false, false, false, false] rfl rfl (by kernel_rfl) (fun _ _ _ h => h) (Or.inl ⟨by rfl, ?_⟩) ?_ ?_
      rotate_left
      · intro w'
        go_simp
        with_reducible rfl
      rotate_left
      · simp only [Act.put, List.setIfInBounds_toArray, List.set_cons_zero, List.set_cons_succ, i64_w, i32_w]
        rfl
      refine pure_ (i := 6) (N := some 77) (v := ?_) (a' := ?_) #[true, true, true, true, true, true, true, false, false, false, false, false, false, false, false, false, false, false, false, false, false, false, false] rfl rfl (by kernel_rfl) (fun _ _ _ h => h) (Or.inl ⟨by rfl, ?_⟩) ?_ ?_
      rotate_left
      · intro w'
        go_simp
        with_reducible rfl
      rotate_left
      · simp only [Act.put, List.setIfInBounds_toArray, List.set_cons_zero, List.set_cons_succ, i64_w, i32_w]
        rfl
      refine pure_ (i := 7) (N := some 78) (v := ?_) (a' := ?_) #[true, true, true, true, true, true, true, true, false, false, false, false, false, false, false, false, false, false, false, false, false, false, false] rfl rfl (by kernel_rfl) (fun _ _ _ h => h) (Or.inl ⟨by rfl, ?_⟩) ?_ ?_
      rotate_left
      · intro w'
        go_simp
        with_reducible rfl
      rotate_left
      · simp only [Act.put, List.setIfInBounds_toArray, List.set_cons_zero, List.set_cons_succ, i64_w, i32_w]
        rfl
      refine take_ (i := 8) (N := some 79) (v := .slice (some aq) q.length V.cq) (a' := ?_) #[true, true, true, true, true, true, true, true, true, false, false, false, false, false, false, false, false, false, false, false, false, false, false] rfl rfl (by kernel_rfl) (fun _ _ _ h => h) (Or.inl ⟨by rfl, ?_⟩) hHeld ?_ ?_
      · rintro w' ⟨sb, sB⟩
        have x2 : w'.cell? ⟨g, 2, none⟩ = some (.slice V.Aq q.length V.cq) := (blk_cell sb 2).trans rfl
        rw [HEQ.out] at x2
        go_simp
        all_goals (first | done | with_reducible rfl)
      rotate_left
      · simp only [Act.put, List.setIfInBounds_toArray, List.set_cons_zero, List.set_cons_succ, i64_w, i32_w]
        rfl
      refine pure_ (i := 9) (N := some 80) (v := ?_) (a' := ?_) #[true, true, true, true, true, true, true, true, true, true, false, false, false, false, false, false, false, false, false, false, false, false, false] rfl rfl (by kernel_rfl) (fun _ _ _ h => h) (Or.inl ⟨by rfl, ?_⟩) ?_ ?_
      rotate_left
      · intro w'
        go_simp
        with_reducible rfl
      rotate_left
      · simp only [Act.put, List.setIfInBounds_toArray, List.set_cons_zero, List.set_cons_succ, i64_w, i32_w]
        rfl
      refine pure_ (i := 10) (N := some 81) (v := ?_) (a' := ?_) #[true, true, true, true, true, true, true, true, true, true, true, false, false, false, false, false, false, false, false, false, false, false, false] rfl rfl (by kernel_rfl) (fun _ _ _ h => h) (Or.inl ⟨by rfl, ?_⟩) ?_ ?_
      rotate_left
      · intro w'
        go_simp
        with_reducible rfl
      rotate_left
      · simp only [Act.put, List.setIfInBounds_toArray, List.set_cons_zero, List.set_cons_succ, i64_w, i32_w]
        rfl
      refine pure_ (i := 11) (N := some 82) (v := ?_) (a' := ?_) #[true, true, true, true, true, true, true, true, true, true, true, true, false, false, false, false, false, false, false, false, false, false, false] rfl rfl (by kernel_rfl) (fun _ _ _ h => h) (Or.inl ⟨by rfl, ?_⟩) ?_ ?_
      rotate_left
      · intro w'
        go_simp
        with_reducible rfl
      rotate_left
      · simp only [Act.put, List.setIfInBounds_toArray, List.set_cons_zero, List.set_cons_succ, i64_w, i32_w]
        rfl
      refine take_ (i := 12) (N := some 83) (v := .string nm) (a' := ?_) #[true, true, true, true, true, true, true, true, true, true, true, true, true, false, false, false, false, false, false, false, false, false, false] rfl rfl (by kernel_rfl) (fun _ _ _ h => h) (Or.inl ⟨by rfl, ?_⟩) hHeld ?_ ?_
      · rintro w' ⟨sb, sB⟩
        have y0 : w'.cell? (aq.add (item.toNat * 5)) = some (.string nm) := name_held HSdq.out HEQ.out HNM.out i3 i2 sB
        go_simp
        all_goals (first | done | with_reducible rfl)
      rotate_left
      · simp only [Act.put, List.setIfInBounds_toArray, List.set_cons_zero, List.set_cons_succ, i64_w, i32_w]
        rfl
      refine pure_ (i := 13) (N := some 84) (v := ?_) (a' := ?_) #[true, true, true, true, true, true, true, true, true, true, true, true, true, true, false, false, false, false, false, false, false, false, false] rfl rfl (by kernel_rfl) (fun _ _ _ h => h) (Or.inl ⟨by rfl, ?_⟩) ?_ ?_
      rotate_left
      · intro w'
        go_simp
        with_reducible rfl
      rotate_left
      · simp only [Act.put, List.setIfInBounds_toArray, List.set_cons_zero, List.set_cons_succ, i64_w, i32_w]
        rfl
      refine pure_ (i := 14) (N := some 85) (v := ?_) (a' := ?_) #[true, true, true, true, true, true, true, true, true, true, true, true, true, true, true, false, false, false, false, false, false, false, false] rfl rfl (by kernel_rfl) (fun _ _ _ h => h) (Or.inl ⟨by rfl, ?_⟩) ?_ ?_
      rotate_left
      · intro w'
        go_simp
        with_reducible rfl
      rotate_left
      · simp only [Act.put, List.setIfInBounds_toArray, List.set_cons_zero, List.set_cons_succ, i64_w, i32_w]
        rfl
      refine pure_ (i := 15) (N := some 86) (v := ?_) (a' := ?_) #[true, true, true, true, true, true, true, true, true, true, true, true, true, true, true, true, false, false, false, false, false, false, false] rfl rfl (by kernel_rfl) (fun _ _ _ h => h) (Or.inl ⟨by rfl, ?_⟩) ?_ ?_
      rotate_left
      · intro w'
        go_simp
        with_reducible rfl
      rotate_left
      · simp only [Act.put, List.setIfInBounds_toArray, List.set_cons_zero, List.set_cons_succ, i64_w, i32_w]
        rfl
      refine pure_ (i := 16) (N := some 87) (v := ?_) (a' := ?_) #[true, true, true, true, true, true, true, true, true, true, true, true, true, true, true, true, true, false, false, false, false, false, false] rfl rfl (by kernel_rfl) (fun _ _ _ h => h) (Or.inl ⟨by rfl, ?_⟩) ?_ ?_
      rotate_left
      · intro w'
        go_simp
        with_reducible rfl
      rotate_left
      · simp only [Act.put, List.setIfInBounds_toArray, List.set_cons_zero, List.set_cons_succ, i64_w, i32_w]
        rfl
      refine pure_ (i := 17) (N := some 88) (v := ?_) (a' := ?_) #[true, true, true, true, true, true, true, true, true, true, true, true, true, true, true, true, true, true, false, false, false, false, false] rfl rfl (by kernel_rfl) (fun _ _ _ h => h) (Or.inl ⟨by rfl, ?_⟩) ?_ ?_
      rotate_left
      · intro w'
        go_simp
        with_reducible rfl
      rotate_left
      · simp only [Act.put, List.setIfInBounds_toArray, List.set_cons_zero, List.set_cons_succ, i64_w, i32_w]
        rfl
      refine one_ (i := 18) (N := some 89) #[true, true, true, true, true, true, true, true, true, true, true, true, true, true, true, true, true, true, true, false, false, false, false] rfl rfl (by kernel_rfl) (by decide) (fun K hK => ?_)
      refine Kd.R_lit_step k61 (w0 := w0) w0.heap.size 61 ?hg (N := 89) ?hd (xs := [(⟨nm, pass, frm, to_, size⟩ : S61)]) (inner := [.string nm, .int .i64 pass, .int .i64 frm, .int .i64 to_, .int .i64 size]) (ok := fun _ => True) (okp := fun _ => True) ?hr ?hp (fun _ hk => hk) trivial HSd.out.bel HSd.out.bel.size (by simp) ?_
      (case hd => rfl)
      (case hg => rfl)
      (case hr => first | (go_simp; done) | (go_simp; rfl))
      (case hp => exact Kd.reps_append (ps := []) (cs := []) (Reps.none _ _) (reps_one6 (k61_mkM _ _ _ (⟨nm, pass, frm, to_, size⟩ : S61))))
      intro vl wl ho hb hg_ hnew_
      have HSl := Aside0.mk (show RunAt w0 wl g V ps bk q st from HSd.out.grown hg_ hb (fun k e => by cases e))
      have HIBl := Aside0.mk (HIBd.out.trans (show IntsButR V wd wl from ⟨hg_.size, fun k hk _ _ => hg_.block k hk.lt (by simp)⟩))
      have HLT := Aside0.mk ho
      clear ho hb hg_ hnew_ HSd HIBd hHeld
      obtain ⟨Al, cl, el⟩ := Kd.R_slice HLT.out
      subst el
      refine hK.out _ _ ⟨HSl.out.hb, HSl.out.bel⟩ (fun hHeld => ?_)
      clear hK K
      refine norm_ (a' := ?_) ?_ ?_
      rotate_left
      · show Act.put _ (some 89) _ = _
        simp only [Act.put, List.setIfInBounds_toArray, List.set_cons_zero, List.set_cons_succ, i64_w, i32_w]
        rfl
      refine one_ (i := 19) (N := some 90) #[true, true, true, true, true, true, true, true, true, true, true, true, true, true, true, true, true, true, true, true, false, false, false] rfl rfl (by kernel_rfl) (by decide) (fun K hK => ?_)
      refine Kd.R_append_rows_step k61 (w0 := w0) w0.heap.size (by rfl) (.tmp 75) (.tmp 89) 54 61 (.agg #[.string ⟨#[]⟩, .int .i64 0, .int .i64 0, .int .i64 0, .int .i64 0]) 48 rfl Try.underlying54 partInfo2 rfl (by decide) (by omega) V.vp st.parts [(⟨nm, pass, frm, to_, size⟩ : S61)] _ _ _ (fun _ => True) (fun _ => False) (by rw [HEV.out]; rfl) rfl HSl.out.p (Kd.R_reads' HLT.out).2.2 (fun _ _ h => h) (fun _ h => h.elim) (fun _ _ => trivial) HSl.out.bel HSl.out.bel.size (by have := HR.out; simp; omega) ?_
      intro va wa ho hb hg_ hat_
      obtain ⟨Aa, ca, ea⟩ := Kd.R_slice ho
      subst ea
      have HBa := Aside0.mk (show wa.heap[g]? = some (.cells #[.slice V.Ap ps.length V.cp, .slice V.Ab bk.length V.cb, .slice V.Aq q.length V.cq, V.vl, V.vd, V.vp] 114 (0, 0)) from (hg_.block g HSl.out.ty.lt (fun e => HSl.out.ty.ne (own_ty HSl.out.p e.symm) (by decide) rfl)).trans HSl.out.hb)
      have HOa := Aside0.mk ho
      have HGa := Aside0.mk hg_
      have HBB := Aside0.mk hb
      clear ho hb hg_ hat_ hHeld
      have fz5 : wa.frozen? ⟨g, 5, none⟩ = false := blk_frozen HBa.out 5
      have x5 : wa.cell? ⟨g, 5, none⟩ = some V.vp := (blk_cell HBa.out 5).trans rfl
      refine hK.out _ _ ⟨HBa.out, HBB.out⟩ (fun hHeld => ?_)
      clear hK K
      refine norm_ (a' := ?_) ?_ ?_
      rotate_left
      · show Act.put _ (some 90) _ = _
        simp only [Act.put, List.setIfInBounds_toArray, List.set_cons_zero, List.set_cons_succ, i64_w, i32_w]
        rfl
      refine pure_ (i := 20) (N := some 91) (v := ?_) (a' := ?_) #[true, true, true, true, true, true, true, true, true, true, true, true, true, true, true, true, true, true, true, true, true, false, false] rfl rfl (by kernel_rfl) (fun _ _ _ h => h) (Or.inl ⟨by rfl, ?_⟩) ?_ ?_
      rotate_left
      · intro w'
        go_simp
        with_reducible rfl
      rotate_left
      · simp only [Act.put, List.setIfInBounds_toArray, List.set_cons_zero, List.set_cons_succ, i64_w, i32_w]
        rfl
      refine pure_ (i := 21) (N := some 92) (v := ?_) (a' := ?_) #[true, true, true, true, true, true, true, true, true, true, true, true, true, true, true, true, true, true, true, true, true, true, false] rfl rfl (by kernel_rfl) (fun _ _ _ h => h) (Or.inl ⟨by rfl, ?_⟩) ?_ ?_
      rotate_left
      · intro w'
        go_simp
        with_reducible rfl
      rotate_left
      · simp only [Act.put, List.setIfInBounds_toArray, List.set_cons_zero, List.set_cons_succ, i64_w, i32_w]
        rfl
      refine last_ (i := 22) (N := none) #[true, true, true, true, true, true, true, true, true, true, true, true, true, true, true, true, true, true, true, true, true, true, true] rfl rfl (by kernel_rfl) (by decide) (fun K hK => ?_)
      refine snd_store_step (w1 := wa.setCell ⟨g, 5, none⟩ (.slice Aa (st.parts ++ [(⟨nm, pass, frm, to_, size⟩ : S61)]).length ca)) (by rfl) rfl ?hr ?_
      (case hr => first | (go_simp; done) | (go_simp; rfl))
      refine hK.out _ _ ?_
      clear hK K
      refine norm_ (a' := ?_) ?_ ?_
      rotate_left
      · show Act.put _ none undef = _
        simp only [Act.put]
        rfl
      refine done_ (by kernel_rfl) ?_
      obtain ⟨hq5, hi5⟩ := HSl.out.appPart HOa.out HBB.out HGa.out
      obtain ⟨w5, hw5⟩ : ∃ w5, w5 = wa.setCell ⟨g, 5, none⟩ (.slice Aa (st.parts ++ [(⟨nm, pass, frm, to_, size⟩ : S61)]).length ca) := ⟨_, rfl⟩
      rw [← hw5] at hq5 hi5 ⊢
      have HSv := Aside0.mk hq5
      have HIBv := Aside0.mk (HIBl.out.trans hi5)
      clear hq5 hi5 hw5 HBa HOa HGa HBB fz5 x5 HLT HSl HIBl hHeld
      go_wp2
      go_end0
      exact ⟨rfl, { V with vp := .slice Aa (st.parts ++ [(⟨nm, pass, frm, to_, size⟩ : S61)]).length ca }, by rw [HX.out]; exact HSv.out, rfl, rfl, rfl, rfl, rfl, HIBv.out⟩
    | succ d =>
      have hz : z = (d : Int) := by have := HZ.out; omega
      subst hz
      have hdl : d < st.parts.length := by have := HK.out; omega
      have d0 : (0 : Int) ≤ (d : Int) := by omega
      have d1 : (d : Int) < (st.parts.length : Int) := by omega
      have hwd : wrap64 ((d : Int) - 1) = (d : Int) - 1 := by have := HR.out; unfold wrap64; omega
      have hrr := HR.out
      obtain ⟨gr, c5, ev5, x5', hrow, hfz⟩ := HS.out.part hdl
      have HEV5 := Aside0.mk ev5
      have HROW := Aside0.mk hrow
      have ea : (⟨gr, 0, none⟩ : Addr).add (d * 5) = ⟨gr, d * 5, none⟩ := add_plain _ _
      obtain ⟨p, hp⟩ : ∃ p, p = partAt st.parts d := ⟨_, rfl⟩
      have HP := Aside0.mk hp
      have c0 := hrow 0 (.string p.f0) (by rw [hp]; rfl)
      have c1 := hrow 1 (.int .i64 p.f1) (by rw [hp]; rfl)
      have c3 := hrow 3 (.int .i64 p.f3) (by rw [hp]; rfl)
      simp only [Nat.add_zero] at c0
      clear x5 ev5 hrow hfz hp HZ HW
      have hL : lastD st.parts nm pass frm (d + 1) = if p.f0 = nm ∧ p.f1 = pass ∧ p.f3 = frm then some d else lastD st.parts nm pass frm d := by rw [HP.out]; rfl
      have HL2 := Aside0.mk hL
      clear hL
      by_cases e0 : p.f0 = nm
      · have b0 : (p.f0.toList == nm.toList) = true := by rw [e0]; exact beq_self_eq_true _
        have E0 := Aside0.mk e0
        clear e0
        by_cases e1 : p.f1 = pass
        · have b1 : (p.f1 == pass) = true := beq_iff_eq.mpr e1
          have E1 := Aside0.mk e1
          clear e1
          by_cases e3 : p.f3 = frm
          · have b3 : (p.f3 == frm) = true := beq_iff_eq.mpr e3
            have E3 := Aside0.mk e3
            clear e3
            have HX := Aside0.mk (show tellX st.parts nm pass frm to_ size = st.parts.set d (partSize (partTo (partAt st.parts d) to_) (wrap64 ((partAt st.parts d).f4 + size))) by unfold tellX; rw [← HL.out, HL2.out, if_pos ⟨E0.out, E1.out, E3.out⟩])
            go_wp2
            go_quiet (fail)
            obtain ⟨W2, hW2⟩ : ∃ W2, W2 = (W.drewN n).drewN nq := ⟨_, rfl⟩
            rw [← hW2]
            have h2 : RunAt w0 W2 g V ps bk q st := by rw [hW2]; exact (HS.out.drewN n).drewN nq
            have HIB2 := Aside0.mk (show IntsButR V W W2 by rw [hW2]; exact IntsButR.below (pw_below_drewN (pw_below_drewN (Below.refl _ _) n) nq))
            obtain ⟨gr2, cc2, ev2, x52, hrow2, hfz2⟩ := h2.part hdl
            have eg : gr2 = gr := by have := HEV5.out; rw [ev2] at this; injection this with this; injection this with this; injection this
            subst eg
            have y3 := hrow2 3 (.int .i64 p.f3) (by rw [HP.out]; rfl)
            have f3 := hfz2 3
            have HS2 := Aside0.mk h2
            have HEV2 := Aside0.mk ev2
            obtain ⟨sx, hsx⟩ : ∃ sx, sx = ({ st with parts := st.parts.set d (partTo (partAt st.parts d) to_) } : RX) := ⟨_, rfl⟩
            have HSX := Aside0.mk hsx
            clear h2 hW2 x5' x2 y0 c0 c1 c3 ev2 hrow2 hfz2 hsx b0 b1 b3 HEV5 HROW
            go_wp2_with (first | ((with_reducible refine gate_store (t := 3) (p := 62) rfl ?_); refine store_event (t := 3) (p := 62) (v := .tmp 60) (w1 := W2.setCell ⟨gr2, d * 5 + 3, none⟩ (.int .i64 to_)) ?hg ?ho ?hn ?hr ?_; (case ho => rfl); (case hg => rfl); (case hn => rfl); (case hr => first | (go_simp; done) | (go_simp; rfl)); intro w3 hw3; have h3 : RunAt w0 w3 g V ps bk q sx ∧ IntsButR V W2 w3 := (by rw [hw3, HSX.out]; exact HS2.out.setPartTo HEV2.out hdl to_); have HIB3 := Aside0.mk (HIB2.out.trans h3.2); have HS3 := Aside0.mk h3.1; have hdl3 : d < sx.parts.length := (by rw [HSX.out]; show d < (st.parts.set d _).length; rw [List.length_set]; exact hdl); have q4 := (HS3.out.part hdl3); obtain ⟨gr3, cc3, ev3, x53, hrow3, hfz3⟩ := q4; have eg3 : gr3 = gr2 := (by have := HEV2.out; rw [ev3] at this; injection this with this; injection this with this; injection this); subst eg3; obtain ⟨f4, hf4⟩ : ∃ f4, f4 = (partAt st.parts d).f4 := ⟨_, rfl⟩; have y4 := hrow3 4 (.int .i64 f4) (by rw [HSX.out]; show (partCells (partAt (st.parts.set d _) d))[4]? = _; rw [partAt_set hdl, hf4]; rfl); have f4z := hfz3 4; have HF4 := Aside0.mk hf4; have HEV3 := Aside0.mk ev3; have HDL3 := Aside0.mk hdl3; clear hw3 h3 y3 f3 x52 HS2 HIB2 hrow3 hfz3 ev3 hf4 hdl3) | ((with_reducible refine gate_store (t := 3) (p := 70) rfl ?_); refine store_event (t := 3) (p := 70) (v := .tmp 68) (w1 := w3.setCell ⟨gr3, d * 5 + 4, none⟩ (.int .i64 (wrap64 (f4 + size)))) ?hg ?ho ?hn ?hr ?_; (case ho => rfl); (case hg => rfl); (case hn => rfl); (case hr => first | (go_simp; done) | (go_simp; rfl)); intro w4 hw4; have h4 := HS3.out.setPartSize HEV3.out HDL3.out (wrap64 (f4 + size)); rw [← hw4] at h4; have HS4 := Aside0.mk h4.1; have HIB4 := Aside0.mk (HIB3.out.trans h4.2); clear hw4 h4 y4 f4z x53 HS3 HIB3))
            (try simp only [Exit.inBlock, Exit.then])
            refine bodyPost_ret (results_none rfl _ _ _) rfl ?_
            refine ⟨rfl, _, ?_, rfl, rfl, rfl, rfl, rfl, HIB4.out⟩
            have e5 : ({ sx with parts := sx.parts.set d (partSize (partAt sx.parts d) (wrap64 (f4 + size))) } : RX) = { st with parts := tellX st.parts nm pass frm to_ size } := by
              rw [HX.out, HSX.out]
              show (⟨st.left, st.done, (st.parts.set d _).set d (partSize (partAt (st.parts.set d _) d) _)⟩ : RX) = ⟨st.left, st.done, _⟩
              rw [partAt_set hdl, List.set_set, HF4.out]
            rw [← e5]
            exact HS4.out
          · have b3 : (p.f3 == frm) = false := beq_eq_false_iff_ne.mpr e3
            have E3 := Aside0.mk e3
            clear e3
            have HN := Aside0.mk (show lastD st.parts nm pass frm d = lastD st.parts nm pass frm st.parts.length by rw [← HL.out, HL2.out, if_neg (fun hc => E3.out hc.2.2)])
            skip
            go_wp2
            go_quiet (fail)
            go_wp2
            go_roundg d
            case measure => omega
            case rel => exact ⟨(d : Int) - 1, (by first | rfl | (rw [hwd]) | (simp [hwd]; done) | (simp; done)), ⟨rfl⟩, ⟨by have := HK.out; omega⟩, HN, ⟨_, rfl⟩⟩
        · have b1 : (p.f1 == pass) = false := beq_eq_false_iff_ne.mpr e1
          have E1 := Aside0.mk e1
          clear e1
          have HN := Aside0.mk (show lastD st.parts nm pass frm d = lastD st.parts nm pass frm st.parts.length by rw [← HL.out, HL2.out, if_neg (fun hc => E1.out hc.2.1)])
          skip
          go_wp2
          go_quiet (fail)
          go_wp2
          go_roundg d
          case measure => omega
          case rel => exact ⟨(d : Int) - 1, (by first | rfl | (rw [hwd]) | (simp [hwd]; done) | (simp; done)), ⟨rfl⟩, ⟨by have := HK.out; omega⟩, HN, ⟨_, rfl⟩⟩
      · have b0 : (p.f0.toList == nm.toList) = false := beq_eq_false_iff_ne.mpr (fun hc => e0 (bytes_inj hc))
        have E0 := Aside0.mk e0
        clear e0
        have HN := Aside0.mk (show lastD st.parts nm pass frm d = lastD st.parts nm pass frm st.parts.length by rw [← HL.out, HL2.out, if_neg (fun hc => E0.out hc.1)])
        skip
        go_wp2
        go_quiet (fail)
        go_wp2
        go_roundg d
        case measure => omega
        case rel => exact ⟨(d : Int) - 1, (by first | rfl | (rw [hwd]) | (simp [hwd]; done) | (simp; done)), ⟨rfl⟩, ⟨by have := HK.out; omega⟩, HN, ⟨_, rfl⟩⟩
section
variable {w0 W W' W1 W2 : World} {g : Nat} {V V1 : RV} {ps : List S33} {bk : List Int} {q : List S63} {st st2 : RX}
theorem RunTo.refl (h : RunAt w0 W g V ps bk q st) : RunTo w0 W g V ps bk q st W := ⟨V, h, rfl, rfl, rfl, rfl, rfl, IntsButR.below (Below.refl _ _)⟩
theorem RunTo.trans (e1 : V1.vl = V.vl) (e2 : V1.vd = V.vd) (e3 : V1.Ap = V.Ap) (e4 : V1.Aq = V.Aq) (e5 : V1.Ab = V.Ab) (h : IntsButR V W W1) (k : RunTo w0 W1 g V1 ps bk q st2 W2) : RunTo w0 W g V ps bk q st2 W2 := by
  obtain ⟨V', k1, k2, k3, k4, k5, k6, k7⟩ := k
  refine ⟨V', k1, k2.trans e1, k3.trans e2, k4.trans e3, k5.trans e4, k6.trans e5, h.trans ⟨k7.1, fun b hb h1 h2 => k7.2 b hb (by rw [e1]; exact h1) (by rw [e2]; exact h2)⟩⟩
theorem RunTo.then (h : RunTo w0 W g V ps bk q st W1) (k : ∀ V', RunAt w0 W1 g V' ps bk q st → RunTo w0 W1 g V' ps bk q st2 W2) : RunTo w0 W g V ps bk q st2 W2 := by
  obtain ⟨V', h1, h2, h3, h4, h5, h6, h7⟩ := h
  exact RunTo.trans h2 h3 h4 h5 h6 h7 (k V' h1)
theorem RunTo.lower (h : RunTo w0 W g V ps bk q st W1) (hb : Below W1.heap.size W1 W2) : RunTo w0 W g V ps bk q st W2 := by
  obtain ⟨V', h1, h2, h3, h4, h5, h6, h7⟩ := h
  exact ⟨V', h1.below hb, h2, h3, h4, h5, h6, h7.trans (IntsButR.below hb)⟩
theorem RunAt.leftAt (h : RunAt w0 W g V ps bk q st) (i : Int) (h0 : 0 ≤ i) (h1 : i < (st.left.length : Int)) : ∃ gs c, V.vl = .slice (some ⟨gs, 0, none⟩) st.left.length c ∧ W.cell? ⟨g, 3, none⟩ = some (.slice (some ⟨gs, 0, none⟩) st.left.length c) ∧ W.cell? ⟨gs, i.toNat, none⟩ = some (.int .i64 (rd st.left i)) ∧ W.frozen? ⟨gs, i.toNat, none⟩ = false := by
  obtain ⟨gs, c, e, _, _, cells, hb⟩ := Kd.R_form h.l (by omega)
  have hr := h.l
  rw [e] at hr
  obtain ⟨_, _, hC⟩ := Kd.R_reads' hr
  obtain ⟨ad, ea, hx⟩ := Kd.at_int hC i h0 h1
  cases ea
  rw [add_plain] at hx
  exact ⟨gs, c, e, e ▸ (blk_cell h.hb 3).trans rfl, hx, blk_frozen hb _⟩
theorem RunAt.doneAt (h : RunAt w0 W g V ps bk q st) (i : Int) (h0 : 0 ≤ i) (h1 : i < (st.done.length : Int)) : ∃ gs c, V.vd = .slice (some ⟨gs, 0, none⟩) st.done.length c ∧ W.cell? ⟨g, 4, none⟩ = some (.slice (some ⟨gs, 0, none⟩) st.done.length c) ∧ W.cell? ⟨gs, i.toNat, none⟩ = some (.int .i64 (rd st.done i)) ∧ W.frozen? ⟨gs, i.toNat, none⟩ = false := by
  obtain ⟨gs, c, e, _, _, cells, hb⟩ := Kd.R_form h.d (by omega)
  have hr := h.d
  rw [e] at hr
  obtain ⟨_, _, hC⟩ := Kd.R_reads' hr
  obtain ⟨ad, ea, hx⟩ := Kd.at_int hC i h0 h1
  cases ea
  rw [add_plain] at hx
  exact ⟨gs, c, e, e ▸ (blk_cell h.hb 4).trans rfl, hx, blk_frozen hb _⟩
theorem ints_setR (h : RunAt w0 W g V ps bk q st) {gs n c : Nat} (hv : V.vl = .slice (some ⟨gs, 0, none⟩) n c ∨ V.vd = .slice (some ⟨gs, 0, none⟩) n c) (i : Nat) (x : Value) : IntsButR V W (W.setCell ⟨gs, i, none⟩ x) :=
  ⟨Nat.le_of_eq (by simp [World.setCell]), fun k hk h1 h2 => Below.heap_setCell W ⟨gs, i, none⟩ x k (fun e => by
    have e : k = gs := e
    subst e
    rcases hv with hv | hv
    · exact h1 (by rw [hv]; rfl)
    · exact h2 (by rw [hv]; rfl))⟩
theorem RunAt.setLeft (h : RunAt w0 W g V ps bk q st) {gs n c : Nat} (hv : V.vl = .slice (some ⟨gs, 0, none⟩) n c) (i : Int) (x : Int) : RunAt w0 (W.setCell ⟨gs, i.toNat, none⟩ (.int .i64 x)) g V ps bk q { st with left := st.left.set i.toNat x } := by
  have hs := h.l
  rw [hv] at hs
  obtain ⟨hs', hf⟩ := Kd.R_putg hs i x
  have hty : isTy 3 W gs := own_ty hs rfl
  have hbase : w0.heap.size ≤ gs := Kd.R_base hs gs rfl
  have other : ∀ {t k}, isTy t W k → t ≠ 3 → (W.setCell ⟨gs, i.toNat, none⟩ (.int .i64 x)).heap[k]? = W.heap[k]? := fun {t k} hk ht => hf.block k hk.lt (fun e => hk.ne hty ht (Option.some.inj e))
  have ints : ∀ {v : Value} {xs : List Int}, (Kd.int .i64).R 3 W w0.heap.size (fun _ => True) v xs → v.ownBlock ≠ some gs → (Kd.int .i64).R 3 (W.setCell ⟨gs, i.toNat, none⟩ (.int .i64 x)) w0.heap.size (fun _ => True) v xs := fun {v xs} hr hn => flat_move rfl hr (fun k hk => hf.block k (own_ty hr hk).lt (fun e => hn (by rw [hk, e])))
  exact ⟨(other h.ty (by decide)).trans h.hb, h.hg, h.psC, h.psc, h.bkC, h.bkc, h.qC, h.qc, pw_below_grown h.bel _ h.bel.size hf (fun k e => by cases e; exact hbase), by rw [hv]; exact hs', ints h.d (fun e => h.ld gs (by rw [hv]; rfl) e), h.ld, flat_move rfl h.p (fun k hk => other (own_ty h.p hk) (by decide))⟩
theorem RunAt.setDone (h : RunAt w0 W g V ps bk q st) {gs n c : Nat} (hv : V.vd = .slice (some ⟨gs, 0, none⟩) n c) (i : Int) (x : Int) : RunAt w0 (W.setCell ⟨gs, i.toNat, none⟩ (.int .i64 x)) g V ps bk q { st with done := st.done.set i.toNat x } := by
  have hs := h.d
  rw [hv] at hs
  obtain ⟨hs', hf⟩ := Kd.R_putg hs i x
  have hty : isTy 3 W gs := own_ty hs rfl
  have hbase : w0.heap.size ≤ gs := Kd.R_base hs gs rfl
  have other : ∀ {t k}, isTy t W k → t ≠ 3 → (W.setCell ⟨gs, i.toNat, none⟩ (.int .i64 x)).heap[k]? = W.heap[k]? := fun {t k} hk ht => hf.block k hk.lt (fun e => hk.ne hty ht (Option.some.inj e))
  have ints : ∀ {v : Value} {xs : List Int}, (Kd.int .i64).R 3 W w0.heap.size (fun _ => True) v xs → v.ownBlock ≠ some gs → (Kd.int .i64).R 3 (W.setCell ⟨gs, i.toNat, none⟩ (.int .i64 x)) w0.heap.size (fun _ => True) v xs := fun {v xs} hr hn => flat_move rfl hr (fun k hk => hf.block k (own_ty hr hk).lt (fun e => hn (by rw [hk, e])))
  exact ⟨(other h.ty (by decide)).trans h.hb, h.hg, h.psC, h.psc, h.bkC, h.bkc, h.qC, h.qc, pw_below_grown h.bel _ h.bel.size hf (fun k e => by cases e; exact hbase), ints h.l (fun e => h.ld gs e (by rw [hv]; rfl)), by rw [hv]; exact hs', h.ld, flat_move rfl h.p (fun k hk => other (own_ty h.p hk) (by decide))⟩
end
/-- Bytes of an item are sent in a pass. -/
def sendX (q : List S63) (st : RX) (item pass frm to_ size : Int) : RX :=
  ⟨st.left.set item.toNat (wrap64 (rd st.left item - size)), if wrap64 (rd st.left item - size) = 0 then st.done.set item.toNat to_ else st.done, tellX st.parts (rd_T63 q item).f0 pass frm to_ size⟩
set_option maxHeartbeats 8000000 in
set_option maxRecDepth 100000 in
theorem send_calls {w0 W : World} {g : Nat} {V : RV} {ps : List S33} {bk : List Int} {q : List S63} {st : RX} (item pass frm to_ size : Int) (h : RunAt w0 W g V ps bk q st) (hi : 0 ≤ item ∧ item < (q.length : Int)) (hl : st.left.length = q.length) (hd : st.done.length = q.length) (hr : st.parts.length < 1000000000) :
    Calls Try.prog 106 #[.pointer (some ⟨g, 0, none⟩), .int .i64 item, .int .i64 pass, .int .i64 frm, .int .i64 to_, .int .i64 size] W fun e w' => e = .returned (.tuple #[]) ∧ RunTo w0 W g V ps bk q (sendX q st item pass frm to_ size) w' := by
  have i3 : (0 : Int) ≤ item := hi.1
  have i2 : item < (q.length : Int) := hi.2
  have i4 : item < (st.left.length : Int) := by omega
  have i5 : item < (st.done.length : Int) := by omega
  obtain ⟨l0, hl0⟩ : ∃ l0, l0 = rd st.left item := ⟨_, rfl⟩
  obtain ⟨l5, hl5⟩ : ∃ l5, l5 = wrap64 (l0 - size) := ⟨_, rfl⟩
  obtain ⟨gs, cs, hvl, x3, y3, fz3⟩ := h.leftAt item i3 i4
  rw [← hl0] at y3
  have ea : (⟨gs, 0, none⟩ : Addr).add item.toNat = ⟨gs, item.toNat, none⟩ := add_plain _ _
  have h1 := h.setLeft hvl item l5
  have hib1 := ints_setR h (Or.inl hvl) item.toNat (.int .i64 l5)
  have HS := Aside0.mk h
  have HI := Aside0.mk hi
  have HR := Aside0.mk hr
  have HVL := Aside0.mk hvl
  have HL0 := Aside0.mk hl0
  have HL5 := Aside0.mk hl5
  have HS1 := Aside0.mk h1
  have HIB1 := Aside0.mk hib1
  clear h h1 hib1 hi hl hd hr hl0 hvl
  by_cases c : l5 = 0
  · have d : (l5 == 0) = true := beq_iff_eq.mpr c
    have HX := Aside0.mk (show sendX q st item pass frm to_ size = ⟨st.left.set item.toNat l5, st.done.set item.toNat to_, tellX st.parts (rd_T63 q item).f0 pass frm to_ size⟩ by unfold sendX; rw [← HL0.out, ← HL5.out, if_pos c])
    clear c
    have hl5' := hl5.symm
    clear hl5
    go_enter Try.func106, Try.ntmps106
    go_wp2_with (first
      | ((with_reducible refine gate_store (t := 3) (p := 21) rfl ?_); refine store_event (t := 3) (p := 21) (v := .tmp 20) (w1 := W.setCell ⟨gs, item.toNat, none⟩ (.int .i64 l5)) ?hg ?ho ?hn ?hr ?_; (case ho => rfl); (case hg => rfl); (case hn => rfl); (case hr => first | (go_simp; done) | (go_simp; rfl)); intro w1 hw1; rw [← hw1] at HS1 HIB1; obtain ⟨gs1, cs1, ev1, x31, y31, _⟩ := HS1.out.leftAt item i3 (by show item < ((st.left.set item.toNat l5).length : Int); rw [List.length_set]; exact i4); have eg : gs1 = gs := (by have := HVL.out; rw [ev1] at this; injection this with this; injection this with this; injection this); subst eg; have e5 : rd (st.left.set item.toNat l5) item = l5 := rd_set_same i3 i4; have y31' : w1.cell? ⟨gs1, item.toNat, none⟩ = some (.int .i64 l5) := (by rw [← e5]; exact y31); have x31' : w1.cell? ⟨g, 3, none⟩ = some (.slice (some ⟨gs1, 0, none⟩) st.left.length cs1) := (by rw [show st.left.length = (st.left.set item.toNat l5).length from (List.length_set ..).symm]; exact x31); obtain ⟨gd, cd, evd, x4, y4, fz4⟩ := HS1.out.doneAt item i3 i5; have HS2 := Aside0.mk (HS1.out.setDone evd item to_); have HIB2 := Aside0.mk (HIB1.out.trans (ints_setR HS1.out (Or.inr evd) item.toNat (.int .i64 to_))); have ed : (⟨gd, 0, none⟩ : Addr).add item.toNat = ⟨gd, item.toNat, none⟩ := add_plain _ _; clear hw1 x3 y3 fz3 ev1 x31 y31 e5 evd hl5')
      | ((with_reducible refine gate_store (t := 3) (p := 36) rfl ?_); refine store_event (t := 3) (p := 36) (v := .tmp 35) (w1 := w1.setCell ⟨gd, item.toNat, none⟩ (.int .i64 to_)) ?hg ?ho ?hn ?hr ?_; (case ho => rfl); (case hg => rfl); (case hn => rfl); (case hr => first | (go_simp; done) | (go_simp; rfl)); intro w2 hw2; rw [← hw2] at HS2 HIB2; clear hw2 x31' y31' x4 fz4 y4)
      | (go_at_call 121; go_loud (refine (tell_calls item pass frm to_ size HS2.out HI.out HR.out).mono ?_); rintro e w3 ⟨rfl, ht⟩; have HT := Aside0.mk ht; clear ht))
    go_end0
    exact ⟨rfl, by rw [HX.out]; exact RunTo.trans rfl rfl rfl rfl rfl HIB2.out HT.out⟩
  · have d : (l5 == 0) = false := beq_eq_false_iff_ne.mpr c
    have HX := Aside0.mk (show sendX q st item pass frm to_ size = ⟨st.left.set item.toNat l5, st.done, tellX st.parts (rd_T63 q item).f0 pass frm to_ size⟩ by unfold sendX; rw [← HL0.out, ← HL5.out, if_neg c])
    clear c
    have hl5' := hl5.symm
    clear hl5
    go_enter Try.func106, Try.ntmps106
    go_wp2_with (first
      | ((with_reducible refine gate_store (t := 3) (p := 21) rfl ?_); refine store_event (t := 3) (p := 21) (v := .tmp 20) (w1 := W.setCell ⟨gs, item.toNat, none⟩ (.int .i64 l5)) ?hg ?ho ?hn ?hr ?_; (case ho => rfl); (case hg => rfl); (case hn => rfl); (case hr => first | (go_simp; done) | (go_simp; rfl)); intro w1 hw1; rw [← hw1] at HS1 HIB1; obtain ⟨gs1, cs1, ev1, x31, y31, _⟩ := HS1.out.leftAt item i3 (by show item < ((st.left.set item.toNat l5).length : Int); rw [List.length_set]; exact i4); have eg : gs1 = gs := (by have := HVL.out; rw [ev1] at this; injection this with this; injection this with this; injection this); subst eg; have e5 : rd (st.left.set item.toNat l5) item = l5 := rd_set_same i3 i4; have y31' : w1.cell? ⟨gs1, item.toNat, none⟩ = some (.int .i64 l5) := (by rw [← e5]; exact y31); have x31' : w1.cell? ⟨g, 3, none⟩ = some (.slice (some ⟨gs1, 0, none⟩) st.left.length cs1) := (by rw [show st.left.length = (st.left.set item.toNat l5).length from (List.length_set ..).symm]; exact x31); clear hw1 x3 y3 fz3 ev1 x31 y31 e5 hl5')
      | (go_at_call 121; go_loud (refine (tell_calls item pass frm to_ size HS1.out HI.out HR.out).mono ?_); rintro e w3 ⟨rfl, ht⟩; have HT := Aside0.mk ht; clear ht))
    go_end0
    exact ⟨rfl, by rw [HX.out]; exact RunTo.trans rfl rfl rfl rfl rfl HIB1.out HT.out⟩
end Go.Proofs.Ytbngmblgkkdhpaa.Q
