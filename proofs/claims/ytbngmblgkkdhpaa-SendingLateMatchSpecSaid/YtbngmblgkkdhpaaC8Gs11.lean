-- Made by wip/tools/claimp.py of this session's texts; Lean checks it.
import Derived.Test.YtbngmblgkkdhpaaC8Q0
import Derived.Test.YtbngmblgkkdhpaaC8Gs10
import Derived.Test.YtbngmblgkkdhpaaC8Gs5
import Derived.Test.YtbngmblgkkdhpaaC8Gs6
import Derived.Test.YtbngmblgkkdhpaaC8Gs9
namespace Go.Proofs.Ytbngmblgkkdhpaa.Q
open Go.RowKit Go.Proofs.YtbngmblgkkdhpaaW.PrintWords Go.Proofs.YtbngmblgkkdhpaaW.PrintLast Go.Proofs.YtbngmblgkkdhpaaW.PrintMore
attribute [local go_sem] max2_int min2_int max_two min_two max_three min_three max_four min_four
open Go.Proofs.Ytbngmblgkkdhpaa.Base
attribute [local go_sem high] str_leq str_gtr str_geq
set_option linter.unusedVariables false
set_option linter.unusedSimpArgs false
/-- Where an item stands that carries nothing. -/
def dnR (x : S63) : Int := if x.f1 = 0 then x.f3 else -1
def newRX (q : List S63) (j : Nat) : RX := ⟨(q.take j).map (·.f1), (q.take j).map dnR, []⟩
theorem apart_afterR {v v1 u : Value} {n : Nat} (h : Apart v u) (hu : ∀ k, u.ownBlock = some k → k < n) (hat : v1.ownBlock = v.ownBlock ∨ ∃ b, v1.ownBlock = some b ∧ n ≤ b) : Apart v1 u := fun k hk hc => by
  rcases hat with e | ⟨b, e, hb⟩
  · exact h k (by rw [← e]; exact hk) hc
  · rw [e] at hk
    cases hk
    have := hu _ hc
    omega
theorem item_held {w0 W : World} {Aq : Option Addr} {aq : Addr} {q : List S63} {i : Int} (hC : k63.C w0 Aq q.length q) (he : Aq = some aq) (i3 : 0 ≤ i) (i2 : i < (q.length : Int)) (hb : Below w0.heap.size w0 W) :
    W.cell? ⟨(aq.add (i.toNat * 5)).block, (aq.add (i.toNat * 5)).off + 1, none⟩ = some (.int .i64 (rd_T63 q i).f1) ∧ W.cell? ⟨(aq.add (i.toNat * 5)).block, (aq.add (i.toNat * 5)).off + 3, none⟩ = some (.int .i64 (rd_T63 q i).f3) := by
  obtain ⟨ad, e, y0, y1, y2, y3, y4⟩ := at_T63 (Kd.C_below hC hb) i i3 i2
  rw [he] at e
  cases e
  exact ⟨y1, y3⟩
section
variable {w0 W W1 : World} {g : Nat} {V : RV} {ps : List S33} {bk : List Int} {q : List S63} {st : RX}
theorem ints_grownR {b : Option Nat} (hf : W.grownBy W1 b) {v : Value} {xs : List Int} {base : Nat} (hr : (Kd.int .i64).R 3 W base (fun _ => True) v xs) (hn : ∀ k, v.ownBlock = some k → b ≠ some k) : (Kd.int .i64).R 3 W1 base (fun _ => True) v xs := flat_move rfl hr (fun k hk => hf.block k (own_ty hr hk).lt (fun e => hn k hk e.symm))
theorem ints_putR {g : Nat} (hg : isTy 114 W g) {j : Nat} {u v : Value} {xs : List Int} {base : Nat} (hr : (Kd.int .i64).R 3 W base (fun _ => True) v xs) : (Kd.int .i64).R 3 (W.setCell ⟨g, j, none⟩ u) base (fun _ => True) v xs := flat_move rfl hr (fun k hk => Below.heap_setCell W ⟨g, j, none⟩ u k ((own_ty hr hk).ne hg (by decide)))
theorem RunAt.grownInts (h : RunAt w0 W g V ps bk q st) {b : Option Nat} (hf : W.grownBy W1 b) (hb : ∀ k, b = some k → isTy 3 W k) {t : TypeId} {k : Nat} (hk : isTy t W k) (ht : t ≠ 3) : W1.heap[k]? = W.heap[k]? :=
  hf.block k hk.lt (fun e => hk.ne (hb k e.symm) ht rfl)
theorem RunAt.appLeft (h : RunAt w0 W g V ps bk q st) {v1 : Value} {xs1 : List Int} (hr : (Kd.int .i64).R 3 W1 w0.heap.size (fun _ => True) v1 xs1) (hB : Below w0.heap.size w0 W1) (hf : W.grownBy W1 V.vl.ownBlock) (hat : v1.ownBlock = V.vl.ownBlock ∨ ∃ b, v1.ownBlock = some b ∧ W.heap.size ≤ b) :
    RunAt w0 (W1.setCell ⟨g, 3, none⟩ v1) g { V with vl := v1 } ps bk q { st with left := xs1 } := by
  have hty : ∀ k, V.vl.ownBlock = some k → isTy 3 W k := fun k hk => own_ty h.l hk
  have hb1 := (h.grownInts hf hty h.ty (by decide)).trans h.hb
  have hg1 : isTy 114 W1 g := ⟨_, hb1⟩
  have both : ∀ {t k}, isTy t W k → t ≠ 3 → t ≠ 114 → (W1.setCell ⟨g, 3, none⟩ v1).heap[k]? = W.heap[k]? := fun {t k} hk ht ht' => (Below.heap_setCell W1 ⟨g, 3, none⟩ v1 k (hk.ne h.ty ht')).trans (h.grownInts hf hty hk ht)
  exact ⟨blk_put hb1 3 v1 rfl, h.hg, h.psC, h.psc, h.bkC, h.bkc, h.qC, h.qc, below_set hB h.hg, ints_putR hg1 hr, ints_putR hg1 (ints_grownR hf h.d (fun k hk e => h.ld k e hk)), apart_afterR h.ld (fun k hk => (own_ty h.d hk).lt) hat, flat_move rfl h.p (fun k hk => both (own_ty h.p hk) (by decide) (by decide))⟩
theorem RunAt.appDone (h : RunAt w0 W g V ps bk q st) {v1 : Value} {xs1 : List Int} (hr : (Kd.int .i64).R 3 W1 w0.heap.size (fun _ => True) v1 xs1) (hB : Below w0.heap.size w0 W1) (hf : W.grownBy W1 V.vd.ownBlock) (hat : v1.ownBlock = V.vd.ownBlock ∨ ∃ b, v1.ownBlock = some b ∧ W.heap.size ≤ b) :
    RunAt w0 (W1.setCell ⟨g, 4, none⟩ v1) g { V with vd := v1 } ps bk q { st with done := xs1 } := by
  have hty : ∀ k, V.vd.ownBlock = some k → isTy 3 W k := fun k hk => own_ty h.d hk
  have hb1 := (h.grownInts hf hty h.ty (by decide)).trans h.hb
  have hg1 : isTy 114 W1 g := ⟨_, hb1⟩
  have both : ∀ {t k}, isTy t W k → t ≠ 3 → t ≠ 114 → (W1.setCell ⟨g, 4, none⟩ v1).heap[k]? = W.heap[k]? := fun {t k} hk ht ht' => (Below.heap_setCell W1 ⟨g, 4, none⟩ v1 k (hk.ne h.ty ht')).trans (h.grownInts hf hty hk ht)
  exact ⟨blk_put hb1 4 v1 rfl, h.hg, h.psC, h.psc, h.bkC, h.bkc, h.qC, h.qc, below_set hB h.hg, ints_putR hg1 (ints_grownR hf h.l (fun k hk e => h.ld k hk e)), ints_putR hg1 hr, Apart.symm (apart_afterR (Apart.symm h.ld) (fun k hk => (own_ty h.l hk).lt) hat), flat_move rfl h.p (fun k hk => both (own_ty h.p hk) (by decide) (by decide))⟩
/-- At the beginning. -/
theorem newRun_at {Ap Ab Aq : Option Addr} {cp cb cq : Nat} (hB : Below w0.heap.size w0 W) (hp : k33.C w0 Ap ps.length ps) (hpc : ps.length ≤ cp) (hb : (Kd.int .i64).C w0 Ab bk.length bk) (hbc : bk.length ≤ cb) (hq : k63.C w0 Aq q.length q) (hqc : q.length ≤ cq) :
    RunAt w0 (W.alloc (.cells #[.slice Ap ps.length cp, .slice Ab bk.length cb, .slice Aq q.length cq, .slice none 0 0, .slice none 0 0, .slice none 0 0] 114)) W.heap.size ⟨Ap, cp, Ab, cb, Aq, cq, .slice none 0 0, .slice none 0 0, .slice none 0 0⟩ ps bk q (newRX q 0) :=
  ⟨heap_alloc_new W _, hB.size, hp, hpc, hb, hbc, hq, hqc, below_alloc hB _, Kd.R_nil _ _ _ _ _, Kd.R_nil _ _ _ _ _, (fun k hk => by cases hk), Kd.R_nil _ _ _ _ _⟩
end
theorem take_succ_map {α : Type} {q : List S63} {j : Nat} (f : S63 → α) (hj : j < q.length) {x : S63} (hx : x = rd_T63 q (j : Int)) : (q.take (j + 1)).map f = (q.take j).map f ++ [f x] := by
  have e : q[j] = x := by rw [hx]; unfold rd_T63; rw [Int.toNat_natCast, List.getD_eq_getElem?_getD, List.getElem?_eq_getElem hj]; rfl
  rw [List.take_succ_eq_append_getElem hj, List.map_append, e]
  rfl
set_option maxHeartbeats 16000000 in
set_option maxRecDepth 100000 in
theorem newRun_calls {w0 W : World} {Ap Ab Aq : Option Addr} {cp cb cq : Nat} {ps : List S33} {bk : List Int} {q : List S63} (hB : Below w0.heap.size w0 W) (hp : k33.C w0 Ap ps.length ps) (hpc : ps.length ≤ cp) (hb : (Kd.int .i64).C w0 Ab bk.length bk) (hbc : bk.length ≤ cb) (hq : k63.C w0 Aq q.length q) (hqc : q.length ≤ cq) (hql : q.length ≤ 1000000) :
    Calls Try.prog 71 #[.slice Ap ps.length cp, .slice Ab bk.length cb, .slice Aq q.length cq] W fun e w' => ∃ g V, e = .returned (.pointer (some ⟨g, 0, none⟩)) ∧ RunAt w0 w' g V ps bk q (newRX q q.length) := by
  have h0 := newRun_at (W := W) hB hp hpc hb hbc hq hqc
  have HS0 := Aside0.mk h0
  have HQL := Aside0.mk hql
  have HQ := Aside0.mk hq
  clear h0 hB hp hb hq hql
  go_enter Try.func71, Try.ntmps71
  go_wp2
  obtain ⟨g, hg⟩ : ∃ g, g = W.heap.size := ⟨_, rfl⟩
  obtain ⟨w1, hw1⟩ : ∃ w1, w1 = W.alloc (.cells #[.slice Ap ps.length cp, .slice Ab bk.length cb, .slice Aq q.length cq, .slice none 0 0, .slice none 0 0, .slice none 0 0] 114) := ⟨_, rfl⟩
  rw [← hw1, ← hg]
  have HS1 := Aside0.mk (show RunAt w0 w1 g ⟨Ap, cp, Ab, cb, Aq, cq, .slice none 0 0, .slice none 0 0, .slice none 0 0⟩ ps bk q (newRX q 0) by rw [hw1, hg]; exact HS0.out)
  clear hw1 hg HS0
  go_loopg [8] q.length (fun kq v8 w' => ∃ (i : Nat) (V : RV), v8 = .int .i64 (i : Int) ∧ Aside0 (kq + i = q.length) ∧ Aside0 (V.Aq = Aq) ∧ Aside0 (RunAt w0 w' g V ps bk q (newRX q i)))
  case atStart => exact ⟨0, _, rfl, ⟨rfl⟩, ⟨rfl⟩, HS1⟩
  case round =>
    clear HS1
    obtain ⟨i, V, rfl, HK, HAQ, HS⟩ := hrel
    cases gk with
    | zero =>
      have hi : i = q.length := by have := HK.out; omega
      subst hi
      have d0 : decide ((q.length : Int) < (q.length : Int)) = false := decide_eq_false (by omega)
      clear HK
      go_wp2
      go_ret
      exact ⟨g, V, rfl, HS.out⟩
    | succ d =>
      have hi : i < q.length := by have := HK.out; omega
      have hi0 : (0 : Int) ≤ (i : Int) := by omega
      have hi1 : (i : Int) < (q.length : Int) := by omega
      have hd1 : decide ((i : Int) < (q.length : Int)) = true := decide_eq_true hi1
      have hwi : wrap64 ((i : Int) + 1) = ((i + 1 : Nat) : Int) := by have := HQL.out; unfold wrap64; omega
      obtain ⟨aq, eq⟩ : ∃ aq, Aq = some aq := (by obtain ⟨ad, e, _⟩ := at_T63 (Kd.C_below HQ.out HS.out.bel) (i : Int) hi0 hi1; exact ⟨ad, e⟩)
      subst eq
      obtain ⟨x, hx⟩ : ∃ x, x = rd_T63 q (i : Int) := ⟨_, rfl⟩
      have HX := Aside0.mk hx
      have hil : (newRX q i).left.length = i := by unfold newRX; simp; omega
      have hid : (newRX q i).done.length = i := by unfold newRX; simp; omega
      have HIL := Aside0.mk hil
      have HID := Aside0.mk hid
      obtain ⟨Al, cl, evl, x3⟩ : ∃ A c, V.vl = .slice A (newRX q i).left.length c ∧ wr.cell? ⟨g, 3, none⟩ = some (.slice A (newRX q i).left.length c) := (by obtain ⟨A, c, e, h, _⟩ := HS.out.c3; exact ⟨A, c, e, h⟩)
      have HEL := Aside0.mk evl
      obtain ⟨Ad, cd, evd⟩ := Kd.R_slice HS.out.d
      have HED := Aside0.mk evd
      clear hx hil hid evl x3 evd
      go_wp2
      refine start_ (n := 15) (S := fun w' => w'.heap[g]? = some (.cells #[.slice V.Ap ps.length V.cp, .slice V.Ab bk.length V.cb, .slice V.Aq q.length V.cq, V.vl, V.vd, V.vp] 114 (0, 0)) ∧ Below w0.heap.size w0 w') (ds := [14]) #[false, false, false, false, false, false, false, false, false, false, false, false, false, false, false] (by kernel_rfl) rfl rfl ⟨HS.out.hb, (HS.out.below (below_drew (Below.refl _ _))).bel⟩ (fun hHeld => ?_)
      obtain ⟨wda, hwd⟩ : ∃ wd, wd = wr.drew := ⟨_, rfl⟩
      have hwd' : ({ wr with drawn := wr.drawn + 1 } : World) = wda := hwd.symm
      have HSd := Aside0.mk (show RunAt w0 wda g V ps bk q (newRX q i) by rw [hwd]; exact HS.out.below (below_drew (Below.refl _ _)))
      rw [← hwd] at hHeld ⊢
      clear hwd'
      refine pure_ (i := 0) (N := some 20) (v := ?_) (a' := ?_) #[true, false, false, false, false, false, false, false, false, false, false, false, false, false, false] rfl rfl (by kernel_rfl) (fun _ _ _ h => h) (Or.inl ⟨by rfl, ?_⟩) ?_ ?_
      rotate_left
      · intro w'
        go_simp
        with_reducible rfl
      rotate_left
      · simp only [Act.put, List.setIfInBounds_toArray, List.set_cons_zero, List.set_cons_succ, i64_w, i32_w]
        rfl
      refine pure_ (i := 1) (N := some 21) (v := ?_) (a' := ?_) #[true, true, false, false, false, false, false, false, false, false, false, false, false, false, false] rfl rfl (by kernel_rfl) (fun _ _ _ h => h) (Or.inl ⟨by rfl, ?_⟩) ?_ ?_
      rotate_left
      · intro w'
        go_simp
        with_reducible rfl
      rotate_left
      · simp only [Act.put, List.setIfInBounds_toArray, List.set_cons_zero, List.set_cons_succ, i64_w, i32_w]
        rfl
      refine pure_ (i := 2) (N := some 22) (v := ?_) (a' := ?_) #[true, true, true, false, false, false, false, false, false, false, false, false, false, false, false] rfl rfl (by kernel_rfl) (fun _ _ _ h => h) (Or.inl ⟨by rfl, ?_⟩) ?_ ?_
      rotate_left
      · intro w'
        go_simp
        with_reducible rfl
      rotate_left
      · simp only [Act.put, List.setIfInBounds_toArray, List.set_cons_zero, List.set_cons_succ, i64_w, i32_w]
        rfl
      refine pure_ (i := 3) (N := some 23) (v := ?_) (a' := ?_) #[true, true, true, true, false, false, false, false, false, false, false, false, false, false, false] rfl rfl (by kernel_rfl) (fun _ _ _ h => h) (Or.inl ⟨by rfl, ?_⟩) ?_ ?_
      rotate_left
      · intro w'
        go_simp
        with_reducible rfl
      rotate_left
      · simp only [Act.put, List.setIfInBounds_toArray, List.set_cons_zero, List.set_cons_succ, i64_w, i32_w]
        rfl
      refine take_ (i := 4) (N := some 24) (v := .slice Al (newRX q i).left.length cl) (a' := ?_) #[true, true, true, true, true, false, false, false, false, false, false, false, false, false, false] rfl rfl (by kernel_rfl) (fun _ _ _ h => h) (Or.inl ⟨by rfl, ?_⟩) hHeld ?_ ?_
      · rintro w' ⟨sb, sB⟩
        have x5 : w'.cell? ⟨g, 3, none⟩ = some V.vl := (blk_cell sb 3).trans rfl
        rw [HEL.out] at x5
        go_simp
        all_goals (first | done | with_reducible rfl)
      rotate_left
      · simp only [Act.put, List.setIfInBounds_toArray, List.set_cons_zero, List.set_cons_succ, i64_w, i32_w]
        rfl
      refine pure_ (i := 5) (N := some 25) (v := ?_) (a' := ?_) #[true, true, true, true, true, true, false, false, false, false, false, false, false, false, false] rfl rfl (by kernel_rfl) (fun _ _ _ h => h) (Or.inl ⟨by rfl, ?_⟩) ?_ ?_
      rotate_left
      · intro w'
        go_simp
        with_reducible rfl
      rotate_left
      · simp only [Act.put, List.setIfInBounds_toArray, List.set_cons_zero, List.set_cons_succ, i64_w, i32_w]
        rfl
      refine pure_ (i := 6) (N := some 26) (v := ?_) (a' := ?_) #[true, true, true, true, true, true, true, false, false, false, false, false, false, false, false] rfl rfl (by kernel_rfl) (fun _ _ _ h => h) (Or.inl ⟨by rfl, ?_⟩) ?_ ?_
      rotate_left
      · intro w'
        go_simp
        with_reducible rfl
      rotate_left
      · simp only [Act.put, List.setIfInBounds_toArray, List.set_cons_zero, List.set_cons_succ, i64_w, i32_w]
        rfl
      refine pure_ (i := 7) (N := some 27) (v := ?_) (a' := ?_) #[true, true, true, true, true, true, true, true, false, false, false, false, false, false, false] rfl rfl (by kernel_rfl) (fun _ _ _ h => h) (Or.inl ⟨by rfl, ?_⟩) ?_ ?_
      rotate_left
      · intro w'
        go_simp
        with_reducible rfl
      rotate_left
      · simp only [Act.put, List.setIfInBounds_toArray, List.set_cons_zero, List.set_cons_succ, i64_w, i32_w]
        rfl
      refine pure_ (i := 8) (N := some 28) (v := ?_) (a' := ?_) #[true, true, true, true, true, true, true, true, true, false, false, false, false, false, false] rfl rfl (by kernel_rfl) (fun _ _ _ h => h) (Or.inl ⟨by rfl, ?_⟩) ?_ ?_
      rotate_left
      · intro w'
        go_simp
        with_reducible rfl
      rotate_left
      · simp only [Act.put, List.setIfInBounds_toArray, List.set_cons_zero, List.set_cons_succ, i64_w, i32_w]
        rfl
      refine take_ (i := 9) (N := some 29) (v := .int .i64 x.f1) (a' := ?_) #[true, true, true, true, true, true, true, true, true, true, false, false, false, false, false] rfl rfl (by kernel_rfl) (fun _ _ _ h => h) (Or.inl ⟨by rfl, ?_⟩) hHeld ?_ ?_
      · rintro w' ⟨sb, sB⟩
        obtain ⟨y1, y3⟩ := item_held HQ.out rfl hi0 hi1 sB
        rw [← HX.out, Int.toNat_natCast] at y1 y3
        go_simp
        all_goals (first | done | with_reducible rfl)
      rotate_left
      · simp only [Act.put, List.setIfInBounds_toArray, List.set_cons_zero, List.set_cons_succ, i64_w, i32_w]
        rfl
      refine one_ (i := 10) (N := some 30) #[true, true, true, true, true, true, true, true, true, true, true, false, false, false, false] rfl rfl (by kernel_rfl) (by decide) (fun K hK => ?_)
      refine Kd.R_lit_step (Kd.int .i64) (w0 := w0) w0.heap.size 3 ?hg (N := 30) ?hd (xs := ([x.f1] : List Int)) (inner := [.int .i64 x.f1]) (ok := fun _ => True) (okp := fun _ => True) ?hr ?hp (fun _ hk => hk) trivial HSd.out.bel HSd.out.bel.size (by simp) ?_
      (case hd => rfl)
      (case hg => rfl)
      (case hr => first | (go_simp; done) | (go_simp; rfl))
      (case hp => exact (Reps.one (show Kd.M (Kd.int .i64) _ _ _ x.f1 [.int .i64 x.f1] from rfl) (Reps.none _ _)))
      intro vl wl ho hb hg_ hnew_
      have HSl := Aside0.mk (show RunAt w0 wl g V ps bk q (newRX q i) from HSd.out.grown hg_ hb (fun k e => by cases e))
      have HLT := Aside0.mk ho
      clear ho hb hg_ hnew_ HSd hHeld
      obtain ⟨Alt, clt, el⟩ := Kd.R_slice HLT.out
      subst el
      refine hK.out _ _ ⟨HSl.out.hb, HSl.out.bel⟩ (fun hHeld => ?_)
      clear hK K
      refine norm_ (a' := ?_) ?_ ?_
      rotate_left
      · show Act.put _ (some 30) _ = _
        simp only [Act.put, List.setIfInBounds_toArray, List.set_cons_zero, List.set_cons_succ, i64_w, i32_w]
        rfl
      refine one_ (i := 11) (N := some 31) #[true, true, true, true, true, true, true, true, true, true, true, true, false, false, false] rfl rfl (by kernel_rfl) (by decide) (fun K hK => ?_)
      refine Kd.R_append_rows_step (Kd.int .i64) (w0 := w0) w0.heap.size (by rfl) (.tmp 24) (.tmp 30) 35 3 (.int .i64 0) 8 rfl Try.underlying35 info3 rfl (by decide) (by omega) V.vl (newRX q i).left ([x.f1] : List Int) _ _ _ (fun _ => True) (fun _ => False) (by rw [HEL.out]; rfl) rfl HSl.out.l (Kd.R_reads' HLT.out).2.2 (fun _ _ h => h) (fun _ h => h.elim) (fun _ _ => trivial) HSl.out.bel HSl.out.bel.size (by have := HQL.out; rw [HIL.out]; simp; omega) ?_
      intro va wa ho hb hg_ hat_
      obtain ⟨Aa, ca, ea⟩ := Kd.R_slice ho
      subst ea
      have HBa := Aside0.mk (show wa.heap[g]? = some (.cells #[.slice V.Ap ps.length V.cp, .slice V.Ab bk.length V.cb, .slice V.Aq q.length V.cq, V.vl, V.vd, V.vp] 114 (0, 0)) from (hg_.block g HSl.out.ty.lt (fun e => HSl.out.ty.ne (own_ty HSl.out.l e.symm) (by decide) rfl)).trans HSl.out.hb)
      have HOa := Aside0.mk ho
      have HGa := Aside0.mk hg_
      have HAT := Aside0.mk hat_
      have HBB := Aside0.mk hb
      clear ho hb hg_ hat_ hHeld
      have fz5 : wa.frozen? ⟨g, 3, none⟩ = false := blk_frozen HBa.out 3
      have x5 : wa.cell? ⟨g, 3, none⟩ = some V.vl := (blk_cell HBa.out 3).trans rfl
      refine hK.out _ _ ⟨HBa.out, HBB.out⟩ (fun hHeld => ?_)
      clear hK K
      refine norm_ (a' := ?_) ?_ ?_
      rotate_left
      · show Act.put _ (some 31) _ = _
        simp only [Act.put, List.setIfInBounds_toArray, List.set_cons_zero, List.set_cons_succ, i64_w, i32_w]
        rfl
      refine pure_ (i := 12) (N := some 32) (v := ?_) (a' := ?_) #[true, true, true, true, true, true, true, true, true, true, true, true, true, false, false] rfl rfl (by kernel_rfl) (fun _ _ _ h => h) (Or.inl ⟨by rfl, ?_⟩) ?_ ?_
      rotate_left
      · intro w'
        go_simp
        with_reducible rfl
      rotate_left
      · simp only [Act.put, List.setIfInBounds_toArray, List.set_cons_zero, List.set_cons_succ, i64_w, i32_w]
        rfl
      refine pure_ (i := 13) (N := some 33) (v := ?_) (a' := ?_) #[true, true, true, true, true, true, true, true, true, true, true, true, true, true, false] rfl rfl (by kernel_rfl) (fun _ _ _ h => h) (Or.inl ⟨by rfl, ?_⟩) ?_ ?_
      rotate_left
      · intro w'
        go_simp
        with_reducible rfl
      rotate_left
      · simp only [Act.put, List.setIfInBounds_toArray, List.set_cons_zero, List.set_cons_succ, i64_w, i32_w]
        rfl
      refine last_ (i := 14) (N := none) #[true, true, true, true, true, true, true, true, true, true, true, true, true, true, true] rfl rfl (by kernel_rfl) (by decide) (fun K hK => ?_)
      refine snd_store_step (w1 := wa.setCell ⟨g, 3, none⟩ (.slice Aa ((newRX q i).left ++ [x.f1]).length ca)) (by rfl) rfl ?hr ?_
      (case hr => first | (go_simp; done) | (go_simp; rfl))
      refine hK.out _ _ ?_
      clear hK K
      refine norm_ (a' := ?_) ?_ ?_
      rotate_left
      · show Act.put _ none undef = _
        simp only [Act.put]
        rfl
      refine done_ (by kernel_rfl) ?_
      have hq5 := HSl.out.appLeft HOa.out HBB.out HGa.out HAT.out
      obtain ⟨w5a, hw5⟩ : ∃ w5, w5 = wa.setCell ⟨g, 3, none⟩ (.slice Aa ((newRX q i).left ++ [x.f1]).length ca) := ⟨_, rfl⟩
      rw [← hw5] at hq5 ⊢
      have HSva := Aside0.mk hq5
      clear hq5 hw5 HBa HOa HGa HAT HBB fz5 x5 HLT HSl hHeld
      obtain ⟨V5, hV5⟩ : ∃ V5, V5 = ({ V with vl := (.slice Aa ((newRX q i).left ++ [x.f1]).length ca) } : RV) := ⟨_, rfl⟩
      rw [← hV5] at HSva
      obtain ⟨s5, hs5⟩ : ∃ s5, s5 = ({ newRX q i with left := (newRX q i).left ++ [x.f1] } : RX) := ⟨_, rfl⟩
      rw [← hs5] at HSva
      have HED5 := Aside0.mk (show V5.vd = .slice Ad s5.done.length cd by rw [hV5, hs5]; exact HED.out)
      have HAQ5 := Aside0.mk (show V5.Aq = some aq by rw [hV5]; exact HAQ.out)
      have HS5 := Aside0.mk hs5
      have HID2 := Aside0.mk (show s5.done.length = i by rw [hs5]; exact HID.out)
      clear hV5 hs5 HS HED HAQ
      obtain ⟨y1, y3⟩ := item_held HQ.out rfl hi0 hi1 HSva.out.bel
      rw [← HX.out, Int.toNat_natCast] at y1 y3
      have x4 : w5a.cell? ⟨g, 4, none⟩ = some (.slice Ad s5.done.length cd) := (by rw [← HED5.out]; exact (blk_cell HSva.out.hb 4).trans rfl)
      by_cases c : x.f1 = 0
      · have dc : (x.f1 == 0) = true := beq_iff_eq.mpr c
        have C := Aside0.mk c
        clear c x4
        go_wp2
        clear y1 y3
        refine start_ (n := 15) (S := fun w' => w'.heap[g]? = some (.cells #[.slice V5.Ap ps.length V5.cp, .slice V5.Ab bk.length V5.cb, .slice V5.Aq q.length V5.cq, V5.vl, V5.vd, V5.vp] 114 (0, 0)) ∧ Below w0.heap.size w0 w') (ds := [14]) #[false, false, false, false, false, false, false, false, false, false, false, false, false, false, false] (by kernel_rfl) rfl rfl ⟨HSva.out.hb, (HSva.out.below (below_drew (Below.refl _ _))).bel⟩ (fun hHeld => ?_)
        obtain ⟨wdb, hwd⟩ : ∃ wd, wd = w5a.drew := ⟨_, rfl⟩
        have hwd' : ({ w5a with drawn := w5a.drawn + 1 } : World) = wdb := hwd.symm
        have HSd := Aside0.mk (show RunAt w0 wdb g V5 ps bk q s5 by rw [hwd]; exact HSva.out.below (below_drew (Below.refl _ _)))
        rw [← hwd] at hHeld ⊢
        clear hwd'
        refine pure_ (i := 0) (N := some 40) (v := ?_) (a' := ?_) #[true, false, false, false, false, false, false, false, false, false, false, false, false, false, false] rfl rfl (by kernel_rfl) (fun _ _ _ h => h) (Or.inl ⟨by rfl, ?_⟩) ?_ ?_
        rotate_left
        · intro w'
          go_simp
          with_reducible rfl
        rotate_left
        · simp only [Act.put, List.setIfInBounds_toArray, List.set_cons_zero, List.set_cons_succ, i64_w, i32_w]
          rfl
        refine pure_ (i := 1) (N := some 41) (v := ?_) (a' := ?_) #[true, true, false, false, false, false, false, false, false, false, false, false, false, false, false] rfl rfl (by kernel_rfl) (fun _ _ _ h => h) (Or.inl ⟨by rfl, ?_⟩) ?_ ?_
        rotate_left
        · intro w'
          go_simp
          with_reducible rfl
        rotate_left
        · simp only [Act.put, List.setIfInBounds_toArray, List.set_cons_zero, List.set_cons_succ, i64_w, i32_w]
          rfl
        refine pure_ (i := 2) (N := some 42) (v := ?_) (a' := ?_) #[true, true, true, false, false, false, false, false, false, false, false, false, false, false, false] rfl rfl (by kernel_rfl) (fun _ _ _ h => h) (Or.inl ⟨by rfl, ?_⟩) ?_ ?_
        rotate_left
        · intro w'
          go_simp
          with_reducible rfl
        rotate_left
        · simp only [Act.put, List.setIfInBounds_toArray, List.set_cons_zero, List.set_cons_succ, i64_w, i32_w]
          rfl
        refine pure_ (i := 3) (N := some 43) (v := ?_) (a' := ?_) #[true, true, true, true, false, false, false, false, false, false, false, false, false, false, false] rfl rfl (by kernel_rfl) (fun _ _ _ h => h) (Or.inl ⟨by rfl, ?_⟩) ?_ ?_
        rotate_left
        · intro w'
          go_simp
          with_reducible rfl
        rotate_left
        · simp only [Act.put, List.setIfInBounds_toArray, List.set_cons_zero, List.set_cons_succ, i64_w, i32_w]
          rfl
        refine take_ (i := 4) (N := some 44) (v := .slice Ad s5.done.length cd) (a' := ?_) #[true, true, true, true, true, false, false, false, false, false, false, false, false, false, false] rfl rfl (by kernel_rfl) (fun _ _ _ h => h) (Or.inl ⟨by rfl, ?_⟩) hHeld ?_ ?_
        · rintro w' ⟨sb, sB⟩
          have x5 : w'.cell? ⟨g, 4, none⟩ = some V5.vd := (blk_cell sb 4).trans rfl
          rw [HED5.out] at x5
          go_simp
          all_goals (first | done | with_reducible rfl)
        rotate_left
        · simp only [Act.put, List.setIfInBounds_toArray, List.set_cons_zero, List.set_cons_succ, i64_w, i32_w]
          rfl
        refine pure_ (i := 5) (N := some 45) (v := ?_) (a' := ?_) #[true, true, true, true, true, true, false, false, false, false, false, false, false, false, false] rfl rfl (by kernel_rfl) (fun _ _ _ h => h) (Or.inl ⟨by rfl, ?_⟩) ?_ ?_
        rotate_left
        · intro w'
          go_simp
          with_reducible rfl
        rotate_left
        · simp only [Act.put, List.setIfInBounds_toArray, List.set_cons_zero, List.set_cons_succ, i64_w, i32_w]
          rfl
        refine pure_ (i := 6) (N := some 46) (v := ?_) (a' := ?_) #[true, true, true, true, true, true, true, false, false, false, false, false, false, false, false] rfl rfl (by kernel_rfl) (fun _ _ _ h => h) (Or.inl ⟨by rfl, ?_⟩) ?_ ?_
        rotate_left
        · intro w'
          go_simp
          with_reducible rfl
        rotate_left
        · simp only [Act.put, List.setIfInBounds_toArray, List.set_cons_zero, List.set_cons_succ, i64_w, i32_w]
          rfl
        refine pure_ (i := 7) (N := some 47) (v := ?_) (a' := ?_) #[true, true, true, true, true, true, true, true, false, false, false, false, false, false, false] rfl rfl (by kernel_rfl) (fun _ _ _ h => h) (Or.inl ⟨by rfl, ?_⟩) ?_ ?_
        rotate_left
        · intro w'
          go_simp
          with_reducible rfl
        rotate_left
        · simp only [Act.put, List.setIfInBounds_toArray, List.set_cons_zero, List.set_cons_succ, i64_w, i32_w]
          rfl
        refine pure_ (i := 8) (N := some 48) (v := ?_) (a' := ?_) #[true, true, true, true, true, true, true, true, true, false, false, false, false, false, false] rfl rfl (by kernel_rfl) (fun _ _ _ h => h) (Or.inl ⟨by rfl, ?_⟩) ?_ ?_
        rotate_left
        · intro w'
          go_simp
          with_reducible rfl
        rotate_left
        · simp only [Act.put, List.setIfInBounds_toArray, List.set_cons_zero, List.set_cons_succ, i64_w, i32_w]
          rfl
        refine take_ (i := 9) (N := some 49) (v := .int .i64 x.f3) (a' := ?_) #[true, true, true, true, true, true, true, true, true, true, false, false, false, false, false] rfl rfl (by kernel_rfl) (fun _ _ _ h => h) (Or.inl ⟨by rfl, ?_⟩) hHeld ?_ ?_
        · rintro w' ⟨sb, sB⟩
          obtain ⟨y1, y3⟩ := item_held HQ.out rfl hi0 hi1 sB
          rw [← HX.out, Int.toNat_natCast] at y1 y3
          go_simp
          all_goals (first | done | with_reducible rfl)
        rotate_left
        · simp only [Act.put, List.setIfInBounds_toArray, List.set_cons_zero, List.set_cons_succ, i64_w, i32_w]
          rfl
        refine one_ (i := 10) (N := some 50) #[true, true, true, true, true, true, true, true, true, true, true, false, false, false, false] rfl rfl (by kernel_rfl) (by decide) (fun K hK => ?_)
        refine Kd.R_lit_step (Kd.int .i64) (w0 := w0) w0.heap.size 3 ?hg (N := 50) ?hd (xs := ([x.f3] : List Int)) (inner := [.int .i64 x.f3]) (ok := fun _ => True) (okp := fun _ => True) ?hr ?hp (fun _ hk => hk) trivial HSd.out.bel HSd.out.bel.size (by simp) ?_
        (case hd => rfl)
        (case hg => rfl)
        (case hr => first | (go_simp; done) | (go_simp; rfl))
        (case hp => exact (Reps.one (show Kd.M (Kd.int .i64) _ _ _ x.f3 [.int .i64 x.f3] from rfl) (Reps.none _ _)))
        intro vl wl ho hb hg_ hnew_
        have HSl := Aside0.mk (show RunAt w0 wl g V5 ps bk q s5 from HSd.out.grown hg_ hb (fun k e => by cases e))
        have HLT := Aside0.mk ho
        clear ho hb hg_ hnew_ HSd hHeld
        obtain ⟨Alt, clt, el⟩ := Kd.R_slice HLT.out
        subst el
        refine hK.out _ _ ⟨HSl.out.hb, HSl.out.bel⟩ (fun hHeld => ?_)
        clear hK K
        refine norm_ (a' := ?_) ?_ ?_
        rotate_left
        · show Act.put _ (some 50) _ = _
          simp only [Act.put, List.setIfInBounds_toArray, List.set_cons_zero, List.set_cons_succ, i64_w, i32_w]
          rfl
        refine one_ (i := 11) (N := some 51) #[true, true, true, true, true, true, true, true, true, true, true, true, false, false, false] rfl rfl (by kernel_rfl) (by decide) (fun K hK => ?_)
        refine Kd.R_append_rows_step (Kd.int .i64) (w0 := w0) w0.heap.size (by rfl) (.tmp 44) (.tmp 50) 35 3 (.int .i64 0) 8 rfl Try.underlying35 info3 rfl (by decide) (by omega) V5.vd s5.done ([x.f3] : List Int) _ _ _ (fun _ => True) (fun _ => False) (by rw [HED5.out]; rfl) rfl HSl.out.d (Kd.R_reads' HLT.out).2.2 (fun _ _ h => h) (fun _ h => h.elim) (fun _ _ => trivial) HSl.out.bel HSl.out.bel.size (by have := HQL.out; rw [HID2.out]; simp; omega) ?_
        intro va wa ho hb hg_ hat_
        obtain ⟨Aa, ca, ea⟩ := Kd.R_slice ho
        subst ea
        have HBa := Aside0.mk (show wa.heap[g]? = some (.cells #[.slice V5.Ap ps.length V5.cp, .slice V5.Ab bk.length V5.cb, .slice V5.Aq q.length V5.cq, V5.vl, V5.vd, V5.vp] 114 (0, 0)) from (hg_.block g HSl.out.ty.lt (fun e => HSl.out.ty.ne (own_ty HSl.out.d e.symm) (by decide) rfl)).trans HSl.out.hb)
        have HOa := Aside0.mk ho
        have HGa := Aside0.mk hg_
        have HAT := Aside0.mk hat_
        have HBB := Aside0.mk hb
        clear ho hb hg_ hat_ hHeld
        have fz5 : wa.frozen? ⟨g, 4, none⟩ = false := blk_frozen HBa.out 4
        have x5 : wa.cell? ⟨g, 4, none⟩ = some V5.vd := (blk_cell HBa.out 4).trans rfl
        refine hK.out _ _ ⟨HBa.out, HBB.out⟩ (fun hHeld => ?_)
        clear hK K
        refine norm_ (a' := ?_) ?_ ?_
        rotate_left
        · show Act.put _ (some 51) _ = _
          simp only [Act.put, List.setIfInBounds_toArray, List.set_cons_zero, List.set_cons_succ, i64_w, i32_w]
          rfl
        refine pure_ (i := 12) (N := some 52) (v := ?_) (a' := ?_) #[true, true, true, true, true, true, true, true, true, true, true, true, true, false, false] rfl rfl (by kernel_rfl) (fun _ _ _ h => h) (Or.inl ⟨by rfl, ?_⟩) ?_ ?_
        rotate_left
        · intro w'
          go_simp
          with_reducible rfl
        rotate_left
        · simp only [Act.put, List.setIfInBounds_toArray, List.set_cons_zero, List.set_cons_succ, i64_w, i32_w]
          rfl
        refine pure_ (i := 13) (N := some 53) (v := ?_) (a' := ?_) #[true, true, true, true, true, true, true, true, true, true, true, true, true, true, false] rfl rfl (by kernel_rfl) (fun _ _ _ h => h) (Or.inl ⟨by rfl, ?_⟩) ?_ ?_
        rotate_left
        · intro w'
          go_simp
          with_reducible rfl
        rotate_left
        · simp only [Act.put, List.setIfInBounds_toArray, List.set_cons_zero, List.set_cons_succ, i64_w, i32_w]
          rfl
        refine last_ (i := 14) (N := none) #[true, true, true, true, true, true, true, true, true, true, true, true, true, true, true] rfl rfl (by kernel_rfl) (by decide) (fun K hK => ?_)
        refine snd_store_step (w1 := wa.setCell ⟨g, 4, none⟩ (.slice Aa (s5.done ++ [x.f3]).length ca)) (by rfl) rfl ?hr ?_
        (case hr => first | (go_simp; done) | (go_simp; rfl))
        refine hK.out _ _ ?_
        clear hK K
        refine norm_ (a' := ?_) ?_ ?_
        rotate_left
        · show Act.put _ none undef = _
          simp only [Act.put]
          rfl
        refine done_ (by kernel_rfl) ?_
        have hq5 := HSl.out.appDone HOa.out HBB.out HGa.out HAT.out
        obtain ⟨w5b, hw5⟩ : ∃ w5, w5 = wa.setCell ⟨g, 4, none⟩ (.slice Aa (s5.done ++ [x.f3]).length ca) := ⟨_, rfl⟩
        rw [← hw5] at hq5 ⊢
        have HSvb := Aside0.mk hq5
        clear hq5 hw5 HBa HOa HGa HAT HBB fz5 x5 HLT HSl hHeld
        go_wp2
        go_roundg d
        case measure => omega
        case rel => exact ⟨i + 1, { V5 with vd := .slice Aa (s5.done ++ [x.f3]).length ca }, (by first | rfl | (rw [hwi]) | (simp [hwi]; done) | (simp; done)), ⟨by have := HK.out; omega⟩, ⟨HAQ5.out⟩, ⟨by have e : ({ s5 with done := s5.done ++ [x.f3] } : RX) = newRX q (i + 1) := (by rw [HS5.out]; unfold newRX; rw [take_succ_map (·.f1) hi HX.out, take_succ_map dnR hi HX.out, show dnR x = x.f3 from if_pos C.out]); rw [← e]; exact HSvb.out⟩⟩
      · have dc : (x.f1 == 0) = false := beq_eq_false_iff_ne.mpr c
        have C := Aside0.mk c
        clear c
        go_wp2_with (first | ((with_reducible refine gate_builtin (b := .append) (xs := #[.tmp 58, .tmp 59]) rfl ?_); at_builtin; go_loud (refine Kd.R_append (Kd.int .i64) (w0 := w0) (W := w5a) w0.heap.size rfl (.tmp 58) (.tmp 59) 35 3 (.int .i64 0) 8 rfl Try.underlying35 info3 rfl (by decide) (by omega) (.slice Ad s5.done.length cd) s5.done (-1 : Int) [.int .i64 (-1)] (fun _ => True) (fun _ => False) rfl (by first | rfl | (go_simp; done) | (simp [World.alloc]; done)) (show Kd.M (Kd.int .i64) _ _ _ (-1 : Int) [.int .i64 (-1)] from rfl) (fun _ h => h.elim) (fun _ _ => trivial) (by rw [← HED5.out]; exact HSva.out.d) HSva.out.bel HSva.out.bel.size (by have := HQL.out; rw [HID2.out]; omega) ?_); go_loud (intro v3 w3 ho hb hg_ hat_; have hg2 : w5a.grownBy w3 V5.vd.ownBlock := (by rw [HED5.out]; exact hg_); have HBa := Aside0.mk (show w3.heap[g]? = some (.cells #[.slice V5.Ap ps.length V5.cp, .slice V5.Ab bk.length V5.cb, .slice V5.Aq q.length V5.cq, V5.vl, V5.vd, V5.vp] 114 (0, 0)) from (hg2.block g HSva.out.ty.lt (fun e => HSva.out.ty.ne (own_ty HSva.out.d e.symm) (by decide) rfl)).trans HSva.out.hb); have h6 := HSva.out.appDone ho hb hg2 (by rw [HED5.out]; exact hat_); have HS6 := Aside0.mk h6; have fz6 : w3.frozen? ⟨g, 4, none⟩ = false := blk_frozen HBa.out 4; have x6 : w3.cell? ⟨g, 4, none⟩ = some V5.vd := (blk_cell HBa.out 4).trans rfl; obtain ⟨A6, c6, e6⟩ := Kd.R_slice ho; clear ho hb hg_ hat_ hg2 h6 x4)) | ((with_reducible refine gate_store (t := 35) (p := 62) rfl ?_); refine store_event (t := 35) (p := 62) (v := .tmp 60) (w1 := w3.setCell ⟨g, 4, none⟩ v3) ?hg ?ho ?hn ?hr ?_; (case ho => rfl); (case hg => rfl); (case hn => rfl); (case hr => subst e6; first | (go_simp; done) | (go_simp; rfl)); intro w4 hw4; rw [← hw4] at HS6; clear hw4 x6 fz6))
        go_roundg d
        case measure => omega
        case rel => exact ⟨i + 1, { V5 with vd := v3 }, (by first | rfl | (rw [hwi]) | (simp [hwi]; done) | (simp; done)), ⟨by have := HK.out; omega⟩, ⟨HAQ5.out⟩, ⟨by have e : ({ s5 with done := s5.done ++ [-1] } : RX) = newRX q (i + 1) := (by rw [HS5.out]; unfold newRX; rw [take_succ_map (·.f1) hi HX.out, take_succ_map dnR hi HX.out, show dnR x = -1 from if_neg C.out]); rw [← e]; exact HS6.out⟩⟩
def perigeeref10_number.l0 : Nat → List Int → Int → Int → Option (List Int)
  | 0, _, _, _ => none
  | k + 1, x0, x1, x5 => if x5 > 0 then (if 0 ≤ (wrap64 (x5 - 1)) then (if (wrap64 (x5 - 1)) < (x0.length : Int) then (if (rd x0 (wrap64 (x5 - 1))) > x1 then (perigeeref10_number.l0 k x0 x1 (wrap64 (x5 - 1))) else (if (rd x0 (wrap64 (x5 - 1))) = x1 then (some x0) else (if 0 ≤ x5 then (if x5 ≤ (x0.length : Int) then ((some (x0.take (x5 : Int).toNat : List Int)).bind fun y103 => (if ([] : List Int).length + y103.length < 17592186044416 then ((some (([] : List Int) ++ y103 : List Int)).bind fun y107 => (if y107.length < 17592186044416 then ((some (y107 ++ [x1] : List Int)).bind fun y110 => ((some (x0.drop (x5 : Int).toNat : List Int)).bind fun y113 => (if y110.length + y113.length < 17592186044416 then (some (y110 ++ y113)) else (none)))) else (none))) else (none))) else (none)) else (none)))) else (none)) else (none)) else (if 0 ≤ x5 then (if x5 ≤ (x0.length : Int) then ((some (x0.take (x5 : Int).toNat : List Int)).bind fun y120 => (if ([] : List Int).length + y120.length < 17592186044416 then ((some (([] : List Int) ++ y120 : List Int)).bind fun y124 => (if y124.length < 17592186044416 then ((some (y124 ++ [x1] : List Int)).bind fun y127 => ((some (x0.drop (x5 : Int).toNat : List Int)).bind fun y130 => (if y127.length + y130.length < 17592186044416 then (some (y127 ++ y130)) else (none)))) else (none))) else (none))) else (none)) else (none))
def perigeeref10_number.f (k : Nat) (l0 : List Int) (a1 : Int) : Option (List Int) := perigeeref10_number.l0 k l0 a1 (l0.length : Int)
theorem d92a {p : Prop} (h : p := by first | exact HK.out.1 | exact (show Kept w _ (fun k_ => P0_ k_) from by repeat (first | (with_reducible first | exact HK.out | apply Kept.alloc | apply Kept.drewN | apply Kept.drew) | exact HK.out)).1) : p := h
theorem d92b {p : Prop} (h : p := by repeat (first | (with_reducible first | exact HB.out | apply below_alloc | apply pw_below_drewN | apply below_drew1) | exact HB.out)) : p := h
theorem d92c {p : Prop} (h : p := by repeat (first | (with_reducible first | exact HK.out | apply Kept.alloc | apply Kept.drewN | apply Kept.drew) | exact HK.out)) : p := h
theorem d92d {p : Prop} (h : p := by (with_reducible repeat (first | apply Kd.R_alloc | apply Kd.R_drewN | apply Kd.R_drew)); exact HO_0.out) : p := h
theorem d92e {p : Prop} (h : p := by first | (with_reducible assumption) | assumption) : p := h
set_option maxHeartbeats 8000000 in
set_option maxRecDepth 100000 in
theorem perigeeref10_number.calls (k : Nat) (P0_ : Nat → Prop) (u9000_ : Value) (l0 : List Int) (a1 : Int) (r : List Int) (w0 w : World) (hB : Below w0.heap.size w0 w) (ho0 : Kd.R (Kd.int .i64) 3 w w0.heap.size P0_ u9000_ l0) (h : perigeeref10_number.f k l0 a1 = some r) :
 Calls Try.prog 92 #[u9000_, .int .i64 a1] w fun e w' => ∃ v0_ : Value, e = .returned (v0_) ∧ Kd.R (Kd.int .i64) 3 w' w0.heap.size (fun k_ => (P0_ k_ ∨ w.heap.size ≤ k_)) v0_ r ∧ Below w0.heap.size w0 w' ∧ Kept w w' (fun k_ => P0_ k_) := by
 have HO0 := Aside0.mk (show Kd.R (Kd.int .i64) 3 w w0.heap.size (fun k_ => (P0_ k_ ∨ w.heap.size ≤ k_)) u9000_ l0 from Kd.R_mono ho0 (fun k_ hk => (.inl hk)))
 have HK := Aside0.mk (Kept.refl w (fun k_ => P0_ k_))
 have HW0 := Aside0.mk hB.size
 have HB := Aside0.mk hB
 clear hB
 have H : (perigeeref10_number.l0 k l0 a1 (l0.length : Int)) = some r := h
 clear h
 have H' := Aside0.mk H
 clear H
 obtain ⟨Ao3, co3, eo3⟩ := Kd.R_slice HO0.out
 subst eo3
 go_enter Try.func92, Try.ntmps92
 go_wp2
 go_loopg [5] k (fun kq v5 w' => ∃ (x5_1 : Int), v5 = .int .i64 x5_1 ∧ Aside0 (perigeeref10_number.l0 kq l0 a1 x5_1 = some r) ∧ Aside0 (kq ≤ k) ∧ Aside0 (Kd.R (Kd.int .i64) 3 w' w0.heap.size (fun k_ => (P0_ k_ ∨ w.heap.size ≤ k_)) (.slice Ao3 l0.length co3) l0) ∧ Aside0 (Kept w w' (fun k_ => P0_ k_)) ∧ Aside0 (Below w0.heap.size w0 w'))
 case atStart => exact ⟨((l0.length : Int)), (by first | rfl | (simp; done) | (simp [*]; done)), H', ⟨Nat.le_refl _⟩, ⟨by (with_reducible repeat (first | apply Kd.R_alloc | apply Kd.R_drewN | apply Kd.R_drew)); exact HO0.out⟩, ⟨d92c⟩, ⟨d92b⟩⟩
 case round =>
  clear H'
  obtain ⟨x5_1, rfl, HA, HK1, HO_0, HK, HB⟩ := hrel
  cases gk with
  | zero => exact absurd HA.out (by simp [perigeeref10_number.l0])
  | succ k1 =>
   have H := HA.out
   clear HA
   simp only [perigeeref10_number.l0] at H
   by_cases c4 : x5_1 > 0
   · rw [if_pos c4] at H
     have c4b0 : decide (0 < x5_1) = true := decide_eq_true c4
     clear c4
     obtain ⟨ji5, hji5⟩ : ∃ j_ : Int, (wrap64 (x5_1 - 1)) = j_ := ⟨_, rfl⟩
     replace H : (if 0 ≤ (ji5) then (if (ji5) < (l0.length : Int) then (if (rd l0 (ji5)) > a1 then (perigeeref10_number.l0 k1 l0 a1 ji5) else (if (rd l0 (ji5)) = a1 then (some l0) else (if 0 ≤ x5_1 then (if x5_1 ≤ (l0.length : Int) then ((some (l0.take (x5_1 : Int).toNat : List Int)).bind fun y103 => (if ([] : List Int).length + y103.length < 17592186044416 then ((some (([] : List Int) ++ y103 : List Int)).bind fun y107 => (if y107.length < 17592186044416 then ((some (y107 ++ [a1] : List Int)).bind fun y110 => ((some (l0.drop (x5_1 : Int).toNat : List Int)).bind fun y113 => (if y110.length + y113.length < 17592186044416 then (some (y110 ++ y113)) else (none)))) else (none))) else (none))) else (none)) else (none)))) else (none)) else (none)) = some r := by first | (rw [hji5] at H; exact H) | (simp only [hji5] at H ⊢; exact H)
     have hji5w : (IntKind.i64.wrap (x5_1 - 1)) = ji5 := (i64_w _).trans hji5
     replace H := guardT H; obtain ⟨c6, H⟩ := H
     have c6b0 : decide (0 ≤ (ji5)) = true := decide_eq_true c6
     clear c6
     replace H := guardT H; obtain ⟨c7, H⟩ := H
     have c7b0 : decide ((ji5) < (l0.length : Int)) = true := decide_eq_true c7
     clear c7
     by_cases c8 : (rd l0 (ji5)) > a1
     · rw [if_pos c8] at H
       have c8b0 : decide (a1 < (rd l0 (ji5))) = true := decide_eq_true c8
       clear c8
       have H' := Aside0.mk H
       clear H
       have p101 : 0 ≤ ((ji5) : Int) := of_decide_eq_true d92e
       have q101 : (ji5) < (l0.length : Int) := of_decide_eq_true d92e
       obtain ⟨ad101, e101, hx101_0⟩ := Kd.at_int (Kd.R_reads' HO_0.out).2.2 (ji5) p101 q101
       cases e101
       replace p101 := eq_true p101
       replace q101 := eq_true q101
       go_wp2
       go_roundg k1
       case measure => have := HK1.out; omega
       case rel => exact ⟨(ji5), (by first | rfl | (simp; done) | (simp only [← hji5] <;> (first | rfl | simp)) | (simp [*]; done)), H', ⟨by have := HK1.out; omega⟩, ⟨d92d⟩, ⟨d92c⟩, ⟨d92b⟩⟩
     · rw [if_neg c8] at H
       have c8b0 : decide (a1 < (rd l0 (ji5))) = false := decide_eq_false c8
       clear c8
       by_cases c9 : (rd l0 (ji5)) = a1
       · rw [if_pos c9] at H
         have c9b0 : ((rd l0 (ji5)) == a1) = true := beq_iff_eq.mpr c9
         have c9b1 : ((rd l0 (ji5)) != a1) = false := bne_eq_false_iff_eq.mpr c9
         clear c9
         obtain rfl := Option.some.inj H
         have p101 : 0 ≤ ((ji5) : Int) := of_decide_eq_true d92e
         have q101 : (ji5) < (l0.length : Int) := of_decide_eq_true d92e
         obtain ⟨ad101, e101, hx101_0⟩ := Kd.at_int (Kd.R_reads' HO_0.out).2.2 (ji5) p101 q101
         cases e101
         replace p101 := eq_true p101
         replace q101 := eq_true q101
         have p102 : 0 ≤ ((ji5) : Int) := of_decide_eq_true d92e
         have q102 : (ji5) < (l0.length : Int) := of_decide_eq_true d92e
         obtain ⟨ad102, e102, hx102_0⟩ := Kd.at_int (Kd.R_reads' HO_0.out).2.2 (ji5) p102 q102
         obtain rfl : ad101 = ad102 := (by injection e102)
         replace p102 := eq_true p102
         replace q102 := eq_true q102
         go_wp2
         go_ret
         exact ⟨_, by first | rfl | (simp [errW_none, errW_some] <;> rfl) | (simp only [← hji5]; first | rfl | (simp [errW_none, errW_some] <;> rfl)) | (simp [*, errW_none, errW_some] <;> rfl), d92d, d92b, d92c⟩
       · rw [if_neg c9] at H
         have c9b0 : ((rd l0 (ji5)) == a1) = false := beq_eq_false_iff_ne.mpr c9
         have c9b1 : ((rd l0 (ji5)) != a1) = true := bne_iff_ne.mpr c9
         replace H := guardT H; obtain ⟨c10, H⟩ := H
         have c10b0 := eq_true c10
         have c10b1 : decide (0 ≤ x5_1) = true := decide_eq_true c10
         clear c10
         replace H := guardT H; obtain ⟨c11, H⟩ := H
         have c11b0 := eq_true c11
         have c11b1 : decide (x5_1 ≤ (l0.length : Int)) = true := decide_eq_true c11
         clear c11
         obtain ⟨y103, hy103⟩ : ∃ y_ : List Int, y_ = (l0.take (x5_1 : Int).toNat) := ⟨_, rfl⟩
         replace H : (if ([] : List Int).length + y103.length < 17592186044416 then ((some (([] : List Int) ++ y103 : List Int)).bind fun y107 => (if y107.length < 17592186044416 then ((some (y107 ++ [a1] : List Int)).bind fun y110 => ((some (l0.drop (x5_1 : Int).toNat : List Int)).bind fun y113 => (if y110.length + y113.length < 17592186044416 then (some (y110 ++ y113)) else (none)))) else (none))) else (none)) = some r := by first | (rw [hy103]; with_reducible exact H) | (have H2_ := (Option.bind_some _ _).symm.trans H; rw [hy103]; with_reducible exact H2_) | (have H2_ := (Option.bind_some _ _).symm.trans H; with_reducible exact H2_) | with_reducible exact H | (rw [hy103]; exact H) | exact H
         have Ny103 := Aside0.mk hy103
         clear hy103
         replace H := guardT H; obtain ⟨c12, H⟩ := H
         have LMc12 := Aside0.mk c12
         clear c12
         obtain ⟨y107, hy107⟩ : ∃ y_ : List Int, y_ = (([] : List Int) ++ y103) := ⟨_, rfl⟩
         replace H : (if y107.length < 17592186044416 then ((some (y107 ++ [a1] : List Int)).bind fun y110 => ((some (l0.drop (x5_1 : Int).toNat : List Int)).bind fun y113 => (if y110.length + y113.length < 17592186044416 then (some (y110 ++ y113)) else (none)))) else (none)) = some r := by first | (rw [hy107]; with_reducible exact H) | (have H2_ := (Option.bind_some _ _).symm.trans H; rw [hy107]; with_reducible exact H2_) | (have H2_ := (Option.bind_some _ _).symm.trans H; with_reducible exact H2_) | with_reducible exact H | (rw [hy107]; exact H) | exact H
         have Ny107 := Aside0.mk hy107
         clear hy107
         replace H := guardT H; obtain ⟨c13, H⟩ := H
         have LMc13 := Aside0.mk c13
         clear c13
         obtain ⟨y110, hy110⟩ : ∃ y_ : List Int, y_ = (y107 ++ [a1]) := ⟨_, rfl⟩
         replace H : ((some (l0.drop (x5_1 : Int).toNat : List Int)).bind fun y113 => (if y110.length + y113.length < 17592186044416 then (some (y110 ++ y113)) else (none))) = some r := by first | (rw [hy110]; with_reducible exact H) | (have H2_ := (Option.bind_some _ _).symm.trans H; rw [hy110]; with_reducible exact H2_) | (have H2_ := (Option.bind_some _ _).symm.trans H; with_reducible exact H2_) | with_reducible exact H | (rw [hy110]; exact H) | exact H
         have Ny110 := Aside0.mk hy110
         clear hy110
         have c14b0 := eq_true (of_decide_eq_true d92e : 0 ≤ x5_1)
         have c15b0 := eq_true (of_decide_eq_true d92e : x5_1 ≤ (l0.length : Int))
         obtain ⟨y113, hy113⟩ : ∃ y_ : List Int, y_ = (l0.drop (x5_1 : Int).toNat) := ⟨_, rfl⟩
         replace H : (if y110.length + y113.length < 17592186044416 then (some (y110 ++ y113)) else (none)) = some r := by first | (rw [hy113]; with_reducible exact H) | (have H2_ := (Option.bind_some _ _).symm.trans H; rw [hy113]; with_reducible exact H2_) | (have H2_ := (Option.bind_some _ _).symm.trans H; with_reducible exact H2_) | with_reducible exact H | (rw [hy113]; exact H) | exact H
         have Ny113 := Aside0.mk hy113
         clear hy113
         replace H := guardT H; obtain ⟨c16, H⟩ := H
         have LMc16 := Aside0.mk c16
         clear c16
         obtain ⟨y117, hy117⟩ : ∃ y_ : List Int, y_ = (y110 ++ y113) := ⟨_, rfl⟩
         replace H : (some y117) = some r := by first | (rw [hy117]; with_reducible exact H) | (have H2_ := (Option.bind_some _ _).symm.trans H; rw [hy117]; with_reducible exact H2_) | (have H2_ := (Option.bind_some _ _).symm.trans H; with_reducible exact H2_) | with_reducible exact H | (rw [hy117]; exact H) | exact H
         have Ny117 := Aside0.mk hy117
         clear hy117
         obtain rfl := Option.some.inj H
         have p101 : 0 ≤ ((ji5) : Int) := of_decide_eq_true d92e
         have q101 : (ji5) < (l0.length : Int) := of_decide_eq_true d92e
         obtain ⟨ad101, e101, hx101_0⟩ := Kd.at_int (Kd.R_reads' HO_0.out).2.2 (ji5) p101 q101
         cases e101
         replace p101 := eq_true p101
         replace q101 := eq_true q101
         have p102 : 0 ≤ ((ji5) : Int) := of_decide_eq_true d92e
         have q102 : (ji5) < (l0.length : Int) := of_decide_eq_true d92e
         obtain ⟨ad102, e102, hx102_0⟩ := Kd.at_int (Kd.R_reads' HO_0.out).2.2 (ji5) p102 q102
         obtain rfl : ad101 = ad102 := (by injection e102)
         replace p102 := eq_true p102
         replace q102 := eq_true q102
         have q17 : (x5_1 : Int) ≤ ((l0.length : Int) : Int) := of_decide_eq_true d92e
         obtain ⟨i017, hi017, _, hsz17, _⟩ := info_parts info3
         have hroom17 : l0.length ≤ co3 := (Kd.R_reads' HO_0.out).2.1
         have hC17 : Kd.C (Kd.int .i64) _ (some ad101) l0.length l0 := (Kd.R_reads' HO_0.out).2.2
         have hcut17 := cut_to (P := Try.prog) 35 3 .i64 Try.underlying35 hi017 (some ad101) l0.length co3 x5_1 (of_decide_eq_true d92e) q17 hroom17
         have hr17 := Kd.C_take (m := (x5_1 : Int).toNat) hC17 (by omega)
         have hy17 : y103.length = (x5_1 : Int).toNat := (by rw [Ny103.out, List.length_take]; omega)
         rw [← Ny103.out] at hr17
         rw [← hy17] at hcut17
         have HR106 := Aside0.mk hr17
         have HC106 := Aside0.mk (show y103.length ≤ co3 from by omega)
         clear hr17 hC17 hroom17 hi017 hsz17
         have KY17 := Aside0.mk hy17
         clear hy17
         have KL17 := Aside0.mk (show (x5_1 : Int).toNat ≤ l0.length from by omega)
         replace q17 := eq_true q17
         go_wp2_with (first | ((with_reducible refine gate_builtin (b := .append) (xs := #[.tmp 34, .tmp 37]) rfl ?_); at_builtin; refine Kd.R_append_rows (Kd.int .i64) (w0 := w0) w0.heap.size rfl (.tmp 34) (.tmp 37) 35 3 (.int .i64 0) 8 rfl Try.underlying35 info3 rfl (by decide) (by omega) (.slice none 0 0) ([] : List Int) y103 _ _ _ (fun k_ => (P0_ k_ ∨ w.heap.size ≤ k_) ∧ some k_ ≠ (.slice (some ad101) l0.length co3 : Value).ownBlock) (fun _ => False) rfl rfl ?aO ?aR (fun _ _ h => h) (fun _ h => h.elim) ?aF ?aB ?aS ?aL ?_; (case aR => repeat (first | exact (by repeat (first | (with_reducible exact HR106.out) | (with_reducible refine Kd.C_alloc ?_ _) | (with_reducible refine Kd.C_drewN ?_ _) | (with_reducible refine Kd.C_drew ?_) | exact HR106.out)) | (with_reducible refine Kd.C_alloc ?_ _) | (with_reducible refine Kd.C_drewN ?_ _) | (with_reducible refine Kd.C_drew ?_))); (case aB => exact d92b); (case aF => exact (fun k_ hk => ⟨(.inr (Nat.le_trans d92a hk)), Kd.fresh' (Kd.R_lt d92d) k_ hk⟩)); (case aO => exact ((Kd.R_nil _ _ _ _ (fun k_ => (P0_ k_ ∨ w.heap.size ≤ k_) ∧ some k_ ≠ (.slice (some ad101) l0.length co3 : Value).ownBlock)))); (case aS => exact (below_size d92b)); (case aL => have := LMc12.out; omega); intro v108 w18 ho hb hg hat; rw [← Ny107.out] at ho; have n0_ := Aside0.mk (Kd.R_after (Kd.R_apart_nil d92d) hg hat); have n1_ := Aside0.mk (hb); have n2_ := Aside0.mk (Kept.of_grown (S := (fun k_ => P0_ k_)) hg d92c (fun k_ e_ => by simp [Value.ownBlock] at e_)); have n3_ := Aside0.mk ((show Kd.C (Kd.int .i64) w18 (some ad101) y103.length y103 from by rw [Ny103.out]; exact Kd.C_take (m := (x5_1 : Int).toNat) ((Kd.R_reads' (Kd.R_after (Kd.R_apart_nil d92d) hg hat)).2.2) KL17.out)); have n4_ := Aside0.mk (ho); clear HO_0; clear HB; clear HK; clear HR106; have HO_0 := n0_; have HB := n1_; have HK := n2_; have HR106 := n3_; have HO109 := n4_; clear n0_ n1_ n2_ n3_ n4_; clear ho hb hg hat) | ((with_reducible refine gate_builtin (b := .append) (xs := #[.tmp 39, .tmp 41]) rfl ?_); at_builtin; refine Kd.R_append (Kd.int .i64) (w0 := w0) w0.heap.size rfl (.tmp 39) (.tmp 41) 35 3 (.int .i64 0) 8 rfl Try.underlying35 info3 rfl (by decide) (by omega) v108 y107 a1 [.int .i64 a1] (fun k_ => (P0_ k_ ∨ w.heap.size ≤ k_) ∧ some k_ ≠ (.slice (some ad101) l0.length co3 : Value).ownBlock) (fun _ => False) rfl rfl ?aP (fun _ hk => hk.elim) ?aF ?aO ?aB ?aS ?aL ?_; (case aP => exact rfl); (case aB => exact d92b); (case aF => exact (fun k_ hk => ⟨(.inr (Nat.le_trans d92a hk)), Kd.fresh' (Kd.R_lt d92d) k_ hk⟩)); (case aO => exact (by (with_reducible repeat (first | apply Kd.R_alloc | apply Kd.R_drewN | apply Kd.R_drew)); exact HO109.out)); (case aS => exact (below_size d92b)); (case aL => have := LMc13.out; omega); intro v111 w19 ho hb hg hat; rw [← Ny110.out] at ho; have n0_ := Aside0.mk (Kd.R_after (ok := (fun k_ => (P0_ k_ ∨ w.heap.size ≤ k_))) d92d hg hat); have n1_ := Aside0.mk (hb); have n2_ := Aside0.mk (Kept.of_grown (S := (fun k_ => P0_ k_)) hg d92c (fun k_ e_ => (HO109.out.1 k_ e_).1)); have n3_ := Aside0.mk ((show Kd.C (Kd.int .i64) w19 (some ad101) y103.length y103 from by rw [Ny103.out]; exact Kd.C_take (m := (x5_1 : Int).toNat) ((Kd.R_reads' (Kd.R_after (ok := (fun k_ => (P0_ k_ ∨ w.heap.size ≤ k_))) d92d hg hat)).2.2) KL17.out)); have n4_ := Aside0.mk (ho); clear HO_0; clear HB; clear HK; clear HR106; clear HO109; have HO_0 := n0_; have HB := n1_; have HK := n2_; have HR106 := n3_; have HO112 := n4_; clear n0_ n1_ n2_ n3_ n4_; clear ho hb hg hat; have q20 : (x5_1 : Int) ≤ ((l0.length : Int) : Int) := of_decide_eq_true d92e; obtain ⟨i020, hi020, _, hsz20, _⟩ := info_parts info3; have hroom20 : l0.length ≤ co3 := (Kd.R_reads' HO_0.out).2.1; have hC20 : Kd.C (Kd.int .i64) _ (some ad101) l0.length l0 := (Kd.R_reads' HO_0.out).2.2; have q020 : (0 : Int) ≤ (x5_1 : Int) := of_decide_eq_true d92e; have hcut20 := cut_from (P := Try.prog) 35 3 .i64 Try.underlying35 hi020 1 hsz20 (some ad101) l0.length co3 x5_1 q020 q20; have hr20 := Kd.C_drop (m := (x5_1 : Int).toNat) (c := co3) hC20 (by omega) hroom20; obtain ⟨A20, hA20⟩ : ∃ A1, A1 = (if co3 = (x5_1 : Int).toNat then (some ad101) else ((some ad101) : Option Addr).map (·.add ((x5_1 : Int).toNat * 1))) := ⟨_, rfl⟩; obtain ⟨c20, hc20⟩ : ∃ c1, c1 = co3 - (x5_1 : Int).toNat := ⟨_, rfl⟩; have hy20 : y113.length = l0.length - (x5_1 : Int).toNat := (by rw [Ny113.out, List.length_drop] <;> omega); rw [show (l0).drop (x5_1 : Int).toNat = y113 from Ny113.out.symm] at hr20; replace hr20 : Kd.C (Kd.int .i64) _ A20 y113.length y113 := (by rw [hA20]; exact hr20); rw [← hy20, ← hA20, ← hc20] at hcut20; have HR116 := Aside0.mk hr20; have HC116 := Aside0.mk (show y113.length ≤ c20 from by rw [hy20, hc20]; exact Nat.sub_le_sub_right hroom20 _); clear hr20 hC20 hroom20 hi020 hsz20 hc20; have KY20 := Aside0.mk hy20; have KA20 := Aside0.mk hA20; clear hy20 hA20; have KL20 := Aside0.mk (show (x5_1 : Int).toNat ≤ l0.length from by omega); replace q20 := eq_true q20) | ((with_reducible refine gate_builtin (b := .append) (xs := #[.tmp 43, .tmp 46]) rfl ?_); at_builtin; refine Kd.R_append_rows (Kd.int .i64) (w0 := w0) w0.heap.size rfl (.tmp 43) (.tmp 46) 35 3 (.int .i64 0) 8 rfl Try.underlying35 info3 rfl (by decide) (by omega) v111 y110 y113 _ _ _ (fun k_ => (P0_ k_ ∨ w.heap.size ≤ k_) ∧ some k_ ≠ (.slice (some ad101) l0.length co3 : Value).ownBlock) (fun _ => False) rfl rfl ?aO ?aR (fun _ _ h => h) (fun _ h => h.elim) ?aF ?aB ?aS ?aL ?_; (case aR => repeat (first | exact (by repeat (first | (with_reducible exact HR116.out) | (with_reducible refine Kd.C_alloc ?_ _) | (with_reducible refine Kd.C_drewN ?_ _) | (with_reducible refine Kd.C_drew ?_) | exact HR116.out)) | (with_reducible refine Kd.C_alloc ?_ _) | (with_reducible refine Kd.C_drewN ?_ _) | (with_reducible refine Kd.C_drew ?_))); (case aB => exact d92b); (case aF => exact (fun k_ hk => ⟨(.inr (Nat.le_trans d92a hk)), Kd.fresh' (Kd.R_lt d92d) k_ hk⟩)); (case aO => exact (by (with_reducible repeat (first | apply Kd.R_alloc | apply Kd.R_drewN | apply Kd.R_drew)); exact HO112.out)); (case aS => exact (below_size d92b)); (case aL => have := LMc16.out; omega); intro v118 w21 ho hb hg hat; rw [← Ny117.out] at ho; have n0_ := Aside0.mk (Kd.R_after (ok := (fun k_ => (P0_ k_ ∨ w.heap.size ≤ k_))) d92d hg hat); have n1_ := Aside0.mk (hb); have n2_ := Aside0.mk (Kept.of_grown (S := (fun k_ => P0_ k_)) hg d92c (fun k_ e_ => (HO112.out.1 k_ e_).1)); have n3_ := Aside0.mk ((show Kd.C (Kd.int .i64) w21 (some ad101) y103.length y103 from by rw [Ny103.out]; exact Kd.C_take (m := (x5_1 : Int).toNat) ((Kd.R_reads' (Kd.R_after (ok := (fun k_ => (P0_ k_ ∨ w.heap.size ≤ k_))) d92d hg hat)).2.2) KL17.out)); have n4_ := Aside0.mk ((show Kd.C (Kd.int .i64) w21 A20 y113.length y113 from by rw [Ny113.out, KA20.out]; exact Kd.C_drop (m := (x5_1 : Int).toNat) (c := co3) ((Kd.R_reads' (Kd.R_after (ok := (fun k_ => (P0_ k_ ∨ w.heap.size ≤ k_))) d92d hg hat)).2.2) KL20.out ((Kd.R_reads' (Kd.R_after (ok := (fun k_ => (P0_ k_ ∨ w.heap.size ≤ k_))) d92d hg hat)).2.1))); have n5_ := Aside0.mk (ho); clear HO_0; clear HB; clear HK; clear HR106; clear HR116; clear HO112; have HO_0 := n0_; have HB := n1_; have HK := n2_; have HR106 := n3_; have HR116 := n4_; have HO119 := n5_; clear n0_ n1_ n2_ n3_ n4_ n5_; clear ho hb hg hat))
         go_ret
         exact ⟨_, by first | rfl | (simp [errW_none, errW_some] <;> rfl) | (simp only [← hji5]; first | rfl | (simp [errW_none, errW_some] <;> rfl)) | (simp [*, errW_none, errW_some] <;> rfl), by (with_reducible repeat (first | apply Kd.R_alloc | apply Kd.R_drewN | apply Kd.R_drew)); exact Kd.R_mono HO119.out (fun _ hk => hk.1), d92b, d92c⟩
   · rw [if_neg c4] at H
     have c4b0 : decide (0 < x5_1) = false := decide_eq_false c4
     clear c4
     replace H := guardT H; obtain ⟨c22, H⟩ := H
     have c22b0 := eq_true c22
     have c22b1 : decide (0 ≤ x5_1) = true := decide_eq_true c22
     clear c22
     replace H := guardT H; obtain ⟨c23, H⟩ := H
     have c23b0 := eq_true c23
     have c23b1 : decide (x5_1 ≤ (l0.length : Int)) = true := decide_eq_true c23
     clear c23
     obtain ⟨y120, hy120⟩ : ∃ y_ : List Int, y_ = (l0.take (x5_1 : Int).toNat) := ⟨_, rfl⟩
     replace H : (if ([] : List Int).length + y120.length < 17592186044416 then ((some (([] : List Int) ++ y120 : List Int)).bind fun y124 => (if y124.length < 17592186044416 then ((some (y124 ++ [a1] : List Int)).bind fun y127 => ((some (l0.drop (x5_1 : Int).toNat : List Int)).bind fun y130 => (if y127.length + y130.length < 17592186044416 then (some (y127 ++ y130)) else (none)))) else (none))) else (none)) = some r := by first | (rw [hy120]; with_reducible exact H) | (have H2_ := (Option.bind_some _ _).symm.trans H; rw [hy120]; with_reducible exact H2_) | (have H2_ := (Option.bind_some _ _).symm.trans H; with_reducible exact H2_) | with_reducible exact H | (rw [hy120]; exact H) | exact H
     have Ny120 := Aside0.mk hy120
     clear hy120
     replace H := guardT H; obtain ⟨c24, H⟩ := H
     have LMc24 := Aside0.mk c24
     clear c24
     obtain ⟨y124, hy124⟩ : ∃ y_ : List Int, y_ = (([] : List Int) ++ y120) := ⟨_, rfl⟩
     replace H : (if y124.length < 17592186044416 then ((some (y124 ++ [a1] : List Int)).bind fun y127 => ((some (l0.drop (x5_1 : Int).toNat : List Int)).bind fun y130 => (if y127.length + y130.length < 17592186044416 then (some (y127 ++ y130)) else (none)))) else (none)) = some r := by first | (rw [hy124]; with_reducible exact H) | (have H2_ := (Option.bind_some _ _).symm.trans H; rw [hy124]; with_reducible exact H2_) | (have H2_ := (Option.bind_some _ _).symm.trans H; with_reducible exact H2_) | with_reducible exact H | (rw [hy124]; exact H) | exact H
     have Ny124 := Aside0.mk hy124
     clear hy124
     replace H := guardT H; obtain ⟨c25, H⟩ := H
     have LMc25 := Aside0.mk c25
     clear c25
     obtain ⟨y127, hy127⟩ : ∃ y_ : List Int, y_ = (y124 ++ [a1]) := ⟨_, rfl⟩
     replace H : ((some (l0.drop (x5_1 : Int).toNat : List Int)).bind fun y130 => (if y127.length + y130.length < 17592186044416 then (some (y127 ++ y130)) else (none))) = some r := by first | (rw [hy127]; with_reducible exact H) | (have H2_ := (Option.bind_some _ _).symm.trans H; rw [hy127]; with_reducible exact H2_) | (have H2_ := (Option.bind_some _ _).symm.trans H; with_reducible exact H2_) | with_reducible exact H | (rw [hy127]; exact H) | exact H
     have Ny127 := Aside0.mk hy127
     clear hy127
     have c26b0 := eq_true (of_decide_eq_true d92e : 0 ≤ x5_1)
     have c27b0 := eq_true (of_decide_eq_true d92e : x5_1 ≤ (l0.length : Int))
     obtain ⟨y130, hy130⟩ : ∃ y_ : List Int, y_ = (l0.drop (x5_1 : Int).toNat) := ⟨_, rfl⟩
     replace H : (if y127.length + y130.length < 17592186044416 then (some (y127 ++ y130)) else (none)) = some r := by first | (rw [hy130]; with_reducible exact H) | (have H2_ := (Option.bind_some _ _).symm.trans H; rw [hy130]; with_reducible exact H2_) | (have H2_ := (Option.bind_some _ _).symm.trans H; with_reducible exact H2_) | with_reducible exact H | (rw [hy130]; exact H) | exact H
     have Ny130 := Aside0.mk hy130
     clear hy130
     replace H := guardT H; obtain ⟨c28, H⟩ := H
     have LMc28 := Aside0.mk c28
     clear c28
     obtain ⟨y134, hy134⟩ : ∃ y_ : List Int, y_ = (y127 ++ y130) := ⟨_, rfl⟩
     replace H : (some y134) = some r := by first | (rw [hy134]; with_reducible exact H) | (have H2_ := (Option.bind_some _ _).symm.trans H; rw [hy134]; with_reducible exact H2_) | (have H2_ := (Option.bind_some _ _).symm.trans H; with_reducible exact H2_) | with_reducible exact H | (rw [hy134]; exact H) | exact H
     have Ny134 := Aside0.mk hy134
     clear hy134
     obtain rfl := Option.some.inj H
     have q29 : (x5_1 : Int) ≤ ((l0.length : Int) : Int) := of_decide_eq_true d92e
     obtain ⟨i029, hi029, _, hsz29, _⟩ := info_parts info3
     have hroom29 : l0.length ≤ co3 := (Kd.R_reads' HO_0.out).2.1
     have hC29 : Kd.C (Kd.int .i64) _ Ao3 l0.length l0 := (Kd.R_reads' HO_0.out).2.2
     have hcut29 := cut_to (P := Try.prog) 35 3 .i64 Try.underlying35 hi029 Ao3 l0.length co3 x5_1 (of_decide_eq_true d92e) q29 hroom29
     have hr29 := Kd.C_take (m := (x5_1 : Int).toNat) hC29 (by omega)
     have hy29 : y120.length = (x5_1 : Int).toNat := (by rw [Ny120.out, List.length_take]; omega)
     rw [← Ny120.out] at hr29
     rw [← hy29] at hcut29
     have HR123 := Aside0.mk hr29
     have HC123 := Aside0.mk (show y120.length ≤ co3 from by omega)
     clear hr29 hC29 hroom29 hi029 hsz29
     have KY29 := Aside0.mk hy29
     clear hy29
     have KL29 := Aside0.mk (show (x5_1 : Int).toNat ≤ l0.length from by omega)
     replace q29 := eq_true q29
     go_wp2_with (first | ((with_reducible refine gate_builtin (b := .append) (xs := #[.tmp 34, .tmp 37]) rfl ?_); at_builtin; refine Kd.R_append_rows (Kd.int .i64) (w0 := w0) w0.heap.size rfl (.tmp 34) (.tmp 37) 35 3 (.int .i64 0) 8 rfl Try.underlying35 info3 rfl (by decide) (by omega) (.slice none 0 0) ([] : List Int) y120 _ _ _ (fun k_ => (P0_ k_ ∨ w.heap.size ≤ k_) ∧ some k_ ≠ (.slice Ao3 l0.length co3 : Value).ownBlock) (fun _ => False) rfl rfl ?aO ?aR (fun _ _ h => h) (fun _ h => h.elim) ?aF ?aB ?aS ?aL ?_; (case aR => repeat (first | exact (by repeat (first | (with_reducible exact HR123.out) | (with_reducible refine Kd.C_alloc ?_ _) | (with_reducible refine Kd.C_drewN ?_ _) | (with_reducible refine Kd.C_drew ?_) | exact HR123.out)) | (with_reducible refine Kd.C_alloc ?_ _) | (with_reducible refine Kd.C_drewN ?_ _) | (with_reducible refine Kd.C_drew ?_))); (case aB => exact d92b); (case aF => exact (fun k_ hk => ⟨(.inr (Nat.le_trans d92a hk)), Kd.fresh' (Kd.R_lt d92d) k_ hk⟩)); (case aO => exact ((Kd.R_nil _ _ _ _ (fun k_ => (P0_ k_ ∨ w.heap.size ≤ k_) ∧ some k_ ≠ (.slice Ao3 l0.length co3 : Value).ownBlock)))); (case aS => exact (below_size d92b)); (case aL => have := LMc24.out; omega); intro v125 w30 ho hb hg hat; rw [← Ny124.out] at ho; have n0_ := Aside0.mk (Kd.R_after (Kd.R_apart_nil d92d) hg hat); have n1_ := Aside0.mk (hb); have n2_ := Aside0.mk (Kept.of_grown (S := (fun k_ => P0_ k_)) hg d92c (fun k_ e_ => by simp [Value.ownBlock] at e_)); have n3_ := Aside0.mk ((show Kd.C (Kd.int .i64) w30 Ao3 y120.length y120 from by rw [Ny120.out]; exact Kd.C_take (m := (x5_1 : Int).toNat) ((Kd.R_reads' (Kd.R_after (Kd.R_apart_nil d92d) hg hat)).2.2) KL29.out)); have n4_ := Aside0.mk (ho); clear HO_0; clear HB; clear HK; clear HR123; have HO_0 := n0_; have HB := n1_; have HK := n2_; have HR123 := n3_; have HO126 := n4_; clear n0_ n1_ n2_ n3_ n4_; clear ho hb hg hat) | ((with_reducible refine gate_builtin (b := .append) (xs := #[.tmp 39, .tmp 41]) rfl ?_); at_builtin; refine Kd.R_append (Kd.int .i64) (w0 := w0) w0.heap.size rfl (.tmp 39) (.tmp 41) 35 3 (.int .i64 0) 8 rfl Try.underlying35 info3 rfl (by decide) (by omega) v125 y124 a1 [.int .i64 a1] (fun k_ => (P0_ k_ ∨ w.heap.size ≤ k_) ∧ some k_ ≠ (.slice Ao3 l0.length co3 : Value).ownBlock) (fun _ => False) rfl rfl ?aP (fun _ hk => hk.elim) ?aF ?aO ?aB ?aS ?aL ?_; (case aP => exact rfl); (case aB => exact d92b); (case aF => exact (fun k_ hk => ⟨(.inr (Nat.le_trans d92a hk)), Kd.fresh' (Kd.R_lt d92d) k_ hk⟩)); (case aO => exact (by (with_reducible repeat (first | apply Kd.R_alloc | apply Kd.R_drewN | apply Kd.R_drew)); exact HO126.out)); (case aS => exact (below_size d92b)); (case aL => have := LMc25.out; omega); intro v128 w31 ho hb hg hat; rw [← Ny127.out] at ho; have n0_ := Aside0.mk (Kd.R_after (ok := (fun k_ => (P0_ k_ ∨ w.heap.size ≤ k_))) d92d hg hat); have n1_ := Aside0.mk (hb); have n2_ := Aside0.mk (Kept.of_grown (S := (fun k_ => P0_ k_)) hg d92c (fun k_ e_ => (HO126.out.1 k_ e_).1)); have n3_ := Aside0.mk ((show Kd.C (Kd.int .i64) w31 Ao3 y120.length y120 from by rw [Ny120.out]; exact Kd.C_take (m := (x5_1 : Int).toNat) ((Kd.R_reads' (Kd.R_after (ok := (fun k_ => (P0_ k_ ∨ w.heap.size ≤ k_))) d92d hg hat)).2.2) KL29.out)); have n4_ := Aside0.mk (ho); clear HO_0; clear HB; clear HK; clear HR123; clear HO126; have HO_0 := n0_; have HB := n1_; have HK := n2_; have HR123 := n3_; have HO129 := n4_; clear n0_ n1_ n2_ n3_ n4_; clear ho hb hg hat; have q32 : (x5_1 : Int) ≤ ((l0.length : Int) : Int) := of_decide_eq_true d92e; obtain ⟨i032, hi032, _, hsz32, _⟩ := info_parts info3; have hroom32 : l0.length ≤ co3 := (Kd.R_reads' HO_0.out).2.1; have hC32 : Kd.C (Kd.int .i64) _ Ao3 l0.length l0 := (Kd.R_reads' HO_0.out).2.2; have q032 : (0 : Int) ≤ (x5_1 : Int) := of_decide_eq_true d92e; have hcut32 := cut_from (P := Try.prog) 35 3 .i64 Try.underlying35 hi032 1 hsz32 Ao3 l0.length co3 x5_1 q032 q32; have hr32 := Kd.C_drop (m := (x5_1 : Int).toNat) (c := co3) hC32 (by omega) hroom32; obtain ⟨A32, hA32⟩ : ∃ A1, A1 = (if co3 = (x5_1 : Int).toNat then Ao3 else (Ao3 : Option Addr).map (·.add ((x5_1 : Int).toNat * 1))) := ⟨_, rfl⟩; obtain ⟨c32, hc32⟩ : ∃ c1, c1 = co3 - (x5_1 : Int).toNat := ⟨_, rfl⟩; have hy32 : y130.length = l0.length - (x5_1 : Int).toNat := (by rw [Ny130.out, List.length_drop] <;> omega); rw [show (l0).drop (x5_1 : Int).toNat = y130 from Ny130.out.symm] at hr32; replace hr32 : Kd.C (Kd.int .i64) _ A32 y130.length y130 := (by rw [hA32]; exact hr32); rw [← hy32, ← hA32, ← hc32] at hcut32; have HR133 := Aside0.mk hr32; have HC133 := Aside0.mk (show y130.length ≤ c32 from by rw [hy32, hc32]; exact Nat.sub_le_sub_right hroom32 _); clear hr32 hC32 hroom32 hi032 hsz32 hc32; have KY32 := Aside0.mk hy32; have KA32 := Aside0.mk hA32; clear hy32 hA32; have KL32 := Aside0.mk (show (x5_1 : Int).toNat ≤ l0.length from by omega); replace q32 := eq_true q32) | ((with_reducible refine gate_builtin (b := .append) (xs := #[.tmp 43, .tmp 46]) rfl ?_); at_builtin; refine Kd.R_append_rows (Kd.int .i64) (w0 := w0) w0.heap.size rfl (.tmp 43) (.tmp 46) 35 3 (.int .i64 0) 8 rfl Try.underlying35 info3 rfl (by decide) (by omega) v128 y127 y130 _ _ _ (fun k_ => (P0_ k_ ∨ w.heap.size ≤ k_) ∧ some k_ ≠ (.slice Ao3 l0.length co3 : Value).ownBlock) (fun _ => False) rfl rfl ?aO ?aR (fun _ _ h => h) (fun _ h => h.elim) ?aF ?aB ?aS ?aL ?_; (case aR => repeat (first | exact (by repeat (first | (with_reducible exact HR133.out) | (with_reducible refine Kd.C_alloc ?_ _) | (with_reducible refine Kd.C_drewN ?_ _) | (with_reducible refine Kd.C_drew ?_) | exact HR133.out)) | (with_reducible refine Kd.C_alloc ?_ _) | (with_reducible refine Kd.C_drewN ?_ _) | (with_reducible refine Kd.C_drew ?_))); (case aB => exact d92b); (case aF => exact (fun k_ hk => ⟨(.inr (Nat.le_trans d92a hk)), Kd.fresh' (Kd.R_lt d92d) k_ hk⟩)); (case aO => exact (by (with_reducible repeat (first | apply Kd.R_alloc | apply Kd.R_drewN | apply Kd.R_drew)); exact HO129.out)); (case aS => exact (below_size d92b)); (case aL => have := LMc28.out; omega); intro v135 w33 ho hb hg hat; rw [← Ny134.out] at ho; have n0_ := Aside0.mk (Kd.R_after (ok := (fun k_ => (P0_ k_ ∨ w.heap.size ≤ k_))) d92d hg hat); have n1_ := Aside0.mk (hb); have n2_ := Aside0.mk (Kept.of_grown (S := (fun k_ => P0_ k_)) hg d92c (fun k_ e_ => (HO129.out.1 k_ e_).1)); have n3_ := Aside0.mk ((show Kd.C (Kd.int .i64) w33 Ao3 y120.length y120 from by rw [Ny120.out]; exact Kd.C_take (m := (x5_1 : Int).toNat) ((Kd.R_reads' (Kd.R_after (ok := (fun k_ => (P0_ k_ ∨ w.heap.size ≤ k_))) d92d hg hat)).2.2) KL29.out)); have n4_ := Aside0.mk ((show Kd.C (Kd.int .i64) w33 A32 y130.length y130 from by rw [Ny130.out, KA32.out]; exact Kd.C_drop (m := (x5_1 : Int).toNat) (c := co3) ((Kd.R_reads' (Kd.R_after (ok := (fun k_ => (P0_ k_ ∨ w.heap.size ≤ k_))) d92d hg hat)).2.2) KL32.out ((Kd.R_reads' (Kd.R_after (ok := (fun k_ => (P0_ k_ ∨ w.heap.size ≤ k_))) d92d hg hat)).2.1))); have n5_ := Aside0.mk (ho); clear HO_0; clear HB; clear HK; clear HR123; clear HR133; clear HO129; have HO_0 := n0_; have HB := n1_; have HK := n2_; have HR123 := n3_; have HR133 := n4_; have HO136 := n5_; clear n0_ n1_ n2_ n3_ n4_ n5_; clear ho hb hg hat))
     go_ret
     exact ⟨_, by first | rfl | (simp [errW_none, errW_some] <;> rfl) | (simp [*, errW_none, errW_some] <;> rfl), by (with_reducible repeat (first | apply Kd.R_alloc | apply Kd.R_drewN | apply Kd.R_drew)); exact Kd.R_mono HO136.out (fun _ hk => hk.1), d92b, d92c⟩
end Go.Proofs.Ytbngmblgkkdhpaa.Q
