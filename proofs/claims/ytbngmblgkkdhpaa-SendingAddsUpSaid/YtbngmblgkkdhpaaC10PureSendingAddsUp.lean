/- The parts of an item are what the result says, none is sent before it is ready or outside of its pass, and no pass carries more than it can: for every list of passes, every booking and every list of items. -/
-- Made by wip/tools/claimp.py of this session's texts; Lean checks it.
import Derived.Test.YtbngmblgkkdhpaaC10SndM
import Derived.Test.YtbngmblgkkdhpaaC10StSendingAddsUp
set_option linter.unusedVariables false
set_option linter.unusedSimpArgs false
namespace Go.Proofs.Ytbngmblgkkdhpaa.Q
open Go.RowKit Go.Proofs.YtbngmblgkkdhpaaW.PrintWords Go.Proofs.YtbngmblgkkdhpaaW.PrintLast Go.Proofs.YtbngmblgkkdhpaaW.PrintMore Go.Proofs.Ytbngmblgkkdhpaa.Base
theorem rd_Part {l : List S61} {j : Nat} (h : j < l.length) : rd_T61 l (j : Int) = l[j] := by
  unfold rd_T61
  rw [Int.toNat_natCast, List.getD_eq_getElem?_getD, List.getElem?_eq_getElem h]
  rfl
theorem rd_Sent {q : List S63} {s : Snd.St} {i : Nat} (h : i < q.length) : rd_T65 (resL q s) (i : Int) = resAt q s i := by
  unfold rd_T65 resL
  rw [Int.toNat_natCast, List.getD_eq_getElem?_getD, List.getElem?_map, List.getElem?_range h]
  rfl
theorem resL_len (q : List S63) (s : Snd.St) : (resL q s).length = q.length := by
  unfold resL
  rw [List.length_map, List.length_range]
theorem sumBy_perm {g : S61 → Bool} {P Q : List S61} (h : P.Perm Q) : Snd.sumBy g P = Snd.sumBy g Q := by
  induction h with
  | nil => rfl
  | cons x _ ih => rw [Snd.sumBy_cons, Snd.sumBy_cons, ih]
  | swap x y l => rw [Snd.sumBy_cons, Snd.sumBy_cons, Snd.sumBy_cons, Snd.sumBy_cons]; omega
  | trans _ _ h1 h2 => exact h1.trans h2
theorem sumBy_nn {g : S61 → Bool} : ∀ {P : List S61}, (∀ p ∈ P, 0 ≤ p.f4) → 0 ≤ Snd.sumBy g P
  | [], _ => Int.le_refl _
  | p :: P, h => by
    have h1 := sumBy_nn (g := g) (P := P) (fun x hx => h x (List.mem_cons_of_mem _ hx))
    have h2 := h p List.mem_cons_self
    rw [Snd.sumBy_cons]
    split <;> omega
theorem sumBy_take {g : S61 → Bool} {P : List S61} (h : ∀ p ∈ P, 0 ≤ p.f4) (j : Nat) : 0 ≤ Snd.sumBy g (P.take j) ∧ Snd.sumBy g (P.take j) ≤ Snd.sumBy g P := by
  have h1 := sumBy_nn (g := g) (P := P.take j) (fun p hp => h p (List.mem_of_mem_take hp))
  have h2 := sumBy_nn (g := g) (P := P.drop j) (fun p hp => h p (List.mem_of_mem_drop hp))
  have e := Snd.sumBy_app g (P.take j) (P.drop j)
  rw [List.take_append_drop] at e
  omega
theorem sumBy_step {g : S61 → Bool} {P : List S61} {j : Nat} (h : j < P.length) : Snd.sumBy g (P.take (j + 1)) = Snd.sumBy g (P.take j) + if g P[j] then P[j].f4 else 0 := by
  rw [List.take_succ_eq_append_getElem h, Snd.sumBy_app, Snd.sumBy_cons, Snd.sumBy_nil]
  omega
section
variable {ps : List S33} {bk : List Int} {q : List S63} {P : List S61} {s : Snd.St}
/-- The parts of one item. -/
theorem adds_l1 (hI : Snd.Inv q bk (fromOf ps) (toOf ps) 1000000000000 s) (hd : Snd.Distinct q) (hq : q.length ≤ 300) (hsz : ∀ i, (q.getD i z63).f1 ≤ 1000000000000) (hP : P.Perm s.parts) (hPl : P.length ≤ 30000) {i : Nat} (hi : i < q.length)
    (hn : Ev (fun k => perigeelaw10_SendingAddsUp.l0 k ps bk q P (resL q s) ((i + 1 : Nat) : Int)) true) : ∀ d j : Nat, j + d = P.length →
    Ev (fun k => perigeelaw10_SendingAddsUp.l1 k ps bk q P (resL q s) (i : Int) (Snd.sumBy (Snd.byName (q.getD i z63).f0) (P.take j)) (j : Int)) true := by
  have hpos : ∀ p ∈ P, 0 ≤ p.f4 := fun p hp => by
    obtain ⟨_, _, _, _, h, _⟩ := hI.part p (hP.mem_iff.1 hp)
    omega
  have htot : Snd.sumBy (Snd.byName (q.getD i z63).f0) P = (q.getD i z63).f1 - s.left.getD i 0 := by rw [sumBy_perm hP]; exact hI.sum i hi
  have hnn := hI.nn i hi
  have hz := hsz i
  have hrl := resL_len q s
  have hR := rd_Sent (s := s) hi
  intro d
  induction d with
  | zero =>
    intro j hj
    have e : P.take j = P := List.take_of_length_le (by omega)
    have hdn := hI.dn i hi
    rw [e, htot]
    refine Ev.step (f := fun k => perigeelaw10_SendingAddsUp.l0 k ps bk q P (resL q s) ((i + 1 : Nat) : Int)) (fun k => ?_) hn
    simp only [perigeelaw10_SendingAddsUp.l1]
    have hbad : ¬ ((decide (s.done.getD i 0 ≥ 0)) != ((q.getD i z63).f1 - s.left.getD i 0 == (q.getD i z63).f1)) = true := by
      by_cases c : s.left.getD i 0 = 0
      · have a1 : s.done.getD i 0 ≥ 0 := hdn.2 c
        rw [decide_eq_true a1, c, Int.sub_zero]
        simp
      · have a1 : ¬ s.done.getD i 0 ≥ 0 := fun h => c (hdn.1 h)
        rw [decide_eq_false a1, show ((q.getD i z63).f1 - s.left.getD i 0 == (q.getD i z63).f1) = false from beq_eq_false_iff_ne.mpr (by omega)]
        simp
    rw [if_neg (by omega), if_pos (by omega), if_pos (by omega), if_pos (by omega), hR]
    unfold resAt
    simp only [rd_I]
    rw [if_pos trivial, if_pos trivial, if_neg (by omega), if_neg hbad, w64 (x := (i : Int) + 1) (by omega) (by omega)]
    rfl
  | succ d ih =>
    intro j hj
    have hlt : j < P.length := by omega
    have hnx := ih (j + 1) (by omega)
    obtain ⟨t1, t2⟩ := sumBy_take (g := Snd.byName (q.getD i z63).f0) hpos (j + 1)
    rw [sumBy_step hlt] at hnx t1 t2
    obtain ⟨i', a1, a2, a3, a4, a5, a6, a7, a8, a9, a10⟩ := hI.part P[j] (hP.mem_iff.1 (List.getElem_mem hlt))
    have hp := rd_Part hlt
    by_cases c : P[j].f0 = (q.getD i z63).f0
    · have hii : i' = i := hd.inj i' i a1 hi (a2.trans c)
      subst hii
      have hg : Snd.byName (q.getD i' z63).f0 P[j] = true := by unfold Snd.byName; exact decide_eq_true c
      rw [hg, if_pos rfl] at hnx t1 t2
      refine Ev.step (f := fun k => perigeelaw10_SendingAddsUp.l1 k ps bk q P (resL q s) (i' : Int) (Snd.sumBy (Snd.byName (q.getD i' z63).f0) (P.take j) + P[j].f4) ((j + 1 : Nat) : Int)) (fun k => ?_) hnx
      simp only [perigeelaw10_SendingAddsUp.l1]
      rw [if_pos (by omega), if_pos (by omega), if_pos (by omega), if_pos (by omega), hp, rd_I, if_pos (congrArg ByteArray.toList c), if_neg (by omega), if_neg (by omega), if_pos (by omega), hR]
      unfold resAt
      simp only []
      rw [w64 (x := (j : Int) + 1) (by omega) (by omega), w64 (x := Snd.sumBy (Snd.byName (q.getD i' z63).f0) (P.take j) + P[j].f4) (by omega) (by omega)]
      by_cases c2 : s.done.getD i' 0 ≥ 0
      · have := a7 c2
        rw [if_pos c2, if_neg (by omega)]
        rfl
      · rw [if_neg c2]
        rfl
    · have hg : Snd.byName (q.getD i z63).f0 P[j] = false := by unfold Snd.byName; exact decide_eq_false c
      rw [hg, if_neg Bool.false_ne_true, Int.add_zero] at hnx t1 t2
      refine Ev.step (f := fun k => perigeelaw10_SendingAddsUp.l1 k ps bk q P (resL q s) (i : Int) (Snd.sumBy (Snd.byName (q.getD i z63).f0) (P.take j)) ((j + 1 : Nat) : Int)) (fun k => ?_) hnx
      simp only [perigeelaw10_SendingAddsUp.l1]
      rw [if_pos (by omega), if_pos (by omega), if_pos (by omega), if_pos (by omega), hp, rd_I, if_neg (fun e => c (toList_inj e)), w64 (x := (j : Int) + 1) (by omega) (by omega)]
      rfl
theorem adds_l0 (hI : Snd.Inv q bk (fromOf ps) (toOf ps) 1000000000000 s) (hd : Snd.Distinct q) (hq : q.length ≤ 300) (hsz : ∀ i, (q.getD i z63).f1 ≤ 1000000000000) (hP : P.Perm s.parts) (hPl : P.length ≤ 30000)
    (h2 : Ev (fun k => perigeelaw10_SendingAddsUp.l2 k ps bk P 0) true) : ∀ d i : Nat, i + d = q.length → Ev (fun k => perigeelaw10_SendingAddsUp.l0 k ps bk q P (resL q s) (i : Int)) true := by
  intro d
  induction d with
  | zero =>
    intro i hi
    refine Ev.step (f := fun k => perigeelaw10_SendingAddsUp.l2 k ps bk P 0) (fun k => ?_) h2
    simp only [perigeelaw10_SendingAddsUp.l0]
    rw [if_neg (by omega)]
  | succ d ih =>
    intro i hi
    have h1 := adds_l1 hI hd hq hsz hP hPl (i := i) (by omega) (ih (i + 1) (by omega)) P.length 0 (by omega)
    refine Ev.step (f := fun k => perigeelaw10_SendingAddsUp.l1 k ps bk q P (resL q s) (i : Int) (Snd.sumBy (Snd.byName (q.getD i z63).f0) (P.take 0)) ((0 : Nat) : Int)) (fun k => ?_) h1
    simp only [perigeelaw10_SendingAddsUp.l0]
    rw [if_pos (by omega)]
    rfl
/-- What is sent in one pass. -/
theorem adds_l3 (h : Ready ps bk q) (hck : checkV ps = 0) (hI : Snd.Inv q bk (fromOf ps) (toOf ps) 1000000000000 s) (hP : P.Perm s.parts) (hPl : P.length ≤ 30000) {i : Nat} (hi : i < bk.length) (hc : Snd.sumBy (Snd.byPass (rd bk i)) s.parts ≤ wholeV (rd_T33 ps (rd bk i)))
    (hn : Ev (fun k => perigeelaw10_SendingAddsUp.l2 k ps bk P ((i + 1 : Nat) : Int)) true) : ∀ d j : Nat, j + d = P.length →
    Ev (fun k => perigeelaw10_SendingAddsUp.l3 k ps bk P (i : Int) (Snd.sumBy (Snd.byPass (rd bk i)) (P.take j)) (j : Int)) true := by
  have hpos : ∀ p ∈ P, 0 ≤ p.f4 := fun p hp => by
    obtain ⟨_, _, _, _, h, _⟩ := hI.part p (hP.mem_iff.1 hp)
    omega
  have htot : Snd.sumBy (Snd.byPass (rd bk i)) P ≤ wholeV (rd_T33 ps (rd bk i)) := by rw [sumBy_perm hP]; exact hc
  have hin := h.book.inside i hi
  have hg := h.book.pass h.passes hi
  have hwb := wholeV_bd hg
  have hf := h.few
  intro d
  induction d with
  | zero =>
    intro j hj
    have e : P.take j = P := List.take_of_length_le (by omega)
    rw [e]
    have ec : (bk.take (i + 1)).drop i = [rd bk i] := by
      rw [List.take_succ_eq_append_getElem hi, List.drop_append_of_le_length (by rw [List.length_take]; omega), List.drop_of_length_le (by rw [List.length_take]; omega), rd_get hi]
      rfl
    have hT := contact_Total_ev ps [rd bk i] (by simp)
    have hb0 : bothV ps [rd bk i] = 0 := by
      unfold bothV
      rw [if_pos hck]
      have e1 : rd [rd bk i] (0 : Nat) = rd bk i := rfl
      rw [bookV, dif_pos (by simp), e1, if_neg (by simpa using hin), if_neg (by simp), bookV, dif_neg (by simp)]
    have hTV : TotalV ps [rd bk i] = (wholeV (rd_T33 ps (rd bk i)), 0) := by
      unfold TotalV
      rw [if_pos hb0]
      have e1 : rd [rd bk i] (0 : Nat) = rd bk i := rfl
      show (totalV ps [rd bk i] 1, (0 : Int)) = _
      unfold totalV totalV
      rw [e1, Int.zero_add]
    rw [hTV] at hT
    refine Ev.step (f := fun k => (contact_Total.f k ps [rd bk i]).bind fun bt130 => (if bt130.2 = 0 then (if Snd.sumBy (Snd.byPass (rd bk i)) P > bt130.1 then (some false) else (perigeelaw10_SendingAddsUp.l2 k ps bk P ((i + 1 : Nat) : Int))) else (some false))) (fun k => ?_) (Ev.bind hT ?_)
    · simp only [perigeelaw10_SendingAddsUp.l3]
      rw [if_neg (by omega), if_pos (by omega), w64 (x := (i : Int) + 1) (by omega) (by omega), if_pos (by omega), if_pos (by omega), show ((i : Int) + 1).toNat = i + 1 by omega, Int.toNat_natCast, ec]
      rfl
    · simp only [if_true]
      rw [show (fun k => if Snd.sumBy (Snd.byPass (rd bk i)) P > wholeV (rd_T33 ps (rd bk i)) then some false else perigeelaw10_SendingAddsUp.l2 k ps bk P ((i + 1 : Nat) : Int)) = (fun k => perigeelaw10_SendingAddsUp.l2 k ps bk P ((i + 1 : Nat) : Int)) from funext fun k => if_neg (by omega)]
      exact hn
  | succ d ih =>
    intro j hj
    have hlt : j < P.length := by omega
    have hnx := ih (j + 1) (by omega)
    obtain ⟨t1, t2⟩ := sumBy_take (g := Snd.byPass (rd bk i)) hpos (j + 1)
    rw [sumBy_step hlt] at hnx t1 t2
    obtain ⟨i', a1, a2, a3, a4, a5, a6, a7, a8, a9, a10⟩ := hI.part P[j] (hP.mem_iff.1 (List.getElem_mem hlt))
    have hp := rd_Part hlt
    by_cases c : P[j].f1 = rd bk i
    · have hg : Snd.byPass (rd bk i) P[j] = true := by unfold Snd.byPass; exact decide_eq_true c
      rw [hg, if_pos rfl] at hnx t1 t2
      rw [c] at a9 a10
      unfold fromOf at a9
      unfold toOf at a10
      refine Ev.step (f := fun k => perigeelaw10_SendingAddsUp.l3 k ps bk P (i : Int) (Snd.sumBy (Snd.byPass (rd bk i)) (P.take j) + P[j].f4) ((j + 1 : Nat) : Int)) (fun k => ?_) hnx
      simp only [perigeelaw10_SendingAddsUp.l3]
      rw [if_pos (by omega), if_pos (by omega), if_pos (by omega), if_pos (by omega), hp, if_pos c, if_pos hin.1, if_pos hin.2, if_neg (by omega), if_neg (by omega), if_neg (by omega), w64 (x := (j : Int) + 1) (by omega) (by omega), w64 (x := Snd.sumBy (Snd.byPass (rd bk i)) (P.take j) + P[j].f4) (by omega) (by omega)]
      rfl
    · have hg : Snd.byPass (rd bk i) P[j] = false := by unfold Snd.byPass; exact decide_eq_false c
      rw [hg, if_neg Bool.false_ne_true, Int.add_zero] at hnx t1 t2
      refine Ev.step (f := fun k => perigeelaw10_SendingAddsUp.l3 k ps bk P (i : Int) (Snd.sumBy (Snd.byPass (rd bk i)) (P.take j)) ((j + 1 : Nat) : Int)) (fun k => ?_) hnx
      simp only [perigeelaw10_SendingAddsUp.l3]
      rw [if_pos (by omega), if_pos (by omega), if_pos (by omega), if_pos (by omega), hp, if_neg c, w64 (x := (j : Int) + 1) (by omega) (by omega)]
      rfl
theorem adds_l2 (h : Ready ps bk q) (hck : checkV ps = 0) (hI : Snd.Inv q bk (fromOf ps) (toOf ps) 1000000000000 s) (hP : P.Perm s.parts) (hPl : P.length ≤ 30000) (hc : ∀ i : Nat, i < bk.length → Snd.sumBy (Snd.byPass (rd bk i)) s.parts ≤ wholeV (rd_T33 ps (rd bk i))) :
    ∀ d i : Nat, i + d = bk.length → Ev (fun k => perigeelaw10_SendingAddsUp.l2 k ps bk P (i : Int)) true := by
  intro d
  induction d with
  | zero =>
    intro i hi
    refine Ev.step (f := fun k => (perigeelaw10_awake.f k).bind fun t => some t) (fun k => ?_) (Ev.bind perigeelaw10_awake_ev (Ev.now true))
    simp only [perigeelaw10_SendingAddsUp.l2]
    rw [if_neg (by omega)]
  | succ d ih =>
    intro i hi
    have h1 := adds_l3 h hck hI hP hPl (i := i) (by omega) (hc i (by omega)) (ih (i + 1) (by omega)) P.length 0 (by omega)
    refine Ev.step (f := fun k => perigeelaw10_SendingAddsUp.l3 k ps bk P (i : Int) (Snd.sumBy (Snd.byPass (rd bk i)) (P.take 0)) ((0 : Nat) : Int)) (fun k => ?_) h1
    simp only [perigeelaw10_SendingAddsUp.l2]
    rw [if_pos (by omega)]
    rfl
end
theorem SendingAddsUp_pure : perigeelaw10_SendingAddsUp.Pure := by
  intro l b q hl hb hq
  have hbl : b.length ≤ 1152921504606846976 := by have := hb.1; omega
  refine Ev.rounds ?_
  simp only [perigeelaw10_SendingAddsUp.f]
  have aw := Ev.bind (f := fun _ t => some t) perigeelaw10_awake_ev (Ev.now true)
  obtain ⟨P, h1, h2⟩ := contact_Send_ev l b q hbl
  refine Ev.bind h1 ?_
  refine Ev.bind (contact_Result_ev l b q hbl) ?_
  by_cases hF : sendF l b q = 0
  · have h := sendF_zero hF
    have hP := h2 hF
    have hI := h.inv (u := 1000000000000) (by omega)
    unfold sendV resV
    simp only [if_pos hF]
    by_cases c : 30000 < (((stOf l b q 1000000000000).parts.length : Nat) : Int)
    · simp only [if_pos c]
      simp only [if_neg (show ¬ (2 : Int) = 0 by omega)]
      refine Ev.step (f := fun k => (perigeelaw10_awake.f k).bind fun t => some t) (fun k => ?_) aw
      simp only [perigeelaw10_SendingAddsUp.j0]
      rw [if_pos trivial, if_neg (show ¬ (2 : Int) = 0 by decide), if_pos (by rfl), if_pos trivial]
    · simp only [if_neg c]
      simp only [if_true]
      have hPl : P.length ≤ 30000 := by rw [hP.length_eq]; omega
      have hc : ∀ i : Nat, i < b.length → Snd.sumBy (Snd.byPass (rd b i)) (stOf l b q 1000000000000).parts ≤ wholeV (rd_T33 l (rd b i)) := fun i hi => h.carry (by omega) (rd_mem hi)
      have h3 := adds_l0 hI h.items.distinct h.items.many (fun i => ((h.items.all i).size).2) hP hPl (adds_l2 h (sendF_check hF) hI hP hPl hc b.length 0 (by omega)) q.length 0 (by omega)
      refine Ev.step (f := fun k => perigeelaw10_SendingAddsUp.l0 k l b q P (resL q (stOf l b q 1000000000000)) ((0 : Nat) : Int)) (fun k => ?_) h3
      simp only [perigeelaw10_SendingAddsUp.j0]
      rw [if_neg (by simp), if_pos (by rw [resL_len])]
      rfl
  · unfold sendV resV
    simp only [if_neg hF]
    refine Ev.step (f := fun k => (perigeelaw10_awake.f k).bind fun t => some t) (fun k => ?_) aw
    simp only [perigeelaw10_SendingAddsUp.j0]
    rw [if_pos trivial, if_neg hF, if_pos (by rfl), if_neg hF, if_pos (by rfl)]
end Go.Proofs.Ytbngmblgkkdhpaa.Q
namespace Go.Proofs.Ytbngmblgkkdhpaa.Pure
theorem SendingAddsUp : Q.perigeelaw10_SendingAddsUp.Pure := Q.SendingAddsUp_pure
end Go.Proofs.Ytbngmblgkkdhpaa.Pure
