/- If something that was ready is left, all booked passes from then on carry all that they can: for every list of passes, every booking, every list of items and every number of an item. -/
-- Made by wip/tools/claimp.py of this session's texts; Lean checks it.
import Derived.Test.YtbngmblgkkdhpaaC9SndN
import Derived.Test.YtbngmblgkkdhpaaC9StSendingWastesNothing
set_option linter.unusedVariables false
set_option linter.unusedSimpArgs false
namespace Go.Proofs.Ytbngmblgkkdhpaa.Q
open Go.RowKit Go.Proofs.YtbngmblgkkdhpaaW.PrintWords Go.Proofs.YtbngmblgkkdhpaaW.PrintLast Go.Proofs.YtbngmblgkkdhpaaW.PrintMore Go.Proofs.Ytbngmblgkkdhpaa.Base
theorem rd_Sent' {q : List S63} {s : Snd.St} {i : Nat} (h : i < q.length) : rd_T65 (resL q s) (i : Int) = resAt q s i := by
  unfold rd_T65 resL
  rw [Int.toNat_natCast, List.getD_eq_getElem?_getD, List.getElem?_map, List.getElem?_range h]
  rfl
theorem resL_len' (q : List S63) (s : Snd.St) : (resL q s).length = q.length := by
  unfold resL
  rw [List.length_map, List.length_range]
section
variable {ps : List S33} {bk : List Int} {q : List S63} {P : List S61}
theorem waste_l1 (hq : q.length ≤ 300) (hsz : ∀ i, 0 ≤ (q.getD i z63).f1 ∧ (q.getD i z63).f1 ≤ 1000000000000) {n : Nat} (hn : n < q.length) {can before after : Int} (hb : 0 ≤ before ∧ before ≤ 300000000000000) (ha : 0 ≤ after ∧ after ≤ 300000000000000)
    (he : (q.getD n z63).f3 = 1000000000000 ∨ before + fresh q (q.getD n z63).f3 q.length - after = can) : ∀ d i : Nat, i + d = q.length →
    Ev (fun k => perigeelaw10_SendingWastesNothing.l1 k q (n : Int) P can before after (fresh q (q.getD n z63).f3 i) (i : Int)) true := by
  have bd : ∀ i : Nat, 0 ≤ fresh q (q.getD n z63).f3 i ∧ fresh q (q.getD n z63).f3 i ≤ i * 1000000000000 := fun i => Snd.sumN_bd i (fun j _ => by
    have := hsz j
    split <;> omega)
  intro d
  induction d with
  | zero =>
    intro i hi
    obtain rfl : i = q.length := by omega
    have hbd := bd q.length
    have hbd2 : fresh q (q.getD n z63).f3 q.length ≤ 300000000000000 := by omega
    refine Ev.step (f := fun k => (perigeelaw10_awake.f k).bind fun t => some t) (fun k => ?_) (Ev.bind perigeelaw10_awake_ev (Ev.now true))
    simp only [perigeelaw10_SendingWastesNothing.l1]
    rw [if_neg (by omega), if_pos (by omega), if_pos (by omega), rd_I]
    by_cases c : (q.getD n z63).f3 = 1000000000000
    · rw [if_pos c, if_pos (by omega)]
    · rw [if_neg c, w64 (x := before + fresh q (q.getD n z63).f3 q.length) (by omega) (by omega), w64 (x := before + fresh q (q.getD n z63).f3 q.length - after) (by omega) (by omega), if_pos (he.resolve_left c), if_pos (by omega)]
  | succ d ih =>
    intro i hi
    have hnx := ih (i + 1) (by omega)
    have hb1 := bd (i + 1)
    have hlt : i < q.length := by omega
    have ef : fresh q (q.getD n z63).f3 (i + 1) = fresh q (q.getD n z63).f3 i + if (q.getD i z63).f3 ≥ (q.getD n z63).f3 ∧ (q.getD i z63).f3 < 1000000000000 then (q.getD i z63).f1 else 0 := rfl
    have hb2 : fresh q (q.getD n z63).f3 (i + 1) ≤ 301000000000000 := by omega
    have hw1 := w64 (x := (i : Int) + 1) (by omega) (by omega)
    by_cases c1 : (q.getD i z63).f3 ≥ (q.getD n z63).f3
    · by_cases c2 : (q.getD i z63).f3 < 1000000000000
      · rw [if_pos ⟨c1, c2⟩] at ef
        refine Ev.step (f := fun k => perigeelaw10_SendingWastesNothing.l1 k q (n : Int) P can before after (fresh q (q.getD n z63).f3 (i + 1)) ((i + 1 : Nat) : Int)) (fun k => ?_) hnx
        simp only [perigeelaw10_SendingWastesNothing.l1]
        rw [if_pos (by omega), if_pos (by omega), if_pos (by omega), if_pos (by omega), rd_I, rd_I, if_pos c1, if_pos c2, hw1, w64 (x := fresh q (q.getD n z63).f3 i + (q.getD i z63).f1) (by omega) (by omega), ef]
        rfl
      · rw [if_neg (fun h => c2 h.2), Int.add_zero] at ef
        refine Ev.step (f := fun k => perigeelaw10_SendingWastesNothing.l1 k q (n : Int) P can before after (fresh q (q.getD n z63).f3 (i + 1)) ((i + 1 : Nat) : Int)) (fun k => ?_) hnx
        simp only [perigeelaw10_SendingWastesNothing.l1]
        rw [if_pos (by omega), if_pos (by omega), if_pos (by omega), if_pos (by omega), rd_I, rd_I, if_pos c1, if_neg c2, hw1, ef]
        rfl
    · rw [if_neg (fun h => c1 h.1), Int.add_zero] at ef
      refine Ev.step (f := fun k => perigeelaw10_SendingWastesNothing.l1 k q (n : Int) P can before after (fresh q (q.getD n z63).f3 (i + 1)) ((i + 1 : Nat) : Int)) (fun k => ?_) hnx
      simp only [perigeelaw10_SendingWastesNothing.l1]
      rw [if_pos (by omega), if_pos (by omega), if_pos (by omega), if_pos (by omega), rd_I, rd_I, if_neg c1, hw1, ef]
      rfl
theorem waste_l0 (hF : sendF ps bk q = 0) (hbl : bk.length ≤ 1152921504606846976) {n : Nat} (hn : n < q.length) {A B : List Int} {r : Int} (hre : r = (q.getD n z63).f3) (hA : A = (stOf ps bk q r).left) (hB : B = (stOf ps bk q 1000000000000).left) (hl : 0 < B.getD n 0) : ∀ d i : Nat, i + d = bk.length →
    Ev (fun k => perigeelaw10_SendingWastesNothing.l0 k ps bk q (n : Int) P (canV ps bk r i) (i : Int)) true := by
  have h := sendF_zero hF
  have hck := sendF_check hF
  have hr : 0 ≤ r ∧ r ≤ 1000000000000 := by
    have := (h.items.all n).ready
    rw [← hre] at this
    exact this
  have hf := h.few
  have hm := h.items.many
  have hw := h.wastes hn hre hA hB hl
  have nA : ∀ i, i < q.length → 0 ≤ A.getD i 0 ∧ A.getD i 0 ≤ (q.getD i z63).f1 := by rw [hA]; exact (h.inv hr).nn
  have nB : ∀ i, i < q.length → 0 ≤ B.getD i 0 ∧ B.getD i 0 ≤ (q.getD i z63).f1 := by rw [hB]; exact (h.inv (u := 1000000000000) (by decide)).nn
  have sz : ∀ i, 0 ≤ (q.getD i z63).f1 ∧ (q.getD i z63).f1 ≤ 1000000000000 := fun i => (h.items.all i).size
  have hB1 := contact_Backlog_ev ps bk q r hbl
  have hB2 := contact_Backlog_ev ps bk q 1000000000000 hbl
  have e1 : backV ps bk q r = (backR q A r q.length, 0) := by
    unfold backV
    rw [if_pos hF, if_pos hr, hA]
  have e2 : backV ps bk q 1000000000000 = (backR q B 1000000000000 q.length, 0) := by
    unfold backV
    rw [if_pos hF, if_pos (by decide), hB]
  rw [e1] at hB1
  rw [e2] at hB2
  have b1 := backR_bsum (q := q) (left := A) r (fun i hi => ⟨(nA i hi).1, Int.le_trans (nA i hi).2 (sz i).2⟩) hm q.length (Nat.le_refl _)
  have b2 := backR_bsum (q := q) (left := B) 1000000000000 (fun i hi => ⟨(nB i hi).1, Int.le_trans (nB i hi).2 (sz i).2⟩) hm q.length (Nat.le_refl _)
  rw [b1.1] at hB1
  rw [b2.1] at hB2
  clear e1 e2 hA hB nA nB hl
  have vb : ∀ i : Nat, i < bk.length → 0 ≤ volV (rd_T33 ps (rd bk i)) r (rd_T33 ps (rd bk i)).f2 ∧ volV (rd_T33 ps (rd bk i)) r (rd_T33 ps (rd bk i)).f2 ≤ 10000000000000 := fun i hi => by
    have g := h.book.pass h.passes hi
    have h1 := sumS_bd (a := r) (b := (rd_T33 ps (rd bk i)).f2) (g.stretches _ (Nat.le_refl _))
    have h2 := stretchesV_length (rd_T33 ps (rd bk i)) (rd_T33 ps (rd bk i)).f3.length
    have h3 := g.many
    unfold volV
    omega
  have cb : ∀ i : Nat, i ≤ bk.length → 0 ≤ canV ps bk r i ∧ canV ps bk r i ≤ i * 10000000000000 := fun i hi => Snd.sumN_bd i (fun j hj => vb j (by omega))
  intro d
  induction d with
  | zero =>
    intro i hi
    obtain rfl : i = bk.length := by omega
    have hl1 := waste_l1 (P := P) hm sz hn (can := canV ps bk r bk.length) (before := bsum q A r q.length) (after := bsum q B 1000000000000 q.length) (by omega) (by omega) (Or.inr (by rw [← hre]; exact hw)) q.length 0 (by omega)
    rw [← hre] at hl1
    refine Ev.step (f := fun k => (contact_Backlog.f k ps bk q r).bind fun bt122 => ((contact_Backlog.f k ps bk q 1000000000000).bind fun bt124 => (if bt122.2 = 0 then (perigeelaw10_SendingWastesNothing.j3 k q (n : Int) P (canV ps bk r bk.length) bt122.1 bt124.1 (bt124.2 != 0)) else (perigeelaw10_SendingWastesNothing.j3 k q (n : Int) P (canV ps bk r bk.length) bt122.1 bt124.1 true)))) (fun k => ?_) (Ev.bind hB1 (Ev.bind hB2 ?_))
    · simp only [perigeelaw10_SendingWastesNothing.l0]
      rw [if_neg (by omega), if_pos (by omega), if_pos (by omega), rd_I, ← hre]
    · simp only [if_true]
      refine Ev.step (f := fun k => perigeelaw10_SendingWastesNothing.l1 k q (n : Int) P (canV ps bk r bk.length) (bsum q A r q.length) (bsum q B 1000000000000 q.length) (fresh q r 0) ((0 : Nat) : Int)) (fun k => ?_) hl1
      simp only [perigeelaw10_SendingWastesNothing.j3]
      rw [if_neg (by simp)]
      rfl
  | succ d ih =>
    intro i hi
    have hlt : i < bk.length := by omega
    have hnx := ih (i + 1) (by omega)
    have hin := h.book.inside i hlt
    have g := h.book.pass h.passes hlt
    have g1 := g.from0
    have g2 := g.less
    have g3 := g.to1
    have c1 := cb (i + 1) (by omega)
    have ec : canV ps bk r (i + 1) = canV ps bk r i + volV (rd_T33 ps (rd bk i)) r (rd_T33 ps (rd bk i)).f2 := rfl
    have c2 : canV ps bk r (i + 1) ≤ 2000000000000000 := by omega
    have hV := contact_Volume_ev ps (rd bk i) r (rd_T33 ps (rd bk i)).f2
    have hz : volumeF ps (rd bk i) r (rd_T33 ps (rd bk i)).f2 = 0 := volumeF_zero.2 ⟨by unfold atV; rw [if_pos hck, if_pos hin], hr, by omega⟩
    have ev : volumeV ps (rd bk i) r (rd_T33 ps (rd bk i)).f2 = (volV (rd_T33 ps (rd bk i)) r (rd_T33 ps (rd bk i)).f2, 0) := by
      unfold volumeV
      rw [if_pos hz]
    rw [ev] at hV
    refine Ev.step (f := fun k => perigeelaw10_SendingWastesNothing.j2 k ps bk q (n : Int) P (canV ps bk r i) (i : Int) false) (fun k => ?_) ?_
    · simp only [perigeelaw10_SendingWastesNothing.l0]
      rw [if_pos (by omega), if_pos (by omega), if_neg (by omega), decide_eq_false (show ¬ rd bk i ≥ (ps.length : Int) by omega)]
    · refine Ev.step (f := fun k => (contact_Volume.f k ps (rd bk i) r (rd_T33 ps (rd bk i)).f2).bind fun bt119 => (if bt119.2 = 0 then (perigeelaw10_SendingWastesNothing.l0 k ps bk q (n : Int) P (wrap64 (canV ps bk r i + bt119.1)) (wrap64 ((i : Int) + 1))) else (some false))) (fun k => ?_) (Ev.bind hV ?_)
      · simp only [perigeelaw10_SendingWastesNothing.j2]
        rw [if_neg Bool.false_ne_true, if_pos (by omega), if_pos (by omega), if_pos (by omega), if_pos (by omega), if_pos hin.1, if_pos hin.2, rd_I, ← hre]
      · simp only [if_true]
        rw [← ec, w64 (x := canV ps bk r (i + 1)) (by omega) (by omega), w64 (x := (i : Int) + 1) (by omega) (by omega)]
        exact hnx
end
theorem SendingWastesNothing_pure : perigeelaw10_SendingWastesNothing.Pure := by
  intro l b q n hl hb hq hn
  have hbl : b.length ≤ 1152921504606846976 := by have := hb.1; omega
  refine Ev.rounds ?_
  simp only [perigeelaw10_SendingWastesNothing.f]
  have aw := Ev.bind (f := fun _ t => some t) perigeelaw10_awake_ev (Ev.now true)
  obtain ⟨P, h1, h2⟩ := contact_Send_ev l b q hbl
  refine Ev.bind (contact_Result_ev l b q hbl) ?_
  refine Ev.bind h1 ?_
  -- what answers at once
  have now : ∀ (R : List S65) (f : Int) (P' : List S61), (f = 0 ∨ R = []) → Ev (fun k => perigeelaw10_SendingWastesNothing.j0 k l b q n R f P' true) true := fun R f P' hc => by
    refine Ev.step (f := fun k => (perigeelaw10_awake.f k).bind fun t => some t) (fun k => ?_) aw
    simp only [perigeelaw10_SendingWastesNothing.j0]
    rw [if_pos trivial]
    by_cases c : f = 0
    · rw [if_pos c]
    · rw [if_neg c, if_pos (by rw [hc.resolve_left c]; rfl)]
  by_cases hF : sendF l b q = 0
  rotate_left
  · unfold sendV resV
    simp only [if_neg hF]
    exact now _ _ _ (Or.inr rfl)
  have h := sendF_zero hF
  unfold sendV resV
  simp only [if_pos hF]
  simp only [if_true]
  by_cases c : 30000 < (((stOf l b q 1000000000000).parts.length : Nat) : Int)
  · simp only [if_pos c]
    simp only [if_neg (show ¬ (2 : Int) = 0 by omega)]
    exact now _ _ _ (Or.inl rfl)
  simp only [if_neg c]
  simp only [if_true]
  by_cases c1 : n < 0
  · simp only [if_pos c1]
    exact now _ _ _ (Or.inl rfl)
  simp only [if_neg c1]
  by_cases c2 : n ≥ (q.length : Int)
  · simp only [decide_eq_true c2]
    exact now _ _ _ (Or.inl rfl)
  simp only [decide_eq_false c2]
  obtain ⟨m, rfl⟩ : ∃ m : Nat, n = (m : Int) := ⟨n.toNat, by omega⟩
  have hm : m < q.length := by omega
  have hI := h.inv (u := 1000000000000) (by decide)
  obtain ⟨s, hs⟩ : ∃ s, s = stOf l b q 1000000000000 := ⟨_, rfl⟩
  rw [← hs] at hI
  have hR := rd_Sent' (s := s) hm
  have hdn := hI.dn m hm
  have hnn := (hI.nn m hm).1
  obtain ⟨dn, hde⟩ : ∃ dn, dn = s.done.getD m 0 := ⟨_, rfl⟩
  rw [← hs]
  rw [← hde] at hdn
  by_cases c3 : dn ≥ 0
  · refine Ev.step (f := fun k => (perigeelaw10_awake.f k).bind fun t => some t) (fun k => ?_) aw
    simp only [perigeelaw10_SendingWastesNothing.j0]
    rw [if_neg Bool.false_ne_true, if_pos (by rw [resL_len']), if_pos (by omega), if_pos (by rw [resL_len']; omega), hR]
    unfold resAt
    simp only
    rw [← hde, if_pos c3]
  · have hleft : 0 < s.left.getD m 0 := by
      have : ¬ s.left.getD m 0 = 0 := fun e => c3 (hdn.2 e)
      omega
    have hl0 := waste_l0 (P := P) hF hbl hm (r := (q.getD m z63).f3) rfl rfl (B := s.left) (by rw [hs]) hleft b.length 0 (by omega)
    refine Ev.step (f := fun k => perigeelaw10_SendingWastesNothing.l0 k l b q (m : Int) P (canV l b (q.getD m z63).f3 0) ((0 : Nat) : Int)) (fun k => ?_) hl0
    simp only [perigeelaw10_SendingWastesNothing.j0]
    rw [if_neg Bool.false_ne_true, if_pos (by rw [resL_len']), if_pos (by omega), if_pos (by rw [resL_len']; omega), hR]
    unfold resAt
    simp only
    rw [← hde, if_neg c3]
    rfl
end Go.Proofs.Ytbngmblgkkdhpaa.Q
namespace Go.Proofs.Ytbngmblgkkdhpaa.Pure
theorem SendingWastesNothing : Q.perigeelaw10_SendingWastesNothing.Pure := Q.SendingWastesNothing_pure
end Go.Proofs.Ytbngmblgkkdhpaa.Pure
