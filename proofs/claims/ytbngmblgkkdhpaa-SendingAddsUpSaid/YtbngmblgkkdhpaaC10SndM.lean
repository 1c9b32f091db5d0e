/- Sending: what stays true of the parts; Send and Result. -/
-- Made by wip/tools/claimp.py of this session's texts; Lean checks it.
import Derived.Test.YtbngmblgkkdhpaaC10SndL
import Derived.Test.YtbngmblgkkdhpaaC10Gs19
set_option linter.unusedVariables false
set_option linter.unusedSimpArgs false
namespace Go.Proofs.Ytbngmblgkkdhpaa.Q
open Go.RowKit Go.Proofs.YtbngmblgkkdhpaaW.PrintWords Go.Proofs.YtbngmblgkkdhpaaW.PrintLast Go.Proofs.YtbngmblgkkdhpaaW.PrintMore Go.Proofs.Ytbngmblgkkdhpaa.Base
theorem rS_nn (p : S33) (n : Nat) (t : Int) : 0 ≤ Snd.rS (stretchesV p n) t := by
  unfold Snd.rS
  cases hf : (stretchesV p n).find? (fun s => decide (s.f0 ≤ t) && decide (t < s.f1)) with
  | none => exact Int.le_refl _
  | some s =>
    obtain ⟨i, _, h1, rfl⟩ := (stretches_mem n).1 (List.mem_of_find?_eq_some hf)
    show (0 : Int) ≤ (rd_T75 p.f3 i).f1
    omega
theorem rS_in {p : S33} (h : GoodPass p) : volV p 0 1000000000000 = wholeV p := by
  unfold wholeV volV
  have all : ∀ l : List S81, (∀ s ∈ l, s ∈ stretchesV p p.f3.length) → sumS 0 1000000000000 l = sumS p.f1 p.f2 l := by
    intro l
    induction l with
    | nil => exact fun _ => rfl
    | cons s r ih =>
      intro hl
      have hs := hl s List.mem_cons_self
      have g := h.stretches _ (Nat.le_refl _) s hs
      obtain ⟨i, hi, _, e⟩ := (stretches_mem _).1 hs
      have g1 := h.step i hi
      have g2 := h.ends hi
      have g3 := g.le
      have g4 := g.lo
      have g5 := g.hi
      have e0 : s.f0 = (rd_T75 p.f3 i).f0 := by rw [e]
      have e1 : s.f1 = endOf p i := by rw [e]
      unfold sumS
      rw [ih (fun x hx => hl x (List.mem_cons_of_mem _ hx))]
      have ep : partV s 0 1000000000000 = partV s p.f1 p.f2 := by
        unfold partV
        congr 1
        unfold mx mn
        (repeat' split) <;> omega
      rw [ep]
  exact all _ (fun s hs => hs)
theorem sumS_same (a b : Int) : ∀ l : List S81, Snd.sumS' a b l = sumS a b l
  | [] => rfl
  | s :: r => by
    unfold Snd.sumS' sumS
    rw [sumS_same a b r]
    rfl
def fromOf (ps : List S33) (k : Int) : Int := (rd_T33 ps k).f1
def toOf (ps : List S33) (k : Int) : Int := (rd_T33 ps k).f2
namespace Ready
variable {ps : List S33} {bk : List Int} {q : List S63} {u : Int}
theorem act_in (h : Ready ps bk q) (t : Int) : ∀ kr ∈ Snd.actOf bk (ssOf ps) t, kr.1 ∈ bk ∧ fromOf ps kr.1 ≤ t ∧ t < toOf ps kr.1 := fun kr hkr => by
  obtain ⟨k, r⟩ := kr
  have hp := Snd.actOf_pos _ hkr
  obtain ⟨hk, hr⟩ := Snd.actOf_mem hkr
  simp only at hp ⊢
  rw [hr] at hp
  obtain ⟨s, hs, a, b⟩ := Snd.rS_open hp
  have := h.long.inside k hk s hs
  exact ⟨hk, Int.le_trans this.1 a, Int.lt_of_lt_of_le b this.2⟩
theorem inv (h : Ready ps bk q) (hu : 0 ≤ u ∧ u ≤ 1000000000000) : Snd.Inv q bk (fromOf ps) (toOf ps) u (stOf ps bk q u) := by
  have h0 := Snd.start_inv (bk := bk) (pf := fromOf ps) (pt := toOf ps) (q := q) (fun x hx => by
    have g := h.items.mem hx
    have := g.size
    have := g.ready
    omega) 0
  have h1 := Snd.sim_inv (act := Snd.actOf bk (ssOf ps)) h.items.distinct (ordN_ord q) h.act_in u.toNat 0 (Int.le_refl 0) (by omega) h0
  rw [show (0 : Int) + (u.toNat : Int) = u by omega] at h1
  exact h1
theorem parts_few (h : Ready ps bk q) (u : Int) : (stOf ps bk q u).parts.length ≤ 200000300 := by
  have hN : Snd.Rest (Snd.actOf bk (ssOf ps)) (Snd.restN bk (fromOf ps) (toOf ps)) := ⟨fun t _ => Snd.rest_step t bk h.long.inside⟩
  have h1 := Snd.sim_phi (q := q) (ord := ordN q) hN u.toNat 0 (Snd.start q) (Int.le_refl 0)
  have h2 := Snd.start_phi h.items.many
  have h3 := Snd.rest_all (pf := fromOf ps) (pt := toOf ps) 0 bk h.long.long
  have h4 := h.few
  have h5 : (stOf ps bk q u).parts.length ≤ Snd.phi (Snd.sim q (ordN q) (Snd.actOf bk (ssOf ps)) 0 u.toNat (Snd.start q)) := by
    unfold Snd.phi stOf
    omega
  omega
theorem rows_good (h : Ready ps bk q) (hu : 0 ≤ u ∧ u ≤ 1000000000000) {st : SX} {W : List (List S81)} (hs : Snd.Sim q (ordN q) bk W st (stOf ps bk q u)) : rowsGood st.rows := by
  have hl := hs.plen
  have hf := h.parts_few u
  refine ⟨by omega, fun i hi => ?_⟩
  have e := hs.nums i hi
  have hp : (rowAt st.rows i).p ∈ (stOf ps bk q u).parts := by
    rw [← hs.rows]
    refine List.mem_map.2 ⟨rowAt st.rows i, ?_, rfl⟩
    unfold rowAt
    rw [List.getD_eq_getElem?_getD, List.getElem?_eq_getElem hi]
    exact List.getElem_mem hi
  obtain ⟨j, _, _, h1, h2, h3, h4, _, h6, _, _⟩ := (h.inv hu).part _ hp
  have g := (h.items.all j).ready
  have b := h.mem_book h6
  have := h.passes.many
  exact ⟨e, by omega, by omega⟩
/-- No pass carries more than it can. -/
theorem carry (h : Ready ps bk q) (hu : 0 ≤ u ∧ u ≤ 1000000000000) {k : Int} (hk : k ∈ bk) : Snd.sumBy (Snd.byPass k) (stOf ps bk q u).parts ≤ wholeV (rd_T33 ps k) := by
  have h1 := Snd.sim_carry (q := q) (ord := ordN q) (act := Snd.actOf bk (ssOf ps)) (k := k) (f := Snd.rS (ssOf ps k)) (fun t kr hkr => Int.le_of_lt (Snd.actOf_pos _ hkr)) (fun t => Snd.rateIn_act h.book.up (fun k t => rS_nn _ _ t) t k) u.toNat 0 (s := Snd.start q) (by unfold Snd.start; simp)
  have h2 := Snd.sumRate_add (Snd.rS (ssOf ps k)) 0 u.toNat (1000000000000 - u.toNat)
  have h3 := Snd.sumRate_nonneg (f := Snd.rS (ssOf ps k)) (a := 0 + (u.toNat : Int)) (1000000000000 - u.toNat) (fun t => rS_nn _ _ t)
  have h4 := Snd.sumS_rate (ss := ssOf ps k) ((h.pass hk).line _ (Nat.le_refl _)) 0 1000000000000
  have h5 := rS_in (h.pass hk)
  have e : u.toNat + (1000000000000 - u.toNat) = 1000000000000 := by omega
  rw [e, ← h4, sumS_same] at h2
  have h6 : sumS 0 (0 + ((1000000000000 : Nat) : Int)) (ssOf ps k) = wholeV (rd_T33 ps k) := h5
  have h7 : Snd.sumBy (Snd.byPass k) (Snd.start q).parts = 0 := rfl
  rw [h6] at h2
  show Snd.sumBy (Snd.byPass k) (Snd.sim q (ordN q) (Snd.actOf bk (ssOf ps)) 0 u.toNat (Snd.start q)).parts ≤ _
  omega
end Ready
def sendV (ps : List S33) (bk : List Int) (q : List S63) (P : List S61) : List S61 × Int := if sendF ps bk q = 0 then (if 30000 < (((stOf ps bk q 1000000000000).parts.length : Nat) : Int) then ([], 2) else (P, 0)) else ([], sendF ps bk q)
theorem contact_Send_rows (ps : List S33) (bk : List Int) (q : List S63) (hb : bk.length ≤ 1152921504606846976) : ∃ rows : List SRow, Ev (fun k => contact_Send.f k ps bk q) (sendV ps bk q (partsX rows)) ∧ (sendF ps bk q = 0 → rowsGood rows ∧ rows.map (·.p) = (stOf ps bk q 1000000000000).parts) := by
  by_cases hF : sendF ps bk q = 0
  · have h := sendF_zero hF
    obtain ⟨st, W, h1, h2⟩ := sending_ev (u := 1000000000000) hb (by omega) hF
    have hg := h.rows_good (u := 1000000000000) (by omega) h2
    have hl := h2.plen
    refine ⟨st.rows, ?_, fun _ => ⟨hg, h2.rows⟩⟩
    unfold contact_Send.f sendV
    rw [if_pos hF]
    refine Ev.bind h1 ?_
    simp only [if_pos hg]
    rw [hl]
    by_cases c : 30000 < (st.rows.length : Int)
    · simp only [if_pos c]
      exact Ev.now _
    · simp only [if_neg c]
      exact Ev.now _
  · refine ⟨[], ?_, fun h => absurd h hF⟩
    unfold contact_Send.f sendV
    rw [if_neg hF]
    refine Ev.bind (sending_bad hb hF) ?_
    exact Ev.now _
theorem contact_Send_ev (ps : List S33) (bk : List Int) (q : List S63) (hb : bk.length ≤ 1152921504606846976) : ∃ P, Ev (fun k => contact_Send.f k ps bk q) (sendV ps bk q P) ∧ (sendF ps bk q = 0 → P.Perm (stOf ps bk q 1000000000000).parts) := by
  obtain ⟨rows, h1, h2⟩ := contact_Send_rows ps bk q hb
  refine ⟨_, h1, fun hF => ?_⟩
  obtain ⟨g, e⟩ := h2 hF
  rw [← e]
  exact partsX_perm g.small g.nums
def resAt (q : List S63) (s : Snd.St) (i : Nat) : S65 := ⟨(rd_T63 q (i : Int)).f0, (q.getD i z63).f1 - s.left.getD i 0, s.done.getD i 0⟩
def resL (q : List S63) (s : Snd.St) : List S65 := (List.range q.length).map (resAt q s)
def resV (ps : List S33) (bk : List Int) (q : List S63) : List S65 × Int := if sendF ps bk q = 0 then (resL q (stOf ps bk q 1000000000000), 0) else ([], sendF ps bk q)
theorem contact_Result_ev (ps : List S33) (bk : List Int) (q : List S63) (hb : bk.length ≤ 1152921504606846976) : Ev (fun k => contact_Result.f k ps bk q) (resV ps bk q) := by
  unfold contact_Result.f resV
  by_cases hF : sendF ps bk q = 0
  · obtain ⟨st, W, h1, h2⟩ := sending_ev (u := 1000000000000) hb (by omega) hF
    have hq := (sendF_zero hF).items.many
    have hd : (st.sent.length = q.length ∧ st.done.length = q.length) ∧ q.length ≤ 1000000 := ⟨⟨h2.slen, by rw [h2.done]; exact h2.dlen⟩, by omega⟩
    rw [if_pos hF]
    refine Ev.bind h1 ?_
    simp only [if_pos hd]
    refine Ev.is ?_
    unfold sentsOf resL
    refine congrArg (fun z => (z, (0 : Int))) (List.map_congr_left fun i hi => ?_)
    have hi' := List.mem_range.1 hi
    unfold sentOf resAt rd
    rw [Int.toNat_natCast, h2.sent i hi', h2.done]
  · rw [if_neg hF]
    refine Ev.bind (sending_bad hb hF) ?_
    exact Ev.now _
theorem sendF_check {ps : List S33} {bk : List Int} {q : List S63} (h : sendF ps bk q = 0) : checkV ps = 0 := by
  unfold sendF bothV at h
  by_cases c : checkV ps = 0
  · exact c
  · rw [if_neg c, if_neg c] at h
    exact absurd h c
theorem rd_mem {l : List Int} {i : Nat} (h : i < l.length) : rd l (i : Int) ∈ l := by
  rw [rd_get h]
  exact List.getElem_mem h
end Go.Proofs.Ytbngmblgkkdhpaa.Q
