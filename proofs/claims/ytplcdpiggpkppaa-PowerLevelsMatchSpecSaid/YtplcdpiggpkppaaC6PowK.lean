/- Plain laws of chapter 9: what the reference tells of the lowest level. -/
-- Made by wip/tools/claimp.py of this session's texts; Lean checks it.
import Derived.Test.YtplcdpiggpkppaaC6PowJ
import Derived.Test.YtplcdpiggpkppaaC6Ge15
set_option linter.unusedVariables false
set_option linter.unusedSimpArgs false
namespace Go.Proofs.Ytplcdpiggpkppaa.Q
open Go.RowKit Go.Proofs.YtplcdpiggpkppaaW.PrintWords Go.Proofs.YtplcdpiggpkppaaW.PrintLast Go.Proofs.YtplcdpiggpkppaaW.PrintMore Go.Proofs.Ytplcdpiggpkppaa.Base
theorem ref_lowest_loop {r lv sn bs fl : Int} {s : List S72} {l : List S76} {u : List S47} (h : Good r lv sn bs fl s l u) {n : Int} (hn : n ≤ 1000000000000) {M : List S96} (hM : (M.length : Int) ≤ 1000000000000) :
    ∀ (L : List (Int × Int × Int)) (i : Nat) (a m w : Int), M.drop i = attach r (lvV r lv sn bs s l u a.toNat) L → 0 ≤ a → Segs (dV sn bs s l u) a n L → 0 ≤ w → IsLow (lvV r lv sn bs s l u) a.toNat m w.toNat →
      ∃ m' w', Ev (fun k => perigeeref9_Lowest.l0 k m w M (M.length : Int) (i : Int)) (m', w', 0) ∧ 0 ≤ w' ∧ IsLow (lvV r lv sn bs s l u) n.toNat m' w'.toNat
  | [], i, a, m, w, hd, ha, hs, hw, hlow => by
    have hi : M.length ≤ i := List.drop_eq_nil_iff.1 hd
    have e : a = n := hs
    subst e
    refine ⟨m, w, ?_, hw, hlow⟩
    refine Ev.step (fun k => perigeeref9_Lowest.l0.eq_2 ..) ?_
    simp only [if_neg (show ¬ (i : Int) < M.length by omega)]
    exact Ev.now _
  | p :: L, i, a, m, w, hd, ha, hs, hw, hlow => by
    obtain ⟨q1, q2, q3, q4, q5⟩ := leg_step h ha hs
    obtain ⟨h1, h2, h3⟩ := rd_leg hd
    rw [q3] at h1 h3
    have hbt : 0 ≤ lvV r lv sn bs s l u p.2.1.toNat ∧ lvV r lv sn bs s l u p.2.1.toNat ≤ r := lev_bd (d := dV sn bs s l u) h.cell.2.1 p.2.1.toNat
    have hbf : 0 ≤ lvV r lv sn bs s l u a.toNat ∧ lvV r lv sn bs s l u a.toNat ≤ r := lev_bd (d := dV sn bs s l u) h.cell.2.1 a.toNat
    have hc := h.cell
    have hst := IsLow.step (d := dV sn bs s l u) h.cell.2.1 (f := p.1) (t := p.2.1) (c := p.2.2) (by omega) (by omega) q5 (n := m) (k := w.toNat) (by rw [q1]; exact hlow)
    by_cases c1 : lvV r lv sn bs s l u p.2.1.toNat < m
    · rw [if_pos (show lev r (dV sn bs s l u) lv p.2.1.toNat < m from c1)] at hst
      obtain ⟨s1, s2, s3⟩ := hst
      have s1' : IsLow (lvV r lv sn bs s l u) p.2.1.toNat (lvV r lv sn bs s l u p.2.1.toNat) (whenP (lvV r lv sn bs s l u p.1.toNat) (lvV r lv sn bs s l u p.2.1.toNat) p).toNat := s1
      have s2' : 0 ≤ whenP (lvV r lv sn bs s l u p.1.toNat) (lvV r lv sn bs s l u p.2.1.toNat) p := s2
      have hwle : whenP (lvV r lv sn bs s l u p.1.toNat) (lvV r lv sn bs s l u p.2.1.toNat) p ≤ p.2.1 := by have := s1'.1; omega
      rw [q1] at s1' s2' hwle
      have hmf : m ≤ lvV r lv sn bs s l u a.toNat := hlow.2.2.1 _ (Nat.le_refl _)
      have hdb := d_bd h p.1
      rw [q5 p.1 (Int.le_refl _) q2.1] at hdb
      obtain ⟨m', w', hr', hw', hl'⟩ := ref_lowest_loop h hn hM L (i + 1) p.2.1 _ _ h3 (by omega) q4 s2' s1'
      refine ⟨m', w', ?_, hw', hl'⟩
      have hqn : 0 ≤ lvV r lv sn bs s l u a.toNat - lvV r lv sn bs s l u p.2.1.toNat - p.2.2 - 1 := by omega
      have hq0 : 0 ≤ (lvV r lv sn bs s l u a.toNat - lvV r lv sn bs s l u p.2.1.toNat - p.2.2 - 1) / -p.2.2 := Int.ediv_nonneg hqn (by omega)
      have hq1 : (lvV r lv sn bs s l u a.toNat - lvV r lv sn bs s l u p.2.1.toNat - p.2.2 - 1) / -p.2.2 ≤ lvV r lv sn bs s l u a.toNat - lvV r lv sn bs s l u p.2.1.toNat - p.2.2 - 1 := Int.ediv_le_self _ hqn
      refine Ev.step (fun k => perigeeref9_Lowest.l0.eq_2 ..) ?_
      simp only [if_pos (show (i : Int) < M.length by omega), if_pos (show (0 : Int) ≤ i by omega), h1, if_pos c1, w64 (x := -p.2.2) (by omega) (by omega), if_neg (show ¬ -p.2.2 = 0 by omega), w64 (x := (i : Int) + 1) (by omega) (by omega), w64 (x := lvV r lv sn bs s l u a.toNat - lvV r lv sn bs s l u p.2.1.toNat) (by omega) (by omega), w64 (x := lvV r lv sn bs s l u a.toNat - lvV r lv sn bs s l u p.2.1.toNat - p.2.2) (by omega) (by omega), w64 (x := lvV r lv sn bs s l u a.toNat - lvV r lv sn bs s l u p.2.1.toNat - p.2.2 - 1) (by omega) (by omega), Int.tdiv_eq_ediv_of_nonneg hqn, w64 (x := (lvV r lv sn bs s l u a.toNat - lvV r lv sn bs s l u p.2.1.toNat - p.2.2 - 1) / -p.2.2) (by omega) (by omega), w64 (x := p.1 + (lvV r lv sn bs s l u a.toNat - lvV r lv sn bs s l u p.2.1.toNat - p.2.2 - 1) / -p.2.2) (by omega) (by omega)]
      exact hr'
    · rw [if_neg (show ¬ lev r (dV sn bs s l u) lv p.2.1.toNat < m from c1)] at hst
      obtain ⟨m', w', hr', hw', hl'⟩ := ref_lowest_loop h hn hM L (i + 1) p.2.1 m w h3 (by omega) q4 hw hst
      refine ⟨m', w', ?_, hw', hl'⟩
      refine Ev.step (fun k => perigeeref9_Lowest.l0.eq_2 ..) ?_
      simp only [if_pos (show (i : Int) < M.length by omega), if_pos (show (0 : Int) ≤ i by omega), h1, if_neg c1, w64 (x := (i : Int) + 1) (by omega) (by omega)]
      exact hr'
theorem ref_Lowest_ev (r lv sn bs fl : Int) (s : List S72) (l : List S76) (u : List S47) (n : Int) : ∃ m w, Ev (fun k => perigeeref9_Lowest.f k r lv sn bs fl s l u n) (m, w, checkF r lv sn bs fl s l u n) ∧ (if checkF r lv sn bs fl s l u n = 0 then 0 ≤ w ∧ IsLow (lvV r lv sn bs s l u) n.toNat m w.toNat else m = 0 ∧ w = 0) := by
  simp only [perigeeref9_Lowest.f]
  by_cases h0 : checkF r lv sn bs fl s l u n = 0
  · obtain ⟨h, hn⟩ := checkF_good h0
    have hs := legs_segs h hn.1
    have hsh := hs.short
    have hlen : (attach r lv (legsOf sn bs s l u n)).length = (legsOf sn bs s l u n).length := attach_length r _ lv
    obtain ⟨m, w, hr, hw, hl⟩ := ref_lowest_loop h hn.2 (M := attach r lv (legsOf sn bs s l u n)) (by rw [hlen]; omega) (legsOf sn bs s l u n) 0 0 lv 0 rfl (Int.le_refl _) hs (Int.le_refl _) ⟨Nat.le_refl _, rfl, fun j hj => by rw [show j = 0 by simpa using hj]; exact Int.le_refl _, fun j hj => by simp at hj⟩
    refine ⟨m, w, ?_, by rw [if_pos h0]; exact ⟨hw, hl⟩⟩
    refine Ev.bind (ref_ask_ev r lv sn bs fl s l u n) ?_
    simp only [if_pos h0]
    refine Ev.bind (legs_ev h hn) ?_
    rw [h0]
    exact hr
  · refine ⟨0, 0, ?_, by rw [if_neg h0]; exact ⟨rfl, rfl⟩⟩
    refine Ev.bind (ref_ask_ev r lv sn bs fl s l u n) ?_
    simp only [if_neg h0]
    exact Ev.now _
end Go.Proofs.Ytplcdpiggpkppaa.Q
