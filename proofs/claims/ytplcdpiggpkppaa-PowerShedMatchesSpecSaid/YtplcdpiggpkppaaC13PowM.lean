/- Plain laws of chapter 9: what the reference tells of the first moment below the floor. -/
-- Made by wip/tools/claimp.py of this session's texts; Lean checks it.
import Derived.Test.YtplcdpiggpkppaaC13PowJ
import Derived.Test.YtplcdpiggpkppaaC13Ge15
set_option linter.unusedVariables false
set_option linter.unusedSimpArgs false
namespace Go.Proofs.Ytplcdpiggpkppaa.Q
open Go.RowKit Go.Proofs.YtplcdpiggpkppaaW.PrintWords Go.Proofs.YtplcdpiggpkppaaW.PrintLast Go.Proofs.YtplcdpiggpkppaaW.PrintMore Go.Proofs.Ytplcdpiggpkppaa.Base
/-- What the reference's empty tells of a first moment. -/
def firstP : Option Nat → Int × Bool
  | none => (0, false)
  | some k => (k, true)
theorem ref_empty_loop {r lv sn bs fl : Int} {s : List S72} {l : List S76} {u : List S47} (h : Good r lv sn bs fl s l u) {n : Int} (hn : n ≤ 1000000000000) {M : List S96} (hM : (M.length : Int) ≤ 1000000000000) :
    ∀ (L : List (Int × Int × Int)) (i : Nat) (a : Int), M.drop i = attach r (lvV r lv sn bs s l u a.toNat) L → 0 ≤ a → Segs (dV sn bs s l u) a n L → IsFirst (lvV r lv sn bs s l u) a.toNat fl none →
      ∃ o, Ev (fun k => perigeeref9_empty.l0 k M (M.length : Int) (i : Int) r lv sn bs fl) (firstP o) ∧ IsFirst (lvV r lv sn bs s l u) n.toNat fl o
  | [], i, a, hd, ha, hs, hf => by
    have hi : M.length ≤ i := List.drop_eq_nil_iff.1 hd
    have e : a = n := hs
    subst e
    refine ⟨none, ?_, hf⟩
    refine Ev.step (fun k => perigeeref9_empty.l0.eq_2 ..) ?_
    simp only [if_neg (show ¬ (i : Int) < M.length by omega)]
    exact Ev.now _
  | p :: L, i, a, hd, ha, hs, hf => by
    obtain ⟨q1, q2, q3, q4, q5⟩ := leg_step h ha hs
    obtain ⟨h1, h2, h3⟩ := rd_leg hd
    rw [q3] at h1 h3
    have hbf : 0 ≤ lvV r lv sn bs s l u a.toNat ∧ lvV r lv sn bs s l u a.toNat ≤ r := lev_bd (d := dV sn bs s l u) h.cell.2.1 a.toNat
    have hc := h.cell
    have hfl : fl ≤ lvV r lv sn bs s l u a.toNat := hf _ (Nat.le_refl _)
    have hst := IsFirst.step (d := dV sn bs s l u) h.cell.2.1 (f := p.1) (t := p.2.1) (c := p.2.2) (by omega) (by omega) q5 (fl := fl) (by rw [q1]; exact hf)
    by_cases c1 : lvV r lv sn bs s l u p.2.1.toNat < fl
    · rw [if_pos (show lev r (dV sn bs s l u) lv p.2.1.toNat < fl from c1)] at hst
      obtain ⟨s1, s2, s3⟩ := hst
      have s2' : 0 ≤ (lvV r lv sn bs s l u p.1.toNat - fl) / -p.2.2 := s2
      have hdb := d_bd h p.1
      rw [q5 p.1 (Int.le_refl _) q2.1] at hdb
      have s3' := s3 n.toNat (by omega)
      have hqb : (lvV r lv sn bs s l u p.1.toNat - fl) / -p.2.2 ≤ lvV r lv sn bs s l u p.1.toNat - fl := Int.ediv_le_self _ (by rw [q1]; omega)
      rw [q1] at s2' hqb
      refine ⟨some (p.1 + (lvV r lv sn bs s l u p.1.toNat - fl) / -p.2.2 + 1).toNat, ?_, s3'⟩
      refine Ev.step (fun k => perigeeref9_empty.l0.eq_2 ..) ?_
      simp only [if_pos (show (i : Int) < M.length by omega), if_pos (show (0 : Int) ≤ i by omega), h1, if_pos c1, w64 (x := -p.2.2) (by omega) (by omega), if_neg (show ¬ -p.2.2 = 0 by omega), w64 (x := lvV r lv sn bs s l u a.toNat - fl) (by omega) (by omega), Int.tdiv_eq_ediv_of_nonneg (show 0 ≤ lvV r lv sn bs s l u a.toNat - fl by omega), w64 (x := (lvV r lv sn bs s l u a.toNat - fl) / -p.2.2) (by omega) (by omega), w64 (x := p.1 + (lvV r lv sn bs s l u a.toNat - fl) / -p.2.2) (by omega) (by omega), w64 (x := p.1 + (lvV r lv sn bs s l u a.toNat - fl) / -p.2.2 + 1) (by omega) (by omega)]
      refine Ev.is ?_
      rw [q1]
      show (a + (lvV r lv sn bs s l u a.toNat - fl) / -p.2.2 + 1, true) = ((((a + (lvV r lv sn bs s l u a.toNat - fl) / -p.2.2 + 1).toNat : Nat) : Int), true)
      congr 1
      omega
    · rw [if_neg (show ¬ lev r (dV sn bs s l u) lv p.2.1.toNat < fl from c1)] at hst
      obtain ⟨o, hr', ho⟩ := ref_empty_loop h hn hM L (i + 1) p.2.1 h3 (by omega) q4 hst
      refine ⟨o, ?_, ho⟩
      refine Ev.step (fun k => perigeeref9_empty.l0.eq_2 ..) ?_
      simp only [if_pos (show (i : Int) < M.length by omega), if_pos (show (0 : Int) ≤ i by omega), h1, if_neg c1, w64 (x := (i : Int) + 1) (by omega) (by omega)]
      exact hr'
theorem ref_empty_ev {r lv sn bs fl : Int} {s : List S72} {l : List S76} {u : List S47} (h : Good r lv sn bs fl s l u) {n : Int} (hn : 0 ≤ n ∧ n ≤ 1000000000000) : ∃ o, Ev (fun k => perigeeref9_empty.f k r lv sn bs fl s l u n) (firstP o) ∧ IsFirst (lvV r lv sn bs s l u) n.toNat fl o := by
  simp only [perigeeref9_empty.f]
  by_cases h1 : lv < fl
  · refine ⟨some 0, ?_, Nat.zero_le _, h1, fun j hj => by omega⟩
    simp only [if_pos h1]
    exact Ev.now _
  · have hs := legs_segs h hn.1
    have hsh := hs.short
    have hlen : (attach r lv (legsOf sn bs s l u n)).length = (legsOf sn bs s l u n).length := attach_length r _ lv
    obtain ⟨o, hr, ho⟩ := ref_empty_loop h hn.2 (M := attach r lv (legsOf sn bs s l u n)) (by rw [hlen]; omega) (legsOf sn bs s l u n) 0 0 rfl (Int.le_refl _) hs (fun j hj => by rw [show j = 0 by simpa using hj]; show fl ≤ lv; omega)
    refine ⟨o, ?_, ho⟩
    simp only [if_neg h1]
    refine Ev.bind (legs_ev h hn) ?_
    exact hr
end Go.Proofs.Ytplcdpiggpkppaa.Q
