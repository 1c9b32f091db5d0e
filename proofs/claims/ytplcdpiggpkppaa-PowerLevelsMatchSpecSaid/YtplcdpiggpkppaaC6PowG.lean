/- Plain laws of chapter 9: the lowest level and its first moment; the first moment below the floor; the least level to begin with. -/
-- Made by wip/tools/claimp.py of this session's texts; Lean checks it.
import Derived.Test.YtplcdpiggpkppaaC6PowE
import Derived.Test.YtplcdpiggpkppaaC6Ge14
import Derived.Test.YtplcdpiggpkppaaC6Ge13
set_option linter.unusedVariables false
set_option linter.unusedSimpArgs false
namespace Go.Proofs.Ytplcdpiggpkppaa.Q
open Go.RowKit Go.Proofs.YtplcdpiggpkppaaW.PrintWords Go.Proofs.YtplcdpiggpkppaaW.PrintLast Go.Proofs.YtplcdpiggpkppaaW.PrintMore Go.Proofs.Ytplcdpiggpkppaa.Base
theorem kit_Down_eq {x y : Int} (hx : 0 ≤ x ∧ x ≤ 2000000000000) (hy : 1 ≤ y ∧ y ≤ 6000000) : kit_Down.f x y = some (x / y) := by
  have hm := Int.emod_nonneg x (show y ≠ 0 by omega)
  have hq := Int.ediv_nonneg hx.1 (show 0 ≤ y by omega)
  have hq2 : x / y ≤ x := Int.ediv_le_self _ hx.1
  unfold kit_Down.f
  rw [if_neg (show ¬ y = 0 by omega), Int.tmod_eq_emod_of_nonneg hx.1, if_neg (by omega), Int.tdiv_eq_ediv_of_nonneg hx.1, w64 (by omega) (by omega)]
theorem kit_Up_eq {x r : Int} (hx : 0 < x ∧ x ≤ 1000000000000) (hr : 1 ≤ r ∧ r ≤ 6000000) : kit_Up.f x r = some ((x + r - 1) / r) := by
  unfold kit_Up.f kit_Down.f
  rw [w64 (x := -x) (by omega) (by omega), if_neg (by omega)]
  have hd : Int.tdiv (-x) r = -(x / r) := by
    rw [Int.neg_tdiv, Int.tdiv_eq_ediv_of_nonneg (by omega)]
  have hm : Int.tmod (-x) r = -(x % r) := by
    rw [Int.neg_tmod, Int.tmod_eq_emod_of_nonneg (by omega)]
  have d1 := Int.emod_nonneg x (show r ≠ 0 by omega)
  have d2 := Int.emod_lt_of_pos x (show 0 < r by omega)
  have d3 := Int.mul_ediv_add_emod x r
  have d4 : 0 ≤ x / r := Int.ediv_nonneg (by omega) (by omega)
  have d5 : x / r ≤ x := Int.ediv_le_self _ (by omega)
  rw [hd, hm]
  by_cases h : -(x % r) < 0
  · rw [if_pos h, w64 (x := -(x / r)) (by omega) (by omega), w64 (x := -(x / r) - 1) (by omega) (by omega)]
    simp only [Option.bind_some]
    rw [w64 (by omega) (by omega)]
    congr 1
    have : (x + r - 1) / r = x / r + 1 := by
      rw [Int.ediv_eq_iff_of_pos (by omega)]
      rw [Int.add_mul, Int.mul_comm (x / r) r]
      omega
    omega
  · rw [if_neg h, w64 (x := -(x / r)) (by omega) (by omega)]
    simp only [Option.bind_some]
    rw [w64 (by omega) (by omega)]
    congr 1
    have : (x + r - 1) / r = x / r := by
      rw [Int.ediv_eq_iff_of_pos (by omega)]
      rw [Int.mul_comm (x / r) r]
      omega
    omega
/-- When a falling piece first is as low as at its end: as Go reckons it. -/
theorem when_go {r lv sn bs fl : Int} {s : List S72} {l : List S76} {u : List S47} (h : Good r lv sn bs fl s l u) {p : Int × Int × Int} (h0 : 0 ≤ p.1) (hft : p.1 < p.2.1) (ht : p.2.1 ≤ 1000000000000) (hd : ∀ t, p.1 ≤ t → t < p.2.1 → dV sn bs s l u t = p.2.2) (hc : p.2.2 < 0)
    (hlow : lvV r lv sn bs s l u p.2.1.toNat < lvV r lv sn bs s l u p.1.toNat) (hE : 0 < lvV r lv sn bs s l u p.2.1.toNat) : whenP (lvV r lv sn bs s l u p.1.toNat) (lvV r lv sn bs s l u p.2.1.toNat) p = p.2.1 := by
  have k := lev_piece (d := dV sn bs s l u) h.cell.2.1 h0 (Int.le_of_lt hft) hd p.2.1 (Int.le_of_lt hft) (Int.le_refl _)
  have hb := lev_bd (d := dV sn bs s l u) h.cell.2.1 p.1.toNat
  have k' : lvV r lv sn bs s l u p.2.1.toNat = clp r (lvV r lv sn bs s l u p.1.toNat + p.2.2 * (p.2.1 - p.1)) := k
  have hb' : 0 ≤ lvV r lv sn bs s l u p.1.toNat ∧ lvV r lv sn bs s l u p.1.toNat ≤ r := hb
  unfold whenP
  generalize lvV r lv sn bs s l u p.2.1.toNat = E at *
  generalize lvV r lv sn bs s l u p.1.toNat = L at *
  have hneg : p.2.2 * (p.2.1 - p.1) ≤ 0 := Int.mul_nonpos_of_nonpos_of_nonneg (by omega) (by omega)
  have e : L - E = -p.2.2 * (p.2.1 - p.1) := by
    rw [Int.neg_mul]
    generalize p.2.2 * (p.2.1 - p.1) = q at *
    unfold clp at k'
    split at k'
    · omega
    · split at k' <;> omega
  have := up_exact (c := -p.2.2) (n := p.2.1 - p.1) (by omega) (by omega)
  rw [e, show -p.2.2 * (p.2.1 - p.1) - p.2.2 - 1 = -p.2.2 * (p.2.1 - p.1) + -p.2.2 - 1 by omega, this]
  omega
theorem lowest_loop {r lv sn bs fl : Int} {s : List S72} {l : List S76} {u : List S47} (h : Good r lv sn bs fl s l u) {n : Int} (hn : n ≤ 1000000000000) {L : List (Int × Int × Int)} (hL : (L.length : Int) ≤ 1000000000000) :
    ∀ (d i : Nat) (a m w : Int), i + d = L.length → 0 ≤ a → Segs (dV sn bs s l u) a n (L.drop i) → 0 ≤ w → IsLow (lvV r lv sn bs s l u) a.toNat m w.toNat →
      ∃ m' w', Ev (fun k => power_Lowest.l0 k (lvV r lv sn bs s l u a.toNat) m w (L.map pieceOf) (L.length : Int) (i : Int) r lv sn bs fl) (m', w', 0) ∧ 0 ≤ w' ∧ IsLow (lvV r lv sn bs s l u) n.toNat m' w'.toNat
  | 0, i, a, m, w, hi, ha, hs, hw, hlow => by
    rw [List.drop_of_length_le (by omega)] at hs
    have e : a = n := hs
    subst e
    refine ⟨m, w, ?_, hw, hlow⟩
    refine Ev.step (fun k => power_Lowest.l0.eq_2 ..) ?_
    simp only [if_neg (show ¬ (i : Int) < L.length by omega)]
    exact Ev.now _
  | d + 1, i, a, m, w, hi, ha, hs, hw, hlow => by
    obtain ⟨p, hp, hr⟩ := drop_pieces (L := L) (i := i) (by omega)
    rw [hp] at hs
    obtain ⟨q1, q2, q3, q4, q5, q6⟩ := piece_step h hn ha hs lv sn bs fl
    have hbt := lev_bd (d := dV sn bs s l u) h.cell.2.1 p.2.1.toNat
    have hbf := lev_bd (d := dV sn bs s l u) h.cell.2.1 p.1.toNat
    have hbt' : 0 ≤ lvV r lv sn bs s l u p.2.1.toNat ∧ lvV r lv sn bs s l u p.2.1.toNat ≤ r := hbt
    have hbf' : 0 ≤ lvV r lv sn bs s l u p.1.toNat ∧ lvV r lv sn bs s l u p.1.toNat ≤ r := hbf
    have hc := h.cell
    have hmf : m ≤ lvV r lv sn bs s l u p.1.toNat := by rw [q1]; exact hlow.2.2.1 _ (Nat.le_refl _)
    have hst := IsLow.step (d := dV sn bs s l u) h.cell.2.1 (f := p.1) (t := p.2.1) (c := p.2.2) (by omega) (by omega) q6 (n := m) (k := w.toNat) (by rw [q1]; exact hlow)
    by_cases c1 : lvV r lv sn bs s l u p.2.1.toNat < m
    · rw [if_pos (show lev r (dV sn bs s l u) lv p.2.1.toNat < m from c1)] at hst
      obtain ⟨s1, s2, s3⟩ := hst
      have s1' : IsLow (lvV r lv sn bs s l u) p.2.1.toNat (lvV r lv sn bs s l u p.2.1.toNat) (whenP (lvV r lv sn bs s l u p.1.toNat) (lvV r lv sn bs s l u p.2.1.toNat) p).toNat := s1
      have s2' : 0 ≤ whenP (lvV r lv sn bs s l u p.1.toNat) (lvV r lv sn bs s l u p.2.1.toNat) p := s2
      have hdb := d_bd h p.1
      rw [q6 p.1 (Int.le_refl _) (by omega)] at hdb
      obtain ⟨m', w', hr', hw', hl'⟩ := lowest_loop h hn hL d (i + 1) p.2.1 _ _ (by omega) (by omega) q5 s2' s1'
      refine ⟨m', w', ?_, hw', hl'⟩
      refine Ev.step (fun k => power_Lowest.l0.eq_2 ..) ?_
      simp only [if_pos (show (i : Int) < L.length by omega), if_pos (show (0 : Int) ≤ i by omega), List.length_map, hr, pieceOf, q3, q4, Option.bind_some, if_pos c1, w64 (x := (i : Int) + 1) (by omega) (by omega)]
      by_cases c2 : lvV r lv sn bs s l u p.2.1.toNat = 0
      · have hw2 : whenP (lvV r lv sn bs s l u p.1.toNat) (lvV r lv sn bs s l u p.2.1.toNat) p = p.1 + (lvV r lv sn bs s l u p.1.toNat + -p.2.2 - 1) / -p.2.2 := by
          unfold whenP
          rw [c2, show lvV r lv sn bs s l u p.1.toNat - 0 - p.2.2 - 1 = lvV r lv sn bs s l u p.1.toNat + -p.2.2 - 1 by omega]
        have hqb : (lvV r lv sn bs s l u p.1.toNat + -p.2.2 - 1) / -p.2.2 ≤ lvV r lv sn bs s l u p.1.toNat + -p.2.2 - 1 := Int.ediv_le_self _ (by omega)
        have hqb0 : 0 ≤ (lvV r lv sn bs s l u p.1.toNat + -p.2.2 - 1) / -p.2.2 := Int.ediv_nonneg (by omega) (by omega)
        simp only [if_pos c2, w64 (x := -p.2.2) (by omega) (by omega), ← q1]
        rw [kit_Up_eq (by omega) (by omega)]
        simp only [Option.bind_some, w64 (x := p.1 + (lvV r lv sn bs s l u p.1.toNat + -p.2.2 - 1) / -p.2.2) (by omega) (by omega)]
        rw [← hw2]
        exact hr'
      · have hw2 := when_go h (p := p) (by omega) (by omega) (by omega) q6 s3 (by omega) (by omega)
        simp only [if_neg c2]
        rw [hw2] at hr'
        exact hr'
    · rw [if_neg (show ¬ lev r (dV sn bs s l u) lv p.2.1.toNat < m from c1)] at hst
      obtain ⟨m', w', hr', hw', hl'⟩ := lowest_loop h hn hL d (i + 1) p.2.1 m w (by omega) (by omega) q5 hw hst
      refine ⟨m', w', ?_, hw', hl'⟩
      refine Ev.step (fun k => power_Lowest.l0.eq_2 ..) ?_
      simp only [if_pos (show (i : Int) < L.length by omega), if_pos (show (0 : Int) ≤ i by omega), List.length_map, hr, pieceOf, q3, q4, Option.bind_some, if_neg c1, w64 (x := (i : Int) + 1) (by omega) (by omega)]
      exact hr'
theorem power_Lowest_ev (r lv sn bs fl : Int) (s : List S72) (l : List S76) (u : List S47) (n : Int) : ∃ m w, Ev (fun k => power_Lowest.f k r lv sn bs fl s l u n) (m, w, checkF r lv sn bs fl s l u n) ∧ (if checkF r lv sn bs fl s l u n = 0 then 0 ≤ w ∧ IsLow (lvV r lv sn bs s l u) n.toNat m w.toNat else m = 0 ∧ w = 0) := by
  simp only [power_Lowest.f]
  by_cases h0 : checkF r lv sn bs fl s l u n = 0
  · obtain ⟨h, hn⟩ := checkF_good h0
    have hs := (pieces_segs h hn.1).1
    have hsh := hs.short
    obtain ⟨m, w, hr, hw, hl⟩ := lowest_loop h hn.2 (L := piecesV sn bs s l u n) (by omega) (piecesV sn bs s l u n).length 0 0 lv 0 (by omega) (Int.le_refl _) hs (Int.le_refl _) ⟨Nat.le_refl _, rfl, fun j hj => by rw [show j = 0 by simpa using hj]; exact Int.le_refl _, fun j hj => by simp at hj⟩
    refine ⟨m, w, ?_, by rw [if_pos h0]; exact ⟨hw, hl⟩⟩
    refine Ev.bind (power_check_ev r lv sn bs fl s l u n) ?_
    simp only [if_pos h0]
    refine Ev.bind (flow_ev h n) ?_
    rw [List.length_map, h0]
    exact hr
  · refine ⟨0, 0, ?_, by rw [if_neg h0]; exact ⟨rfl, rfl⟩⟩
    refine Ev.bind (power_check_ev r lv sn bs fl s l u n) ?_
    simp only [if_neg h0]
    exact Ev.now _
/-- What empty tells of a first moment. -/
def firstI : Option Nat → Int
  | none => -1
  | some k => k
theorem empty_loop {r lv sn bs fl : Int} {s : List S72} {l : List S76} {u : List S47} (h : Good r lv sn bs fl s l u) {n : Int} (hn : n ≤ 1000000000000) {L : List (Int × Int × Int)} (hL : (L.length : Int) ≤ 1000000000000) :
    ∀ (d i : Nat) (a : Int), i + d = L.length → 0 ≤ a → Segs (dV sn bs s l u) a n (L.drop i) → IsFirst (lvV r lv sn bs s l u) a.toNat fl none →
      ∃ o, Ev (fun k => power_empty.l0 k (lvV r lv sn bs s l u a.toNat) (L.map pieceOf) (L.length : Int) (i : Int) r lv sn bs fl) (firstI o) ∧ IsFirst (lvV r lv sn bs s l u) n.toNat fl o
  | 0, i, a, hi, ha, hs, hf => by
    rw [List.drop_of_length_le (by omega)] at hs
    have e : a = n := hs
    subst e
    refine ⟨none, ?_, hf⟩
    refine Ev.step (fun k => power_empty.l0.eq_2 ..) ?_
    simp only [if_neg (show ¬ (i : Int) < L.length by omega)]
    exact Ev.now _
  | d + 1, i, a, hi, ha, hs, hf => by
    obtain ⟨p, hp, hr⟩ := drop_pieces (L := L) (i := i) (by omega)
    rw [hp] at hs
    obtain ⟨q1, q2, q3, q4, q5, q6⟩ := piece_step h hn ha hs lv sn bs fl
    have hbf := lev_bd (d := dV sn bs s l u) h.cell.2.1 p.1.toNat
    have hbf' : 0 ≤ lvV r lv sn bs s l u p.1.toNat ∧ lvV r lv sn bs s l u p.1.toNat ≤ r := hbf
    have hc := h.cell
    have hfl : fl ≤ lvV r lv sn bs s l u p.1.toNat := by rw [q1]; exact hf _ (Nat.le_refl _)
    have hst := IsFirst.step (d := dV sn bs s l u) h.cell.2.1 (f := p.1) (t := p.2.1) (c := p.2.2) (by omega) (by omega) q6 (fl := fl) (by rw [q1]; exact hf)
    by_cases c1 : lvV r lv sn bs s l u p.2.1.toNat < fl
    · rw [if_pos (show lev r (dV sn bs s l u) lv p.2.1.toNat < fl from c1)] at hst
      obtain ⟨s1, s2, s3⟩ := hst
      have s2' : 0 ≤ (lvV r lv sn bs s l u p.1.toNat - fl) / -p.2.2 := s2
      have hqb : (lvV r lv sn bs s l u p.1.toNat - fl) / -p.2.2 ≤ lvV r lv sn bs s l u p.1.toNat - fl := Int.ediv_le_self _ (by omega)
      have hdb := d_bd h p.1
      rw [q6 p.1 (Int.le_refl _) (by omega)] at hdb
      refine ⟨some (p.1 + (lvV r lv sn bs s l u p.1.toNat - fl) / -p.2.2 + 1).toNat, ?_, s3 n.toNat (by omega)⟩
      refine Ev.step (fun k => power_empty.l0.eq_2 ..) ?_
      simp only [if_pos (show (i : Int) < L.length by omega), if_pos (show (0 : Int) ≤ i by omega), List.length_map, hr, pieceOf, q3, q4, Option.bind_some, if_pos c1, w64 (x := -p.2.2) (by omega) (by omega)]
      simp only [← q1, w64 (x := lvV r lv sn bs s l u p.1.toNat - fl) (by omega) (by omega)]
      rw [kit_Down_eq (by omega) (by omega)]
      simp only [Option.bind_some, w64 (x := p.1 + (lvV r lv sn bs s l u p.1.toNat - fl) / -p.2.2) (by omega) (by omega), w64 (x := p.1 + (lvV r lv sn bs s l u p.1.toNat - fl) / -p.2.2 + 1) (by omega) (by omega)]
      refine Ev.is ?_
      show p.1 + (lvV r lv sn bs s l u p.1.toNat - fl) / -p.2.2 + 1 = (((p.1 + (lvV r lv sn bs s l u p.1.toNat - fl) / -p.2.2 + 1).toNat : Nat) : Int)
      omega
    · rw [if_neg (show ¬ lev r (dV sn bs s l u) lv p.2.1.toNat < fl from c1)] at hst
      obtain ⟨o, hr', ho⟩ := empty_loop h hn hL d (i + 1) p.2.1 (by omega) (by omega) q5 hst
      refine ⟨o, ?_, ho⟩
      refine Ev.step (fun k => power_empty.l0.eq_2 ..) ?_
      simp only [if_pos (show (i : Int) < L.length by omega), if_pos (show (0 : Int) ≤ i by omega), List.length_map, hr, pieceOf, q3, q4, Option.bind_some, if_neg c1, w64 (x := (i : Int) + 1) (by omega) (by omega)]
      exact hr'
theorem power_empty_ev {r lv sn bs fl : Int} {s : List S72} {l : List S76} {u : List S47} (h : Good r lv sn bs fl s l u) {n : Int} (hn : 0 ≤ n ∧ n ≤ 1000000000000) : ∃ o, Ev (fun k => power_empty.f k r lv sn bs fl s l u n) (firstI o) ∧ IsFirst (lvV r lv sn bs s l u) n.toNat fl o := by
  simp only [power_empty.f]
  by_cases h1 : lv < fl
  · refine ⟨some 0, ?_, Nat.zero_le _, h1, fun j hj => by omega⟩
    simp only [if_pos h1]
    exact Ev.now _
  · have hs := (pieces_segs h hn.1).1
    have hsh := hs.short
    obtain ⟨o, hr, ho⟩ := empty_loop h hn.2 (L := piecesV sn bs s l u n) (by omega) (piecesV sn bs s l u n).length 0 0 (by omega) (Int.le_refl _) hs (fun j hj => by rw [show j = 0 by simpa using hj]; show fl ≤ lv; omega)
    refine ⟨o, ?_, ho⟩
    simp only [if_neg h1]
    refine Ev.bind (flow_ev h n) ?_
    rw [List.length_map]
    exact hr
theorem Good.level {r lv sn bs fl : Int} {s : List S72} {l : List S76} {u : List S47} (h : Good r lv sn bs fl s l u) {v : Int} (hv : 0 ≤ v ∧ v ≤ r) : Good r v sn bs fl s l u := ⟨⟨h.cell.1, hv, h.cell.2.2⟩, h.sun, h.uses⟩
end Go.Proofs.Ytplcdpiggpkppaa.Q
