/- From a moment to the next one the level changes by the sun, the base and the loads, within the battery; and Follow tells each level as LevelAt does: for all batteries, suns, loads, uses and moments. -/
import Derived.Test.YtplcdpiggpkppaaPowE
import Derived.Test.YtplcdpiggpkppaaStPowerMillisecondByMillisecond
-- LET P = perigee/api.Span
-- LET L = perigee/api.Load
-- LET U = perigee/api.Use
-- LET V = perigee/api.Level
set_option linter.unusedVariables false
set_option linter.unusedSimpArgs false
namespace Go.Proofs.Ytplcdpiggpkppaa.Q
open Go.RowKit Go.Proofs.YtplcdpiggpkppaaW.PrintWords Go.Proofs.YtplcdpiggpkppaaW.PrintLast Go.Proofs.YtplcdpiggpkppaaW.PrintMore Go.Proofs.Ytplcdpiggpkppaa.Base

theorem checkF_mono {r lv sn bs fl : Int} {s : List S72} {l : List S76} {u : List S47} {n m : Int} (h : checkF r lv sn bs fl s l u n = 0) (hm : 0 ≤ m ∧ m ≤ 1000000000000) : checkF r lv sn bs fl s l u m = 0 := checkF_zero.2 ⟨(checkF_zero.1 h).1, hm⟩
theorem follow_good {r lv sn bs fl : Int} {s : List S72} {l : List S76} {u : List S47} (h : Good r lv sn bs fl s l u) {n : Int} (hn : 0 ≤ n) : ∀ v ∈ (⟨0, lv⟩ : S42) :: followL r lv sn bs s l u (piecesV sn bs s l u n), (0 ≤ v.f0 ∧ v.f0 ≤ n) ∧ v.f1 = lvV r lv sn bs s l u v.f0.toNat := by
  intro v hv
  rcases List.mem_cons.1 hv with q | q
  · subst q
    exact ⟨⟨Int.le_refl _, hn⟩, rfl⟩
  · unfold followL at q
    obtain ⟨p, hp, rfl⟩ := List.mem_map.1 q
    obtain ⟨k1, k2, k3, _⟩ := (pieces_segs h hn).1.inside p hp
    exact ⟨⟨by show 0 ≤ p.2.1; omega, k3⟩, rfl⟩
theorem follow_end {r lv sn bs fl : Int} {s : List S72} {l : List S76} {u : List S47} (h : Good r lv sn bs fl s l u) {n : Int} (hn : 0 ≤ n) : ∃ m, (⟨0, lv⟩ : S42) :: followL r lv sn bs s l u (piecesV sn bs s l u n) = m ++ [(⟨n, lvV r lv sn bs s l u n.toNat⟩ : S42)] := by
  have hs := (pieces_segs h hn).1
  by_cases e : piecesV sn bs s l u n = []
  · rw [e] at hs ⊢
    have e0 : (0 : Int) = n := hs
    subst e0
    exact ⟨[], rfl⟩
  · obtain ⟨L0, p, hp, hb⟩ := hs.last e
    refine ⟨(⟨0, lv⟩ : S42) :: followL r lv sn bs s l u L0, ?_⟩
    rw [hp]
    unfold followL
    rw [List.map_append, List.map_cons, List.map_nil, hb]
    rfl
theorem PowerMillisecondByMillisecond_pure : perigeelaw9_PowerMillisecondByMillisecond.Pure := by
  intro c s l u n _ _ _ _ hn64
  obtain ⟨r, lv, sn, bs, fl⟩ := c
  refine Ev.rounds ?_
  simp only [perigeelaw9_PowerMillisecondByMillisecond.f]
  have aw : Ev (fun k => (perigeelaw9_awake.f k).bind fun t => some t) true := Ev.bind (f := fun _ t => some t) awake_ev (Ev.now true)
  refine Ev.ite (fun _ => aw) (fun hbig => ?_)
  refine Ev.bind (power_LevelAt_ev r lv sn bs fl s l u n) ?_
  unfold LevelV
  by_cases h0 : checkF r lv sn bs fl s l u n = 0
  · obtain ⟨h, hn⟩ := checkF_zero.1 h0
    have hw : wrap64 (n + 1) = n + 1 := w64 (by omega) (by omega)
    have h1 := checkF_mono h0 (show 0 ≤ n + 1 ∧ n + 1 ≤ 1000000000000 by omega)
    simp only [if_pos h0, if_true, hw]
    refine Ev.bind (power_LevelAt_ev r lv sn bs fl s l u (n + 1)) ?_
    refine Ev.bind (power_Sunny_ev s n (n + 1)) ?_
    refine Ev.bind (power_Draw_ev l u n) ?_
    have hsf : sunnyF s n (n + 1) = 0 := by
      unfold sunnyF
      rw [if_neg (fun q => q h.sun), if_neg (fun q => q ⟨hn, by unfold inM; omega⟩)]
    have huz : usesV l u = 0 := by
      have := h0
      unfold checkF at this
      simp only [firstV] at this
      split at this
      · split at this
        · split at this
          · assumption
          · rename_i q; exact absurd this q
        · rename_i q; exact absurd this q
      · rename_i q; exact absurd this q
    have hsun : sumTo (sunAt s n (n + 1)) s.length = sumTo (sunOn s n) s.length := sumTo_congr _ (fun i _ => sunOn_at s n i)
    unfold LevelV SunnyV DrawV
    simp only [if_pos h1, if_pos hsf, if_pos huz, if_pos (show inM n from hn), if_true, hsun]
    have hso := sunOn_bd h.sun n
    have hdr := draw_bd h.uses n
    have hc := h.cell
    have hlb := lev_bd (d := dV sn bs s l u) h.cell.2.1 n.toNat
    have hd := dV_eq sn bs s l u n
    have hstep : lvV r lv sn bs s l u (n + 1).toNat = clp r (lvV r lv sn bs s l u n.toNat + dV sn bs s l u n) := by
      rw [show (n + 1).toNat = n.toNat + 1 by omega]
      show clp r (lev r (dV sn bs s l u) lv n.toNat + dV sn bs s l u ((n.toNat : Nat) : Int)) = _
      rw [Int.toNat_of_nonneg hn.1]
      rfl
    have hmul : sumTo (sunOn s n) s.length * sn = sn * sumTo (sunOn s n) s.length := Int.mul_comm _ _
    have hmb : 0 ≤ sn * sumTo (sunOn s n) s.length ∧ sn * sumTo (sunOn s n) s.length ≤ 100000 := by
      rcases (show sumTo (sunOn s n) s.length = 0 ∨ sumTo (sunOn s n) s.length = 1 by omega) with q | q <;> rw [q] <;> omega
    have hy : lvV r lv sn bs s l u (n + 1).toNat = mx 0 (mn r (wrap64 ((wrap64 ((wrap64 (lvV r lv sn bs s l u n.toNat + (wrap64 (sumTo (sunOn s n) s.length * sn)))) - bs)) - drawV l u n))) := by
      have hlb' : 0 ≤ lvV r lv sn bs s l u n.toNat ∧ lvV r lv sn bs s l u n.toNat ≤ r := hlb
      rw [hstep, hmul, hd]
      generalize sn * sumTo (sunOn s n) s.length = q at *
      generalize lvV r lv sn bs s l u n.toNat = x at *
      rw [w64 (x := q) (by omega) (by omega), w64 (x := x + q) (by omega) (by omega), w64 (x := x + q - bs) (by omega) (by omega), w64 (x := x + q - bs - drawV l u n) (by omega) (by omega)]
      unfold clp mx mn
      repeat' split
      all_goals omega
    rw [← hy]
    refine Ev.step (fun k => perigeelaw9_PowerMillisecondByMillisecond.j0.eq_2 ..) ?_
    simp only [bne_self_eq_false, if_neg Bool.false_ne_true]
    refine Ev.bind (power_Follow_ev r lv sn bs fl s l u n) ?_
    unfold FollowV
    simp only [if_pos h0, if_true]
    obtain ⟨m, hm⟩ := follow_end h hn.1
    have hg := follow_good h hn.1
    rw [hm] at hg ⊢
    have hlen : (m ++ [(⟨n, lvV r lv sn bs s l u n.toNat⟩ : S42)]).length = m.length + 1 := by simp
    have hml : (m.length : Int) ≤ 1000000000001 := by
      have hsh := (pieces_segs h hn.1).1.short
      have e := congrArg List.length hm
      rw [hlen] at e
      simp only [List.length_cons, followL, List.length_map] at e
      omega
    have hw1 : wrap64 (((m.length + 1 : Nat) : Int) - 1) = (m.length : Int) := by rw [w64 (by omega) (by omega)]; omega
    simp only [hlen, if_neg (show ¬ ((m.length + 1 : Nat) : Int) = 0 by omega), hw1, if_pos (show (0 : Int) ≤ (m.length : Int) by omega), if_pos (show (m.length : Int) < ((m.length + 1 : Nat) : Int) by omega), rd_last, beq_self_eq_true, Bool.not_true, Bool.or_false]
    refine Ev.step (fun k => perigeelaw9_PowerMillisecondByMillisecond.j1.eq_2 ..) ?_
    simp only [if_neg Bool.false_ne_true]
    generalize m ++ [(⟨n, lvV r lv sn bs s l u n.toNat⟩ : S42)] = M at *
    refine Ev.loop (L := fun k i => perigeelaw9_PowerMillisecondByMillisecond.l0 k s l u M (M.length : Int) (i : Int) r lv sn bs fl) (v := fun _ => true) M.length ?_ ?_ M.length 0 (by omega)
    · refine Ev.step (fun k => perigeelaw9_PowerMillisecondByMillisecond.l0.eq_2 ..) ?_
      simp only [if_neg (show ¬ (M.length : Int) < M.length by omega)]
      exact aw
    · intro i hi ih
      have hmem : rd_T42 M (i : Int) ∈ M := by
        unfold rd_T42
        rw [List.getD_eq_getElem?_getD, Int.toNat_natCast, List.getElem?_eq_getElem hi]
        exact List.getElem_mem hi
      obtain ⟨g1, g2⟩ := hg _ hmem
      refine Ev.step (fun k => perigeelaw9_PowerMillisecondByMillisecond.l0.eq_2 ..) ?_
      simp only [if_pos (show (i : Int) < M.length by omega), if_pos (show (0 : Int) ≤ i by omega), w64 (x := (i : Int) + 1) (by omega) (by omega)]
      refine Ev.bind (power_LevelAt_ev r lv sn bs fl s l u (rd_T42 M (i : Int)).f0) ?_
      unfold LevelV
      simp only [if_pos (checkF_mono h0 (show 0 ≤ (rd_T42 M (i : Int)).f0 ∧ (rd_T42 M (i : Int)).f0 ≤ 1000000000000 by omega)), if_true, ← g2]
      exact ih
  · simp only [if_neg h0, if_true]
    exact aw
end Go.Proofs.Ytplcdpiggpkppaa.Q
namespace Go.Proofs.Ytplcdpiggpkppaa.Pure
theorem PowerMillisecondByMillisecond : Q.perigeelaw9_PowerMillisecondByMillisecond.Pure := Q.PowerMillisecondByMillisecond_pure
end Go.Proofs.Ytplcdpiggpkppaa.Pure
