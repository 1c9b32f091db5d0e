/- Plain laws of chapter 9: the reference's legs are the pieces between all moments, each with the level at its beginning and its end. -/
-- Made by wip/tools/claimp.py of this session's texts; Lean checks it.
import Derived.Test.YtplcdpiggpkppaaC13PowH
import Derived.Test.YtplcdpiggpkppaaC13Ge11
import Derived.Test.YtplcdpiggpkppaaC13Q0
import Derived.Test.YtplcdpiggpkppaaC13Ge13
import Derived.Test.YtplcdpiggpkppaaC13Ge8
import Derived.Test.YtplcdpiggpkppaaC13Ge9
set_option linter.unusedVariables false
set_option linter.unusedSimpArgs false
namespace Go.Proofs.Ytplcdpiggpkppaa.Q
open Go.RowKit Go.Proofs.YtplcdpiggpkppaaW.PrintWords Go.Proofs.YtplcdpiggpkppaaW.PrintLast Go.Proofs.YtplcdpiggpkppaaW.PrintMore Go.Proofs.Ytplcdpiggpkppaa.Base
/-- Pieces with their levels. -/
def attach (r : Int) : Int → List (Int × Int × Int) → List S96
  | _, [] => []
  | x, p :: L => (⟨p.1, p.2.1, x, p.2.2, overP r x p⟩ : S96) :: attach r (overP r x p) L
theorem legsV_ge {d : Int → Int} {n t : Int} {ts : List Int} (h : n ≤ t) : legsV d n (t :: ts) = [] := by
  cases ts <;> (unfold legsV; rw [if_pos h])
theorem legs_l2 {r lv sn bs fl : Int} {s : List S72} {l : List S76} {u : List S47} (h : Good r lv sn bs fl s l u) {n : Int} (hn : 0 ≤ n ∧ n ≤ 1000000000000) {ts : List Int} (hu : Up ts) (hts : ∀ t ∈ ts, 0 ≤ t ∧ t ≤ 1000000000000) (hl : ts.length ≤ 2000) :
    ∀ (d i : Nat) (x : Int) (out : List S96), i + d = ts.length → out.length ≤ i → (0 ≤ x ∧ x ≤ r) →
      Ev (fun k => perigeeref9_legs.l2 k s l u n ts out x ts (ts.length : Int) (i : Int) r lv sn bs fl) (out ++ attach r x (legsV (dV sn bs s l u) n (ts.drop i)))
  | 0, i, x, out, hi, ho, hx => by
    rw [List.drop_of_length_le (by omega)]
    refine Ev.step (fun k => perigeeref9_legs.l2.eq_2 ..) ?_
    simp only [if_neg (show ¬ (i : Int) < ts.length by omega)]
    exact Ev.is (by simp [legsV, attach])
  | d + 1, i, x, out, hi, ho, hx => by
    have hlt : i < ts.length := by omega
    have hdr := rd_drop hlt
    have hmem : rd ts (i : Int) ∈ ts := List.mem_of_mem_drop (hdr ▸ List.mem_cons_self)
    have ht := hts _ hmem
    have hud : Up (ts.drop i) := hu.sublist (List.drop_sublist _ _)
    have hc := h.cell
    refine Ev.step (fun k => perigeeref9_legs.l2.eq_2 ..) ?_
    simp only [if_pos (show (i : Int) < ts.length by omega), if_pos (show (0 : Int) ≤ i by omega), w64 (x := (i : Int) + 1) (by omega) (by omega)]
    rw [hdr] at hud ⊢
    refine Ev.ite (fun h1 => ?_) (fun h1 => ?_)
    · rw [legsV_ge h1]
      exact Ev.is (by simp [attach])
    · have hdb := d_bd h (rd ts (i : Int))
      refine Ev.ite (fun h2 => ?_) (fun h2 => ?_)
      · have hlt2 : i + 1 < ts.length := by omega
        have hdr2 := rd_drop hlt2
        rw [show (((i + 1 : Nat) : Int)) = (i : Int) + 1 by omega] at hdr2
        rw [hdr2] at hud ⊢
        have hmem2 : rd ts ((i : Int) + 1) ∈ ts := List.mem_of_mem_drop (hdr2 ▸ List.mem_cons_self)
        have ht2 := hts _ hmem2
        have hgt := (List.pairwise_cons.1 hud).1 _ List.mem_cons_self
        simp only [if_pos (show (0 : Int) ≤ (i : Int) + 1 by omega)]
        refine Ev.bind (ref_change_ev h _) ?_
        have hmn : mn n (rd ts ((i : Int) + 1)) = if n < rd ts ((i : Int) + 1) then n else rd ts ((i : Int) + 1) := by
          unfold mn
          repeat' split
          all_goals omega
        obtain ⟨tq, hto⟩ : ∃ tq, mn n (rd ts ((i : Int) + 1)) = tq := ⟨_, rfl⟩
        have htb : rd ts (i : Int) < tq ∧ tq ≤ 1000000000000 := by
          rw [← hto, hmn]
          split <;> omega
        rw [hto]
        refine Ev.bind (leg_level hc.1 hx hdb (by omega) tq 0 lv sn bs fl) ?_
        have hcl := clp_bd (room := r) (x := x + dV sn bs s l u (rd ts (i : Int)) * (tq - rd ts (i : Int))) (by omega)
        have ih := legs_l2 h hn hu hts hl d (i + 1) (clp r (x + dV sn bs s l u (rd ts (i : Int)) * (tq - rd ts (i : Int)))) (out ++ [(⟨rd ts (i : Int), tq, x, dV sn bs s l u (rd ts (i : Int)), clp r (x + dV sn bs s l u (rd ts (i : Int)) * (tq - rd ts (i : Int)))⟩ : S96)]) (by omega) (by rw [List.length_append]; simp only [List.length_cons, List.length_nil]; omega) hcl
        rw [show (((i + 1 : Nat) : Int)) = (i : Int) + 1 by omega, hdr2] at ih
        simp only [if_pos (show out.length < 3518437208883 by omega)]
        have e : legsV (dV sn bs s l u) n (rd ts (i : Int) :: rd ts ((i : Int) + 1) :: ts.drop (i + 1 + 1)) = (rd ts (i : Int), tq, dV sn bs s l u (rd ts (i : Int))) :: legsV (dV sn bs s l u) n (rd ts ((i : Int) + 1) :: ts.drop (i + 1 + 1)) := by
          conv => lhs; unfold legsV
          rw [if_neg (show ¬ n ≤ rd ts (i : Int) by omega), ← hmn, hto]
        rw [e]
        have e2 : out ++ attach r x ((rd ts (i : Int), tq, dV sn bs s l u (rd ts (i : Int))) :: legsV (dV sn bs s l u) n (rd ts ((i : Int) + 1) :: ts.drop (i + 1 + 1))) = out ++ [(⟨rd ts (i : Int), tq, x, dV sn bs s l u (rd ts (i : Int)), clp r (x + dV sn bs s l u (rd ts (i : Int)) * (tq - rd ts (i : Int)))⟩ : S96)] ++ attach r (clp r (x + dV sn bs s l u (rd ts (i : Int)) * (tq - rd ts (i : Int)))) (legsV (dV sn bs s l u) n (rd ts ((i : Int) + 1) :: ts.drop (i + 1 + 1))) := by
          rw [List.append_assoc]
          rfl
        rw [e2]
        exact ih
      · have hlen : ts.length = i + 1 := by omega
        rw [List.drop_of_length_le (show ts.length ≤ i + 1 by omega)]
        refine Ev.bind (ref_change_ev h _) ?_
        refine Ev.bind (leg_level hc.1 hx hdb (by omega) n 0 lv sn bs fl) ?_
        have hcl := clp_bd (room := r) (x := x + dV sn bs s l u (rd ts (i : Int)) * (n - rd ts (i : Int))) (by omega)
        have ih := legs_l2 h hn hu hts hl d (i + 1) (clp r (x + dV sn bs s l u (rd ts (i : Int)) * (n - rd ts (i : Int)))) (out ++ [(⟨rd ts (i : Int), n, x, dV sn bs s l u (rd ts (i : Int)), clp r (x + dV sn bs s l u (rd ts (i : Int)) * (n - rd ts (i : Int)))⟩ : S96)]) (by omega) (by rw [List.length_append]; simp only [List.length_cons, List.length_nil]; omega) hcl
        rw [List.drop_of_length_le (show ts.length ≤ i + 1 by omega), show (((i + 1 : Nat) : Int)) = (i : Int) + 1 by omega] at ih
        simp only [if_pos (show out.length < 3518437208883 by omega)]
        have e : legsV (dV sn bs s l u) n [rd ts (i : Int)] = [(rd ts (i : Int), n, dV sn bs s l u (rd ts (i : Int)))] := by
          unfold legsV
          rw [if_neg (show ¬ n ≤ rd ts (i : Int) by omega)]
        rw [e]
        have e2 : out ++ attach r x [(rd ts (i : Int), n, dV sn bs s l u (rd ts (i : Int)))] = out ++ [(⟨rd ts (i : Int), n, x, dV sn bs s l u (rd ts (i : Int)), clp r (x + dV sn bs s l u (rd ts (i : Int)) * (n - rd ts (i : Int)))⟩ : S96)] ++ attach r (clp r (x + dV sn bs s l u (rd ts (i : Int)) * (n - rd ts (i : Int)))) (legsV (dV sn bs s l u) n []) := by
          rw [List.append_assoc]
          rfl
        rw [e2]
        exact ih
/-- The legs. -/
noncomputable def legsOf (sn bs : Int) (s : List S72) (l : List S76) (u : List S47) (n : Int) : List (Int × Int × Int) := legsV (dV sn bs s l u) n (keysV (addsV bs (evV sn s l u)))
theorem legs_ev {r lv sn bs fl : Int} {s : List S72} {l : List S76} {u : List S47} (h : Good r lv sn bs fl s l u) {n : Int} (hn : 0 ≤ n ∧ n ≤ 1000000000000) : Ev (fun k => perigeeref9_legs.f k r lv sn bs fl s l u n) (attach r lv (legsOf sn bs s l u n)) := by
  have hs := (sunV_zero h.sun).1
  have hul := h.uses.few
  simp only [perigeeref9_legs.f]
  have hkeys : ∀ t ∈ keysV (addsV bs (evV sn s l u)), 0 ≤ t ∧ t ≤ 1000000000000 := fun t ht => by
    obtain ⟨e, he, rfl⟩ := (mem_keysV _ _).1 ht
    exact (adds_bd h e he).1
  have hsc : slices_Sort_int_int.f (accU s u u.length) = some ((accU s u u.length).mergeSort fun x y => decide (x ≤ y)) := by
    unfold slices_Sort_int_int.f
    rw [if_pos (by rw [accU_length]; omega)]
  have hco : slices_Compact_int_int.f ((accU s u u.length).mergeSort fun x y => decide (x ≤ y)) = some (keysV (addsV bs (evV sn s l u))) := by
    unfold slices_Compact_int_int.f
    rw [sortCompact (acc_keys sn bs s l u)]
  have hkl : (keysV (addsV bs (evV sn s l u))).length ≤ 2000 := by
    have e : (keysV (addsV bs (evV sn s l u))).length ≤ (accU s u u.length).length := by
      refine List.Nodup.length_le_of_subset ((keysV_up _).imp (fun {a b} (q : a < b) => by omega)) (fun x hx => ?_)
      exact (acc_keys sn bs s l u x).2 ((mem_keysV _ _).1 hx)
    rw [accU_length] at e
    omega
  refine Ev.loop (L := fun k i => perigeeref9_legs.l0 k s l u n (accS s i) s (s.length : Int) (i : Int) r lv sn bs fl) (v := fun _ => attach r lv (legsOf sn bs s l u n)) s.length ?_ ?_ s.length 0 (by omega)
  · refine Ev.step (fun k => perigeeref9_legs.l0.eq_2 ..) ?_
    simp only [if_neg (show ¬ (s.length : Int) < s.length by omega)]
    refine Ev.loop (L := fun k i => perigeeref9_legs.l1 k s l u n (accU s u i) u (u.length : Int) (i : Int) r lv sn bs fl) (v := fun _ => attach r lv (legsOf sn bs s l u n)) u.length ?_ ?_ u.length 0 (by omega)
    · refine Ev.step (fun k => perigeeref9_legs.l1.eq_2 ..) ?_
      simp only [if_neg (show ¬ (u.length : Int) < u.length by omega), hsc, hco, Option.bind_some]
      have := legs_l2 h hn (keysV_up (addsV bs (evV sn s l u))) hkeys hkl (keysV (addsV bs (evV sn s l u))).length 0 lv [] (by omega) (Nat.le_refl _) h.cell.2.1
      rw [List.drop_zero, List.nil_append] at this
      exact this
    · intro i hi ih
      refine Ev.step (fun k => perigeeref9_legs.l1.eq_2 ..) ?_
      simp only [if_pos (show (i : Int) < u.length by omega), if_pos (show (0 : Int) ≤ i by omega), Option.bind_some, if_pos (show (accU s u i).length + ([(rd_T47 u i).f1, (rd_T47 u i).f2] : List Int).length < 17592186044416 by rw [accU_length]; simp only [List.length_cons, List.length_nil]; omega), w64 (x := (i : Int) + 1) (by omega) (by omega)]
      exact ih
  · intro i hi ih
    refine Ev.step (fun k => perigeeref9_legs.l0.eq_2 ..) ?_
    simp only [if_pos (show (i : Int) < s.length by omega), if_pos (show (0 : Int) ≤ i by omega), Option.bind_some, if_pos (show (accS s i).length + ([(rd_T72 s i).f0, (rd_T72 s i).f1] : List Int).length < 17592186044416 by rw [accS_length]; simp only [List.length_cons, List.length_nil]; omega), w64 (x := (i : Int) + 1) (by omega) (by omega)]
    exact ih
theorem legs_segs {r lv sn bs fl : Int} {s : List S72} {l : List S76} {u : List S47} (h : Good r lv sn bs fl s l u) {n : Int} (hn : 0 ≤ n) : Segs (dV sn bs s l u) 0 n (legsOf sn bs s l u n) := by
  have hz : (0 : Int) ∈ keysV (addsV bs (evV sn s l u)) := (mem_keysV _ _).2 ⟨(0, -bs), List.mem_cons_self, rfl⟩
  have hu := keysV_up (addsV bs (evV sn s l u))
  have hk : ∀ t ∈ keysV (addsV bs (evV sn s l u)), 0 ≤ t := fun t ht => by
    obtain ⟨e, he, rfl⟩ := (mem_keysV _ _).1 ht
    exact (adds_bd h e he).1.1
  have hflat : Flat (dV sn bs s l u) (keysV (addsV bs (evV sn s l u))) := by
    intro a x ha hax hx
    have ha0 := hk a ha
    have hd : ∀ y, 0 ≤ y → dV sn bs s l u y = cum y (addsV bs (evV sn s l u)) := fun y hy => by
      unfold dV addsV
      simp only [cum]
      rw [cum_addsOf y _ (fun e he => by have := (ev_rise h e he).1; omega), if_pos hy]
      omega
    rw [hd x (by omega), hd a ha0]
    exact cum_same (a := a) (b := x) hax _ (fun e he => hx e.1 ((mem_keysV _ _).2 ⟨e, he, rfl⟩))
  unfold legsOf
  cases e : keysV (addsV bs (evV sn s l u)) with
  | nil => rw [e] at hz; cases hz
  | cons t ts =>
    rw [e] at hz hu hk hflat
    have ht : t = 0 := by
      rcases List.mem_cons.1 hz with q | q
      · exact q.symm
      · have := (List.pairwise_cons.1 hu).1 _ q
        have := hk t List.mem_cons_self
        omega
    subst ht
    exact legsV_segs hu hflat hn
end Go.Proofs.Ytplcdpiggpkppaa.Q
