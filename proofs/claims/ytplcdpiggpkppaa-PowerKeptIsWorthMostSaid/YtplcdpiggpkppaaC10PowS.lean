/- Plain laws of chapter 9: which uses are kept at best, as the program and the reference tell. -/
-- Made by wip/tools/claimp.py of this session's texts; Lean checks it.
import Derived.Test.YtplcdpiggpkppaaC10PowG
import Derived.Test.YtplcdpiggpkppaaC10PowR
import Derived.Test.YtplcdpiggpkppaaC10Ge11
import Derived.Test.YtplcdpiggpkppaaC10Q0
import Derived.Test.YtplcdpiggpkppaaC10Ge13
import Derived.Test.YtplcdpiggpkppaaC10Ge8
import Derived.Test.YtplcdpiggpkppaaC10Ge9
import Derived.Test.YtplcdpiggpkppaaC10Ge15
import Derived.Test.YtplcdpiggpkppaaC10Ge18
import Derived.Test.YtplcdpiggpkppaaC10Ge16
set_option linter.unusedVariables false
set_option linter.unusedSimpArgs false
namespace Go.Proofs.Ytplcdpiggpkppaa.Q
open Go.RowKit Go.Proofs.YtplcdpiggpkppaaW.PrintWords Go.Proofs.YtplcdpiggpkppaaW.PrintLast Go.Proofs.YtplcdpiggpkppaaW.PrintMore Go.Proofs.Ytplcdpiggpkppaa.Base
theorem Good.sub {r lv sn bs fl : Int} {s : List S72} {l : List S76} {u v : List S47} (h : Good r lv sn bs fl s l u) (hs : v.Sublist u) : Good r lv sn bs fl s l v := ⟨h.cell, h.sun, h.uses.sub hs⟩
/-- With so many uses the level is never below the floor. -/
def Fits (r lv sn bs fl : Int) (s : List S72) (l : List S76) (u : List S47) (n : Int) : Prop := ∀ j : Nat, j ≤ n.toNat → fl ≤ lvV r lv sn bs s l u j
theorem first_fits {r lv sn bs fl : Int} {s : List S72} {l : List S76} {u : List S47} {n : Int} {o : Option Nat} (h : IsFirst (lvV r lv sn bs s l u) n.toNat fl o) : o = none ↔ Fits r lv sn bs fl s l u n := by
  cases o with
  | none => exact ⟨fun _ => h, fun _ => rfl⟩
  | some k => exact ⟨fun e => (by cases e), fun q => by have := q k h.1; have := h.2.1; omega⟩
theorem draw_none (l : List S76) (t : Int) : drawV l [] t = 0 := rfl
/-- No uses at all leave most. -/
theorem fits_none {r lv sn bs fl : Int} {s : List S72} {l : List S76} {u : List S47} {n : Int} (h : Good r lv sn bs fl s l u) (hf : Fits r lv sn bs fl s l u n) : Fits r lv sn bs fl s l [] n := by
  intro j hj
  have h1 := hf j hj
  have h2 := lev_mono (room := r) (d := dV sn bs s l u) (e := dV sn bs s l []) (l0 := lv) (m0 := lv) (by have := h.cell.1; omega) (Int.le_refl _) (fun t => by
    rw [dV_eq, dV_eq, draw_none]
    have := (draw_bd h.uses t).1
    omega) j
  have h1' : fl ≤ lev r (dV sn bs s l u) lv j := h1
  show fl ≤ lev r (dV sn bs s l []) lv j
  omega
def cmpL : List Int → List Int → Int
  | [], [] => 0
  | [], _ :: _ => -1
  | _ :: _, [] => 1
  | a :: x, b :: y => if a = b then cmpL x y else if a < b then -1 else 1
theorem cmp_ev (a b : List Int) (ha : a.length ≤ 1000000) : Ev (fun k => slices_Compare_int_int.f k a b) (cmpL a b) := by
  simp only [slices_Compare_int_int.f]
  refine Ev.loopP (L := fun k i => slices_Compare_int_int.l0 k a b a (a.length : Int) (i : Int)) (v := fun i => cmpL (a.drop i) (b.drop i)) (P := fun i => i ≤ b.length) a.length ?_ ?_ a.length 0 (by omega) (Nat.zero_le _)
  · intro hb
    refine Ev.step (fun k => slices_Compare_int_int.l0.eq_2 ..) ?_
    simp only [if_neg (show ¬ (a.length : Int) < a.length by omega), List.drop_of_length_le (Nat.le_refl _)]
    refine Ev.ite (fun h => ?_) (fun h => ?_)
    · rw [rd_drop (l := b) (i := a.length) (by omega)]
      exact Ev.now _
    · rw [List.drop_of_length_le (by omega)]
      exact Ev.now _
  · intro i hi hb ih
    refine Ev.step (fun k => slices_Compare_int_int.l0.eq_2 ..) ?_
    simp only [if_pos (show (i : Int) < a.length by omega), if_pos (show (0 : Int) ≤ i by omega), w64 (x := (i : Int) + 1) (by omega) (by omega)]
    rw [rd_drop hi]
    refine Ev.ite (fun h => ?_) (fun h => ?_)
    · rw [List.drop_of_length_le (show b.length ≤ i by omega)]
      exact Ev.now _
    · rw [rd_drop (l := b) (i := i) (by omega)]
      simp only [if_pos (show (i : Int) < b.length by omega), cmp_Compare_int.f, cmp_isNaN_int.f, bne_self_eq_false, Option.bind_some, if_neg Bool.false_ne_true]
      unfold cmpL
      by_cases h1 : rd a (i : Int) < rd b (i : Int)
      · simp only [if_pos h1, if_neg (show ¬ rd a (i : Int) = rd b (i : Int) by omega), Option.bind_some, if_neg (show ¬ (-1 : Int) = 0 by omega)]
        exact Ev.now _
      · by_cases h2 : rd a (i : Int) > rd b (i : Int)
        · simp only [if_neg h1, if_pos h2, if_neg (show ¬ rd a (i : Int) = rd b (i : Int) by omega), Option.bind_some, if_neg (show ¬ (1 : Int) = 0 by omega)]
          exact Ev.now _
        · simp only [if_neg h1, if_neg h2, if_pos (show rd a (i : Int) = rd b (i : Int) by omega), Option.bind_some, if_true]
          exact ih (by omega)
/-- A set has the use of a number. -/
def bitOn (m : Int) (i : Nat) : Prop := (Go.bits .and .i64 (shr .i64 m (i : Int)) 1) = 1
instance (m : Int) (i : Nat) : Decidable (bitOn m i) := by unfold bitOn; exact inferInstance
def pickU (u : List S47) (m : Int) : Nat → List S47
  | 0 => []
  | i + 1 => if bitOn m i then pickU u m i ++ [rd_T47 u (i : Int)] else pickU u m i
def pickI (m : Int) : Nat → List Int
  | 0 => []
  | i + 1 => if bitOn m i then pickI m i ++ [(i : Int)] else pickI m i
noncomputable def pickW (l : List S76) (u : List S47) (m : Int) : Nat → Int
  | 0 => 0
  | i + 1 => if bitOn m i then pickW l u m i + (loadV l (rd_T47 u (i : Int)).f0).2.2.1 else pickW l u m i
theorem pickU_len (u : List S47) (m : Int) : ∀ i, (pickU u m i).length ≤ i
  | 0 => Nat.le_refl _
  | i + 1 => by
    have := pickU_len u m i
    unfold pickU
    split
    · rw [List.length_append]; simp only [List.length_cons, List.length_nil]; omega
    · omega
theorem pickI_len (m : Int) : ∀ i, (pickI m i).length ≤ i
  | 0 => Nat.le_refl _
  | i + 1 => by
    have := pickI_len m i
    unfold pickI
    split
    · rw [List.length_append]; simp only [List.length_cons, List.length_nil]; omega
    · omega
theorem pickW_bd {l : List S76} (hl : GoodLoads l) (u : List S47) (m : Int) : ∀ i : Nat, 0 ≤ pickW l u m i ∧ pickW l u m i ≤ 1000 * i
  | 0 => ⟨Int.le_refl _, by show (0 : Int) ≤ _; omega⟩
  | i + 1 => by
    have := pickW_bd hl u m i
    have := (loadV_bd hl (rd_T47 u (i : Int)).f0).2
    unfold pickW
    split <;> omega
theorem pickU_sub (u : List S47) (m : Int) : ∀ i : Nat, i ≤ u.length → (pickU u m i).Sublist (u.take i)
  | 0, _ => List.nil_sublist _
  | i + 1, h => by
    have ih := pickU_sub u m i (by omega)
    have e : u.take (i + 1) = u.take i ++ [rd_T47 u (i : Int)] := by
      rw [rdU_get (show i < u.length by omega), List.take_add_one, List.getElem?_eq_getElem (show i < u.length by omega)]
      rfl
    unfold pickU
    rw [e]
    split
    · exact List.Sublist.append ih (List.Sublist.refl _)
    · exact ih.trans (List.sublist_append_left _ _)
theorem pickU_all (u : List S47) (m : Int) : (pickU u m u.length).Sublist u := by
  have := pickU_sub u m u.length (Nat.le_refl _)
  rwa [List.take_of_length_le (Nat.le_refl _)] at this
/-- A set is worse than the best so far. -/
def worse (best : List Int) (most : Int) (I : List Int) (W : Int) : Prop := W < most ∨ W = most ∧ (I.length > best.length ∨ I.length = best.length ∧ cmpL I best ≥ 0)
open Classical in
/-- The best behind a set. -/
noncomputable def stepK (r lv sn bs fl : Int) (s : List S72) (l : List S76) (u : List S47) (n : Int) (st : List Int × Int) (m : Int) : List Int × Int :=
  if worse st.1 st.2 (pickI m u.length) (pickW l u m u.length) then st else if Fits r lv sn bs fl s l (pickU u m u.length) n then (pickI m u.length, pickW l u m u.length) else st
noncomputable def runK (r lv sn bs fl : Int) (s : List S72) (l : List S76) (u : List S47) (n : Int) : Nat → Int → List Int × Int → List Int × Int
  | 0, _, st => st
  | d + 1, m, st => runK r lv sn bs fl s l u n d (m + 1) (stepK r lv sn bs fl s l u n st m)
open Classical in
theorem power_Kept_l0 {r lv sn bs fl : Int} {s : List S72} {l : List S76} {u : List S47} (h : Good r lv sn bs fl s l u) {n : Int} (hn : 0 ≤ n ∧ n ≤ 1000000000000) (hu : u.length ≤ 12) {N : Int} (hN : N ≤ 1000000) :
    ∀ (d : Nat) (m : Int) (st : List Int × Int), m + d = N → 0 ≤ m → Ev (fun k => power_Kept.l0 k s l u n st.1 st.2 N m r lv sn bs fl) ((runK r lv sn bs fl s l u n d m st).1, mx (runK r lv sn bs fl s l u n d m st).2 0, 0)
  | 0, m, st, hm, h0 => by
    refine Ev.step (fun k => power_Kept.l0.eq_2 ..) ?_
    simp only [if_neg (show ¬ m < N by omega)]
    exact Ev.now _
  | d + 1, m, st, hm, h0 => by
    have ih := power_Kept_l0 h hn hu hN d (m + 1) (stepK r lv sn bs fl s l u n st m) (by omega) (by omega)
    show Ev _ ((runK r lv sn bs fl s l u n d (m + 1) (stepK r lv sn bs fl s l u n st m)).1, mx (runK r lv sn bs fl s l u n d (m + 1) (stepK r lv sn bs fl s l u n st m)).2 0, 0)
    generalize ((runK r lv sn bs fl s l u n d (m + 1) (stepK r lv sn bs fl s l u n st m)).1, mx (runK r lv sn bs fl s l u n d (m + 1) (stepK r lv sn bs fl s l u n st m)).2 0, (0 : Int)) = V at ih ⊢
    obtain ⟨best, most⟩ := st
    refine Ev.step (fun k => power_Kept.l0.eq_2 ..) ?_
    simp only [if_pos (show m < N by omega)]
    -- what follows a set that is picked
    have j2 : ∀ b : Bool, (b = true ↔ worse best most (pickI m u.length) (pickW l u m u.length)) → Ev (fun k => power_Kept.j2 k s l u n best most (pickU u m u.length) (pickI m u.length) (pickW l u m u.length) N m b r lv sn bs fl) V := by
      intro b hb
      refine Ev.step (fun k => power_Kept.j2.eq_2 ..) ?_
      simp only [w64 (x := m + 1) (by omega) (by omega)]
      refine Ev.ite (fun h1 => ?_) (fun h1 => ?_)
      · rw [show stepK r lv sn bs fl s l u n (best, most) m = (best, most) from if_pos (hb.1 h1)] at ih
        exact ih
      · obtain ⟨o, ho, hf⟩ := power_empty_ev (h.sub (pickU_all u m)) hn
        refine Ev.bind ho ?_
        have e : stepK r lv sn bs fl s l u n (best, most) m = if Fits r lv sn bs fl s l (pickU u m u.length) n then (pickI m u.length, pickW l u m u.length) else (best, most) := if_neg (fun q => h1 (hb.2 q))
        rw [e] at ih
        refine Ev.ite (fun h2 => ?_) (fun h2 => ?_)
        · rw [if_pos ((first_fits hf).1 (firstI_neg.1 h2))] at ih
          exact ih
        · rw [if_neg (fun q => h2 (firstI_neg.2 ((first_fits hf).2 q)))] at ih
          exact ih
    refine Ev.loop (L := fun k i => power_Kept.l1 k s l u n best most m (pickU u m i) (pickI m i) (pickW l u m i) N m u (u.length : Int) (i : Int) r lv sn bs fl) (v := fun _ => V) u.length ?_ ?_ u.length 0 (by omega)
    · refine Ev.step (fun k => power_Kept.l1.eq_2 ..) ?_
      simp only [if_neg (show ¬ (u.length : Int) < u.length by omega)]
      unfold worse at j2
      refine Ev.ite (fun h1 => j2 true (by simp [h1])) (fun h1 => ?_)
      refine Ev.ite (fun h2 => ?_) (fun h2 => j2 false (by simp [h1, h2]))
      refine Ev.ite (fun h3 => j2 true (by simp [h2]; omega)) (fun h3 => ?_)
      refine Ev.ite (fun h4 => ?_) (fun h4 => j2 false (by simp [h2]; omega))
      refine Ev.bind (cmp_ev _ _ (by have := pickI_len m u.length; omega)) ?_
      refine j2 _ ?_
      simp only [decide_eq_true_eq, h2, Int.lt_irrefl, true_and, false_or]
      omega
    · intro i hi ih2
      have b1 := pickU_len u m i
      have b2 := pickI_len m i
      have b3 := pickW_bd h.uses.loads u m i
      have b4 := (loadV_bd h.uses.loads (rd_T47 u (i : Int)).f0).2
      refine Ev.step (fun k => power_Kept.l1.eq_2 ..) ?_
      simp only [if_pos (show (i : Int) < u.length by omega), if_pos (show (0 : Int) ≤ i by omega), w64 (x := (i : Int) + 1) (by omega) (by omega), Option.bind_some]
      refine Ev.ite (fun h1 => ?_) (fun h1 => ?_)
      · refine Ev.bind (power_load_is h.uses.loads _) ?_
        have e1 : pickU u m (i + 1) = pickU u m i ++ [rd_T47 u (i : Int)] := if_pos h1
        have e2 : pickI m (i + 1) = pickI m i ++ [(i : Int)] := if_pos h1
        have e3 : pickW l u m (i + 1) = pickW l u m i + (loadV l (rd_T47 u (i : Int)).f0).2.2.1 := if_pos h1
        rw [e1, e2, e3] at ih2
        simp only [if_pos (show (pickU u m i).length + ([(⟨(rd_T47 u (i : Int)).f0, (rd_T47 u (i : Int)).f1, (rd_T47 u (i : Int)).f2⟩ : S47)] : List S47).length < 4398046511104 by simp only [List.length_cons, List.length_nil]; omega), if_pos (show (pickI m i).length + ([(i : Int)] : List Int).length < 17592186044416 by simp only [List.length_cons, List.length_nil]; omega), w64 (x := pickW l u m i + (loadV l (rd_T47 u (i : Int)).f0).2.2.1) (by omega) (by omega)]
        exact ih2
      · have e1 : pickU u m (i + 1) = pickU u m i := if_neg h1
        have e2 : pickI m (i + 1) = pickI m i := if_neg h1
        have e3 : pickW l u m (i + 1) = pickW l u m i := if_neg h1
        rw [e1, e2, e3] at ih2
        exact ih2
theorem bit_none : ∀ i : Nat, i < 12 → ¬ bitOn 0 i := by decide
theorem shl_one : ∀ i : Nat, i ≤ 12 → 1 ≤ shl .i64 1 (i : Int) ∧ shl .i64 1 (i : Int) ≤ 4096 := by decide
theorem pick_none (u : List S47) (l : List S76) : ∀ i : Nat, i ≤ 12 → pickU u 0 i = [] ∧ pickI 0 i = [] ∧ pickW l u 0 i = 0
  | 0, _ => ⟨rfl, rfl, rfl⟩
  | i + 1, h => by
    obtain ⟨e1, e2, e3⟩ := pick_none u l i (by omega)
    have hb := bit_none i (by omega)
    exact ⟨(if_neg hb).trans e1, (if_neg hb).trans e2, (if_neg hb).trans e3⟩
theorem runK_stays {r lv sn bs fl : Int} {s : List S72} {l : List S76} {u : List S47} (h : Good r lv sn bs fl s l u) {n : Int} (hf : ¬ Fits r lv sn bs fl s l [] n) : ∀ (d : Nat) (m : Int) (st : List Int × Int), runK r lv sn bs fl s l u n d m st = st
  | 0, _, _ => rfl
  | d + 1, m, st => by
    have e : stepK r lv sn bs fl s l u n st m = st := by
      unfold stepK
      split
      · rfl
      · rw [if_neg (fun q => hf (fits_none (h.sub (pickU_all u m)) q))]
    show runK r lv sn bs fl s l u n d (m + 1) (stepK r lv sn bs fl s l u n st m) = st
    rw [e]
    exact runK_stays h hf d (m + 1) st
theorem runK_pos {r lv sn bs fl : Int} {s : List S72} {l : List S76} {u : List S47} (hl : GoodLoads l) {n : Int} : ∀ (d : Nat) (m : Int) (st : List Int × Int), 0 ≤ st.2 → 0 ≤ (runK r lv sn bs fl s l u n d m st).2
  | 0, _, _, h => h
  | d + 1, m, st, h => by
    refine runK_pos hl d (m + 1) _ ?_
    unfold stepK
    split
    · exact h
    · split
      · exact (pickW_bd hl u m u.length).1
      · exact h
/-- What both tell. -/
theorem runs_same {r lv sn bs fl : Int} {s : List S72} {l : List S76} {u : List S47} (h : Good r lv sn bs fl s l u) {n : Int} (hu : u.length ≤ 12) (d : Nat) :
    ((runK r lv sn bs fl s l u n (d + 1) 0 ([], -1)).1, mx (runK r lv sn bs fl s l u n (d + 1) 0 ([], -1)).2 0) = runK r lv sn bs fl s l u n (d + 1) 0 ([], 0) := by
  by_cases hf : Fits r lv sn bs fl s l [] n
  · obtain ⟨e1, e2, e3⟩ := pick_none u l u.length hu
    have a1 : stepK r lv sn bs fl s l u n ([], -1) 0 = ([], 0) := by
      unfold stepK
      rw [e1, e2, e3, if_neg (by unfold worse; simp), if_pos hf]
    have a2 : stepK r lv sn bs fl s l u n ([], 0) 0 = ([], 0) := by
      unfold stepK
      rw [e1, e2, e3, if_pos (by unfold worse; right; exact ⟨rfl, .inr ⟨rfl, by decide⟩⟩)]
    show ((runK r lv sn bs fl s l u n d (0 + 1) (stepK r lv sn bs fl s l u n ([], -1) 0)).1, mx (runK r lv sn bs fl s l u n d (0 + 1) (stepK r lv sn bs fl s l u n ([], -1) 0)).2 0) = runK r lv sn bs fl s l u n d (0 + 1) (stepK r lv sn bs fl s l u n ([], 0) 0)
    rw [a1, a2]
    have hp := runK_pos (r := r) (lv := lv) (sn := sn) (bs := bs) (fl := fl) (s := s) (u := u) (n := n) h.uses.loads d (0 + 1) ([], 0) (Int.le_refl _)
    rw [show mx (runK r lv sn bs fl s l u n d (0 + 1) ([], 0)).2 0 = (runK r lv sn bs fl s l u n d (0 + 1) ([], 0)).2 from by unfold mx; split <;> omega]
  · rw [runK_stays h hf, runK_stays h hf]
    rfl
noncomputable def KeptV (r lv sn bs fl : Int) (s : List S72) (l : List S76) (u : List S47) (n : Int) : List Int × Int × Int :=
  if checkF r lv sn bs fl s l u n = 0 then (if (u.length : Int) > 12 then ([], 0, 2) else ((runK r lv sn bs fl s l u n (shl .i64 1 (u.length : Int)).toNat 0 ([], 0)).1, (runK r lv sn bs fl s l u n (shl .i64 1 (u.length : Int)).toNat 0 ([], 0)).2, 0)) else ([], 0, checkF r lv sn bs fl s l u n)
theorem power_Kept_ev (r lv sn bs fl : Int) (s : List S72) (l : List S76) (u : List S47) (n : Int) : Ev (fun k => power_Kept.f k r lv sn bs fl s l u n) (KeptV r lv sn bs fl s l u n) := by
  simp only [power_Kept.f]
  refine Ev.bind (power_check_ev r lv sn bs fl s l u n) ?_
  unfold KeptV
  refine Ev.ite (fun h0 => ?_) (fun h0 => Ev.is (if_neg h0).symm)
  rw [if_pos h0]
  refine Ev.ite (fun h1 => Ev.is (if_pos h1).symm) (fun h1 => ?_)
  rw [if_neg h1]
  obtain ⟨h, hn⟩ := checkF_good h0
  have hb := shl_one u.length (by omega)
  have k := power_Kept_l0 h hn (by omega) (N := shl .i64 1 (u.length : Int)) (by omega) (shl .i64 1 (u.length : Int)).toNat 0 ([], -1) (by omega) (Int.le_refl _)
  obtain ⟨d, hd⟩ : ∃ d, (shl .i64 1 (u.length : Int)).toNat = d + 1 := ⟨(shl .i64 1 (u.length : Int)).toNat - 1, by omega⟩
  have e := runs_same h (n := n) (show u.length ≤ 12 by omega) d
  rw [hd] at k ⊢
  rw [← e]
  exact k
end Go.Proofs.Ytplcdpiggpkppaa.Q
