/- Plain laws of chapter 9: what changes the level, the pieces that flow tells, and the level at a moment. -/
-- Made by wip/tools/claimp.py of this session's texts; Lean checks it.
import Derived.Test.YtplcdpiggpkppaaC13PowC
import Derived.Test.YtplcdpiggpkppaaC13Sem2
import Derived.Test.YtplcdpiggpkppaaC13Ge13
import Derived.Test.YtplcdpiggpkppaaC13Ge8
set_option linter.unusedVariables false
set_option linter.unusedSimpArgs false
namespace Go.Proofs.Ytplcdpiggpkppaa.Q
open Go.RowKit Go.Proofs.YtplcdpiggpkppaaW.PrintWords Go.Proofs.YtplcdpiggpkppaaW.PrintLast Go.Proofs.YtplcdpiggpkppaaW.PrintMore Go.Proofs.Ytplcdpiggpkppaa.Base
theorem sumTo_neg (f : Nat → Int) : ∀ n : Nat, sumTo (fun i => -f i) n = -sumTo f n
  | 0 => rfl
  | n + 1 => by unfold sumTo; rw [sumTo_neg f n]; omega
theorem sumTo_zero {f : Nat → Int} : ∀ n : Nat, (∀ i, i < n → f i = 0) → sumTo f n = 0
  | 0, _ => rfl
  | n + 1, h => by unfold sumTo; rw [sumTo_zero n (fun i hi => h i (by omega)), h n (by omega)]; rfl
/-- At most one of them is not nought. -/
theorem sumTo_one {f : Nat → Int} {b : Int} (hb : 0 ≤ b) : ∀ n : Nat, (∀ i, i < n → f i = 0 ∨ f i = b) → (∀ i j, i < j → j < n → f i = 0 ∨ f j = 0) → 0 ≤ sumTo f n ∧ sumTo f n ≤ b
  | 0, _, _ => ⟨Int.le_refl _, hb⟩
  | n + 1, h, h2 => by
    have ih := sumTo_one hb n (fun i hi => h i (by omega)) (fun i j hij hj => h2 i j hij (by omega))
    unfold sumTo
    rcases h n (by omega) with e | e
    · omega
    · by_cases hz : b = 0
      · omega
      · have : sumTo f n = 0 := sumTo_zero n (fun i hi => (h2 i n hi (by omega)).resolve_right (by omega))
        omega
theorem chg_sumTo {E : List (Int × Int × Int)} {t : Int} {g : Nat → Int} : ∀ n : Nat, (∀ i, i < n → ∃ e, E[i]? = some e ∧ g i = (if e.1 ≤ t ∧ t < e.2.1 then e.2.2 else 0)) → chg t (E.take n) = sumTo g n
  | 0, _ => by rw [List.take_zero]; rfl
  | n + 1, h => by
    obtain ⟨e, he, hg⟩ := h n (by omega)
    rw [List.take_add_one, he, chg_append, chg_sumTo n (fun i hi => h i (by omega))]
    show sumTo g n + (_ + 0) = sumTo g n + g n
    rw [hg]
    omega
/-- What the uses add. -/
noncomputable def useEvsV (l : List S76) (u : List S47) : List (Int × Int × Int) := u.map fun x => (x.f1, x.f2, -(loadV l x.f0).2.1)
theorem useEvs_ev {l : List S76} (hl : GoodLoads l) : ∀ u : List S47, Ev (fun k => useEvs k l u) (useEvsV l u)
  | [] => Ev.now _
  | x :: u => by
    unfold useEvs
    refine Ev.bind (power_load_is hl x.f0) ?_
    refine Ev.bind (useEvs_ev hl u) ?_
    exact Ev.now _
theorem useEvsV_at {l : List S76} {u : List S47} {i : Nat} (hi : i < u.length) : (useEvsV l u)[i]? = some ((rd_T47 u i).f1, (rd_T47 u i).f2, -(loadV l (rd_T47 u i).f0).2.1) := by
  unfold useEvsV rd_T47
  rw [List.getElem?_map, List.getD_eq_getElem?_getD, Int.toNat_natCast, List.getElem?_eq_getElem hi]
  rfl
/-- A battery that is right, its sun, its loads, its uses. -/
structure Good (r lv sn bs fl : Int) (s : List S72) (l : List S76) (u : List S47) : Prop where
  cell : (1 ≤ r ∧ r ≤ 1000000000000) ∧ (0 ≤ lv ∧ lv ≤ r) ∧ (0 ≤ sn ∧ sn ≤ 100000) ∧ (0 ≤ bs ∧ bs ≤ 100000) ∧ (0 ≤ fl ∧ fl ≤ r)
  sun : sunV s = 0
  uses : GoodUses l u
/-- All that is added to the level by the millisecond. -/
noncomputable def evV (sn : Int) (s : List S72) (l : List S76) (u : List S47) : List (Int × Int × Int) := sunEvs sn s ++ useEvsV l u
noncomputable def dV (sn bs : Int) (s : List S72) (l : List S76) (u : List S47) (t : Int) : Int := chg t (evV sn s l u) - bs
def sunOn (s : List S72) (t : Int) (i : Nat) : Int := if (rd_T72 s i).f0 ≤ t ∧ t < (rd_T72 s i).f1 then 1 else 0
theorem sun_rise {s : List S72} (h : sunV s = 0) : ∀ d i : Nat, i + d + 1 < s.length → (rd_T72 s i).f1 < (rd_T72 s ((i + d + 1 : Nat) : Int)).f0
  | 0, i, hi => (sunV_zero h).2.2 i hi
  | d + 1, i, hi => by
    have a := sun_rise h d i (by omega)
    have b := (sunV_zero h).2.2 (i + d + 1) hi
    have c := ((sunV_zero h).2.1 (i + d + 1) (by omega)).2.2
    have e : ((i + (d + 1) + 1 : Nat) : Int) = ((i + d + 1 + 1 : Nat) : Int) := by omega
    rw [e]
    omega
theorem sunOn_bd {s : List S72} (h : sunV s = 0) (t : Int) : 0 ≤ sumTo (sunOn s t) s.length ∧ sumTo (sunOn s t) s.length ≤ 1 := by
  refine sumTo_one (by omega) _ (fun i hi => ?_) (fun i j hij hj => ?_)
  · unfold sunOn; split <;> simp
  · have a := sun_rise h (j - i - 1) i (by omega)
    rw [show ((i + (j - i - 1) + 1 : Nat) : Int) = (j : Int) by omega] at a
    unfold sunOn
    by_cases q : (rd_T72 s i).f0 ≤ t ∧ t < (rd_T72 s i).f1
    · right; rw [if_neg (by omega)]
    · left; rw [if_neg q]
theorem chg_sun (sn : Int) (s : List S72) (t : Int) : chg t (sunEvs sn s) = sn * sumTo (sunOn s t) s.length := by
  have hl : (sunEvs sn s).length = s.length := by simp [sunEvs]
  have h := chg_sumTo (E := sunEvs sn s) (t := t) (g := fun i => sn * sunOn s t i) s.length (fun i hi => ⟨_, sunEvs_at hi, by
    unfold sunOn
    simp only
    split <;> simp⟩)
  rw [List.take_of_length_le (by omega)] at h
  rw [h]
  have : ∀ n : Nat, sumTo (fun i => sn * sunOn s t i) n = sn * sumTo (sunOn s t) n := by
    intro n
    induction n with
    | zero => simp [sumTo]
    | succ n ih => unfold sumTo; rw [ih, Int.mul_add]
  exact this _
theorem chg_use (l : List S76) (u : List S47) (t : Int) : chg t (useEvsV l u) = -drawV l u t := by
  have hl : (useEvsV l u).length = u.length := by simp [useEvsV]
  have h := chg_sumTo (E := useEvsV l u) (t := t) (g := fun i => -onV l u t i) u.length (fun i hi => ⟨_, useEvsV_at hi, by
    unfold onV
    simp only
    split <;> rfl⟩)
  rw [List.take_of_length_le (by omega)] at h
  rw [h, sumTo_neg]
  rfl
theorem dV_eq (sn bs : Int) (s : List S72) (l : List S76) (u : List S47) (t : Int) : dV sn bs s l u t = sn * sumTo (sunOn s t) s.length - drawV l u t - bs := by
  unfold dV evV
  rw [chg_append, chg_sun, chg_use]
  omega
/-- The uses that are on. -/
noncomputable def onIdx (l : List S76) (u : List S47) (t : Int) : Nat → List Nat
  | 0 => []
  | n + 1 => onIdx l u t n ++ (if (rd_T47 u n).f1 ≤ t ∧ t < (rd_T47 u n).f2 then (atV l (rd_T47 u n).f0).toList else [])
theorem onIdx_mem {l : List S76} {u : List S47} {t : Int} {j : Nat} : ∀ n : Nat, j ∈ onIdx l u t n → ∃ i, i < n ∧ ((rd_T47 u i).f1 ≤ t ∧ t < (rd_T47 u i).f2) ∧ atV l (rd_T47 u i).f0 = some j
  | 0, h => by cases h
  | n + 1, h => by
    unfold onIdx at h
    rcases List.mem_append.1 h with q | q
    · obtain ⟨i, h1, h2⟩ := onIdx_mem n q
      exact ⟨i, by omega, h2⟩
    · split at q
      · rename_i c
        refine ⟨n, by omega, c, ?_⟩
        cases e : atV l (rd_T47 u n).f0 with
        | none => rw [e] at q; cases q
        | some m => rw [e] at q; simp at q; rw [q]
      · cases q
theorem apart_on {l : List S76} {u : List S47} (h : GoodUses l u) {t : Int} {i k : Nat} (hi : i < u.length) (hk : k < u.length) (hne : i ≠ k) (hon : (rd_T47 u i).f1 ≤ t ∧ t < (rd_T47 u i).f2) (hon2 : (rd_T47 u k).f1 ≤ t ∧ t < (rd_T47 u k).f2) : (rd_T47 u i).f0.toList ≠ (rd_T47 u k).f0.toList := by
  intro e
  have s1 := h.span hi
  have s2 := h.span hk
  rw [rdU_get hi] at hon e s1
  rw [rdU_get hk] at hon2 e s2
  rcases Nat.lt_or_gt_of_ne hne with q | q
  · have := List.pairwise_iff_getElem.1 h.apart i k hi hk q e
    omega
  · have := List.pairwise_iff_getElem.1 h.apart k i hk hi q e.symm
    omega
theorem onIdx_nodup {l : List S76} {u : List S47} (h : GoodUses l u) (t : Int) : ∀ n : Nat, n ≤ u.length → (onIdx l u t n).Nodup
  | 0, _ => List.nodup_nil
  | n + 1, hn => by
    unfold onIdx
    refine List.nodup_append.2 ⟨onIdx_nodup h t n (by omega), ?_, ?_⟩
    · split
      · cases atV l (rd_T47 u n).f0 <;> simp
      · exact List.nodup_nil
    · intro a ha b hb
      split at hb
      · rename_i c
        obtain ⟨i, h1, h2, h3⟩ := onIdx_mem n ha
        rintro rfl
        have hb' : atV l (rd_T47 u n).f0 = some a := by
          cases e : atV l (rd_T47 u n).f0 with
          | none => rw [e] at hb; cases hb
          | some m => rw [e] at hb; simp at hb; rw [hb]
        have q1 := atV_is l (rd_T47 u i).f0
        have q2 := atV_is l (rd_T47 u n).f0
        rw [h3] at q1
        rw [hb'] at q2
        exact apart_on h (show i < u.length by omega) (show n < u.length by omega) (by omega) h2 c (q1.2.symm.trans q2.2)
      · cases hb
theorem onIdx_sum {l : List S76} {u : List S47} (hl : GoodLoads l) (t : Int) : ∀ n : Nat, sumTo (onV l u t) n ≤ (onIdx l u t n).length * 100000
  | 0 => by simp [sumTo, onIdx]
  | n + 1 => by
    have ih := onIdx_sum (u := u) hl t n
    have hb := (loadV_bd hl (rd_T47 u n).f0).1
    unfold sumTo onIdx
    rw [List.length_append]
    unfold onV at *
    split
    · rename_i c
      have hz : (loadV l (rd_T47 u n).f0).2.1 ≤ ((atV l (rd_T47 u n).f0).toList.length : Int) * 100000 := by
        cases e : atV l (rd_T47 u n).f0 with
        | none => unfold loadV; rw [e]; exact Int.le_refl _
        | some m => simp; omega
      omega
    · simp only [List.length_nil]
      omega
theorem draw_bd {l : List S76} {u : List S47} (h : GoodUses l u) (t : Int) : 0 ≤ drawV l u t ∧ drawV l u t ≤ 5000000 := by
  have h0 := (sumTo_bd (f := onV l u t) (b := 100000) u.length (fun i _ => onV_bd h.loads u t i)).1
  have h1 := onIdx_sum (u := u) h.loads t u.length
  have h2 := List.Nodup.length_le_of_subset (l₂ := List.range l.length) (onIdx_nodup h t u.length (Nat.le_refl _)) (fun j hj => by
    obtain ⟨i, _, _, h3⟩ := onIdx_mem u.length hj
    have q := atV_is l (rd_T47 u i).f0
    rw [h3] at q
    exact List.mem_range.2 q.1)
  rw [List.length_range] at h2
  have h3 := h.loads.few
  unfold drawV
  exact ⟨h0, by omega⟩
theorem d_bd {r lv sn bs fl : Int} {s : List S72} {l : List S76} {u : List S47} (h : Good r lv sn bs fl s l u) (t : Int) : -5200000 ≤ dV sn bs s l u t ∧ dV sn bs s l u t ≤ 5200000 := by
  rw [dV_eq]
  have a := sunOn_bd h.sun t
  have b := draw_bd h.uses t
  have c := h.cell
  have e : 0 ≤ sn * sumTo (sunOn s t) s.length ∧ sn * sumTo (sunOn s t) s.length ≤ 100000 := by
    rcases (show sumTo (sunOn s t) s.length = 0 ∨ sumTo (sunOn s t) s.length = 1 by omega) with q | q <;> rw [q] <;> omega
  omega
theorem ev_rise {r lv sn bs fl : Int} {s : List S72} {l : List S76} {u : List S47} (h : Good r lv sn bs fl s l u) : ∀ e ∈ evV sn s l u, (0 ≤ e.1 ∧ e.1 < e.2.1 ∧ e.2.1 ≤ 1000000000000) ∧ (-100000 ≤ e.2.2 ∧ e.2.2 ≤ 100000) := by
  intro e he
  have c := h.cell
  unfold evV at he
  rcases List.mem_append.1 he with q | q
  · obtain ⟨i, hi⟩ := List.mem_iff_getElem?.1 q
    have hil : i < s.length := by
      have := (List.getElem?_eq_some_iff.1 hi).1
      simpa [sunEvs] using this
    rw [sunEvs_at hil] at hi
    obtain rfl := Option.some.inj hi
    obtain ⟨a, b, d⟩ := (sunV_zero h.sun).2.1 i hil
    unfold inM at a b
    exact ⟨⟨a.1, d, b.2⟩, by show -100000 ≤ sn; omega, by show sn ≤ 100000; omega⟩
  · obtain ⟨i, hi⟩ := List.mem_iff_getElem?.1 q
    have hil : i < u.length := by
      have := (List.getElem?_eq_some_iff.1 hi).1
      simpa [useEvsV] using this
    rw [useEvsV_at hil] at hi
    obtain rfl := Option.some.inj hi
    obtain ⟨a, b, d⟩ := h.uses.span hil
    unfold inM at a b
    have e1 := (loadV_bd h.uses.loads (rd_T47 u i).f0).1
    exact ⟨⟨a.1, d, b.2⟩, by show -100000 ≤ -(loadV l (rd_T47 u i).f0).2.1; omega, by show -(loadV l (rd_T47 u i).f0).2.1 ≤ 100000; omega⟩
theorem mem_addsOf {x : Int × Int} : ∀ {E : List (Int × Int × Int)}, x ∈ addsOf E → ∃ e ∈ E, x = (e.1, e.2.2) ∨ x = (e.2.1, -e.2.2)
  | [], h => by cases h
  | e :: E, h => by
    unfold addsOf at h
    rcases List.mem_cons.1 h with q | q
    · exact ⟨e, List.mem_cons_self, .inl q⟩
    · rcases List.mem_cons.1 q with q | q
      · exact ⟨e, List.mem_cons_self, .inr q⟩
      · obtain ⟨y, hy, hx⟩ := mem_addsOf q
        exact ⟨y, List.mem_cons_of_mem _ hy, hx⟩
theorem adds_bd {r lv sn bs fl : Int} {s : List S72} {l : List S76} {u : List S47} (h : Good r lv sn bs fl s l u) : ∀ x ∈ addsV bs (evV sn s l u), (0 ≤ x.1 ∧ x.1 ≤ 1000000000000) ∧ (-100000 ≤ x.2 ∧ x.2 ≤ 100000) := by
  intro x hx
  have c := h.cell
  unfold addsV at hx
  rcases List.mem_cons.1 hx with q | q
  · subst q
    exact ⟨⟨Int.le_refl _, by show (0 : Int) ≤ 1000000000000; omega⟩, by show -100000 ≤ -bs; omega, by show -bs ≤ 100000; omega⟩
  · obtain ⟨e, he, q | q⟩ := mem_addsOf q
    · have := ev_rise h e he
      subst q
      exact ⟨⟨by show 0 ≤ e.1; omega, by show e.1 ≤ _; omega⟩, by show -100000 ≤ e.2.2; omega, by show e.2.2 ≤ _; omega⟩
    · have := ev_rise h e he
      subst q
      exact ⟨⟨by show 0 ≤ e.2.1; omega, by show e.2.1 ≤ _; omega⟩, by show -100000 ≤ -e.2.2; omega, by show -e.2.2 ≤ _; omega⟩
noncomputable def piecesV (sn bs : Int) (s : List S72) (l : List S76) (u : List S47) (n : Int) : List (Int × Int × Int) := flowGo (addsV bs (evV sn s l u)) n (keysV (addsV bs (evV sn s l u))) 0 []
theorem flow_ev {r lv sn bs fl : Int} {s : List S72} {l : List S76} {u : List S47} (h : Good r lv sn bs fl s l u) (n : Int) : Ev (fun k => power_flow.f k r lv sn bs fl s l u n) ((piecesV sn bs s l u n).map pieceOf) := by
  unfold power_flow.f
  refine Ev.bind (useEvs_ev h.uses.loads u) ?_
  have hs := (sunV_zero h.sun).1
  have hu := h.uses.few
  have hS : Small40 (addsV bs (sunEvs sn s ++ useEvsV l u)) := fun x hx => by
    have := adds_bd h x hx
    omega
  simp only [if_pos (show s.length ≤ 1000 ∧ u.length ≤ 1000 ∧ Small40 (addsV bs (sunEvs sn s ++ useEvsV l u)) from ⟨by omega, by omega, hS⟩)]
  exact Ev.now _
theorem pieces_segs {r lv sn bs fl : Int} {s : List S72} {l : List S76} {u : List S47} (h : Good r lv sn bs fl s l u) {n : Int} (hn : 0 ≤ n) : Segs (dV sn bs s l u) 0 n (piecesV sn bs s l u n) ∧ ∀ p ∈ piecesV sn bs s l u n, Turns (dV sn bs s l u) p := by
  refine flowGo_all hn (fun x hx => ?_) (keysV_up _) (fun e he => ⟨(adds_bd h e he).1.1, (mem_keysV _ _).2 ⟨e, he, rfl⟩⟩) (fun t ht => ?_) ((mem_keysV _ _).2 ⟨(0, -bs), List.mem_cons_self, rfl⟩)
  · unfold dV addsV
    simp only [cum]
    rw [cum_addsOf x _ (fun e he => by have := (ev_rise h e he).1; omega), if_pos hx]
    omega
  · obtain ⟨e, he, rfl⟩ := (mem_keysV _ _).1 ht
    exact (adds_bd h e he).1.1
theorem Segs.inside {d : Int → Int} : ∀ {L : List (Int × Int × Int)} {a b : Int}, Segs d a b L → ∀ p ∈ L, a ≤ p.1 ∧ p.1 < p.2.1 ∧ p.2.1 ≤ b ∧ d p.1 = p.2.2
  | [], _, _, _, p, hp => by cases hp
  | q :: L, a, b, h, p, hp => by
    obtain ⟨h1, h2, h3, h4, h5⟩ := h
    rcases List.mem_cons.1 hp with e | e
    · subst e
      exact ⟨by omega, h2, h3, h4 _ (Int.le_refl _) h2⟩
    · obtain ⟨k1, k2, k3, k4⟩ := h5.inside p e
      exact ⟨by omega, k2, k3, k4⟩
theorem behind_eq {r lv c n : Int} (hr : 1 ≤ r ∧ r ≤ 1000000000000) (hl : 0 ≤ lv ∧ lv ≤ r) (hc : -5200000 ≤ c ∧ c ≤ 5200000) (hn : 0 ≤ n ∧ n ≤ 1000000000000) (x y z w : Int) : power_behind.f r x y z w lv c n = some (clp r (lv + c * n)) := by
  have h1 : c * n ≤ 5200000 * n := Int.mul_le_mul_of_nonneg_right hc.2 hn.1
  have h2 : -5200000 * n ≤ c * n := Int.mul_le_mul_of_nonneg_right hc.1 hn.1
  unfold power_behind.f
  rw [w64 (x := c * n) (by omega) (by omega), w64 (x := lv + c * n) (by omega) (by omega)]
  generalize c * n = q at *
  congr 1
  unfold mn mx clp
  repeat' split
  all_goals omega
theorem rd_pieces {L : List (Int × Int × Int)} {i : Nat} (h : i < L.length) : ∃ p, L[i]? = some p ∧ rd_T89 (L.map pieceOf) (i : Int) = pieceOf p ∧ p ∈ L := by
  refine ⟨L[i], List.getElem?_eq_getElem h, ?_, List.getElem_mem h⟩
  unfold rd_T89
  rw [List.getD_eq_getElem?_getD, Int.toNat_natCast, List.getElem?_map, List.getElem?_eq_getElem h]
  rfl
/-- The level at a moment. -/
noncomputable def lvV (r lv sn bs : Int) (s : List S72) (l : List S76) (u : List S47) (n : Nat) : Int := lev r (dV sn bs s l u) lv n
noncomputable def checkF (r lv sn bs fl : Int) (s : List S72) (l : List S76) (u : List S47) (n : Int) : Int := firstV [cellV r lv sn bs fl, sunV s, usesV l u, if 0 ≤ n ∧ n ≤ 1000000000000 then 0 else 1]
theorem power_check_ev (r lv sn bs fl : Int) (s : List S72) (l : List S76) (u : List S47) (n : Int) : Ev (fun k => power_check.f k r lv sn bs fl s l u n) (checkF r lv sn bs fl s l u n) := by
  simp only [power_check.f, power_CheckCell_eq, kit_Range_eq, Option.bind_some]
  refine Ev.bind (power_CheckSun_ev s) ?_
  refine Ev.bind (power_CheckUses_ev l u) ?_
  refine Ev.bind (kit_First_ev _ (by simp)) ?_
  exact Ev.now _
theorem checkF_parts {r lv sn bs fl : Int} {s : List S72} {l : List S76} {u : List S47} {n : Int} : checkF r lv sn bs fl s l u n = 0 ↔ cellV r lv sn bs fl = 0 ∧ sunV s = 0 ∧ usesV l u = 0 ∧ (0 ≤ n ∧ n ≤ 1000000000000) := by
  unfold checkF
  simp only [firstV]
  constructor
  · intro h
    split at h
    · rename_i h1
      split at h
      · rename_i h2
        split at h
        · rename_i h3
          refine ⟨h1, h2, h3, Classical.byContradiction fun q => ?_⟩
          rw [if_neg q] at h
          simp at h
        · rename_i q; exact absurd h q
      · rename_i q; exact absurd h q
    · rename_i q; exact absurd h q
  · rintro ⟨h1, h2, h3, h4⟩
    rw [if_pos h1, if_pos h2, if_pos h3]
    simp [h4]
theorem cellV_zero {r lv sn bs fl : Int} : cellV r lv sn bs fl = 0 ↔ (1 ≤ r ∧ r ≤ 1000000000000) ∧ (0 ≤ lv ∧ lv ≤ r) ∧ (0 ≤ sn ∧ sn ≤ 100000) ∧ (0 ≤ bs ∧ bs ≤ 100000) ∧ (0 ≤ fl ∧ fl ≤ r) := by
  unfold cellV
  constructor
  · intro h
    split at h
    · assumption
    · omega
  · intro h
    exact if_pos h
theorem checkF_good {r lv sn bs fl : Int} {s : List S72} {l : List S76} {u : List S47} {n : Int} (h : checkF r lv sn bs fl s l u n = 0) : Good r lv sn bs fl s l u ∧ (0 ≤ n ∧ n ≤ 1000000000000) := by
  obtain ⟨h1, h2, h3, h4⟩ := checkF_parts.1 h
  exact ⟨⟨cellV_zero.1 h1, h2, usesV_zero h3⟩, h4⟩
end Go.Proofs.Ytplcdpiggpkppaa.Q
