/- With what is kept the level is never below the floor, and nothing is shed of it; what is left by shedding is worth no more: for all batteries, suns, loads, uses and moments. -/
-- Made by wip/tools/claimp.py of this session's texts; Lean checks it.
import Derived.Test.YtplcdpiggpkppaaC10PowW
import Derived.Test.YtplcdpiggpkppaaC10StPowerKeptIsWorthMost
import Derived.Laws.BitsLemmas
import Derived.Test.YtplcdpiggpkppaaC10Ge23
set_option linter.unusedVariables false
set_option linter.unusedSimpArgs false
namespace Go.Proofs.Ytplcdpiggpkppaa.Q
open Go.RowKit Go.Proofs.YtplcdpiggpkppaaW.PrintWords Go.Proofs.YtplcdpiggpkppaaW.PrintLast Go.Proofs.YtplcdpiggpkppaaW.PrintMore Go.Proofs.Ytplcdpiggpkppaa.Base
theorem bitOn_iff {m : Int} (h0 : 0 ≤ m) (h1 : m < 1000000) {i : Nat} (hi : i ≤ 12) : bitOn m i ↔ m / 2 ^ i % 2 = 1 := by
  unfold bitOn shr
  have e : min (i : Int).toNat IntKind.i64.bits = i := by
    show min (i : Int).toNat 64 = i
    omega
  rw [e]
  have hp : (0 : Int) < 2 ^ i := by exact_mod_cast Nat.two_pow_pos i
  have hq0 : 0 ≤ m / 2 ^ i := Int.ediv_nonneg h0 (Int.le_of_lt hp)
  have hq1 : m / 2 ^ i ≤ m := Int.ediv_le_self _ h0
  rw [show Go.bits .and .i64 (m / 2 ^ i) 1 = m / 2 ^ i % 2 from bits_mask .i64 40 (by decide) (fun n a b => by rw [IntKind.wrap_i64]; omega) 1 (by decide) (m / 2 ^ i) hq0 (by omega)]
theorem bit_low {m : Int} (h0 : 0 ≤ m) {i : Nat} (h1 : m < 2 ^ i) (hi : i < 12) : ¬ bitOn m i := by
  have hb : (2 : Int) ^ i ≤ 2 ^ 12 := by exact_mod_cast Nat.pow_le_pow_right (by omega) (by omega)
  rw [bitOn_iff h0 (by omega) (by omega), Int.ediv_eq_zero_of_lt h0 h1]
  omega
theorem bit_top {m : Int} (h0 : 0 ≤ m) {i : Nat} (h1 : m < 2 ^ i) (hi : i < 12) : bitOn (m + 2 ^ i) i := by
  have hb : (2 : Int) ^ i ≤ 2 ^ 12 := by exact_mod_cast Nat.pow_le_pow_right (by omega) (by omega)
  have hp : (0 : Int) < 2 ^ i := by exact_mod_cast Nat.two_pow_pos i
  rw [bitOn_iff (by omega) (by omega) (by omega)]
  have e : (m + 2 ^ i) / 2 ^ i = m / 2 ^ i + 1 := by
    have := Int.add_mul_ediv_right m 1 (show (2 : Int) ^ i ≠ 0 by omega)
    rwa [Int.one_mul] at this
  rw [e, Int.ediv_eq_zero_of_lt h0 h1]
  omega
theorem bit_under {m : Int} (h0 : 0 ≤ m) {i j : Nat} (h1 : m < 2 ^ i) (hi : i < 12) (hj : j < i) : bitOn (m + 2 ^ i) j ↔ bitOn m j := by
  have hb : (2 : Int) ^ i ≤ 2 ^ 12 := by exact_mod_cast Nat.pow_le_pow_right (by omega) (by omega)
  have hp : (0 : Int) < 2 ^ j := by exact_mod_cast Nat.two_pow_pos j
  have hp2 : (0 : Int) < 2 ^ i := by exact_mod_cast Nat.two_pow_pos i
  rw [bitOn_iff (by omega) (by omega) (by omega), bitOn_iff h0 (by omega) (by omega)]
  obtain ⟨d, rfl⟩ : ∃ d, i = j + 1 + d := ⟨i - (j + 1), by omega⟩
  have e : (m + 2 ^ (j + 1 + d)) / 2 ^ j = m / 2 ^ j + 2 * 2 ^ d := by
    have := Int.add_mul_ediv_right m (2 * 2 ^ d) (show (2 : Int) ^ j ≠ 0 by omega)
    rw [← this]
    congr 2
    rw [Int.pow_add, Int.pow_succ, Int.mul_assoc, Int.mul_comm]
  rw [e, Int.add_mul_emod_self_left]
theorem pick_under {l : List S76} {u : List S47} {m : Int} (h0 : 0 ≤ m) {i : Nat} (h1 : m < 2 ^ i) (hi : i < 12) : ∀ j : Nat, j ≤ i → pickU u (m + 2 ^ i) j = pickU u m j ∧ pickW l u (m + 2 ^ i) j = pickW l u m j
  | 0, _ => ⟨rfl, rfl⟩
  | j + 1, hj => by
    obtain ⟨e1, e2⟩ := pick_under (l := l) (u := u) h0 h1 hi j (by omega)
    have hb := bit_under h0 h1 hi (show j < i by omega)
    unfold pickU pickW
    rw [e1, e2]
    by_cases q : bitOn m j
    · rw [if_pos q, if_pos q, if_pos (hb.2 q), if_pos (hb.2 q)]
      exact ⟨rfl, rfl⟩
    · rw [if_neg q, if_neg q, if_neg (fun z => q (hb.1 z)), if_neg (fun z => q (hb.1 z))]
      exact ⟨rfl, rfl⟩
theorem sub_snoc {α : Type} {v w : List α} {x : α} (h : v.Sublist (w ++ [x])) : v.Sublist w ∨ ∃ v', v = v' ++ [x] ∧ v'.Sublist w := by
  obtain ⟨a, b, rfl, h1, h2⟩ := List.sublist_append_iff.1 h
  cases b with
  | nil => left; rw [List.append_nil]; exact h1
  | cons y b =>
    right
    have hl := h2.length_le
    simp only [List.length_cons, List.length_nil] at hl
    have e : b = [] := List.eq_nil_of_length_eq_zero (by omega)
    subst e
    have hm := h2.mem List.mem_cons_self
    rw [List.mem_singleton.1 hm]
    exact ⟨a, rfl, h1⟩
/-- Each part of the uses is that of a set. -/
theorem pick_sub {u : List S47} (hu : u.length ≤ 12) : ∀ (i : Nat) (v : List S47), i ≤ u.length → v.Sublist (u.take i) → ∃ m : Int, 0 ≤ m ∧ m < 2 ^ i ∧ pickU u m i = v
  | 0, v, _, h => by
    rw [List.take_zero] at h
    exact ⟨0, Int.le_refl _, by decide, (List.sublist_nil.1 h).symm⟩
  | i + 1, v, hi, h => by
    have hlt : i < u.length := by omega
    have e : u.take (i + 1) = u.take i ++ [rd_T47 u (i : Int)] := by
      rw [rdU_get hlt, List.take_add_one, List.getElem?_eq_getElem hlt]
      rfl
    have hp : (2 : Int) ^ (i + 1) = 2 ^ i + 2 ^ i := by rw [Int.pow_succ]; omega
    have hp0 : (0 : Int) < 2 ^ i := by exact_mod_cast Nat.two_pow_pos i
    rw [e] at h
    rcases sub_snoc h with q | ⟨v', rfl, q⟩
    · obtain ⟨m, m0, m1, m2⟩ := pick_sub hu i v (by omega) q
      refine ⟨m, m0, by omega, ?_⟩
      unfold pickU
      rw [if_neg (bit_low m0 m1 (by omega)), m2]
    · obtain ⟨m, m0, m1, m2⟩ := pick_sub hu i v' (by omega) q
      refine ⟨m + 2 ^ i, by omega, by omega, ?_⟩
      unfold pickU
      rw [if_pos (bit_top m0 m1 (by omega)), (pick_under (l := []) m0 m1 (by omega) i (Nat.le_refl _)).1, m2]
theorem pickW_sum (l : List S76) (u : List S47) (m : Int) : ∀ i : Nat, pickW l u m i = ((pickU u m i).map (worthU l)).sum
  | 0 => rfl
  | i + 1 => by
    have ih := pickW_sum l u m i
    unfold pickW pickU
    split
    · rw [List.map_append, List.sum_append, ih]
      simp [worthU]
    · exact ih
theorem worth_ev {l : List S76} (hl : GoodLoads l) (u : List S47) (hu : u.length ≤ 400) : Ev (fun k => perigeeref9_Worth.f k l u) (u.map (worthU l)).sum := by
  simp only [perigeeref9_Worth.f]
  have bd : ∀ v : List S47, 0 ≤ (v.map (worthU l)).sum ∧ (v.map (worthU l)).sum ≤ 1000 * v.length := by
    intro v
    induction v with
    | nil => simp
    | cons x v ih =>
      have := (loadV_bd hl x.f0).2
      simp only [List.map_cons, List.sum_cons, List.length_cons]
      unfold worthU at *
      omega
  refine Ev.loop (L := fun k i => perigeeref9_Worth.l0 k l ((u.take i).map (worthU l)).sum u (u.length : Int) (i : Int)) (v := fun _ => (u.map (worthU l)).sum) u.length ?_ ?_ u.length 0 (by omega)
  · refine Ev.step (fun k => perigeeref9_Worth.l0.eq_2 ..) ?_
    simp only [if_neg (show ¬ (u.length : Int) < u.length by omega), List.take_of_length_le (Nat.le_refl _)]
    exact Ev.now _
  · intro i hi ih
    refine Ev.step (fun k => perigeeref9_Worth.l0.eq_2 ..) ?_
    simp only [if_pos (show (i : Int) < u.length by omega), if_pos (show (0 : Int) ≤ i by omega), w64 (x := (i : Int) + 1) (by omega) (by omega)]
    refine Ev.bind (loadOf_is hl _) ?_
    have b1 := bd (u.take (i + 1))
    have hlen : (u.take (i + 1)).length = i + 1 := by rw [List.length_take]; omega
    rw [hlen] at b1
    have e : ((u.take (i + 1)).map (worthU l)).sum = ((u.take i).map (worthU l)).sum + (loadV l (rd_T47 u (i : Int)).f0).2.2.1 := by
      rw [List.take_add_one, List.getElem?_eq_getElem hi, List.map_append, List.sum_append, rdU_get hi]
      simp [worthU]
    rw [← e, w64 (by omega) (by omega)]
    exact ih
/-- What is told of the best so far: it is a set that fits, and no set that fits is worth more. -/
structure IsBest (r lv sn bs fl : Int) (s : List S72) (l : List S76) (u : List S47) (n : Int) (st : List Int × Int) (N : Int) : Prop where
  set : ∃ m, 0 ≤ m ∧ m < N ∧ st.1 = pickI m u.length ∧ st.2 = pickW l u m u.length ∧ Fits r lv sn bs fl s l (pickU u m u.length) n
  most : ∀ m, 0 ≤ m → m < N → Fits r lv sn bs fl s l (pickU u m u.length) n → pickW l u m u.length ≤ st.2
theorem stepK_best {r lv sn bs fl : Int} {s : List S72} {l : List S76} {u : List S47} {n : Int} {st : List Int × Int} {N : Int} (hN : 0 ≤ N) (h : IsBest r lv sn bs fl s l u n st N) : IsBest r lv sn bs fl s l u n (stepK r lv sn bs fl s l u n st N) (N + 1) := by
  obtain ⟨⟨m, m0, m1, m2, m3, m4⟩, hm⟩ := h
  unfold stepK
  split
  · rename_i q
    refine ⟨⟨m, m0, by omega, m2, m3, m4⟩, fun k k0 k1 kf => ?_⟩
    by_cases e : k = N
    · subst e
      unfold worse at q
      omega
    · exact hm k k0 (by omega) kf
  · rename_i q
    split
    · rename_i z
      refine ⟨⟨N, hN, by omega, rfl, rfl, z⟩, fun k k0 k1 kf => ?_⟩
      by_cases e : k = N
      · subst e; exact Int.le_refl _
      · have := hm k k0 (by omega) kf
        unfold worse at q
        show pickW l u k u.length ≤ pickW l u N u.length
        omega
    · rename_i z
      refine ⟨⟨m, m0, by omega, m2, m3, m4⟩, fun k k0 k1 kf => ?_⟩
      by_cases e : k = N
      · subst e; exact absurd kf z
      · exact hm k k0 (by omega) kf
theorem runK_best {r lv sn bs fl : Int} {s : List S72} {l : List S76} {u : List S47} {n : Int} : ∀ (d : Nat) (N : Int) (st : List Int × Int), 0 ≤ N → IsBest r lv sn bs fl s l u n st N → IsBest r lv sn bs fl s l u n (runK r lv sn bs fl s l u n d N st) (N + d)
  | 0, N, st, _, h => by
    rw [show N + ((0 : Nat) : Int) = N by omega]
    exact h
  | d + 1, N, st, hN, h => by
    have := runK_best d (N + 1) _ (by omega) (stepK_best hN h)
    rw [show N + ((d + 1 : Nat) : Int) = N + 1 + d by omega]
    exact this
theorem start_best {r lv sn bs fl : Int} {s : List S72} {l : List S76} {u : List S47} {n : Int} (hu : u.length ≤ 12) (hf : Fits r lv sn bs fl s l [] n) : IsBest r lv sn bs fl s l u n ([], 0) 1 := by
  obtain ⟨e1, e2, e3⟩ := pick_none u l u.length hu
  refine ⟨⟨0, Int.le_refl _, by omega, e2.symm, e3.symm, by rw [e1]; exact hf⟩, fun m m0 m1 _ => ?_⟩
  rw [show m = 0 by omega, e3]
  exact Int.le_refl _
theorem own_loop {r lv sn bs fl : Int} {s : List S72} {l : List S76} {u : List S47} (hu : u.length ≤ 12) (n w m : Int) (V : Bool) (hfin : Ev (fun k => (power_Shed.f k r lv sn bs fl s l (pickU u m u.length) n).bind fun bt113 => (if bt113.2 = 0 then ((api_Use_48.f k bt113.1 (pickU u m u.length)).bind fun t117 => (perigeelaw9_PowerKeptIsWorthMost.j1 k s l u n w (pickU u m u.length) (!t117) r lv sn bs fl)) else (perigeelaw9_PowerKeptIsWorthMost.j1 k s l u n w (pickU u m u.length) true r lv sn bs fl))) V) :
    Ev (fun k => perigeelaw9_PowerKeptIsWorthMost.l0 k s l u n w ([] : List S47) (pickI m u.length) ((pickI m u.length).length : Int) 0 r lv sn bs fl) V := by
  -- the numbers of a set, one by one: each is below u's length, and its use is the next of the picked
  have hI : ∀ i : Nat, i ≤ u.length → (pickU u m i).length = (pickI m i).length ∧ ∀ j (hj : j < (pickI m i).length), ∃ q : Nat, q < u.length ∧ (pickI m i)[j] = (q : Int) ∧ (pickU u m i)[j]? = some (rd_T47 u (q : Int)) := by
    intro i
    induction i with
    | zero => intro _; exact ⟨rfl, fun j hj => by simp [pickI] at hj⟩
    | succ i ih =>
      intro hi
      obtain ⟨e1, e2⟩ := ih (by omega)
      unfold pickU pickI
      by_cases hb : bitOn m i
      · simp only [if_pos hb]
        refine ⟨by simp [e1], fun j hj => ?_⟩
        rw [List.length_append] at hj
        by_cases hlt : j < (pickI m i).length
        · obtain ⟨q, q1, q2, q3⟩ := e2 j hlt
          refine ⟨q, q1, by rw [List.getElem_append_left hlt]; exact q2, ?_⟩
          rw [List.getElem?_append_left (by rw [e1]; exact hlt)]
          exact q3
        · simp only [List.length_cons, List.length_nil] at hj
          have ej : j = (pickI m i).length := by omega
          subst ej
          refine ⟨i, by omega, by simp, ?_⟩
          rw [← e1]
          simp
      · simp only [if_neg hb]
        exact ⟨e1, e2⟩
  obtain ⟨e1, e2⟩ := hI u.length (Nat.le_refl _)
  have hlI := pickI_len m u.length
  refine Ev.loop (L := fun k i => perigeelaw9_PowerKeptIsWorthMost.l0 k s l u n w ((pickU u m u.length).take i) (pickI m u.length) ((pickI m u.length).length : Int) (i : Int) r lv sn bs fl) (v := fun _ => V) (pickI m u.length).length ?_ ?_ (pickI m u.length).length 0 (by omega)
  · refine Ev.step (fun k => perigeelaw9_PowerKeptIsWorthMost.l0.eq_2 ..) ?_
    simp only [if_neg (show ¬ ((pickI m u.length).length : Int) < (pickI m u.length).length by omega)]
    rw [← e1, List.take_of_length_le (Nat.le_refl _)]
    exact hfin
  · intro i hi ih
    obtain ⟨q, q1, q2, q3⟩ := e2 i hi
    have hrd : rd (pickI m u.length) (i : Int) = (q : Int) := by
      unfold rd
      simp [List.getD_eq_getElem?_getD, List.getElem?_eq_getElem hi, q2]
    have ht : (pickU u m u.length).take (i + 1) = (pickU u m u.length).take i ++ [rd_T47 u (q : Int)] := by
      rw [List.take_add_one, q3]
      rfl
    have hlt : ((pickU u m u.length).take i).length < 4398046511104 := by rw [List.length_take]; omega
    rw [ht] at ih
    refine Ev.step (fun k => perigeelaw9_PowerKeptIsWorthMost.l0.eq_2 ..) ?_
    simp only [if_pos (show (i : Int) < (pickI m u.length).length by omega), if_pos (show (0 : Int) ≤ i by omega), w64 (x := (i : Int) + 1) (by omega) (by omega), hrd, if_pos (show (0 : Int) ≤ (q : Int) by omega), if_pos (show (q : Int) < u.length by omega), if_pos hlt]
    exact ih
theorem PowerKeptIsWorthMost_pure : perigeelaw9_PowerKeptIsWorthMost.Pure := by
  intro c s l u n _ _ _ _ _
  obtain ⟨r, lv, sn, bs, fl⟩ := c
  refine Ev.rounds ?_
  simp only [perigeelaw9_PowerKeptIsWorthMost.f]
  have aw : Ev (fun k => (perigeelaw9_awake.f k).bind fun t => some t) true := Ev.bind (f := fun _ t => some t) awake_ev (Ev.now true)
  refine Ev.bind (power_Kept_ev r lv sn bs fl s l u n) ?_
  unfold KeptV
  by_cases h0 : checkF r lv sn bs fl s l u n = 0
  · rw [if_pos h0]
    by_cases h1 : (u.length : Int) > 12
    · rw [if_pos h1]
      simp only [if_neg (show ¬ (2 : Int) = 0 by omega), List.length_nil, if_pos (show ((0 : Nat) : Int) = 0 from rfl), if_true]
      exact aw
    · rw [if_neg h1]
      simp only [if_true]
      obtain ⟨h, hn⟩ := checkF_good h0
      have hu : u.length ≤ 12 := by omega
      have hb := shl_one u.length hu
      obtain ⟨d, hd⟩ : ∃ d, (shl .i64 1 (u.length : Int)).toNat = d + 1 := ⟨(shl .i64 1 (u.length : Int)).toNat - 1, by omega⟩
      have hshl : shl .i64 1 (u.length : Int) = 2 ^ u.length := by
        have : ∀ i : Nat, i ≤ 12 → shl .i64 1 (i : Int) = 2 ^ i := by decide
        exact this u.length hu
      -- the kept set, whether the floor can be kept at all or not
      have key : ∃ m, 0 ≤ m ∧ m < 2 ^ u.length ∧ (runK r lv sn bs fl s l u n (d + 1) 0 ([], 0)).1 = pickI m u.length ∧ (runK r lv sn bs fl s l u n (d + 1) 0 ([], 0)).2 = pickW l u m u.length ∧ (Fits r lv sn bs fl s l (pickU u m u.length) n ∨ pickU u m u.length = []) ∧ ∀ v : List S47, v.Sublist u → Fits r lv sn bs fl s l v n → (v.map (worthU l)).sum ≤ pickW l u m u.length := by
        by_cases hf : Fits r lv sn bs fl s l [] n
        · obtain ⟨e1, e2, e3⟩ := pick_none u l u.length hu
          have a2 : stepK r lv sn bs fl s l u n ([], 0) 0 = ([], 0) := by
            unfold stepK
            rw [e1, e2, e3, if_pos (by unfold worse; right; exact ⟨rfl, .inr ⟨rfl, by decide⟩⟩)]
          have hrun : runK r lv sn bs fl s l u n (d + 1) 0 ([], 0) = runK r lv sn bs fl s l u n d 1 ([], 0) := by
            show runK r lv sn bs fl s l u n d (0 + 1) (stepK r lv sn bs fl s l u n ([], 0) 0) = _
            rw [a2]
            rfl
          rw [hrun]
          obtain ⟨⟨m, m0, m1, m2, m3, m4⟩, hm⟩ := runK_best d 1 ([], 0) (by omega) (start_best (u := u) hu hf)
          refine ⟨m, m0, by rw [← hshl]; omega, m2, m3, .inl m4, fun v hv hvf => ?_⟩
          obtain ⟨k, k0, k1, k2⟩ := pick_sub hu u.length v (Nat.le_refl _) (by rw [List.take_of_length_le (Nat.le_refl _)]; exact hv)
          have := hm k k0 (by rw [← hshl] at k1; omega) (by rw [k2]; exact hvf)
          rw [m3] at this
          rw [pickW_sum l u k, k2] at this
          exact this
        · obtain ⟨e1, e2, e3⟩ := pick_none u l u.length hu
          rw [runK_stays h hf]
          refine ⟨0, Int.le_refl _, by exact_mod_cast Nat.two_pow_pos u.length, e2.symm, e3.symm, .inr e1, fun v hv hvf => ?_⟩
          exact absurd (fits_none (h.sub hv) hvf) hf
      rw [hd]
      obtain ⟨m, m0, m1, m2, m3, m4, m5⟩ := key
      rw [m2, m3]
      refine own_loop hu n _ m true ?_
      have hsubU := pickU_all u m
      have hown := checkF_sub h0 hsubU
      have hlen : (pickU u m u.length).length ≤ 12 := Nat.le_trans (pickU_len u m u.length) hu
      have hW : ((pickU u m u.length).map (worthU l)).sum = pickW l u m u.length := (pickW_sum l u m u.length).symm
      generalize pickU u m u.length = own at *
      -- nothing is shed of it
      have hno : shedL r lv sn bs fl s l n own.length own = own := by
        cases hL : own.length with
        | zero => rfl
        | succ k =>
          have hf : Fits r lv sn bs fl s l own n := m4.resolve_right (fun q => by rw [q] at hL; simp at hL)
          have ho : firstO r lv sn bs fl s l n own = none := firstO_is (o := none) hf
          exact shedL_none ho
      have hs1 : ShedV r lv sn bs fl s l own n = (own, 0) := by
        unfold ShedV
        rw [if_pos hown, hno]
      have k1 := power_Shed_ev r lv sn bs fl s l own n
      rw [hs1] at k1
      refine Ev.bind k1 ?_
      simp only [if_true]
      refine Ev.bind (equal_uses own (by omega)) ?_
      refine Ev.step (fun k => perigeelaw9_PowerKeptIsWorthMost.j1.eq_2 ..) ?_
      simp only [Bool.not_true, if_neg Bool.false_ne_true]
      have k2 := power_Shed_ev r lv sn bs fl s l u n
      unfold ShedV at k2
      rw [if_pos h0] at k2
      refine Ev.bind k2 ?_
      simp only [if_true]
      have hsub := shedL_sub (r := r) (lv := lv) (sn := sn) (bs := bs) (fl := fl) (s := s) (l := l) (n := n) u.length u
      have hc := checkF_sub h0 hsub
      have hlen2 := Nat.le_trans hsub.length_le h.uses.few
      generalize shedL r lv sn bs fl s l n u.length u = x at *
      obtain ⟨o, h2, h3⟩ := power_Empty_ev hc
      refine Ev.bind h2 ?_
      simp only [if_true]
      have wown := worth_ev h.uses.loads own (by omega)
      rw [hW] at wown
      have fin : Ev (fun k => (perigeeref9_Worth.f k l own).bind fun t128 => if t128 = pickW l u m u.length then (perigeelaw9_awake.f k).bind fun t129 => some t129 else some false) true := by
        refine Ev.bind wown ?_
        simp only [if_true]
        exact aw
      refine Ev.ite (fun q => fin) (fun q => ?_)
      have ho : o = none := by
        cases o with
        | none => rfl
        | some t => exact absurd (decide_eq_true (show firstI (some t) ≥ 0 by show (0 : Int) ≤ ((t : Nat) : Int); omega)) q
      have hfx := (first_fits h3).1 ho
      have hle := m5 x hsub hfx
      refine Ev.bind (worth_ev h.uses.loads x hlen2) ?_
      simp only [if_pos hle]
      exact fin
  · rw [if_neg h0]
    simp only [if_neg h0, List.length_nil, if_pos (show ((0 : Nat) : Int) = 0 from rfl), if_true]
    exact aw
end Go.Proofs.Ytplcdpiggpkppaa.Q
namespace Go.Proofs.Ytplcdpiggpkppaa.Pure
theorem PowerKeptIsWorthMost : Q.perigeelaw9_PowerKeptIsWorthMost.Pure := Q.PowerKeptIsWorthMost_pure
end Go.Proofs.Ytplcdpiggpkppaa.Pure
