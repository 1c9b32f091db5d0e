/- Plain laws: the reference's fair booking, and what its stations carry: the same as the program's. -/
-- Made by wip/tools/claimp.py of this session's texts; Lean checks it.
import Derived.Test.YtbngmblgkkdhpaaDoorC7Fair
import Derived.Test.YtbngmblgkkdhpaaDoorC7BestR
import Derived.Test.YtbngmblgkkdhpaaDoorC7Gd17
import Derived.Test.YtbngmblgkkdhpaaDoorC7Gd16
import Derived.Test.YtbngmblgkkdhpaaDoorC7Gd15
import Derived.Test.YtbngmblgkkdhpaaDoorC7Gd14
import Derived.Test.YtbngmblgkkdhpaaDoorC7Gd1
set_option linter.unusedVariables false
set_option linter.unusedSimpArgs false
namespace Go.Proofs.YtbngmblgkkdhpaaDoor.Q
open Go.RowKit Go.Proofs.YtbngmblgkkdhpaaDoorW.PrintWords Go.Proofs.YtbngmblgkkdhpaaDoorW.PrintLast Go.Proofs.YtbngmblgkkdhpaaDoorW.PrintMore Go.Proofs.YtbngmblgkkdhpaaDoor.Base
theorem carr_append (l : List S55) (s : ByteArray) : ∀ x y : List Int, carr l s (x ++ y) = carr l s x + carr l s y
  | [], y => by simp [carr]
  | a :: x, y => by
    rw [List.cons_append, carr, carr, carr_append l s x y]
    omega
def anyB (l : List S55) (s : ByteArray) (b : List Int) : Bool := b.any fun a => decide ((rd_T55 l a).f0 = s)
theorem anyB_iff {l : List S55} {s : ByteArray} {b : List Int} : anyB l s b = true ↔ ∃ a ∈ b, (rd_T55 l a).f0 = s := by
  unfold anyB
  rw [List.any_eq_true]
  constructor
  · rintro ⟨a, h1, h2⟩
    exact ⟨a, h1, of_decide_eq_true h2⟩
  · rintro ⟨a, h1, h2⟩
    exact ⟨a, h1, decide_eq_true h2⟩
theorem same_str {s t : ByteArray} : s.toList = t.toList ↔ s = t := by
  constructor
  · intro h
    rw [ByteArray.toList_eq, ByteArray.toList_eq] at h
    exact bytes_inj h
  · rintro rfl
    rfl
theorem perigeeref10_carried_ev {l : List S55} (hl : GoodPasses l) {b : List Int} (hb : ∀ a ∈ b, 0 ≤ a ∧ a < l.length) (hlen : b.length ≤ 100) (s : ByteArray) : Ev (fun k => perigeeref10_carried.f k l b s) (carr l s b, anyB l s b) := by
  simp only [perigeeref10_carried.f]
  have main : ∀ d i : Nat, i + d = b.length → Ev (fun k => perigeeref10_carried.l0 k l b s (carr l s (b.take i)) (anyB l s (b.take i)) (i : Int)) (carr l s b, anyB l s b) := by
    intro d
    induction d with
    | zero =>
      intro i hi
      refine Ev.step (fun k => perigeeref10_carried.l0.eq_2 ..) ?_
      simp only [if_neg (show ¬ (i : Int) < (b.length : Int) by omega)]
      refine Ev.eq_to (Ev.now _) ?_
      rw [List.take_of_length_le (by omega)]
    | succ d ih =>
      intro i hi
      have hi' : i < b.length := by omega
      have hn := ih (i + 1) (by omega)
      have ha := hb _ (List.getElem_mem hi')
      rw [← rdI_get hi'] at ha
      have hcb := carr_bd hl s (b.take i) (fun a h => hb a (List.mem_of_mem_take h))
      have hct : ((b.take i).length : Int) * 10000000000000 ≤ 100 * 10000000000000 := Int.mul_le_mul_of_nonneg_right (by rw [List.length_take]; omega) (by omega)
      have hw := perigeeref10_whole_ev (hl.at ha.1 ha.2)
      have hwb := wholeV_bd (hl.at ha.1 ha.2)
      have e1 : carr l s (b.take (i + 1)) = carr l s (b.take i) + (if (rd_T55 l (rd b (i : Int))).f0 = s then wholeV (rd_T55 l (rd b (i : Int))) else 0) := by
        rw [List.take_succ_eq_append_getElem hi', carr_append, ← rdI_get hi', carr, carr]
        omega
      have e2 : anyB l s (b.take (i + 1)) = (anyB l s (b.take i) || decide ((rd_T55 l (rd b (i : Int))).f0 = s)) := by
        unfold anyB
        rw [List.take_succ_eq_append_getElem hi', List.any_append, ← rdI_get hi']
        simp
      rw [e1, e2] at hn
      refine Ev.step (fun k => perigeeref10_carried.l0.eq_2 ..) ?_
      simp only [if_pos (show (i : Int) < (b.length : Int) by omega), if_pos (show (0 : Int) ≤ (i : Int) by omega), if_pos ha.1, if_pos ha.2, w64 (x := (i : Int) + 1) (by omega) (by omega)]
      by_cases c : (rd_T55 l (rd b (i : Int))).f0 = s
      · rw [if_pos c, decide_eq_true c, Bool.or_true] at hn
        simp only [if_pos (same_str.2 c)]
        refine Ev.bind hw ?_
        simp only [w64 (x := carr l s (b.take i) + wholeV (rd_T55 l (rd b (i : Int)))) (by omega) (by omega)]
        exact hn
      · rw [if_neg c, decide_eq_false c, Bool.or_false, Int.add_zero] at hn
        simp only [if_neg (fun q => c (same_str.1 q))]
        exact hn
  exact main b.length 0 (by omega)
theorem stationsV_mem (l : List S55) : ∀ n : Nat, n ≤ l.length → ∀ x : ByteArray, x ∈ stationsV l n ↔ ∃ j : Nat, j < n ∧ (rd_T55 l (j : Int)).f0 = x
  | 0, _, x => by simp [stationsV]
  | n + 1, hn, x => by
    obtain ⟨h1, _, _, _⟩ := stationsV_spec l n (by omega)
    obtain ⟨_, g2, _⟩ := putV_spec (s := (rd_T55 l n).f0) h1 (stationsV l n).length (Nat.le_refl _) (fun x hx => by simp at hx)
    show x ∈ putV (stationsV l n) (rd_T55 l n).f0 (stationsV l n).length ↔ _
    rw [g2, stationsV_mem l n (by omega)]
    constructor
    · rintro (⟨j, h, e⟩ | rfl)
      · exact ⟨j, by omega, e⟩
      · exact ⟨n, by omega, rfl⟩
    · rintro ⟨j, h, e⟩
      by_cases c : j = n
      · exact .inr (by rw [← e, c])
      · exact .inl ⟨j, by omega, e⟩
theorem eq_of_sorted {x y : List ByteArray} (hx : x.Pairwise Lt) (hy : y.Pairwise Lt) (h : ∀ s, s ∈ x ↔ s ∈ y) : x = y := by
  have nd : ∀ {z : List ByteArray}, z.Pairwise Lt → z.Nodup := fun hz => List.Pairwise.imp (S := (· ≠ ·)) (by intro a b h e; subst e; exact Lt_irrefl h) hz
  exact List.Perm.eq_of_pairwise (le := Lt) (fun a b _ _ h1 h2 => absurd (Lt_trans h1 h2) Lt_irrefl) hx hy ((List.perm_ext_iff_of_nodup (nd hx) (nd hy)).2 h)
theorem Names.nodup {m : MapD} (h : Names m) : ((Go.strKeys m).mergeSort Go.leB).Nodup := by
  obtain ⟨es, he, hp⟩ := h.tidy
  have hk := h.keys es he
  refine (List.mergeSort_perm _ _).nodup_iff.2 ?_
  rw [he]
  show (es.map fun p => Go.strOf p.1).Nodup
  refine List.pairwise_map.2 (hp.imp_of_mem fun {p q} hp' hq' hne e => hne ?_)
  obtain ⟨a, ha⟩ := hk p hp'
  obtain ⟨b, hb⟩ := hk q hq'
  rw [ha, hb] at e ⊢
  exact congrArg _ e
theorem Names.sorted {m : MapD} (h : Names m) : (namesD m).Pairwise Lt := by
  have tr : ∀ a b c : List UInt8, Go.leB a b = true → Go.leB b c = true → Go.leB a c = true := fun a b c h1 h2 => by simp only [Go.leB, decide_eq_true_eq] at *; exact List.le_trans h1 h2
  have tot2 : ∀ a b : List UInt8, (Go.leB a b || Go.leB b a) = true := fun a b => by simp only [Go.leB, Bool.or_eq_true, decide_eq_true_eq]; exact List.le_total a b
  have h1 := List.pairwise_mergeSort tr tot2 (Go.strKeys m)
  have h2 : ((Go.strKeys m).mergeSort Go.leB).Pairwise (fun a b => Go.leB a b = true ∧ a ≠ b) := List.pairwise_and_iff.2 ⟨h1, h.nodup⟩
  unfold namesD
  refine List.pairwise_map.2 (List.Pairwise.imp ?_ h2)
  rintro a b ⟨h3, h4⟩
  rw [Lt_iff, ByteArray.toList_eq, ByteArray.toList_eq]
  simp only [Go.leB, decide_eq_true_eq] at h3
  show (toB a).data.toList < (toB b).data.toList
  rcases List.le_iff_lt_or_eq.1 h3 with h5 | h5
  · simpa [toB] using h5
  · exact absurd h5 h4
def pairsV (l : List S55) (b : List Int) : List S42 := ((stationsV l l.length).filter fun s => anyB l s b).map fun s => (⟨s, itoaP (carr l s b)⟩ : S42)
theorem pairs_same {l : List S55} {b : List Int} {m : MapD} (h : ByD l b m) (hb : ∀ a ∈ b, 0 ≤ a ∧ a < (l.length : Int)) : (namesD m).map (pairOf m) = pairsV l b := by
  have e : namesD m = (stationsV l l.length).filter fun s => anyB l s b := by
    refine eq_of_sorted h.names.sorted ((stationsV_spec l l.length (Nat.le_refl _)).1.filter _) (fun s => ?_)
    rw [h.mem, List.mem_filter, anyB_iff]
    constructor
    · rintro ⟨a, ha, e⟩
      refine ⟨(stationsV_mem l l.length (Nat.le_refl _) s).2 ⟨a.toNat, by have := hb a ha; omega, ?_⟩, a, ha, e⟩
      rw [Int.toNat_of_nonneg (hb a ha).1]
      exact e
    · rintro ⟨_, h⟩
      exact h
  unfold pairsV
  rw [e]
  refine List.map_congr_left (fun s _ => ?_)
  unfold pairOf
  rw [h.val]
theorem perigeeref10_ByStation_ev (l : List S55) (b : List Int) (hw : ∀ x ∈ l, x.f0.size ≤ 140737488351232) (hb : b.length ≤ 1152921504606846976) : Ev (fun k => perigeeref10_ByStation.f k l b) (if bothV l b = 0 then (pairsV l b, 0) else ([], bothV l b)) := by
  simp only [perigeeref10_ByStation.f]
  refine Ev.bind (perigeeref10_CheckPasses_ev l hw) ?_
  by_cases hc : checkV l = 0
  · have hl := checkV_zero hc
    have hm := hl.many
    have eb : bothV l b = bookV l b 0 := by unfold bothV; rw [if_pos hc]
    rw [eb]
    simp only [if_pos hc]
    refine Ev.bind (perigeeref10_checkNumbers_ev l hl.many b hb) ?_
    by_cases h : bookV l b 0 = 0
    · have hg := bookV_good h
      have hgm := hg.many
      have hin : ∀ a ∈ b, 0 ≤ a ∧ a < (l.length : Int) := fun a ha => by
        obtain ⟨i, hi, rfl⟩ := List.getElem_of_mem ha
        have := hg.inside i hi
        rwa [rdI_get hi] at this
      simp only [if_pos h]
      refine Ev.bind (perigeeref10_stations_ev l hm) ?_
      obtain ⟨N, hN⟩ : ∃ N, N = stationsV l l.length := ⟨_, rfl⟩
      have hNl : N.length ≤ 100 := by rw [hN]; have := (stationsV_spec l l.length (Nat.le_refl _)).2.2.1; omega
      unfold pairsV
      rw [← hN]
      have main : ∀ d i : Nat, i + d = N.length → Ev (fun k => perigeeref10_ByStation.l0 k l b (((N.take i).filter fun s => anyB l s b).map fun s => (⟨s, itoaP (carr l s b)⟩ : S42)) N (i : Int)) ((N.filter fun s => anyB l s b).map (fun s => (⟨s, itoaP (carr l s b)⟩ : S42)), (0 : Int)) := by
        intro d
        induction d with
        | zero =>
          intro i hi
          refine Ev.step (fun k => perigeeref10_ByStation.l0.eq_2 ..) ?_
          simp only [if_neg (show ¬ (i : Int) < (N.length : Int) by omega)]
          refine Ev.eq_to (Ev.now _) ?_
          rw [List.take_of_length_le (by omega)]
        | succ d ih =>
          intro i hi
          have hi' : i < N.length := by omega
          have hn := ih (i + 1) (by omega)
          have hrd : rdOf ByteArray.empty N (i : Int) = N[i] := by
            unfold rdOf
            simp [List.getD_eq_getElem?_getD, List.getElem?_eq_getElem hi']
          have hcb := carr_bd hl N[i] b hin
          have hct : (b.length : Int) * 10000000000000 ≤ 100 * 10000000000000 := Int.mul_le_mul_of_nonneg_right (by omega) (by omega)
          rw [List.take_succ_eq_append_getElem hi', List.filter_append, List.map_append] at hn
          refine Ev.step (fun k => perigeeref10_ByStation.l0.eq_2 ..) ?_
          simp only [if_pos (show (i : Int) < (N.length : Int) by omega), if_pos (show (0 : Int) ≤ (i : Int) by omega), w64 (x := (i : Int) + 1) (by omega) (by omega), hrd]
          refine Ev.bind (perigeeref10_carried_ev hl hin (by omega) N[i]) ?_
          have hlen : (((N.take i).filter fun s => anyB l s b).map fun s => (⟨s, itoaP (carr l s b)⟩ : S42)).length < 4398046511104 := by
            rw [List.length_map]
            have := List.length_filter_le (fun s => anyB l s b) (N.take i)
            rw [List.length_take] at this
            omega
          cases ha : anyB l N[i] b with
          | true =>
            simp only [List.filter_cons, ha, if_true, List.filter_nil, List.map_cons, List.map_nil] at hn
            have hit : strconv_Itoa.f (carr l N[i] b) = some (itoaP (carr l N[i] b)) := if_pos ⟨by omega, by omega⟩
            simp only [if_true, hit, Option.bind_some, if_pos hlen]
            exact hn
          | false =>
            simp only [List.filter_cons, ha, if_neg Bool.false_ne_true, List.filter_nil, List.map_nil, List.append_nil] at hn
            simp only [if_neg Bool.false_ne_true]
            exact hn
      exact main N.length 0 (by omega)
    · simp only [if_neg h]
      exact Ev.now _
  · have eb : bothV l b = checkV l := by unfold bothV; rw [if_neg hc]
    rw [eb]
    simp only [if_neg hc]
    exact Ev.now _
theorem u64_small {n : Nat} (h : n ≤ 1000) : IntKind.u64.wrap (n : Int) = (n : Int) := by
  simp [IntKind.wrap, IntKind.bits, IntKind.signed]
  omega
theorem tmod_two (y : Nat) : Int.tmod (y : Int) 2 = ((y % 2 : Nat) : Int) := by
  rw [Int.tmod_eq_emod_of_nonneg (by omega)]
  omega
theorem perigeeref10_chosen_ev (q n : Nat) (hn : n ≤ 12) : Ev (fun k => perigeeref10_chosen.f k (q : Int) (n : Int)) (bitsTo q n) := by
  simp only [perigeeref10_chosen.f]
  have main : ∀ d i : Nat, i + d = n → Ev (fun k => perigeeref10_chosen.l0 k (q : Int) (n : Int) (bitsTo q i) (i : Int)) (bitsTo q n) := by
    intro d
    induction d with
    | zero =>
      intro i hi
      obtain rfl : i = n := by omega
      refine Ev.step (fun k => perigeeref10_chosen.l0.eq_2 ..) ?_
      simp only [if_neg (show ¬ (i : Int) < (i : Int) by omega)]
      exact Ev.now _
    | succ d ih =>
      intro i hi
      have hb := ih (i + 1) (by omega)
      have hlen := bitsTo_len q i
      refine Ev.step (fun k => perigeeref10_chosen.l0.eq_2 ..) ?_
      simp only [if_pos (show (i : Int) < (n : Int) by omega), u64_small (n := i) (by omega), if_pos (show (0 : Int) ≤ (i : Int) by omega), shr_nat (q := q) (i := i) (by omega), tmod_two, w64 (x := (i : Int) + 1) (by omega) (by omega), if_pos (show (bitsTo q i).length < 17592186044416 by omega)]
      rw [bitsTo] at hb
      by_cases c : q / 2 ^ i % 2 = 1
      · simp only [if_pos c] at hb
        simp only [if_pos (show ((q / 2 ^ i % 2 : Nat) : Int) = 1 by omega)]
        exact hb
      · simp only [if_neg c, List.append_nil] at hb
        simp only [if_neg (show ¬ ((q / 2 ^ i % 2 : Nat) : Int) = 1 by omega)]
        exact hb
  exact main n 0 (by omega)
theorem fairP_append (l : List S55) : ∀ (x y : List (List Int)) (b : S80) (wv : Int), fairP l (x ++ y) b wv = fairP l y (fairP l x b wv).1 (fairP l x b wv).2
  | [], y, b, wv => by rw [List.nil_append, fairP]
  | s :: x, y, b, wv => by
    rw [List.cons_append, fairP, fairP]
    split
    · exact fairP_append l x y _ _
    · exact fairP_append l x y _ _
noncomputable def upF (l : List S55) (gap : Int) (q : Nat) : S80 × Int := fairP l (BK l gap q) (⟨[], 0⟩ : S80) (-1)
theorem fairP_len {l : List S55} {gap : Int} (hl : GoodPasses l) : ∀ (bs : List (List Int)) (b : S80) (wv : Int), (∀ s ∈ bs, Ok l gap s) → b.f0.length ≤ 100 → (fairP l bs b wv).1.f0.length ≤ 100
  | [], b, wv, _, h => by rw [fairP]; exact h
  | s :: r, b, wv, hs, h => by
    rw [fairP]
    have h1 := ((hs s (List.mem_cons_self ..)).tot hl).1
    split
    · exact fairP_len hl r _ _ (fun x hx => hs x (List.mem_cons_of_mem _ hx)) h1
    · exact fairP_len hl r _ _ (fun x hx => hs x (List.mem_cons_of_mem _ hx)) h
/-- the least over the names is the least over the passes -/
theorem least_names {l : List S55} (b : List Int) : lgo (fun j => carr l (rdOf ByteArray.empty (stationsV l l.length) (j : Int)) b) (stationsV l l.length).length 0 0 = leastV l b := by
  have hm := stationsV_mem l l.length (Nat.le_refl _)
  have hrd : ∀ j : Nat, (hj : j < (stationsV l l.length).length) → rdOf ByteArray.empty (stationsV l l.length) (j : Int) = (stationsV l l.length)[j] := fun j hj => by
    unfold rdOf
    simp [List.getD_eq_getElem?_getD, List.getElem?_eq_getElem hj]
  by_cases h : l.length = 0
  · have e : stationsV l l.length = [] := by
      cases hs : stationsV l l.length with
      | nil => rfl
      | cons x r =>
        obtain ⟨j, hj, _⟩ := (hm x).1 (by rw [hs]; exact List.mem_cons_self ..)
        omega
    rw [leastV_nil h, e]
    rfl
  · have hne : (stationsV l l.length).length ≠ 0 := fun q => by
      have := (hm (rd_T55 l ((0 : Nat) : Int)).f0).2 ⟨0, by omega, rfl⟩
      rw [List.eq_nil_of_length_eq_zero q] at this
      exact List.not_mem_nil this
    obtain ⟨⟨j1, h1, e1⟩, h2⟩ := lgo_spec (fun j => carr l (rdOf ByteArray.empty (stationsV l l.length) (j : Int)) b) (stationsV l l.length).length (stationsV l l.length).length 0 0 (by omega) (fun q => absurd rfl q) hne
    obtain ⟨⟨j2, h3, e3⟩, h4⟩ := leastV_spec h b
    have a1 : leastV l b ≤ lgo (fun j => carr l (rdOf ByteArray.empty (stationsV l l.length) (j : Int)) b) (stationsV l l.length).length 0 0 := by
      rw [e1]
      show leastV l b ≤ carr l (rdOf ByteArray.empty (stationsV l l.length) (j1 : Int)) b
      rw [hrd j1 h1]
      obtain ⟨j, hj, e⟩ := (hm _).1 (List.getElem_mem h1)
      rw [← e]
      exact h4 j hj
    have a2 : lgo (fun j => carr l (rdOf ByteArray.empty (stationsV l l.length) (j : Int)) b) (stationsV l l.length).length 0 0 ≤ leastV l b := by
      rw [e3]
      obtain ⟨i, hi, e⟩ := List.getElem_of_mem ((hm (rd_T55 l (j2 : Int)).f0).2 ⟨j2, h3, rfl⟩)
      have := h2 i hi
      simp only [hrd i hi, e] at this
      exact this
    omega
theorem perigeeref10_Fair_l1 {l : List S55} (hl : GoodPasses l) {gap : Int} (h0 : gapF l gap = 0) (hn : l.length ≤ 12) {q : Nat} (hq : q < 4096) {b : S80} {wv : Int} (hb : b.f0.length ≤ 100) (hok : Ok l gap (bitsTo q l.length)) {r : List Int × Int × Bool × Int}
    (h : Ev (fun k => perigeeref10_Fair.l0 k l gap (stationsV l l.length) (fairP l [bitsTo q l.length] b wv).2 ((q : Int) + 1) (fairP l [bitsTo q l.length] b wv).1.f0 (fairP l [bitsTo q l.length] b wv).1.f1) r) :
    ∀ d i : Nat, i + d = (stationsV l l.length).length → ∀ le : Int, lgo (fun j => carr l (rdOf ByteArray.empty (stationsV l l.length) (j : Int)) (bitsTo q l.length)) d i le = leastV l (bitsTo q l.length) → Ev (fun k => perigeeref10_Fair.l1 k l gap (stationsV l l.length) wv (q : Int) (bitsTo q l.length) le (i : Int) b.f0 b.f1) r := by
  have hot := hok.tot hl
  have hN := (stationsV_spec l l.length (Nat.le_refl _)).2.2.1
  intro d
  induction d with
  | zero =>
    intro i hi le hle
    rw [lgo] at hle
    subst hle
    refine Ev.step (fun k => perigeeref10_Fair.l1.eq_2 ..) ?_
    simp only [if_neg (show ¬ (i : Int) < ((stationsV l l.length).length : Int) by omega)]
    have ht := perigeeref10_total_ev hl hok.book
    rw [totalV_all] at ht
    refine Ev.bind ht ?_
    simp only [w64 (x := (q : Int) + 1) (by omega) (by omega)]
    simp only [fairP] at h
    by_cases c1 : leastV l (bitsTo q l.length) > wv
    · simp only [if_pos (show leastV l (bitsTo q l.length) > wv ∨ (leastV l (bitsTo q l.length) = wv ∧ GoodE (tot l (bitsTo q l.length)) (bitsTo q l.length) b.f1 b.f0) from .inl c1)] at h
      simp only [if_pos c1]
      exact h
    · simp only [if_neg c1]
      by_cases c2 : leastV l (bitsTo q l.length) = wv
      · simp only [if_pos c2]
        obtain ⟨z, h4, h5, h6⟩ := betterR_is (bitsTo q l.length) b.f0 (tot l (bitsTo q l.length)) b.f1 (by omega) (by omega)
        refine Ev.bind h4 ?_
        cases z with
        | true =>
          simp only [if_true]
          simp only [if_pos (show leastV l (bitsTo q l.length) > wv ∨ (leastV l (bitsTo q l.length) = wv ∧ GoodE (tot l (bitsTo q l.length)) (bitsTo q l.length) b.f1 b.f0) from .inr ⟨c2, h5 rfl⟩)] at h
          exact h
        | false =>
          simp only [if_neg Bool.false_ne_true]
          by_cases c3 : leastV l (bitsTo q l.length) > wv ∨ (leastV l (bitsTo q l.length) = wv ∧ GoodE (tot l (bitsTo q l.length)) (bitsTo q l.length) b.f1 b.f0)
          · simp only [if_pos c3] at h
            rcases c3 with c3 | ⟨_, c3⟩
            · exact absurd c3 c1
            · obtain ⟨e1, e2⟩ := GoodE.antisymm c3 (h6 rfl)
              rw [← c2, ← e1, ← e2]
              exact h
          · simp only [if_neg c3] at h
            exact h
      · simp only [if_neg c2]
        have c3 : ¬ (leastV l (bitsTo q l.length) > wv ∨ (leastV l (bitsTo q l.length) = wv ∧ GoodE (tot l (bitsTo q l.length)) (bitsTo q l.length) b.f1 b.f0)) := by
          rintro (z | ⟨z, _⟩)
          · exact c1 z
          · exact c2 z
        simp only [if_neg c3] at h
        exact h
  | succ d ih =>
    intro i hi le hle
    rw [lgo] at hle
    have hn' := ih (i + 1) (by omega) _ hle
    refine Ev.step (fun k => perigeeref10_Fair.l1.eq_2 ..) ?_
    simp only [if_pos (show (i : Int) < ((stationsV l l.length).length : Int) by omega), if_pos (show (0 : Int) ≤ (i : Int) by omega), w64 (x := (i : Int) + 1) (by omega) (by omega)]
    refine Ev.bind (perigeeref10_carried_ev hl hok.inside hot.1 (rdOf ByteArray.empty (stationsV l l.length) (i : Int))) ?_
    by_cases z0 : i = 0
    · simp only [if_pos (show (i : Int) = 0 by omega)]
      simp only [if_pos (show i = 0 ∨ carr l (rdOf ByteArray.empty (stationsV l l.length) (i : Int)) (bitsTo q l.length) < le from .inl z0)] at hn'
      exact hn'
    · simp only [if_neg (show ¬ (i : Int) = 0 by omega)]
      by_cases z1 : carr l (rdOf ByteArray.empty (stationsV l l.length) (i : Int)) (bitsTo q l.length) < le
      · simp only [if_pos z1]
        simp only [if_pos (show i = 0 ∨ carr l (rdOf ByteArray.empty (stationsV l l.length) (i : Int)) (bitsTo q l.length) < le from .inr z1)] at hn'
        exact hn'
      · simp only [if_neg z1]
        simp only [if_neg (show ¬ (i = 0 ∨ carr l (rdOf ByteArray.empty (stationsV l l.length) (i : Int)) (bitsTo q l.length) < le) from fun z => z.elim z0 z1)] at hn'
        exact hn'
theorem perigeeref10_Fair_ev (l : List S55) (gap : Int) (hw : ∀ x ∈ l, x.f0.size ≤ 140737488351232) : Ev (fun k => perigeeref10_Fair.f k l gap) (fairV l gap) := by
  simp only [perigeeref10_Fair.f]
  refine Ev.bind (perigeeref10_CheckPasses_ev l hw) ?_
  unfold fairV
  by_cases hc : checkV l = 0
  · have hl := checkV_zero hc
    simp only [if_pos hc]
    by_cases hg : 0 ≤ gap ∧ gap ≤ 10000000
    · have h := gapF_zero.2 ⟨hc, hg⟩
      simp only [perigeeref10_gapOK_eq, decide_eq_true hg, Option.bind_some, if_true, if_pos h]
      by_cases hn : l.length > 12
      · simp only [if_pos (show (l.length : Int) > 12 by omega), if_pos hn]
        exact Ev.now _
      · simp only [if_neg (show ¬ (l.length : Int) > 12 by omega), if_neg hn]
        refine Ev.bind (perigeeref10_stations_ev l hl.many) ?_
        have hp := pow_bd (n := l.length) (by omega)
        have main : ∀ d q : Nat, q + d = 2 ^ l.length → Ev (fun k => perigeeref10_Fair.l0 k l gap (stationsV l l.length) (upF l gap q).2 (q : Int) (upF l gap q).1.f0 (upF l gap q).1.f1) ((fairR l gap).1.f0, (fairR l gap).2, true, 0) := by
          intro d
          induction d with
          | zero =>
            intro q hq
            refine Ev.step (fun k => perigeeref10_Fair.l0.eq_2 ..) ?_
            simp only [u64_small (n := l.length) (by omega), if_pos (show (0 : Int) ≤ (l.length : Int) by omega), shl_nat (n := l.length) (by omega), if_neg (show ¬ (q : Int) < ((2 ^ l.length : Nat) : Int) by omega)]
            refine Ev.eq_to (Ev.now _) ?_
            have e : q = 2 ^ l.length := by omega
            rw [e]
            rfl
          | succ d ih =>
            intro q hq
            have hnx := ih (q + 1) (by omega)
            have hq4 : q < 4096 := by omega
            have hlen := fairP_len (gap := gap) hl (BK l gap q) (⟨[], 0⟩ : S80) (-1) (fun s hs => BK_mem h _ hs) (Nat.zero_le _)
            refine Ev.step (fun k => perigeeref10_Fair.l0.eq_2 ..) ?_
            simp only [u64_small (n := l.length) (by omega), if_pos (show (0 : Int) ≤ (l.length : Int) by omega), shl_nat (n := l.length) (by omega), if_pos (show (q : Int) < ((2 ^ l.length : Nat) : Int) by omega)]
            refine Ev.bind (perigeeref10_chosen_ev q l.length (by omega)) ?_
            refine Ev.bind (perigeeref10_apart_ev hl hg (bits_book l q)) ?_
            have eup : upF l gap (q + 1) = fairP l (if clashV l gap (bitsTo q l.length) 0 = true then [] else [bitsTo q l.length]) (upF l gap q).1 (upF l gap q).2 := by
              unfold upF
              rw [BK, fairP_append]
            rw [eup] at hnx
            cases hcl : clashV l gap (bitsTo q l.length) 0 with
            | true =>
              rw [hcl] at hnx
              simp only [if_true, fairP] at hnx
              simp only [Bool.not_true, if_neg Bool.false_ne_true, w64 (x := (q : Int) + 1) (by omega) (by omega)]
              exact hnx
            | false =>
              rw [hcl] at hnx
              simp only [if_neg Bool.false_ne_true] at hnx
              simp only [Bool.not_false, if_true]
              exact perigeeref10_Fair_l1 hl h (by omega) hq4 hlen ((ok_clash h (bits_book l q)).1 hcl) hnx _ 0 (by omega) 0 (least_names _)
        exact main (2 ^ l.length) 0 (by omega)
    · have e : gapF l gap = 1 := by unfold gapF firstV firstV; simp [hc, hg]
      simp only [perigeeref10_gapOK_eq, decide_eq_false hg, Option.bind_some, if_neg Bool.false_ne_true, e]
      exact Ev.now _
  · have e : gapF l gap = checkV l := by unfold gapF firstV; simp [hc]
    have e2 : ¬ gapF l gap = 0 := by rw [e]; exact hc
    simp only [if_neg hc, if_neg e2, e]
    exact Ev.now _
end Go.Proofs.YtbngmblgkkdhpaaDoor.Q
