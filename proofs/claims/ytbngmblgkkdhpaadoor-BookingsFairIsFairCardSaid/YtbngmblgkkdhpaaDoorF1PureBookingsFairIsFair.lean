/- Of no right booking the station that has least has more than by the fair one, and this carries no more than the best: for all passes, gaps and bookings. -/
-- Made by wip/tools/claimp.py of this session's texts; Lean checks it.
import Derived.Test.YtbngmblgkkdhpaaDoorF1Fair
import Derived.Test.YtbngmblgkkdhpaaDoorF1StBookingsFairIsFair
import Derived.Lib.ItoaNum
import Derived.Lib.Atoi
import Derived.Test.YtbngmblgkkdhpaaDoorF1L6
import Derived.Test.YtbngmblgkkdhpaaDoorF1Gd5
import Derived.Test.YtbngmblgkkdhpaaDoorF1Gd13
import Derived.Test.YtbngmblgkkdhpaaDoorF1Gd12
import Derived.Test.YtbngmblgkkdhpaaDoorF1Gd10
set_option linter.unusedVariables false
set_option linter.unusedSimpArgs false
namespace Go.Proofs.YtbngmblgkkdhpaaDoor.Q
open Go.RowKit Go.Proofs.YtbngmblgkkdhpaaDoorW.PrintWords Go.Proofs.YtbngmblgkkdhpaaDoorW.PrintLast Go.Proofs.YtbngmblgkkdhpaaDoorW.PrintMore Go.Proofs.YtbngmblgkkdhpaaDoor.Base
theorem decFrom_app : ∀ (l r : List UInt8) (acc : Nat), Lib.decFrom acc (l ++ r) = (Lib.decFrom acc l).bind fun a => Lib.decFrom a r
  | [], r, acc => rfl
  | b :: l, r, acc => by
    show Lib.decFrom acc (b :: (l ++ r)) = (Lib.decFrom acc (b :: l)).bind _
    simp only [Lib.decFrom]
    cases Lib.digitVal b with
    | none => rfl
    | some d => exact decFrom_app l r _
theorem digit_byte {d : Nat} (h : d < 10) : (UInt8.ofNat (48 + d)).toNat = 48 + d := by
  rw [UInt8.toNat_ofNat']
  omega
theorem digit_val {d : Nat} (h : d < 10) : Lib.digitVal (UInt8.ofNat (48 + d)) = some d := by
  unfold Lib.digitVal
  rw [digit_byte h, if_pos (by omega)]
  congr 1
  omega
theorem dec_small {u : Nat} (h : u < 10) : Lib.decDigits u = [UInt8.ofNat (48 + u)] := by rw [Lib.decDigits, dif_pos h]
theorem dec_big {u : Nat} (h : ¬ u < 10) : Lib.decDigits u = Lib.decDigits (u / 10) ++ [UInt8.ofNat (48 + u % 10)] := by rw [Lib.decDigits, dif_neg h]
theorem dec_from (u : Nat) : Lib.decFrom 0 (Lib.decDigits u) = some u := by
  induction u using Nat.strongRecOn with
  | _ u ih =>
    by_cases h : u < 10
    · rw [dec_small h]
      unfold Lib.decFrom
      rw [digit_val h]
      show Lib.decFrom (0 * 10 + u) [] = some u
      unfold Lib.decFrom
      congr 1
      omega
    · rw [dec_big h, decFrom_app, ih (u / 10) (by omega), Option.bind_some]
      unfold Lib.decFrom
      rw [digit_val (by omega)]
      show Lib.decFrom (u / 10 * 10 + u % 10) [] = some u
      unfold Lib.decFrom
      congr 1
      omega
theorem dec_len (k : Nat) : ∀ u : Nat, u < 10 ^ (k + 1) → (Lib.decDigits u).length ≤ k + 1 := by
  induction k with
  | zero =>
    intro u h
    rw [dec_small (by omega)]
    exact Nat.le_refl _
  | succ k ih =>
    intro u h
    by_cases h1 : u < 10
    · rw [dec_small h1]
      simp
    · rw [dec_big h1, List.length_append]
      have := ih (u / 10) (by rw [Nat.div_lt_iff_lt_mul (by omega)]; rw [← Nat.pow_succ]; exact h)
      simp only [List.length_cons, List.length_nil]
      omega
theorem dec_head (u : Nat) : ∃ b r, Lib.decDigits u = b :: r ∧ 48 ≤ b.toNat := by
  induction u using Nat.strongRecOn with
  | _ u ih =>
    by_cases h : u < 10
    · refine ⟨_, _, dec_small h, ?_⟩
      rw [digit_byte h]
      omega
    · obtain ⟨b, r, e, hb⟩ := ih (u / 10) (by omega)
      refine ⟨b, r ++ [UInt8.ofNat (48 + u % 10)], ?_, hb⟩
      rw [dec_big h, e]
      rfl
theorem atoi_itoa {n : Int} (h0 : 0 ≤ n) (h1 : n ≤ 1000000000000000) : strconv_Atoi.f (itoaP n) = some (n, none) := by
  have e0 : Lib.itoa n = Lib.decDigits n.toNat := by
    unfold Lib.itoa
    rw [if_neg (by omega)]
  have hsz : (itoaP n).size = (Lib.decDigits n.toNat).length := by
    unfold itoaP
    rw [e0]
    exact List.size_toArray ..
  have hl := dec_len 15 n.toNat (by
    have : (10 : Nat) ^ 16 = 10000000000000000 := by decide
    omega)
  have e1 : (itoaP n).data.toList = Lib.decDigits n.toNat := by
    unfold itoaP
    rw [e0]
  unfold strconv_Atoi.f
  rw [if_pos (by omega), e1]
  obtain ⟨b, r, e, hb⟩ := dec_head n.toNat
  have hn := dec_from n.toNat
  rw [e] at hn ⊢
  unfold Lib.atoi
  have e2 : (b == 45) = false := by
    rw [beq_eq_false_iff_ne]
    rintro rfl
    revert hb
    decide
  have e3 : (b == 43) = false := by
    rw [beq_eq_false_iff_ne]
    rintro rfl
    revert hb
    decide
  simp only [e2, e3, if_neg (show ¬ (false = true) by decide)]
  unfold Lib.decNat
  simp only [List.isEmpty_cons, if_neg (show ¬ (false = true) by decide), hn]
  simp
  omega
theorem str_same {s t : ByteArray} : s.toList = t.toList ↔ s = t := by
  constructor
  · intro h
    rw [ByteArray.toList_eq, ByteArray.toList_eq] at h
    exact bytes_inj h
  · rintro rfl
    rfl
theorem rdQ_at {m : MapD} {j : Nat} (hj : j < (namesD m).length) : rd_T42 ((namesD m).map (pairOf m)) (j : Int) = pairOf m (namesD m)[j] := by
  unfold rd_T42
  simp [List.getD_eq_getElem?_getD, List.getElem?_map, List.getElem?_eq_getElem hj]
open Classical in
theorem worst_l1 {l : List S55} (hl : GoodPasses l) {b : List Int} {m : MapD} (h : ByD l b m) (hb : ∀ a ∈ b, 0 ≤ a ∧ a < l.length) (hlen : b.length ≤ 100) (hnames : (namesD m).length ≤ 1000) {i : Nat} (hi : i < l.length) {x7 r : Int}
    (hn : Ev (fun k => perigeelaw10_worst.l0 k l ((namesD m).map (pairOf m)) (if x7 < 0 ∨ carr l (rd_T55 l (i : Int)).f0 b < x7 then carr l (rd_T55 l (i : Int)).f0 b else x7) ((i : Int) + 1)) r) :
    ∀ d j : Nat, j + d = (namesD m).length → Ev (fun k => perigeelaw10_worst.l1 k l ((namesD m).map (pairOf m)) x7 (i : Int) (if (rd_T55 l (i : Int)).f0 ∈ (namesD m).take j then carr l (rd_T55 l (i : Int)).f0 b else 0) (j : Int)) r := by
  intro d
  have hm := hl.many
  induction d with
  | zero =>
    intro j hj
    refine Ev.step (fun k => perigeelaw10_worst.l1.eq_2 ..) ?_
    have hc : (if (rd_T55 l (i : Int)).f0 ∈ (namesD m).take j then carr l (rd_T55 l (i : Int)).f0 b else 0) = carr l (rd_T55 l (i : Int)).f0 b := by
      rw [List.take_of_length_le (by omega)]
      by_cases q : (rd_T55 l (i : Int)).f0 ∈ namesD m
      · rw [if_pos q]
      · rw [if_neg q, carr_none (fun q2 => q ((h.mem _).2 q2))]
    simp only [List.length_map, if_neg (show ¬ (j : Int) < ((namesD m).length : Int) by omega), hc, w64 (x := (i : Int) + 1) (by omega) (by omega)]
    by_cases c1 : x7 < 0
    · simp only [if_pos c1]
      simp only [if_pos (show x7 < 0 ∨ carr l (rd_T55 l (i : Int)).f0 b < x7 from .inl c1)] at hn
      exact hn
    · simp only [if_neg c1]
      by_cases c2 : carr l (rd_T55 l (i : Int)).f0 b < x7
      · simp only [if_pos c2]
        simp only [if_pos (show x7 < 0 ∨ carr l (rd_T55 l (i : Int)).f0 b < x7 from .inr c2)] at hn
        exact hn
      · simp only [if_neg c2]
        simp only [if_neg (show ¬ (x7 < 0 ∨ carr l (rd_T55 l (i : Int)).f0 b < x7) from fun q => q.elim c1 c2)] at hn
        exact hn
  | succ d ih =>
    intro j hj
    have hj' : j < (namesD m).length := by omega
    have hn' := ih (j + 1) (by omega)
    refine Ev.step (fun k => perigeelaw10_worst.l1.eq_2 ..) ?_
    simp only [List.length_map, if_pos (show (j : Int) < ((namesD m).length : Int) by omega), if_pos (show (0 : Int) ≤ (j : Int) by omega), if_pos (show (0 : Int) ≤ (i : Int) by omega), if_pos (show (i : Int) < (l.length : Int) by omega), w64 (x := (j : Int) + 1) (by omega) (by omega), rdQ_at hj']
    obtain ⟨s, hs⟩ : ∃ s, s = (namesD m)[j] := ⟨_, rfl⟩
    have hmem : ∀ x, x ∈ (namesD m).take (j + 1) ↔ x ∈ (namesD m).take j ∨ x = s := fun x => by
      rw [List.take_succ_eq_append_getElem hj', List.mem_append, List.mem_singleton, hs]
    rw [← hs]
    have hcb := carr_bd hl s b hb
    have : (b.length : Int) * 10000000000000 ≤ 100 * 10000000000000 := Int.mul_le_mul_of_nonneg_right (by omega) (by omega)
    have hat : strconv_Atoi.f (pairOf m s).f1 = some (carr l s b, none) := by
      show strconv_Atoi.f (itoaP (valD m s)) = _
      rw [h.val]
      exact atoi_itoa hcb.1 (by omega)
    by_cases c : s = (rd_T55 l (i : Int)).f0
    · simp only [if_pos (show (pairOf m s).f0.toList = (rd_T55 l (i : Int)).f0.toList from str_same.2 c), hat, Option.bind_some]
      simp only [if_pos (show (rd_T55 l (i : Int)).f0 ∈ (namesD m).take (j + 1) from (hmem _).2 (.inr c.symm))] at hn'
      rw [c]
      exact hn'
    · simp only [if_neg (show ¬ (pairOf m s).f0.toList = (rd_T55 l (i : Int)).f0.toList from fun q => c (str_same.1 q))]
      have e : (if (rd_T55 l (i : Int)).f0 ∈ (namesD m).take (j + 1) then carr l (rd_T55 l (i : Int)).f0 b else 0) = (if (rd_T55 l (i : Int)).f0 ∈ (namesD m).take j then carr l (rd_T55 l (i : Int)).f0 b else 0) := by
        by_cases q : (rd_T55 l (i : Int)).f0 ∈ (namesD m).take j
        · rw [if_pos q, if_pos ((hmem _).2 (.inl q))]
        · rw [if_neg q, if_neg (fun q2 => ((hmem _).1 q2).elim q (fun q3 => c q3.symm))]
      rw [e] at hn'
      exact hn'
open Classical in
theorem worst_l0 {l : List S55} (hl : GoodPasses l) {b : List Int} {m : MapD} (h : ByD l b m) (hb : ∀ a ∈ b, 0 ≤ a ∧ a < l.length) (hlen : b.length ≤ 100) (hnames : (namesD m).length ≤ 1000) :
    ∀ d i : Nat, i + d = l.length → ∀ le x7 : Int, (i = 0 → x7 = -1) → (i ≠ 0 → x7 = le ∧ 0 ≤ le) → Ev (fun k => perigeelaw10_worst.l0 k l ((namesD m).map (pairOf m)) x7 (i : Int)) (mx (if l.length = 0 then -1 else lgo (fun j => carr l (rd_T55 l (j : Int)).f0 b) d i le) 0) := by
  have hm := hl.many
  intro d
  induction d with
  | zero =>
    intro i hi le x7 h0 h1
    refine Ev.step (fun k => perigeelaw10_worst.l0.eq_2 ..) ?_
    simp only [if_neg (show ¬ (i : Int) < (l.length : Int) by omega)]
    refine Ev.eq_to (Ev.now _) ?_
    by_cases c : l.length = 0
    · rw [if_pos c, h0 (by omega)]
    · rw [if_neg c, (h1 (by omega)).1]
      rfl
  | succ d ih =>
    intro i hi le x7 h0 h1
    have hil : i < l.length := by omega
    have hc := (carr_bd hl (rd_T55 l (i : Int)).f0 b hb).1
    refine Ev.step (fun k => perigeelaw10_worst.l0.eq_2 ..) ?_
    simp only [if_pos (show (i : Int) < (l.length : Int) by omega)]
    obtain ⟨c, hcc⟩ : ∃ c, c = carr l (rd_T55 l (i : Int)).f0 b := ⟨_, rfl⟩
    have hnx := ih (i + 1) (by omega) (if i = 0 ∨ c < le then c else le) (if x7 < 0 ∨ c < x7 then c else x7) (fun q => by omega) (fun _ => by
      by_cases q : i = 0
      · have := h0 q
        rw [if_pos (.inl (by omega)), if_pos (.inl q)]
        exact ⟨rfl, by omega⟩
      · obtain ⟨e1, e2⟩ := h1 q
        rw [e1]
        by_cases q2 : c < le
        · rw [if_pos (.inr q2), if_pos (.inr q2)]; exact ⟨rfl, by omega⟩
        · rw [if_neg (by omega), if_neg (by omega)]; exact ⟨rfl, e2⟩)
    have hw := worst_l1 hl h hb hlen hnames hil (x7 := x7) (by rw [← hcc]; exact hnx) (namesD m).length 0 (by omega)
    simp only [List.take_zero, List.not_mem_nil, if_false] at hw
    refine Ev.eq_to hw ?_
    rw [lgo, ← hcc]
theorem worst_ev (l : List S55) (b : List Int) (hb : b.length ≤ 1152921504606846976) : Ev (fun k => perigeelaw10_worst.f k l b) (if bothV l b = 0 then leastV l b else -1) := by
  simp only [perigeelaw10_worst.f]
  obtain ⟨m, h1, h2⟩ := contact_ByStation_ev l b hb
  refine Ev.bind h1 ?_
  by_cases h : bothV l b = 0
  · obtain ⟨hl, hg⟩ := bothV_zero h
    have hm := hg.many
    have hlm := hl.many
    have hin : ∀ a ∈ b, 0 ≤ a ∧ a < l.length := fun a ha => by
      obtain ⟨i, hi, rfl⟩ := List.getElem_of_mem ha
      have := hg.inside i hi
      rwa [rdI_get hi] at this
    have hD := h2 h
    have hnl : (namesD m).length ≤ 1000 := by
      have hnd : (namesD m).Nodup := by
        obtain ⟨es, he, hp⟩ := hD.names.tidy
        have hk := hD.names.keys es he
        have hn : ((Go.strKeys m).mergeSort Go.leB).Nodup := by
          refine (List.mergeSort_perm _ _).nodup_iff.2 ?_
          rw [he]
          show (es.map fun p => Go.strOf p.1).Nodup
          refine List.pairwise_map.2 (hp.imp_of_mem fun {p q} hp' hq' hne e => hne ?_)
          obtain ⟨a, ha⟩ := hk p hp'
          obtain ⟨b, hb⟩ := hk q hq'
          rw [ha, hb] at e ⊢
          exact congrArg _ e
        unfold namesD
        refine List.pairwise_map.2 (List.Pairwise.imp ?_ hn)
        intro x y hne q
        apply hne
        have : (toB x).data.toList = (toB y).data.toList := by rw [q]
        simpa [toB] using this
      have hsub : (namesD m) ⊆ b.map (fun a => (rd_T55 l a).f0) := fun s hs => by
        obtain ⟨a, ha, e⟩ := (hD.mem s).1 hs
        exact List.mem_map.2 ⟨a, ha, e⟩
      have := List.Nodup.length_le_of_subset hnd hsub
      rw [List.length_map] at this
      omega
    simp only [if_pos h, if_true]
    refine Ev.eq_to (worst_l0 hl hD hin (by omega) hnl l.length 0 (by omega) 0 (-1) (fun _ => rfl) (fun q => absurd rfl q)) ?_
    by_cases c : l.length = 0
    · rw [if_pos c, leastV_nil c]
      rfl
    · rw [if_neg c]
      have := (leastV_bd hl hin).1
      unfold leastV at this ⊢
      unfold mx
      split <;> omega
  · simp only [if_neg h]
    exact Ev.now _
theorem fairP_spec {l : List S55} {gap : Int} : ∀ (bs : List (List Int)) (b : S80) (wv : Int), (∀ s ∈ bs, Ok l gap s) → ((wv = -1) ∨ (Choice l gap b ∧ wv = leastV l b.f0)) → (∀ s ∈ bs, -1 < leastV l s) →
    ((fairP l bs b wv).2 = -1 ∧ bs = [] ∧ wv = -1 ∨ (Choice l gap (fairP l bs b wv).1 ∧ (fairP l bs b wv).2 = leastV l (fairP l bs b wv).1.f0)) ∧ wv ≤ (fairP l bs b wv).2 ∧ ∀ s ∈ bs, leastV l s ≤ (fairP l bs b wv).2
  | [], b, wv, _, h, _ => by
    simp only [fairP]
    refine ⟨?_, Int.le_refl _, fun s hs => (List.not_mem_nil hs).elim⟩
    rcases h with h | h
    · exact .inl ⟨h, by first | rfl | trivial, h⟩
    · exact .inr h
  | s :: r, b, wv, hs, h, hp => by
    have hso := hs s (List.mem_cons_self ..)
    have hsp := hp s (List.mem_cons_self ..)
    rw [fairP]
    by_cases c : leastV l s > wv ∨ (leastV l s = wv ∧ GoodE (tot l s) s b.f1 b.f0)
    · rw [if_pos c]
      obtain ⟨h1, h2, h3⟩ := fairP_spec r ⟨s, tot l s⟩ (leastV l s) (fun x hx => hs x (List.mem_cons_of_mem _ hx)) (.inr ⟨⟨hso, rfl⟩, rfl⟩) (fun x hx => hp x (List.mem_cons_of_mem _ hx))
      refine ⟨?_, by rcases c with c | ⟨c, _⟩ <;> omega, fun x hx => ?_⟩
      · rcases h1 with ⟨q1, q2, q3⟩ | h1
        · omega
        · exact .inr h1
      · rcases List.mem_cons.1 hx with rfl | hx
        · exact h2
        · exact h3 x hx
    · rw [if_neg c]
      have hle : leastV l s ≤ wv := by
        by_cases q : leastV l s > wv
        · exact absurd (.inl q) c
        · omega
      obtain ⟨h1, h2, h3⟩ := fairP_spec r b wv (fun x hx => hs x (List.mem_cons_of_mem _ hx)) h (fun x hx => hp x (List.mem_cons_of_mem _ hx))
      refine ⟨?_, h2, fun x hx => ?_⟩
      · rcases h1 with ⟨q1, q2, q3⟩ | h1
        · omega
        · exact .inr h1
      · rcases List.mem_cons.1 hx with rfl | hx
        · omega
        · exact h3 x hx
theorem BookingsFairIsFair_pure : perigeelaw10_BookingsFairIsFair.Pure := by
  intro l gap b _ _ hb8
  have hbl : b.length ≤ 1152921504606846976 := by have := hb8.1; omega
  refine Ev.rounds ?_
  simp only [perigeelaw10_BookingsFairIsFair.f]
  have aw : Ev (fun k => (perigeelaw10_awake.f k).bind fun t => some t) true := Ev.bind (f := fun _ t => some t) perigeelaw10_awake_ev (Ev.now true)
  refine Ev.bind (contact_Fair_ev l gap) ?_
  unfold fairV
  by_cases h : gapF l gap = 0
  · obtain ⟨hc, hg⟩ := gapF_zero.1 h
    have hl := checkV_zero hc
    simp only [if_pos h]
    by_cases hn : l.length > 12
    · simp only [if_pos hn, if_true]
      refine Ev.step (fun k => perigeelaw10_BookingsFairIsFair.j0.eq_2 ..) ?_
      simp only [Bool.not_false, if_true, List.length_nil, Int.natCast_zero, if_neg Bool.false_ne_true, if_pos (show (l.length : Int) > 12 by omega)]
      exact aw
    · simp only [if_neg hn, if_true]
      have hpos : ∀ s ∈ BK l gap (2 ^ l.length), -1 < leastV l s := fun s hs => by
        have := (leastV_bd hl (BK_mem h _ hs).inside).1
        omega
      obtain ⟨h1, _, h3⟩ := fairP_spec (BK l gap (2 ^ l.length)) (⟨[], 0⟩ : S80) (-1) (fun s hs => BK_mem h _ hs) (.inl rfl) hpos
      have hnil := BK_all h (Ok.nil l gap)
      have hch : Choice l gap (fairR l gap).1 ∧ (fairR l gap).2 = leastV l (fairR l gap).1.f0 := by
        rcases h1 with ⟨_, q, _⟩ | h1
        · rw [q] at hnil
          exact (List.not_mem_nil hnil).elim
        · exact h1
      have hmost : ∀ s, Ok l gap s → leastV l s ≤ (fairR l gap).2 := fun s hs => h3 s (BK_all h hs)
      generalize fairR l gap = R at hch hmost
      obtain ⟨⟨hOk, hcar⟩, hle⟩ := hch
      have hOt := hOk.tot hl
      have hboth : ∀ s, Ok l gap s → bothV l s = 0 := fun s hs => by
        unfold bothV
        rw [if_pos hc, bookV_of hs.book s.length 0 (by omega)]
      refine Ev.step (fun k => perigeelaw10_BookingsFairIsFair.j0.eq_2 ..) ?_
      simp only [Bool.not_true, if_neg Bool.false_ne_true]
      have hE2 := contact_CheckBooking_ev l gap R.1.f0 (by omega)
      rw [(ok_iff h).2 hOk] at hE2
      refine Ev.bind hE2 ?_
      simp only [if_true]
      have hW := worst_ev l R.1.f0 (by omega)
      rw [if_pos (hboth _ hOk)] at hW
      refine Ev.bind hW ?_
      refine Ev.step (fun k => perigeelaw10_BookingsFairIsFair.j1.eq_2 ..) ?_
      simp only [← hle, bne_self_eq_false, if_neg Bool.false_ne_true]
      obtain ⟨a, q1, q2⟩ := best_is2 l gap
      refine Ev.bind q1 ?_
      have hB := q2 h
      have hT : TotalV l R.1.f0 = (R.1.f1, 0) := by
        unfold TotalV
        rw [if_pos (hboth _ hOk), totalV_all, hcar]
      have hE := contact_Total_ev l R.1.f0 (by omega)
      rw [hT] at hE
      refine Ev.bind hE ?_
      have hgood := hB.all R.1.f0 hOk (fun x hx => (hOk.inside x hx).2)
      have hno : ¬ R.1.f1 > a.f1 := by
        unfold GoodL GoodE at hgood
        rw [← hcar] at hgood
        rcases hgood with q | ⟨q, _⟩ <;> omega
      simp only [if_pos h, if_true, decide_eq_false hno]
      refine Ev.step (fun k => perigeelaw10_BookingsFairIsFair.j2.eq_2 ..) ?_
      simp only [if_neg Bool.false_ne_true]
      refine Ev.bind (contact_CheckBooking_ev l gap b hbl) ?_
      by_cases hk : bookingV l gap b = 0
      · have hOb := (ok_iff h).1 hk
        simp only [if_pos hk]
        have hWb := worst_ev l b hbl
        rw [if_pos (hboth _ hOb)] at hWb
        refine Ev.bind hWb ?_
        simp only [if_pos (hmost b hOb)]
        exact aw
      · simp only [if_neg hk]
        exact aw
  · simp only [if_neg h]
    refine Ev.step (fun k => perigeelaw10_BookingsFairIsFair.j0.eq_2 ..) ?_
    simp only [if_true, List.length_nil, Int.natCast_zero, if_neg Bool.false_ne_true, if_neg h]
    exact aw
end Go.Proofs.YtbngmblgkkdhpaaDoor.Q
namespace Go.Proofs.YtbngmblgkkdhpaaDoor.Pure
theorem BookingsFairIsFair : Q.perigeelaw10_BookingsFairIsFair.Pure := Q.BookingsFairIsFair_pure
end Go.Proofs.YtbngmblgkkdhpaaDoor.Pure
