/- Uplinked gives the same bytes and the same error as the reference, for every key, counter, number and lines; and the one command 'clean' takes 31 bytes. -/
-- Made by wip/tools/claimp.py of this session's texts; Lean checks it.
import Derived.Test.YthmdnmfocnchkaaC1Up
import Derived.Test.YthmdnmfocnchkaaC1StCraftUplinkedMatchesSpec
set_option linter.unusedVariables false
set_option linter.unusedSimpArgs false
namespace Go.Proofs.Ythmdnmfocnchkaa.Q
open Go.RowKit Go.Proofs.YthmdnmfocnchkaaW.PrintWords Go.Proofs.YthmdnmfocnchkaaW.PrintLast Go.Proofs.YthmdnmfocnchkaaW.PrintMore Go.Proofs.Ythmdnmfocnchkaa.Base
def sgdV (key counter : Int) (o : List Int) : List Int × Int :=
  if 0 ≤ key ∧ key ≤ 1000000000000000 ∧ 0 ≤ counter ∧ counter ≤ 1000000000 then (if o.length = 0 then ([], 9) else if o.length > 200 then ([], 2) else ((eightL (IntKind.u64.wrap counter) ++ o) ++ eightL (signV key (eightL (IntKind.u64.wrap counter) ++ o)), 0)) else ([], 1)
theorem checkBody_val (o : List Int) : command_checkBody.f o = some (if o.length = 0 then 9 else if o.length > 200 then 2 else 0) ∧ perigeeref5_checkBody.f o = some (if o.length = 0 then 9 else if o.length > 200 then 2 else 0) := by
  unfold command_checkBody.f perigeeref5_checkBody.f
  by_cases e0 : o.length = 0
  · simp only [if_pos e0, if_pos (show (o.length : Int) = 0 by omega)]; (constructor <;> first | trivial | rfl)
  · simp only [if_neg e0, if_neg (show ¬ (o.length : Int) = 0 by omega)]
    by_cases e1 : o.length > 200
    · simp only [if_pos e1, if_pos (show (o.length : Int) > 200 by omega)]; (constructor <;> first | trivial | rfl)
    · simp only [if_neg e1, if_neg (show ¬ (o.length : Int) > 200 by omega)]; (constructor <;> first | trivial | rfl)
theorem range_val (x a b : Int) : kit_Range.f x a b = some (if a ≤ x ∧ x ≤ b then 0 else 1) := by
  unfold kit_Range.f kit_In.f
  by_cases h1 : a ≤ x
  · by_cases h2 : x ≤ b
    · simp [h1, h2]
    · simp [h1, h2]
  · simp [h1]
theorem within_val (x a b : Int) : perigeeref5_within.f x a b = some (decide (a ≤ x ∧ x ≤ b)) := by
  unfold perigeeref5_within.f
  by_cases h1 : a ≤ x <;> simp [h1]
theorem first3 (a b c : Int) : Ev (fun k => kit_First.f k [a, b, c]) (if a = 0 then (if b = 0 then c else b) else a) := by
  refine ⟨5, fun k hk => ?_⟩
  obtain ⟨j, rfl⟩ : ∃ j, k = j + 5 := ⟨k - 5, by omega⟩
  by_cases ha : a = 0
  · by_cases hb : b = 0
    · by_cases hc : c = 0 <;> simp [kit_First.f, kit_First.l0, rd, wrap64, ha, hb, hc]
    · simp [kit_First.f, kit_First.l0, rd, wrap64, ha, hb]
  · simp [kit_First.f, kit_First.l0, rd, wrap64, ha]
theorem body_ok {o : List Int} (h : (if o.length = 0 then (9 : Int) else if o.length > 200 then 2 else 0) = 0) : o.length ≤ 200 := by
  revert h; repeat split
  all_goals (intro h; omega)
theorem sgd_body {o : List Int} (h : ¬ (if o.length = 0 then (9 : Int) else if o.length > 200 then 2 else 0) = 0) (y : List Int) : (([] : List Int), (if o.length = 0 then (9 : Int) else if o.length > 200 then 2 else 0)) = (if o.length = 0 then ([], 9) else if o.length > 200 then ([], 2) else (y, 0)) := by
  by_cases e0 : o.length = 0
  · simp [e0]
  · by_cases e1 : o.length > 200
    · simp [e0, e1]
    · simp [e0, e1] at h
theorem sgd_ok {o : List Int} (h : (if o.length = 0 then (9 : Int) else if o.length > 200 then 2 else 0) = 0) (y : List Int) : (y, (0 : Int)) = (if o.length = 0 then ([], 9) else if o.length > 200 then ([], 2) else (y, 0)) := by
  by_cases e0 : o.length = 0
  · simp [e0] at h
  · by_cases e1 : o.length > 200
    · simp [e0, e1] at h
    · simp [e0, e1]
theorem command_Signed_ev (key counter : Int) (o : List Int) : Ev (fun k => command_Signed.f k key counter o) (sgdV key counter o) := by
  unfold command_Signed.f
  simp only [range_val, Option.bind_some, (checkBody_val o).1]
  refine Ev.bind (first3 _ _ _) ?_
  unfold sgdV
  by_cases h1 : 0 ≤ key ∧ key ≤ 1000000000000000
  · by_cases h2 : 0 ≤ counter ∧ counter ≤ 1000000000
    · rw [if_pos (show 0 ≤ key ∧ key ≤ 1000000000000000 ∧ 0 ≤ counter ∧ counter ≤ 1000000000 from ⟨h1.1, h1.2, h2.1, h2.2⟩)]
      simp only [if_pos h1, if_pos h2, if_true]
      refine Ev.ite (fun hb => ?_) (fun hb => ?_)
      · have hl := body_ok hb
        refine Ev.bind (command_eight_ev _) ?_
        simp only [if_pos (show (eightL (IntKind.u64.wrap counter)).length + o.length < 140737488355328 by rw [eightL_len]; omega), Option.bind_some]
        refine Ev.bind (command_sign_ev key _ (by rw [List.length_append, eightL_len]; omega)) ?_
        refine Ev.bind (command_eight_ev _) ?_
        simp only [List.length_append, eightL_len, if_pos (show 8 + o.length + 8 < 140737488355328 by omega)]
        exact Ev.is (sgd_ok hb _)
      · exact Ev.is (sgd_body hb _)
    · rw [if_neg (show ¬ (0 ≤ key ∧ key ≤ 1000000000000000 ∧ 0 ≤ counter ∧ counter ≤ 1000000000) from fun h => h2 ⟨h.2.2.1, h.2.2.2⟩)]
      simp only [if_pos h1, if_neg h2, if_true, if_neg (show ¬ (1 : Int) = 0 by decide)]
      exact Ev.now _
  · rw [if_neg (show ¬ (0 ≤ key ∧ key ≤ 1000000000000000 ∧ 0 ≤ counter ∧ counter ≤ 1000000000) from fun h => h1 ⟨h.1, h.2.1⟩)]
    simp only [if_neg h1, if_neg (show ¬ (1 : Int) = 0 by decide)]
    exact Ev.now _
theorem perigeeref5_Signed_j0 (key counter : Int) (o : List Int) (b : Bool) (hb : b = !(decide (0 ≤ key ∧ key ≤ 1000000000000000 ∧ 0 ≤ counter ∧ counter ≤ 1000000000))) : Ev (fun k => perigeeref5_Signed.j0 k key counter o b) (sgdV key counter o) := by
  refine Ev.step (fun k => perigeeref5_Signed.j0.eq_2 ..) ?_
  unfold sgdV
  by_cases h : 0 ≤ key ∧ key ≤ 1000000000000000 ∧ 0 ≤ counter ∧ counter ≤ 1000000000
  · rw [if_pos h]
    have hb2 : b = false := by rw [hb, decide_eq_true h]; rfl
    subst hb2
    simp only [if_neg (show ¬ (false = true) by decide), (checkBody_val o).2, Option.bind_some]
    refine Ev.ite (fun hb => ?_) (fun hb => ?_)
    · have hl := body_ok hb
      refine Ev.bind (perigeeref5_eight_ev _) ?_
      simp only [if_pos (show (eightL (IntKind.u64.wrap counter)).length + o.length < 140737488355328 by rw [eightL_len]; omega), Option.bind_some]
      refine Ev.bind (perigeeref5_sign_ev key _ (by rw [List.length_append, eightL_len]; omega)) ?_
      refine Ev.bind (perigeeref5_eight_ev _) ?_
      simp only [List.length_append, eightL_len, if_pos (show 8 + o.length + 8 < 140737488355328 by omega)]
      exact Ev.is (sgd_ok hb _)
    · exact Ev.is (sgd_body hb _)
  · rw [if_neg h]
    have hb2 : b = true := by rw [hb, decide_eq_false h]; rfl
    subst hb2
    simp only [if_true]
    exact Ev.now _
theorem perigeeref5_Signed_ev (key counter : Int) (o : List Int) : Ev (fun k => perigeeref5_Signed.f k key counter o) (sgdV key counter o) := by
  unfold perigeeref5_Signed.f
  simp only [within_val, Option.bind_some]
  by_cases h1 : 0 ≤ key ∧ key ≤ 1000000000000000
  · simp only [decide_eq_true h1, if_true]
    refine perigeeref5_Signed_j0 key counter o _ ?_
    congr 1
    simp [h1.1, h1.2]
  · simp only [decide_eq_false h1, if_neg (show ¬ (false = true) by decide)]
    refine perigeeref5_Signed_j0 key counter o _ ?_
    rw [decide_eq_false (fun h => h1 ⟨h.1, h.2.1⟩)]; rfl
theorem sgdV_ok {key counter : Int} {o : List Int} (ho : BytesL o) (h : (sgdV key counter o).2 = 0) : (0 ≤ counter ∧ counter ≤ 1000000000) ∧ BytesL (sgdV key counter o).1 ∧ (sgdV key counter o).1.length = o.length + 16 ∧ 0 < o.length ∧ o.length ≤ 200 := by
  unfold sgdV at h ⊢
  by_cases h1 : 0 ≤ key ∧ key ≤ 1000000000000000 ∧ 0 ≤ counter ∧ counter ≤ 1000000000
  · simp only [if_pos h1] at h ⊢
    by_cases e0 : o.length = 0
    · simp [e0] at h
    · by_cases e1 : o.length > 200
      · simp [e0, e1] at h
      · simp only [if_neg e0, if_neg e1]
        refine ⟨⟨h1.2.2.1, h1.2.2.2⟩, ((BytesL.eight _).app ho).app (BytesL.eight _), ?_, by omega, by omega⟩
        simp only [List.length_append, eightL_len]; omega
  · simp [if_neg h1] at h
def pktV (n : Int) (b : List Int) : List Int := (twoL 4097 ++ twoL (49152 + n) ++ twoL ((b.length : Int) + 1) ++ b) ++ twoL (crcV (twoL 4097 ++ twoL (49152 + n) ++ twoL ((b.length : Int) + 1) ++ b))
theorem twoL_len (x : Int) : (twoL x).length = 2 := rfl
theorem two_val (x : Int) : packet_two.f x = some (twoL x) ∧ perigeeref1_two.f x = some (twoL x) := ⟨rfl, rfl⟩
theorem in_true {x a b : Int} (h1 : a ≤ x) (h2 : x ≤ b) : kit_In.f x a b = some true ∧ perigeeref1_within.f x a b = some true := by
  unfold kit_In.f perigeeref1_within.f
  simp [h1, h2]
theorem packet_Bytes_ev {n : Int} (h0 : 0 ≤ n) (h1 : n ≤ 16383) {b : List Int} (hb : BytesL b) (hl : 0 < b.length) (hl2 : b.length ≤ 1000) : Ev (fun k => packet_Bytes.f k 1 true 3 n b) (pktV n b, 0) := by
  unfold packet_Bytes.f packet_CheckPacket.f
  simp only [(in_true (x := 1) (a := 0) (b := 2047) (by omega) (by omega)).1, (in_true (x := 3) (a := 0) (b := 3) (by omega) (by omega)).1, (in_true (x := n) (a := 0) (b := 16383) h0 h1).1, Option.bind_some, if_true, if_neg (show ¬ (b.length : Int) = 0 by omega), if_neg (show ¬ (b.length : Int) > 1000 by omega)]
  refine Ev.bind (a := pktV n b) ?_ (Ev.now _)
  unfold packet_raw.f
  simp only [if_true]
  refine Ev.step (fun k => packet_raw.j0.eq_2 ..) ?_
  simp only [(two_val _).1, Option.bind_some, twoL_len, List.length_append, show wrap64 (1 + 4096) = 4097 by rw [w64 (by omega) (by omega)]; rfl, show wrap64 (3 * 16384) = 49152 by rw [w64 (by omega) (by omega)]; rfl, w64 (x := 49152 + n) (by omega) (by omega), w64 (x := (b.length : Int) + 1) (by omega) (by omega)]
  refine Ev.ite (fun _ => ?_) (fun h => absurd (by omega) h)
  refine Ev.ite (fun _ => ?_) (fun h => absurd (by omega) h)
  refine Ev.ite (fun _ => ?_) (fun h => absurd (by omega) h)
  refine Ev.bind (a := pktV n b) ?_ (Ev.now _)
  unfold packet_summed.f
  refine Ev.bind (packet_Sum_ev _ ((((BytesL.two _).app (BytesL.two _)).app (BytesL.two _)).app hb) (by simp only [List.length_append, twoL_len]; omega)) ?_
  simp only [(two_val _).1, Option.bind_some, twoL_len, List.length_append]
  exact Ev.ite (fun _ => Ev.now _) (fun h => absurd (by omega) h)
theorem perigeeref1_Bytes_ev {n : Int} (h0 : 0 ≤ n) (h1 : n ≤ 16383) {b : List Int} (hb : BytesL b) (hl : 0 < b.length) (hl2 : b.length ≤ 1000) : Ev (fun k => perigeeref1_Bytes.f k 1 true 3 n b) (pktV n b, 0) := by
  unfold perigeeref1_Bytes.f perigeeref1_CheckPacket.f
  simp only [(in_true (x := 1) (a := 0) (b := 2047) (by omega) (by omega)).2, (in_true (x := 3) (a := 0) (b := 3) (by omega) (by omega)).2, (in_true (x := n) (a := 0) (b := 16383) h0 h1).2, Option.bind_some, if_true, if_neg (show ¬ (b.length : Int) = 0 by omega), if_neg (show ¬ (b.length : Int) > 1000 by omega)]
  refine Ev.bind (a := pktV n b) ?_ (Ev.now _)
  unfold perigeeref1_packetBytes.f
  simp only [if_true]
  refine Ev.step (fun k => perigeeref1_packetBytes.j0.eq_2 ..) ?_
  simp only [(two_val _).2, Option.bind_some, show wrap64 (1 + 4096) = 4097 by rw [w64 (by omega) (by omega)]; rfl, show wrap64 (3 * 16384) = 49152 by rw [w64 (by omega) (by omega)]; rfl, w64 (x := 49152 + n) (by omega) (by omega), w64 (x := (b.length : Int) + 1) (by omega) (by omega), cat4 (twoL 4097) (twoL (49152 + n)) (twoL ((b.length : Int) + 1)) b (by simp only [List.length_append, twoL_len]; omega)]
  refine Ev.bind (perigeeref1_Sum_ev _ ((((BytesL.two _).app (BytesL.two _)).app (BytesL.two _)).app hb) (by simp only [List.length_append, twoL_len]; omega)) ?_
  simp only [(two_val _).2, Option.bind_some, twoL_len, List.length_append]
  exact Ev.ite (fun _ => Ev.now _) (fun h => absurd (by omega) h)
def upV (key counter number : Int) (lines : List ByteArray) : Nat → Nat → List (List Int) → List (List Int) × Int
  | 0, _, out => (out, 0)
  | d + 1, i, out =>
    let o := ordV (Int.tmod (number + i) 256) (bytesOf (rdOf ByteArray.empty lines (i : Int)))
    if o.2 = 0 then
      (if counter > 1000000000 then ([], 1) else
        let g := sgdV key (counter + i) o.1
        if g.2 = 0 then upV key counter number lines d (i + 1) (out ++ [pktV (Int.tmod (counter + i) 16384) g.1]) else ([], g.2))
    else ([], o.2)
theorem ordV_bytes {n : Int} (h0 : 0 ≤ n) (h1 : n ≤ 255) {b : List Int} (hb : BytesL b) : BytesL (ordV n b).1 := by
  unfold ordV
  split
  · intro x hx; cases hx
  · split
    · intro x hx; cases hx
    · intro x hx
      simp only [List.mem_cons] at hx
      rcases hx with rfl | rfl | hx
      · omega
      · omega
      · exact hb x hx
theorem tmod_in {a m : Int} (h : 0 ≤ a) (hm : 0 < m) : 0 ≤ Int.tmod a m ∧ Int.tmod a m ≤ m - 1 := by
  rw [Int.tmod_eq_emod_of_nonneg h]
  have := Int.emod_lt_of_pos a hm
  exact ⟨Int.emod_nonneg _ (by omega), by omega⟩
theorem craft_go_ev {key counter number : Int} (hc : -9223372036854775808 ≤ counter) (hn : 0 ≤ number ∧ number ≤ 255) {lines : List ByteArray} (hl : lines.length ≤ 500) (hs : ∀ y ∈ lines, y.size ≤ 140737488351232) : ∀ d i : Nat, i + d = lines.length → ∀ out : List (List Int), out.length ≤ i → Ev (fun k => craft_Uplinked.go k key counter number lines d i out) (upV key counter number lines d i out) := by
  intro d
  induction d with
  | zero => intro i _ out _; exact Ev.now _
  | succ d ih =>
    intro i hi out hout
    have hlt : i < lines.length := by omega
    have hsz : (rdOf ByteArray.empty lines (i : Int)).size < 140737488355328 := by
      have : rdOf ByteArray.empty lines (i : Int) ∈ lines := by
        unfold rdOf
        simp [List.getD_eq_getElem?_getD, List.getElem?_eq_getElem hlt]
      have := hs _ this
      omega
    have hm := tmod_in (a := number + i) (m := 256) (by omega) (by omega)
    unfold craft_Uplinked.go upV
    simp only [if_pos hsz, w64 (x := number + (i : Int)) (by omega) (by omega)]
    refine Ev.bind (command_OrderBytes_ev hm.1 (by omega) _) ?_
    have hob := ordV_bytes hm.1 (by omega) (BytesL.of (rdOf ByteArray.empty lines (i : Int)))
    generalize ordV (Int.tmod (number + i) 256) (bytesOf (rdOf ByteArray.empty lines (i : Int))) = o at hob ⊢
    by_cases ho : o.2 = 0
    · simp only [if_pos ho]
      by_cases hcn : counter > 1000000000
      · simp only [if_pos hcn]; exact Ev.now _
      · simp only [if_neg hcn, w64 (x := counter + (i : Int)) (by omega) (by omega)]
        refine Ev.bind (command_Signed_ev key (counter + i) o.1) ?_
        by_cases hg : (sgdV key (counter + i) o.1).2 = 0
        · simp only [if_pos hg]
          obtain ⟨h1, h2, h3, h4, h5⟩ := sgdV_ok hob hg
          have hm2 := tmod_in (a := counter + i) (m := 16384) h1.1 (by omega)
          refine Ev.bind (packet_Bytes_ev hm2.1 (by omega) h2 (by omega) (by omega)) ?_
          simp only [if_true, if_pos (show out.length < 4398046511104 by omega)]
          exact ih (i + 1) (by omega) _ (by rw [List.length_append]; exact Nat.add_le_add_right hout 1)
        · simp only [if_neg hg]; exact Ev.now _
    · simp only [if_neg ho]; exact Ev.now _
theorem ref_go_ev {key counter number : Int} (hc : -9223372036854775808 ≤ counter ∧ counter ≤ 9223372036854775807) (hn : 0 ≤ number ∧ number ≤ 255) {lines : List ByteArray} (hl : lines.length ≤ 500) (hs : ∀ y ∈ lines, y.size ≤ 140737488351232) : ∀ d i : Nat, i + d = lines.length → ∀ out : List (List Int), out.length ≤ i → Ev (fun k => perigeeref12_Uplinked.go k key counter number lines d i out) (upV key counter number lines d i out) := by
  intro d
  induction d with
  | zero => intro i _ out _; exact Ev.now _
  | succ d ih =>
    intro i hi out hout
    have hlt : i < lines.length := by omega
    have hsz : (rdOf ByteArray.empty lines (i : Int)).size < 140737488355328 := by
      have : rdOf ByteArray.empty lines (i : Int) ∈ lines := by
        unfold rdOf
        simp [List.getD_eq_getElem?_getD, List.getElem?_eq_getElem hlt]
      have := hs _ this
      omega
    have hm := tmod_in (a := number + i) (m := 256) (by omega) (by omega)
    unfold perigeeref12_Uplinked.go upV
    simp only [if_pos hsz, w64 (x := number + (i : Int)) (by omega) (by omega)]
    refine Ev.bind (perigeeref5_OrderBytes_ev hm.1 (by omega) _) ?_
    have hob := ordV_bytes hm.1 (by omega) (BytesL.of (rdOf ByteArray.empty lines (i : Int)))
    generalize ordV (Int.tmod (number + i) 256) (bytesOf (rdOf ByteArray.empty lines (i : Int))) = o at hob ⊢
    by_cases ho : o.2 = 0
    · simp only [if_pos ho]
      by_cases hcn : counter > 1000000000
      · simp only [if_pos hcn]
        refine Ev.bind (perigeeref5_Signed_ev key _ o.1) ?_
        have e : sgdV key (wrap64 (counter + i)) o.1 = ([], 1) := by
          unfold sgdV
          rw [if_neg (show ¬ _ from fun h => ?_)]
          have h3 := h.2.2
          unfold wrap64 at h3
          omega
        rw [e]
        exact Ev.now _
      · simp only [if_neg hcn, w64 (x := counter + (i : Int)) (by omega) (by omega)]
        refine Ev.bind (perigeeref5_Signed_ev key (counter + i) o.1) ?_
        by_cases hg : (sgdV key (counter + i) o.1).2 = 0
        · simp only [if_pos hg]
          obtain ⟨h1, h2, h3, h4, h5⟩ := sgdV_ok hob hg
          have hm2 := tmod_in (a := counter + i) (m := 16384) h1.1 (by omega)
          refine Ev.bind (perigeeref1_Bytes_ev hm2.1 (by omega) h2 (by omega) (by omega)) ?_
          simp only [if_true, if_pos (show out.length < 4398046511104 by omega)]
          exact ih (i + 1) (by omega) _ (by rw [List.length_append]; exact Nat.add_le_add_right hout 1)
        · simp only [if_neg hg]; exact Ev.now _
    · simp only [if_neg ho]; exact Ev.now _
def upF (key counter number : Int) (lines : List ByteArray) : List (List Int) × Int := if lines.length > 500 then ([], 2) else if 0 ≤ number ∧ number ≤ 255 then upV key counter number lines lines.length 0 [] else ([], 1)
theorem in_val (x a b : Int) : kit_In.f x a b = some (decide (a ≤ x ∧ x ≤ b)) ∧ perigeeref12_fromTo.f x a b = some (decide (a ≤ x ∧ x ≤ b)) := by
  unfold kit_In.f perigeeref12_fromTo.f
  by_cases h1 : a ≤ x <;> simp [h1]
theorem craft_Uplinked_ev {key counter number : Int} (hc : -9223372036854775808 ≤ counter) {lines : List ByteArray} (hs : ∀ y ∈ lines, y.size ≤ 140737488351232) : Ev (fun k => craft_Uplinked.f k key counter number lines) (upF key counter number lines) := by
  unfold craft_Uplinked.f upF
  by_cases hl : lines.length > 500
  · simp only [if_pos hl, if_pos (show (lines.length : Int) > 500 by omega)]; exact Ev.now _
  · simp only [if_neg hl, if_neg (show ¬ (lines.length : Int) > 500 by omega), (in_val _ _ _).1, Option.bind_some]
    by_cases hn : 0 ≤ number ∧ number ≤ 255
    · simp only [decide_eq_true hn, if_true, if_pos hn]
      exact craft_go_ev hc hn (by omega) hs _ 0 (Nat.zero_add _) [] (Nat.le_refl _)
    · simp only [decide_eq_false hn, if_neg (show ¬ (false = true) by decide), if_neg hn]
      exact Ev.now _
theorem ref_Uplinked_ev {key counter number : Int} (hc : -9223372036854775808 ≤ counter ∧ counter ≤ 9223372036854775807) {lines : List ByteArray} (hs : ∀ y ∈ lines, y.size ≤ 140737488351232) : Ev (fun k => perigeeref12_Uplinked.f k key counter number lines) (upF key counter number lines) := by
  unfold perigeeref12_Uplinked.f upF
  by_cases hl : lines.length > 500
  · simp only [if_pos hl, if_pos (show (lines.length : Int) > 500 by omega)]; exact Ev.now _
  · simp only [if_neg hl, if_neg (show ¬ (lines.length : Int) > 500 by omega), (in_val _ _ _).2, Option.bind_some]
    by_cases hn : 0 ≤ number ∧ number ≤ 255
    · simp only [decide_eq_true hn, if_true, if_pos hn]
      exact ref_go_ev hc hn (by omega) hs _ 0 (Nat.zero_add _) [] (Nat.le_refl _)
    · simp only [decide_eq_false hn, if_neg (show ¬ (false = true) by decide), if_neg hn]
      exact Ev.now _
/-- What Uplinked gives is short. -/
def Short (out : List (List Int)) : Prop := out.length ≤ 500 ∧ ∀ x ∈ out, x.length < 1000
theorem pktV_len (n : Int) (b : List Int) : (pktV n b).length = b.length + 8 := by
  unfold pktV
  simp only [List.length_append, twoL_len]
  omega
theorem upV_short {key counter number : Int} (hn : 0 ≤ number ∧ number ≤ 255) {lines : List ByteArray} (hl : lines.length ≤ 500) : ∀ d i : Nat, i + d = lines.length → ∀ out : List (List Int), out.length ≤ i → (∀ x ∈ out, x.length < 1000) → Short (upV key counter number lines d i out).1 := by
  intro d
  induction d with
  | zero => intro i hi out ho hx; exact ⟨by show out.length ≤ 500; omega, hx⟩
  | succ d ih =>
    intro i hi out hout hx
    have hm := tmod_in (a := number + i) (m := 256) (by omega) (by omega)
    unfold upV
    dsimp only
    have hob := ordV_bytes hm.1 (by omega) (BytesL.of (rdOf ByteArray.empty lines (i : Int)))
    have nil : Short [] := ⟨Nat.zero_le _, fun x hx => by cases hx⟩
    generalize ordV (Int.tmod (number + i) 256) (bytesOf (rdOf ByteArray.empty lines (i : Int))) = o at hob ⊢
    by_cases ho : o.2 = 0
    · simp only [if_pos ho]
      by_cases hcn : counter > 1000000000
      · simp only [if_pos hcn]; exact nil
      · simp only [if_neg hcn]
        by_cases hg : (sgdV key (counter + i) o.1).2 = 0
        · simp only [if_pos hg]
          obtain ⟨h1, h2, h3, h4, h5⟩ := sgdV_ok hob hg
          refine ih (i + 1) (by omega) _ (by rw [List.length_append]; exact Nat.add_le_add_right hout 1) ?_
          intro x hx'
          rw [List.mem_append] at hx'
          rcases hx' with h | h
          · exact hx x h
          · rw [List.mem_singleton] at h
            subst h
            rw [pktV_len]
            omega
        · simp only [if_neg hg]; exact nil
    · simp only [if_neg ho]; exact nil
theorem upF_short (key counter number : Int) (lines : List ByteArray) : Short (upF key counter number lines).1 := by
  unfold upF
  have nil : Short [] := ⟨Nat.zero_le _, fun x hx => by cases hx⟩
  split
  · exact nil
  · split
    · exact upV_short (by assumption) (by omega) _ 0 (Nat.zero_add _) [] (Nat.le_refl _) (fun x hx => by cases hx)
    · exact nil
theorem equal_l0 (l : List Int) (hl : l.length < 1000) : ∀ d i : Nat, i + d = l.length → Ev (fun k => slices_Equal_byte_byte.l0 k l l (l.length : Int) (i : Int)) true := by
  intro d
  induction d with
  | zero =>
    intro i hi
    obtain rfl : i = l.length := by omega
    refine Ev.step (fun k => slices_Equal_byte_byte.l0.eq_2 ..) ?_
    simp only [if_neg (show ¬ (l.length : Int) < (l.length : Int) by omega)]
    exact Ev.now _
  | succ d ih =>
    intro i hi
    refine Ev.step (fun k => slices_Equal_byte_byte.l0.eq_2 ..) ?_
    simp only [if_pos (show (i : Int) < (l.length : Int) by omega), if_pos (show (0 : Int) ≤ (i : Int) by omega), if_true, w64 (x := (i : Int) + 1) (by omega) (by omega)]
    exact ih (i + 1) (by omega)
theorem same_ev (l : List Int) (hl : l.length < 1000) : Ev (fun k => perigeelaw12_sameBytes.f k l l) true := by
  unfold perigeelaw12_sameBytes.f slices_Equal_byte_byte.f
  refine Ev.bind (a := true) ?_ (Ev.now _)
  simp only [if_true]
  exact equal_l0 l hl _ 0 (Nat.zero_add _)
theorem func_l0 (l : List (List Int)) (hl : Short l) : ∀ d i : Nat, i + d = l.length → Ev (fun k => slices_EqualFunc_byte_byte_byte_byte.l0 k l l (l.length : Int) (i : Int)) true := by
  have hs := hl.1
  intro d
  induction d with
  | zero =>
    intro i hi
    obtain rfl : i = l.length := by omega
    refine Ev.step (fun k => slices_EqualFunc_byte_byte_byte_byte.l0.eq_2 ..) ?_
    simp only [if_neg (show ¬ (l.length : Int) < (l.length : Int) by omega)]
    exact Ev.now _
  | succ d ih =>
    intro i hi
    have hlt : i < l.length := by omega
    refine Ev.step (fun k => slices_EqualFunc_byte_byte_byte_byte.l0.eq_2 ..) ?_
    simp only [if_pos (show (i : Int) < (l.length : Int) by omega), if_pos (show (0 : Int) ≤ (i : Int) by omega), w64 (x := (i : Int) + 1) (by omega) (by omega)]
    refine Ev.bind (same_ev _ (hl.2 _ ?_)) ?_
    · unfold rd_L3
      simp [List.getD_eq_getElem?_getD, List.getElem?_eq_getElem hlt]
    · simp only [if_true]
      exact ih (i + 1) (by omega)
theorem func_ev (l : List (List Int)) (hl : Short l) : Ev (fun k => slices_EqualFunc_byte_byte_byte_byte.f k l l) true := by
  unfold slices_EqualFunc_byte_byte_byte_byte.f
  simp only [if_true]
  exact func_l0 l hl _ 0 (Nat.zero_add _)
theorem clean_val : upF 7 1 0 [(⟨#[99, 108, 101, 97, 110]⟩ : ByteArray)] = ([pktV 1 (sgdV 7 1 [1, 0, 99, 108, 101, 97, 110]).1], 0) := by
  have hb : bytesOf (rdOf ByteArray.empty [(⟨#[99, 108, 101, 97, 110]⟩ : ByteArray)] ((0 : Nat) : Int)) = [99, 108, 101, 97, 110] := rfl
  have hg : (sgdV 7 (1 + ((0 : Nat) : Int)) [1, 0, 99, 108, 101, 97, 110]).2 = 0 := by
    unfold sgdV
    rw [if_pos (by decide)]
    simp
  unfold upF
  rw [if_neg (by simp), if_pos (by decide)]
  show upV 7 1 0 [(⟨#[99, 108, 101, 97, 110]⟩ : ByteArray)] 1 0 [] = _
  unfold upV
  dsimp only
  rw [hb]
  have ho : ordV (Int.tmod (0 + ((0 : Nat) : Int)) 256) [99, 108, 101, 97, 110] = ([1, 0, 99, 108, 101, 97, 110], 0) := rfl
  rw [ho]
  dsimp only
  rw [if_pos rfl, if_neg (by decide), if_pos hg]
  rfl
theorem clean_len : (pktV 1 (sgdV 7 1 [1, 0, 99, 108, 101, 97, 110]).1).length = 31 := by
  rw [pktV_len]
  unfold sgdV
  rw [if_pos (by decide)]
  simp [eightL_len]
theorem flies_ev : Ev (fun k => perigeelaw12_flies.f k) true := by
  unfold perigeelaw12_flies.f
  refine Ev.bind (craft_Uplinked_ev (by omega) (by intro y hy; rw [List.mem_singleton] at hy; subst hy; decide)) ?_
  rw [clean_val]
  have e : ((rd_L3 [pktV 1 (sgdV 7 1 [1, 0, 99, 108, 101, 97, 110]).1] 0).length : Int) = 31 := by
    show (((pktV 1 (sgdV 7 1 [1, 0, 99, 108, 101, 97, 110]).1).length : Nat) : Int) = 31
    rw [clean_len]
    rfl
  simp only [if_true, List.length_singleton, e]
  exact Ev.now _
theorem CraftUplinkedMatchesSpec_pure : perigeelaw12_CraftUplinkedMatchesSpec.Pure := by
  intro key counter number lines _ hc _ hl
  have hc' : -9223372036854775808 ≤ counter ∧ counter ≤ 9223372036854775807 := by
    simpa [Lit.wf, IntKind.min, IntKind.max, IntKind.signed, IntKind.bits] using hc
  refine Ev.rounds ?_
  unfold perigeelaw12_CraftUplinkedMatchesSpec.f
  refine Ev.bind (craft_Uplinked_ev hc'.1 hl.2) ?_
  refine Ev.bind (ref_Uplinked_ev hc' hl.2) ?_
  simp only [if_true]
  refine Ev.bind (func_ev _ (upF_short key counter number lines)) ?_
  simp only [if_true]
  exact Ev.bind flies_ev (Ev.now _)
end Go.Proofs.Ythmdnmfocnchkaa.Q
namespace Go.Proofs.Ythmdnmfocnchkaa.Pure
theorem CraftUplinkedMatchesSpec : Q.perigeelaw12_CraftUplinkedMatchesSpec.Pure := Q.CraftUplinkedMatchesSpec_pure
end Go.Proofs.Ythmdnmfocnchkaa.Pure
