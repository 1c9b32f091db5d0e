/- Plain laws: the reference's checks of passes and volumes answer as the program's. -/
-- Made by wip/tools/claimp.py of this session's texts; Lean checks it.
import Derived.Test.YtbngmblgkkdhpaaC8PassA
import Derived.Test.YtbngmblgkkdhpaaC8Gs13
set_option linter.unusedVariables false
set_option linter.unusedSimpArgs false
namespace Go.Proofs.Ytbngmblgkkdhpaa.Q
open Go.RowKit Go.Proofs.YtbngmblgkkdhpaaW.PrintWords Go.Proofs.YtbngmblgkkdhpaaW.PrintLast Go.Proofs.YtbngmblgkkdhpaaW.PrintMore Go.Proofs.Ytbngmblgkkdhpaa.Base
theorem perigeeref10_within_eq (a b c : Int) : perigeeref10_within.f a b c = some (decide (b ≤ a ∧ a ≤ c)) := by
  unfold perigeeref10_within.f
  by_cases h : b ≤ a <;> simp [h]
theorem perigeeref8_within_eq (a b c : Int) : perigeeref8_within.f a b c = some (decide (b ≤ a ∧ a ≤ c)) := by
  unfold perigeeref8_within.f
  by_cases h : b ≤ a <;> simp [h]
theorem perigeeref10_moment_eq (a : Int) : perigeeref10_moment.f a = some (decide (0 ≤ a ∧ a ≤ 1000000000000)) := by
  unfold perigeeref10_moment.f
  rw [perigeeref10_within_eq]
  rfl
theorem perigeeref8_IsName_l0 (s : ByteArray) (hs : s.size ≤ 9223372036854775807) : ∀ d i : Nat, i + d = s.size → Ev (fun k => perigeeref8_IsName.l0 k s (i : Int)) (namesFrom s i && decide (1 ≤ s.size ∧ s.size ≤ 40)) := by
  intro d
  induction d with
  | zero =>
    intro i hi
    refine Ev.step (fun k => perigeeref8_IsName.l0.eq_2 ..) ?_
    simp only [if_neg (show ¬ (i : Int) < (s.size : Int) by omega), perigeeref8_within_eq, Option.bind_some, namesFrom_ge (show s.size ≤ i by omega), Bool.true_and]
    have e : decide ((1 : Int) ≤ (s.size : Int) ∧ (s.size : Int) ≤ 40) = decide (1 ≤ s.size ∧ s.size ≤ 40) := by
      congr 1
      rw [eq_iff_iff]
      omega
    rw [e]
    exact Ev.now _
  | succ d ih =>
    intro i hi
    have hlt : i < s.size := by omega
    have hn := ih (i + 1) (by omega)
    rw [namesFrom_lt hlt]
    refine Ev.step (f := fun k => if byteOk i (bt s i) = true then perigeeref8_IsName.l0 k s ((i + 1 : Nat) : Int) else some false) (fun k => ?_) ?_
    · simp only [perigeeref8_IsName.l0]
      rw [if_pos (by omega), if_pos (by omega), w64 (x := (i : Int) + 1) (by omega) (by omega)]
      have hb := bt_range s i
      generalize bt s (i : Int) = c at *
      unfold byteOk
      by_cases h0 : i = 0 <;> by_cases h1 : c ≥ 97 <;> by_cases h2 : c ≤ 122 <;> by_cases h3 : c = 45 <;> by_cases h4 : c = 95 <;> by_cases h5 : c ≥ 48 <;> by_cases h6 : c ≤ 57 <;>
        simp [h0, h1, h2, h3, h4, h5, h6] <;> (try omega) <;> (try (split <;> first | rfl | omega))
    · by_cases h : byteOk i (bt s i) = true
      · simp only [h, if_true, Bool.true_and]
        exact hn
      · have h' : byteOk i (bt s i) = false := by simpa using h
        simp only [h', Bool.false_and]
        exact Ev.now _
theorem perigeeref8_IsName_ev (s : ByteArray) (hs : s.size ≤ 9223372036854775807) : Ev (fun k => perigeeref8_IsName.f k s) (nameOk s) := by
  have := perigeeref8_IsName_l0 s hs s.size 0 (by omega)
  simp only [perigeeref8_IsName.f]
  have e : nameOk s = (namesFrom s 0 && decide (1 ≤ s.size ∧ s.size ≤ 40)) := by
    unfold nameOk
    by_cases h1 : 1 ≤ s.size <;> by_cases h2 : s.size ≤ 40 <;> simp [h1, h2]
  rw [e]
  exact this
theorem perigeeref10_checkPass_l0 (p : S33) (h2 : 0 ≤ p.f2 ∧ p.f2 ≤ 1000000000000) (hs : p.f3.length ≤ 50) : ∀ d i : Nat, i + d = p.f3.length → Ev (fun k => perigeeref10_checkPass.l0 k (i : Int) p.f0 p.f1 p.f2 p.f3) (stepsV p i) := by
  intro d
  induction d with
  | zero =>
    intro i hi
    refine Ev.step (f := fun _ => some 0) (fun k => by simp only [perigeeref10_checkPass.l0]; rw [if_neg (by omega)]) ?_
    rw [stepsV_ge (by omega)]
    exact Ev.now _
  | succ d ih =>
    intro i hi
    have hlt : i < p.f3.length := by omega
    have hn := ih (i + 1) (by omega)
    rw [stepsV_lt hlt]
    have j3 : ∀ b : Bool, b = stepBad p i → Ev (fun k => perigeeref10_checkPass.j3 k (i : Int) b p.f0 p.f1 p.f2 p.f3 (rd_T75 p.f3 i).f0 (rd_T75 p.f3 i).f1) (if stepBad p i = true then 1 else if 0 < i ∧ (rd_T75 p.f3 i).f0 ≤ (rd_T75 p.f3 ((i : Int) - 1)).f0 then 8 else stepsV p (i + 1)) := by
      intro b hb
      by_cases h : stepBad p i = true
      · rw [h] at hb
        subst hb
        rw [if_pos h]
        exact Ev.step (f := fun _ => some 1) (fun k => by simp only [perigeeref10_checkPass.j3, if_true]) (Ev.now _)
      · have h' : stepBad p i = false := by simpa using h
        rw [h'] at hb
        subst hb
        rw [if_neg h]
        by_cases h0 : 0 < i
        · by_cases hle : (rd_T75 p.f3 i).f0 ≤ (rd_T75 p.f3 ((i : Int) - 1)).f0
          · rw [if_pos ⟨h0, hle⟩]
            refine Ev.step (f := fun _ => some 8) (fun k => ?_) (Ev.now _)
            simp only [perigeeref10_checkPass.j3]
            rw [w64 (x := (i : Int) - 1) (by omega) (by omega), if_neg (by simp), if_pos (by omega), if_pos (by omega), if_pos (by omega), if_pos hle]
          · rw [if_neg (fun h => hle h.2)]
            refine Ev.step (f := fun k => perigeeref10_checkPass.l0 k ((i + 1 : Nat) : Int) p.f0 p.f1 p.f2 p.f3) (fun k => ?_) hn
            simp only [perigeeref10_checkPass.j3]
            rw [w64 (x := (i : Int) - 1) (by omega) (by omega), w64 (x := (i : Int) + 1) (by omega) (by omega), if_neg (by simp), if_pos (by omega), if_pos (by omega), if_pos (by omega), if_neg hle]
            rfl
        · rw [if_neg (fun h => h0 h.1)]
          refine Ev.step (f := fun k => perigeeref10_checkPass.l0 k ((i + 1 : Nat) : Int) p.f0 p.f1 p.f2 p.f3) (fun k => ?_) hn
          simp only [perigeeref10_checkPass.j3]
          rw [w64 (x := (i : Int) + 1) (by omega) (by omega), if_neg (by simp), if_neg (by omega)]
          rfl
    have hw : wrap64 (p.f2 - 1) = p.f2 - 1 := w64 (by omega) (by omega)
    by_cases h1 : p.f1 ≤ (rd_T75 p.f3 i).f0 ∧ (rd_T75 p.f3 i).f0 ≤ p.f2 - 1
    · refine Ev.step (f := fun k => perigeeref10_checkPass.j3 k (i : Int) (!decide (0 ≤ (rd_T75 p.f3 i).f1 ∧ (rd_T75 p.f3 i).f1 ≤ 100000)) p.f0 p.f1 p.f2 p.f3 (rd_T75 p.f3 i).f0 (rd_T75 p.f3 i).f1) (fun k => ?_) (j3 _ (by simp [stepBad, h1]))
      simp only [perigeeref10_checkPass.l0]
      rw [if_pos (by omega), if_pos (by omega), perigeeref10_within_eq, hw, decide_eq_true h1]
      simp only [Option.bind_some, if_true, perigeeref10_within_eq]
    · refine Ev.step (f := fun k => perigeeref10_checkPass.j3 k (i : Int) true p.f0 p.f1 p.f2 p.f3 (rd_T75 p.f3 i).f0 (rd_T75 p.f3 i).f1) (fun k => ?_) (j3 _ (by simp [stepBad, h1]))
      simp only [perigeeref10_checkPass.l0]
      rw [if_pos (by omega), if_pos (by omega), perigeeref10_within_eq, hw, decide_eq_false h1]
      simp only [Option.bind_some, if_neg Bool.false_ne_true]
theorem perigeeref10_checkPass_ev (p : S33) (hs : p.f0.size ≤ 9223372036854775807) : Ev (fun k => perigeeref10_checkPass.f k p.f0 p.f1 p.f2 p.f3) (passV p) := by
  simp only [perigeeref10_checkPass.f]
  refine Ev.bind (perigeeref8_IsName_ev p.f0 hs) ?_
  unfold passV
  by_cases hn : nameOk p.f0 = true
  · simp only [hn, if_true, perigeeref10_moment_eq, Option.bind_some, Bool.true_eq_false, if_false]
    have j0 : ∀ b : Bool, b = decide (¬ (0 ≤ p.f1 ∧ p.f1 ≤ 1000000000000) ∨ ¬ (0 ≤ p.f2 ∧ p.f2 ≤ 1000000000000)) → Ev (fun k => perigeeref10_checkPass.j0 k b p.f0 p.f1 p.f2 p.f3) (if ¬ (0 ≤ p.f1 ∧ p.f1 ≤ 1000000000000) ∨ ¬ (0 ≤ p.f2 ∧ p.f2 ≤ 1000000000000) then 1 else if p.f2 ≤ p.f1 then 8 else if p.f2 - p.f1 > 2000000 ∨ p.f3.length > 50 then 2 else stepsV p 0) := by
      intro b hb
      by_cases hr : ¬ (0 ≤ p.f1 ∧ p.f1 ≤ 1000000000000) ∨ ¬ (0 ≤ p.f2 ∧ p.f2 ≤ 1000000000000)
      · rw [decide_eq_true hr] at hb
        subst hb
        rw [if_pos hr]
        exact Ev.step (f := fun _ => some 1) (fun k => by simp only [perigeeref10_checkPass.j0, if_true]) (Ev.now _)
      · rw [decide_eq_false hr] at hb
        subst hb
        rw [if_neg hr]
        have hw : wrap64 (p.f2 - p.f1) = p.f2 - p.f1 := w64 (by omega) (by omega)
        by_cases h1 : p.f2 ≤ p.f1
        · rw [if_pos h1]
          exact Ev.step (f := fun _ => some 8) (fun k => by simp only [perigeeref10_checkPass.j0]; rw [if_neg (by simp), if_pos h1]) (Ev.now _)
        · rw [if_neg h1]
          have j1 : ∀ b : Bool, b = decide (p.f2 - p.f1 > 2000000 ∨ p.f3.length > 50) → Ev (fun k => perigeeref10_checkPass.j1 k b p.f0 p.f1 p.f2 p.f3) (if p.f2 - p.f1 > 2000000 ∨ p.f3.length > 50 then 2 else stepsV p 0) := by
            intro b hb
            by_cases h2 : p.f2 - p.f1 > 2000000 ∨ p.f3.length > 50
            · rw [decide_eq_true h2] at hb
              subst hb
              rw [if_pos h2]
              exact Ev.step (f := fun _ => some 2) (fun k => by simp only [perigeeref10_checkPass.j1, if_true]) (Ev.now _)
            · rw [decide_eq_false h2] at hb
              subst hb
              rw [if_neg h2]
              have := perigeeref10_checkPass_l0 p (by omega) (by omega) p.f3.length 0 (by omega)
              exact Ev.step (f := fun k => perigeeref10_checkPass.l0 k ((0 : Nat) : Int) p.f0 p.f1 p.f2 p.f3) (fun k => by simp [perigeeref10_checkPass.j1]) this
          by_cases h3 : p.f2 - p.f1 > 2000000
          · refine Ev.step (f := fun k => perigeeref10_checkPass.j1 k true p.f0 p.f1 p.f2 p.f3) (fun k => by simp only [perigeeref10_checkPass.j0]; rw [if_neg (by simp), if_neg h1, hw, if_pos h3]) (j1 _ (by simp [h3]))
          · refine Ev.step (f := fun k => perigeeref10_checkPass.j1 k (decide ((p.f3.length : Int) > 50)) p.f0 p.f1 p.f2 p.f3) (fun k => by simp only [perigeeref10_checkPass.j0]; rw [if_neg (by simp), if_neg h1, hw, if_neg h3]) (j1 _ (by simp [h3]; omega))
    by_cases ha : 0 ≤ p.f1 ∧ p.f1 ≤ 1000000000000
    · simp only [ha, and_self, decide_true, if_true]
      have := j0 (!decide (0 ≤ p.f2 ∧ p.f2 ≤ 1000000000000)) (by by_cases hb : 0 ≤ p.f2 ∧ p.f2 ≤ 1000000000000 <;> simp only [ha, hb, not_true_eq_false, not_false_eq_true, false_or, decide_true, decide_false, Bool.not_true, Bool.not_false, and_self])
      simpa [ha] using this
    · simp only [ha, decide_false, if_neg Bool.false_ne_true]
      have := j0 true (by simp [ha])
      simpa [ha] using this
  · have hn' : nameOk p.f0 = false := by simpa using hn
    simp only [hn', if_neg Bool.false_ne_true, if_true]
    exact Ev.now _
def Lt (a b : ByteArray) : Prop := Op.bytesLess a.toList b.toList = true
theorem Lt_iff {a b : ByteArray} : Lt a b ↔ a.toList < b.toList := by unfold Lt; rw [less_eq]; simp
theorem toList_inj {a b : ByteArray} (h : a.toList = b.toList) : a = b := by
  rw [ByteArray.toList_eq, ByteArray.toList_eq] at h
  cases a; cases b
  simp at h
  simpa using h
theorem Lt_trans {a b c : ByteArray} (h : Lt a b) (k : Lt b c) : Lt a c := Lt_iff.2 (List.lt_trans (Lt_iff.1 h) (Lt_iff.1 k))
theorem Lt_irrefl {a : ByteArray} : ¬ Lt a a := fun h => List.lt_irrefl _ (Lt_iff.1 h)
theorem Lt_of {a b : ByteArray} (h : ¬ Lt a b) (k : a ≠ b) : Lt b a := by
  have h1 : ¬ a.toList < b.toList := fun e => h (Lt_iff.2 e)
  rcases (lt_or_eq_iff b.toList a.toList).2 h1 with h2 | h2
  · exact Lt_iff.2 h2
  · exact absurd (toList_inj h2).symm k
def putV (l : List ByteArray) (s : ByteArray) : Nat → List ByteArray
  | 0 => s :: l
  | j + 1 => if Op.bytesLess s.toList (l.getD j ByteArray.empty).toList = true then putV l s j else if (l.getD j ByteArray.empty).toList = s.toList then l else l.take (j + 1) ++ s :: l.drop (j + 1)
theorem perigeeref10_put_l0 (l : List ByteArray) (s : ByteArray) (hl : l.length ≤ 1000) : ∀ j : Nat, j ≤ l.length → Ev (fun k => perigeeref10_put.l0 k l s (j : Int)) (putV l s j) := by
  intro j
  induction j with
  | zero =>
    intro _
    refine Ev.step (fun k => perigeeref10_put.l0.eq_2 ..) ?_
    simp only [if_neg (show ¬ ((0 : Nat) : Int) > 0 by omega), if_pos (show (0 : Int) ≤ ((0 : Nat) : Int) by omega), if_pos (show ((0 : Nat) : Int) ≤ (l.length : Int) by omega), Option.bind_some]
    simp [putV, show 1 + l.length < 8796093022208 by omega, show l.length < 8796093022207 by omega]
    exact Ev.now _
  | succ j ih =>
    intro hj
    have hn := ih (by omega)
    refine Ev.step (fun k => perigeeref10_put.l0.eq_2 ..) ?_
    have e : wrap64 (((j + 1 : Nat) : Int) - 1) = (j : Int) := by rw [w64 (by omega) (by omega)]; omega
    simp only [e, if_pos (show ((j + 1 : Nat) : Int) > 0 by omega), if_pos (show (0 : Int) ≤ (j : Int) by omega), if_pos (show (j : Int) < (l.length : Int) by omega)]
    have er : rdOf ByteArray.empty l (j : Int) = l.getD j ByteArray.empty := by simp [rdOf]
    simp only [er]
    unfold putV
    by_cases h1 : Op.bytesLess s.toList (l.getD j ByteArray.empty).toList = true
    · simp only [if_pos h1]
      exact hn
    · simp only [if_neg h1]
      by_cases h2 : (l.getD j ByteArray.empty).toList = s.toList
      · simp only [if_pos h2]
        exact Ev.now _
      · simp only [if_neg h2, if_pos (show (0 : Int) ≤ ((j + 1 : Nat) : Int) by omega), if_pos (show ((j + 1 : Nat) : Int) ≤ (l.length : Int) by omega), Option.bind_some, Int.toNat_natCast]
        have t1 : (l.take (j + 1)).length ≤ l.length := by simp; omega
        have t2 : (l.drop (j + 1)).length ≤ l.length := by simp
        rw [if_pos (by simp; omega), if_pos (by simp; omega), if_pos (by simp; omega)]
        simp only [List.nil_append, List.append_assoc, List.singleton_append]
        exact Ev.now _
open Classical in
theorem putV_spec {l : List ByteArray} {s : ByteArray} (hp : l.Pairwise Lt) : ∀ j : Nat, j ≤ l.length → (∀ x ∈ l.drop j, Lt s x) →
    (putV l s j).Pairwise Lt ∧ (∀ x, x ∈ putV l s j ↔ x ∈ l ∨ x = s) ∧ (putV l s j).length = l.length + (if s ∈ l then 0 else 1) := by
  intro j
  induction j with
  | zero =>
    intro _ h
    rw [List.drop_zero] at h
    have hs : s ∉ l := fun hm => Lt_irrefl (h s hm)
    refine ⟨List.pairwise_cons.2 ⟨h, hp⟩, fun x => ?_, ?_⟩
    · simp only [putV, List.mem_cons]
      exact or_comm
    · simp [putV, hs]
  | succ j ih =>
    intro hj h
    have hlt : j < l.length := by omega
    have eg : l.getD j ByteArray.empty = l[j] := by simp [List.getD_eq_getElem?_getD, List.getElem?_eq_getElem hlt]
    unfold putV
    rw [eg]
    by_cases h1 : Op.bytesLess s.toList l[j].toList = true
    · rw [if_pos h1]
      refine ih (by omega) (fun x hx => ?_)
      rw [List.drop_eq_getElem_cons hlt] at hx
      rcases List.mem_cons.1 hx with rfl | hx
      · exact h1
      · exact h x hx
    · rw [if_neg h1]
      by_cases h2 : l[j].toList = s.toList
      · rw [if_pos h2]
        have hm : s ∈ l := by rw [← toList_inj h2]; exact List.getElem_mem hlt
        refine ⟨hp, fun x => ⟨.inl, fun hx => hx.elim id (fun e => e ▸ hm)⟩, by simp [hm]⟩
      · rw [if_neg h2]
        have hbig : Lt l[j] s := Lt_of h1 (fun e => h2 (congrArg ByteArray.toList e.symm))
        have hsplit : l.take (j + 1) ++ l.drop (j + 1) = l := List.take_append_drop _ _
        have hp2 := hp
        rw [← hsplit, List.pairwise_append] at hp2
        have hlow : ∀ x ∈ l.take (j + 1), Lt x s := by
          intro x hx
          rw [List.take_succ_eq_append_getElem hlt] at hx
          rcases List.mem_append.1 hx with hx | hx
          · have hp3 := hp
            rw [← List.take_append_drop j l, List.pairwise_append] at hp3
            refine Lt_trans (hp3.2.2 x hx l[j] ?_) hbig
            rw [List.drop_eq_getElem_cons hlt]
            exact List.mem_cons_self
          · rw [List.mem_singleton.1 hx]
            exact hbig
        have hs : s ∉ l := by
          intro hm
          rw [← hsplit] at hm
          rcases List.mem_append.1 hm with hm | hm
          · exact Lt_irrefl (hlow s hm)
          · exact Lt_irrefl (h s hm)
        refine ⟨?_, fun x => ?_, ?_⟩
        · rw [List.pairwise_append]
          refine ⟨hp2.1, List.pairwise_cons.2 ⟨h, hp2.2.1⟩, fun a ha b hb => ?_⟩
          rcases List.mem_cons.1 hb with rfl | hb
          · exact hlow a ha
          · exact hp2.2.2 a ha b hb
        · rw [List.mem_append, List.mem_cons]
          conv => rhs; rw [← hsplit, List.mem_append]
          constructor
          · rintro (h | h | h)
            · exact .inl (.inl h)
            · exact .inr h
            · exact .inl (.inr h)
          · rintro ((h | h) | h)
            · exact .inl h
            · exact .inr (.inr h)
            · exact .inr (.inl h)
        · rw [if_neg hs]
          have := congrArg List.length hsplit
          rw [List.length_append] at this
          rw [List.length_append, List.length_cons]
          omega
def stationsV (l : List S33) : Nat → List ByteArray
  | 0 => []
  | n + 1 => putV (stationsV l n) (rd_T33 l n).f0 (stationsV l n).length
open Classical in
theorem stationsV_spec (l : List S33) : ∀ n : Nat, n ≤ l.length → (stationsV l n).Pairwise Lt ∧ (stationsV l n).length = (((l.take n).map keyB).foldl Maps.addKey []).length ∧ (stationsV l n).length ≤ n ∧
    (∀ x : ByteArray, x ∈ stationsV l n ↔ (((l.take n).map keyB).foldl Maps.addKey []).any (fun y => y.sameKey (.string x.data.toList)) = true)
  | 0, _ => ⟨List.Pairwise.nil, rfl, Nat.le_refl _, fun x => by simp [stationsV]⟩
  | n + 1, hn => by
    obtain ⟨h1, h2, h3, h4⟩ := stationsV_spec l n (by omega)
    obtain ⟨g1, g2, g3⟩ := putV_spec (s := (rd_T33 l n).f0) h1 (stationsV l n).length (Nat.le_refl _) (fun x hx => by simp at hx)
    have ek : keyB (l[n]'(by omega)) = .string (rd_T33 l n).f0.data.toList := by
      unfold keyB rd_T33
      simp [List.getD_eq_getElem?_getD, List.getElem?_eq_getElem (show n < l.length by omega)]
    rw [List.take_succ_eq_append_getElem (by omega), List.map_append, List.map_cons, List.map_nil, List.foldl_append, List.foldl_cons, List.foldl_nil, ek]
    generalize ((l.take n).map keyB).foldl Maps.addKey [] = acc at *
    have hm := h4 (rd_T33 l n).f0
    show (putV (stationsV l n) (rd_T33 l n).f0 (stationsV l n).length).Pairwise Lt ∧ (putV (stationsV l n) (rd_T33 l n).f0 (stationsV l n).length).length = _ ∧ (putV (stationsV l n) (rd_T33 l n).f0 (stationsV l n).length).length ≤ _ ∧ ∀ x, x ∈ putV (stationsV l n) (rd_T33 l n).f0 (stationsV l n).length ↔ _
    refine ⟨g1, ?_, ?_, fun x => ?_⟩
    · rw [g3]
      unfold Maps.addKey
      by_cases hs : (rd_T33 l n).f0 ∈ stationsV l n
      · rw [if_pos hs, if_pos (hm.1 hs)]
        omega
      · rw [if_neg hs, if_neg (fun e => hs (hm.2 e)), List.length_append]
        simp
        omega
    · rw [g3]
      split <;> omega
    · rw [g2, h4]
      unfold Maps.addKey
      have hd : ((rd_T33 l n).f0 = x) ↔ ((rd_T33 l n).f0.data.toList = x.data.toList) := by
        constructor
        · intro e
          rw [e]
        · intro e
          exact toList_inj (by rw [ByteArray.toList_eq, ByteArray.toList_eq]; exact e)
      split
      · rename_i hc
        constructor
        · rintro (h | rfl)
          · exact h
          · exact hc
        · exact .inl
      · rename_i hc
        rw [List.any_append, Bool.or_eq_true]
        constructor
        · rintro (h | rfl)
          · exact .inl h
          · right
            simp [Lit.sameKey]
        · rintro (h | h)
          · exact .inl h
          · right
            simp only [List.any_cons, List.any_nil, Bool.or_false] at h
            have : (rd_T33 l n).f0.data.toList = x.data.toList := by simpa [Lit.sameKey] using h
            exact (hd.2 this).symm
theorem perigeeref10_stations_l0 (l : List S33) (hl : l.length ≤ 100) : ∀ d i : Nat, i + d = l.length → Ev (fun k => perigeeref10_stations.l0 k l (stationsV l i) (i : Int)) (stationsV l l.length) := by
  intro d
  induction d with
  | zero =>
    intro i hi
    obtain rfl : i = l.length := by omega
    exact Ev.step (f := fun _ => some (stationsV l l.length)) (fun k => by simp only [perigeeref10_stations.l0]; rw [if_neg (by omega)]) (Ev.now _)
  | succ d ih =>
    intro i hi
    have hn := ih (i + 1) (by omega)
    have hs := (stationsV_spec l i (by omega)).2.2.1
    refine Ev.step (fun k => perigeeref10_stations.l0.eq_2 ..) ?_
    simp only [if_pos (show (i : Int) < (l.length : Int) by omega), if_pos (show (0 : Int) ≤ (i : Int) by omega), w64 (x := (i : Int) + 1) (by omega) (by omega)]
    have hp := perigeeref10_put_l0 (stationsV l i) (rd_T33 l i).f0 (by omega) (stationsV l i).length (Nat.le_refl _)
    refine Ev.bind (g := fun k => perigeeref10_put.f k (stationsV l i) (rd_T33 l i).f0) (by simp only [perigeeref10_put.f]; exact hp) ?_
    exact hn
theorem perigeeref10_stations_ev (l : List S33) (hl : l.length ≤ 100) : Ev (fun k => perigeeref10_stations.f k l) (stationsV l l.length) := by
  simp only [perigeeref10_stations.f]
  exact perigeeref10_stations_l0 l hl l.length 0 (by omega)
theorem perigeeref10_CheckPasses_l0 (l : List S33) (hl : l.length ≤ 100) (hw : ∀ x ∈ l, x.f0.size ≤ 140737488351232) : ∀ d i : Nat, i + d = l.length → Ev (fun k => perigeeref10_CheckPasses.l0 k l (i : Int)) (passesV l i) := by
  intro d
  induction d with
  | zero =>
    intro i hi
    refine Ev.step (fun k => perigeeref10_CheckPasses.l0.eq_2 ..) ?_
    simp only [if_neg (show ¬ (i : Int) < (l.length : Int) by omega)]
    refine Ev.bind (perigeeref10_stations_ev l hl) ?_
    have e : (stationsV l l.length).length = stationsB l := by
      have := (stationsV_spec l l.length (Nat.le_refl _)).2.1
      rw [List.take_length] at this
      exact this
    rw [passesV, dif_neg (by omega)]
    simp only [e]
    by_cases h : stationsB l > 50
    · simp only [if_pos h, if_pos (show (stationsB l : Int) > 50 by omega)]
      exact Ev.now _
    · simp only [if_neg h, if_neg (show ¬ (stationsB l : Int) > 50 by omega)]
      exact Ev.now _
  | succ d ih =>
    intro i hi
    have hlt : i < l.length := by omega
    have hn := ih (i + 1) (by omega)
    have hm : rd_T33 l i ∈ l := by
      unfold rd_T33
      simp [List.getD_eq_getElem?_getD, List.getElem?_eq_getElem hlt]
    have hz := hw _ hm
    refine Ev.step (fun k => perigeeref10_CheckPasses.l0.eq_2 ..) ?_
    simp only [if_pos (show (i : Int) < (l.length : Int) by omega), if_pos (show (0 : Int) ≤ (i : Int) by omega), w64 (x := (i : Int) + 1) (by omega) (by omega)]
    refine Ev.bind (perigeeref10_checkPass_ev (rd_T33 l i) (by omega)) ?_
    rw [passesV, dif_pos hlt]
    by_cases h0 : passV (rd_T33 l i) = 0
    · simp only [h0, if_true]
      by_cases hp : 0 < i
      · have e : wrap64 ((i : Int) - 1) = (i : Int) - 1 := w64 (by omega) (by omega)
        simp only [e, if_pos (show (i : Int) > 0 by omega), if_pos (show (0 : Int) ≤ (i : Int) - 1 by omega), if_pos (show (i : Int) - 1 < (l.length : Int) by omega)]
        by_cases c1 : (rd_T33 l i).f1 < (rd_T33 l ((i : Int) - 1)).f1
        · simp only [if_pos c1]
          rw [if_pos ⟨hp, by simp [passAfter, c1]⟩]
          exact Ev.now _
        · simp only [if_neg c1]
          by_cases c2 : (rd_T33 l i).f1 = (rd_T33 l ((i : Int) - 1)).f1
          · simp only [if_pos c2]
            by_cases c3 : Op.bytesLess (rd_T33 l ((i : Int) - 1)).f0.toList (rd_T33 l i).f0.toList = true
            · simp only [if_pos c3]
              rw [if_neg (fun h => by simp [passAfter, c1, c2, c3] at h)]
              exact hn
            · simp only [if_neg c3]
              rw [if_pos ⟨hp, by simp [passAfter, c2, c3]⟩]
              exact Ev.now _
          · simp only [if_neg c2]
            rw [if_neg (fun h => by simp [passAfter, c2] at h; omega)]
            exact hn
      · simp only [if_neg (show ¬ (i : Int) > 0 by omega)]
        rw [if_neg (fun h => hp h.1)]
        exact hn
    · simp only [h0, if_false]
      exact Ev.now _
theorem perigeeref10_CheckPasses_ev (l : List S33) (hw : ∀ x ∈ l, x.f0.size ≤ 140737488351232) : Ev (fun k => perigeeref10_CheckPasses.f k l) (checkV l) := by
  unfold checkV
  simp only [perigeeref10_CheckPasses.f]
  by_cases h : l.length > 100
  · simp only [if_pos h, if_pos (show (l.length : Int) > 100 by omega)]
    exact Ev.now _
  · simp only [if_neg h, if_neg (show ¬ (l.length : Int) > 100 by omega)]
    exact perigeeref10_CheckPasses_l0 l (by omega) hw l.length 0 (by omega)
end Go.Proofs.Ytbngmblgkkdhpaa.Q
