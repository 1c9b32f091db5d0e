/- Passes written and read: a text is read as what it was written of, and what was read is told again. -/
-- Made by wip/tools/claimp.py of this session's texts; Lean checks it.
import Derived.Test.YtbngmblgkkdhpaaDoorC3Take
import Derived.Test.YtbngmblgkkdhpaaDoorC3Gd3
import Derived.Test.YtbngmblgkkdhpaaDoorC3Gd2
import Derived.Test.YtbngmblgkkdhpaaDoorC3Gd4
set_option linter.unusedVariables false
set_option linter.unusedSimpArgs false
namespace Go.Proofs.YtbngmblgkkdhpaaDoor.Q
open Go.RowKit Go.Proofs.YtbngmblgkkdhpaaDoorW.PrintWords Go.Proofs.YtbngmblgkkdhpaaDoorW.PrintLast Go.Proofs.YtbngmblgkkdhpaaDoorW.PrintMore Go.Proofs.YtbngmblgkkdhpaaDoor.Base
theorem Ev.ite {α : Type} {c : Prop} [Decidable c] {A B : Nat → Option α} {v : α} (h1 : c → Ev A v) (h2 : ¬ c → Ev B v) : Ev (fun k => if c then A k else B k) v := by
  by_cases h : c
  · simp only [if_pos h]; exact h1 h
  · simp only [if_neg h]; exact h2 h
theorem indexByte_lt (l : List UInt8) (c : UInt8) : Lib.indexByte l c < l.length := by
  induction l with
  | nil => simp [Lib.indexByte]
  | cons b l ih =>
    unfold Lib.indexByte
    split
    · simp
    · split
      · simp only [List.length_cons]; omega
      · simp only [List.length_cons]; omega
structure FitP (p : S55) : Prop where
  name : nameOk p.f0 = true
  a0 : 0 ≤ p.f1
  a1 : p.f1 ≤ 1000000000000
  b0 : 0 ≤ p.f2
  b1 : p.f2 ≤ 1000000000000
  few : p.f3.length ≤ 50
  steps : ∀ s ∈ p.f3, (0 ≤ s.f0 ∧ s.f0 ≤ 1000000000000) ∧ 0 ≤ s.f1 ∧ s.f1 ≤ 1000000000000
theorem fit_all {l : List S55} (h : checkV l = 0) : l.length ≤ 100 ∧ ∀ p ∈ l, FitP p := by
  have hg := checkV_zero h
  refine ⟨hg.many, fun p hp => ?_⟩
  obtain ⟨i, hi, e⟩ := List.getElem_of_mem hp
  have g := hg.each i hi
  have ei : rd_T55 l (i : Int) = p := by
    unfold rd_T55
    simp [List.getD_eq_getElem?_getD, List.getElem?_eq_getElem hi, e]
  rw [ei] at g
  have := g.from0
  have := g.less
  have := g.to1
  refine ⟨g.name, by omega, by omega, by omega, by omega, g.many, fun s hs => ?_⟩
  obtain ⟨j, hj, e⟩ := List.getElem_of_mem hs
  have q := g.step j hj
  have ej : rd_T62 p.f3 (j : Int) = s := by
    unfold rd_T62
    simp [List.getD_eq_getElem?_getD, List.getElem?_eq_getElem hj, e]
  rw [ej] at q
  exact ⟨⟨by omega, by omega⟩, by omega, by omega⟩
theorem name_bytes {s : ByteArray} (h : nameOk s = true) : (1 ≤ s.size ∧ s.size ≤ 40) ∧ ∀ b ∈ s.data.toList, 45 ≤ b.toNat ∧ b.toNat ≤ 122 := by
  unfold nameOk at h
  simp only [Bool.and_eq_true, decide_eq_true_eq] at h
  refine ⟨h.1, ?_⟩
  have key : ∀ d i : Nat, i + d = s.size → namesFrom s i = true → ∀ j : Nat, i ≤ j → j < s.size → 45 ≤ bt s (j : Int) ∧ bt s (j : Int) ≤ 122 := by
    intro d
    induction d with
    | zero => intro i hi _ j h1 h2; omega
    | succ d ih =>
      intro i hi hc j h1 h2
      rw [namesFrom_lt (by omega), Bool.and_eq_true] at hc
      by_cases e : i = j
      · subst e
        have := hc.1
        unfold byteOk at this
        simp only [Bool.or_eq_true, Bool.and_eq_true, decide_eq_true_eq, beq_iff_eq] at this
        omega
      · exact ih (i + 1) (by omega) hc.2 j (by omega) h2
  intro b hb
  obtain ⟨j, hj, e⟩ := List.getElem_of_mem hb
  have hj2 : j < s.size := by rw [← bytes_len]; exact hj
  have := key s.size 0 (Nat.zero_add _) h.2 j (Nat.zero_le _) hj2
  rw [bt_get hj2 hj, e] at this
  omega
theorem itoa_size {n : Int} (h0 : 0 ≤ n) (h1 : n ≤ 1000000000000) : (itoaB n).size ≤ 13 := by
  unfold itoaB
  rw [ba_size, itoa_nat h0]
  exact dec_len 12 n.toNat (by omega)
theorem line_small {p : S55} (f : FitP p) : (lineB passH p.f0 p.f1 p.f2).size ≤ 80 := by
  unfold lineB
  rw [line_size]
  have := (name_bytes f.name).1
  have := itoa_size f.a0 f.a1
  have := itoa_size f.b0 f.b1
  have : passH.size = 5 := rfl
  omega
theorem rate_small {a b : Int} (ha : 0 ≤ a ∧ a ≤ 1000000000000) (hb : 0 ≤ b ∧ b ≤ 1000000000000) : (rateB a b).size ≤ 40 := by
  unfold rateB
  rw [rate_size]
  have := itoa_size ha.1 ha.2
  have := itoa_size hb.1 hb.2
  omega
theorem textS_small : ∀ {l : List S62}, (∀ s ∈ l, (0 ≤ s.f0 ∧ s.f0 ≤ 1000000000000) ∧ 0 ≤ s.f1 ∧ s.f1 ≤ 1000000000000) → (textS l).length ≤ 40 * l.length
  | [], _ => Nat.zero_le _
  | x :: l, h => by
    have h1 := textS_small (l := l) (fun y hy => h y (List.mem_cons_of_mem _ hy))
    have h2 := h x (List.mem_cons_self ..)
    have h3 := rate_small h2.1 h2.2
    unfold textS at h1 ⊢
    rw [List.flatMap_cons, List.length_append, List.length_cons, bytes_len]
    omega
theorem textP_small : ∀ {l : List S55}, (∀ p ∈ l, FitP p) → (textP l).length ≤ 2080 * l.length
  | [], _ => Nat.zero_le _
  | x :: l, h => by
    have h1 := textP_small (l := l) (fun y hy => h y (List.mem_cons_of_mem _ hy))
    have f := h x (List.mem_cons_self ..)
    have h2 := line_small f
    have h3 := textS_small f.steps
    have h4 := f.few
    unfold textP at h1 ⊢
    rw [List.flatMap_cons, List.length_append, List.length_cons, List.length_append, bytes_len]
    omega
theorem in64_of {a : Int} (h0 : 0 ≤ a) (h1 : a ≤ 1000000000000) : in64 a = true := decide_eq_true ⟨by omega, by omega⟩
theorem text_ok {l : List S55} (h : l.length ≤ 100 ∧ ∀ p ∈ l, FitP p) : textOK l = true := by
  unfold textOK
  simp only [Bool.and_eq_true, List.all_eq_true, decide_eq_true_eq]
  refine ⟨fun p hp => ⟨?_, fun s hs => ?_⟩, ?_⟩
  · have f := h.2 p hp
    have := line_small f
    unfold lineOK
    simp only [Bool.and_eq_true, decide_eq_true_eq]
    exact ⟨⟨in64_of f.a0 f.a1, in64_of f.b0 f.b1⟩, by omega⟩
  · have f := (h.2 p hp).steps s hs
    have := rate_small f.1 f.2
    unfold rateOK
    simp only [Bool.and_eq_true, decide_eq_true_eq]
    exact ⟨⟨in64_of f.1.1 f.1.2, in64_of f.2.1 f.2.2⟩, by omega⟩
  · have := textP_small h.2
    omega
noncomputable def textV (l : List S55) : ByteArray × Int := if checkV l = 0 then (if (textP l).length > 200000 then ((⟨#[]⟩ : ByteArray), 2) else ((⟨(textP l).toArray⟩ : ByteArray), 0)) else ((⟨#[]⟩ : ByteArray), checkV l)
theorem contact_Text_ev (l : List S55) : Ev (fun k => contact_Text.f k l) (textV l) := by
  unfold contact_Text.f textV
  refine Ev.bind (contact_CheckPasses_ev l) ?_
  by_cases h : checkV l = 0
  · simp only [if_pos h, if_pos (text_ok (fit_all h))]
    exact Ev.ite (fun q => by rw [if_pos q]; exact Ev.now _) (fun q => by rw [if_neg q]; exact Ev.now _)
  · simp only [if_neg h]
    exact Ev.now _
theorem same_l1 (l : List S55) {i : Nat} (hi : i < l.length) (hl : l.length ≤ 1000) (hs : (rd_T55 l (i : Int)).f3.length ≤ 1000) (hn : Ev (fun k => perigeeref10_SamePasses.l0 k l l ((i + 1 : Nat) : Int)) true) : ∀ d j : Nat, j + d = (rd_T55 l (i : Int)).f3.length → Ev (fun k => perigeeref10_SamePasses.l1 k l l (i : Int) (j : Int)) true := by
  intro d
  induction d with
  | zero =>
    intro j hj
    refine Ev.step (fun k => perigeeref10_SamePasses.l1.eq_2 ..) ?_
    simp only [if_pos (show (0 : Int) ≤ (i : Int) by omega), if_pos (show (i : Int) < (l.length : Int) by omega), if_neg (show ¬ (j : Int) < ((rd_T55 l (i : Int)).f3.length : Int) by omega), w64 (x := (i : Int) + 1) (by omega) (by omega)]
    exact hn
  | succ d ih =>
    intro j hj
    refine Ev.step (fun k => perigeeref10_SamePasses.l1.eq_2 ..) ?_
    simp only [if_pos (show (0 : Int) ≤ (i : Int) by omega), if_pos (show (i : Int) < (l.length : Int) by omega), if_pos (show (j : Int) < ((rd_T55 l (i : Int)).f3.length : Int) by omega), if_pos (show (0 : Int) ≤ (j : Int) by omega), beq_self_eq_true, Bool.not_true, Bool.or_false, if_neg (show ¬ (false = true) by decide), w64 (x := (j : Int) + 1) (by omega) (by omega)]
    exact ih (j + 1) (by omega)
theorem same_l0 (l : List S55) (hl : l.length ≤ 1000) (hs : ∀ p ∈ l, p.f3.length ≤ 1000) : ∀ d i : Nat, i + d = l.length → Ev (fun k => perigeeref10_SamePasses.l0 k l l (i : Int)) true := by
  intro d
  induction d with
  | zero =>
    intro i hi
    refine Ev.step (fun k => perigeeref10_SamePasses.l0.eq_2 ..) ?_
    simp only [if_neg (show ¬ (i : Int) < (l.length : Int) by omega)]
    exact Ev.now _
  | succ d ih =>
    intro i hi
    have hlt : i < l.length := by omega
    have hm : rd_T55 l (i : Int) ∈ l := by
      unfold rd_T55
      simp [List.getD_eq_getElem?_getD, List.getElem?_eq_getElem hlt]
    have hn := ih (i + 1) (by omega)
    refine Ev.step (fun k => perigeeref10_SamePasses.l0.eq_2 ..) ?_
    simp only [if_pos (show (i : Int) < (l.length : Int) by omega), if_pos (show (0 : Int) ≤ (i : Int) by omega), if_true, bne_self_eq_false]
    refine Ev.step (fun k => perigeeref10_SamePasses.j1.eq_2 ..) ?_
    simp only [if_neg (show ¬ (false = true) by decide)]
    exact same_l1 l hlt hl (hs _ hm) hn _ 0 (Nat.zero_add _)
theorem same_ev {l : List S55} (h : checkV l = 0) : Ev (fun k => perigeeref10_SamePasses.f k l l) true := by
  have hf := fit_all h
  unfold perigeeref10_SamePasses.f
  simp only [if_true]
  exact same_l0 l (by have := hf.1; omega) (fun p hp => by have := (hf.2 p hp).few; omega) _ 0 (Nat.zero_add _)
end Go.Proofs.YtbngmblgkkdhpaaDoor.Q
