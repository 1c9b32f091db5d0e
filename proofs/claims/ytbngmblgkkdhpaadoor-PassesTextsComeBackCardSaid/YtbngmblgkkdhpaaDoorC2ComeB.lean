/- Passes written and read: a text is read as what it was written of, and what was read is told again. -/
-- Made by wip/tools/claimp.py of this session's texts; Lean checks it.
import Derived.Test.YtbngmblgkkdhpaaDoorC2Take
import Derived.Test.YtbngmblgkkdhpaaDoorC2Gd3
import Derived.Test.YtbngmblgkkdhpaaDoorC2Gd2
import Derived.Test.YtbngmblgkkdhpaaDoorC2Gd4
set_option linter.unusedVariables false
set_option linter.unusedSimpArgs false
namespace Go.Proofs.YtbngmblgkkdhpaaDoor.Q
open Go.RowKit Go.Proofs.YtbngmblgkkdhpaaDoorW.PrintWords Go.Proofs.YtbngmblgkkdhpaaDoorW.PrintLast Go.Proofs.YtbngmblgkkdhpaaDoorW.PrintMore Go.Proofs.YtbngmblgkkdhpaaDoor.Base
theorem Ev.ite {α : Type} {c : Prop} [Decidable c] {A B : Nat → Option α} {v : α} (h1 : c → Ev A v) (h2 : ¬ c → Ev B v) : Ev (fun k => if c then A k else B k) v := by
  by_cases h : c
  · simp only [if_pos h]; exact h1 h
  · simp only [if_neg h]; exact h2 h
theorem indexByte_lt (l : List UInt8) (c : UInt8) : Lib.indexByte l c < l.length := by
  induction l with
  | nil => simp [Lib.indexByte]
  | cons b l ih =>
    unfold Lib.indexByte
    split
    · simp
    · split
      · simp only [List.length_cons]; omega
      · simp only [List.length_cons]; omega
theorem lines_ev : ∀ (N : Nat) (x : ByteArray), x.size ≤ N → x.size ≤ 200000 → ∀ (n : Int) (l : List S55), 1 ≤ n → n + x.size ≤ 300000 → Small l (300000 - x.size) →
    ∃ r : Int × List S55, Ev (fun k => ReadLines k x n l) r ∧ 0 ≤ r.1 ∧ (r.1 = 0 → textP r.2 = textP l ++ x.data.toList) := by
  intro N
  induction N with
  | zero =>
    intro x hx _ n l hn hnx hl
    have h0 : x.size = 0 := by omega
    refine ⟨(0, l), ?_, Int.le_refl _, fun _ => ?_⟩
    · refine Ev.step (fun k => ReadLines.eq_2 ..) ?_
      simp only [if_pos (toList_nil.2 h0)]
      exact Ev.now _
    · have : x.data.toList = [] := List.eq_nil_of_length_eq_zero (by rw [bytes_len]; exact h0)
      rw [this, List.append_nil]
  | succ N ih =>
    intro x hx hN n l hn hnx hl
    by_cases h0 : x.size = 0
    · exact ih x (by omega) (by omega) n l hn hnx hl
    · have h0' := mt toList_nil.1 h0
      have hlt := indexByte_lt x.data.toList 10
      rw [bytes_len] at hlt
      by_cases hi : Lib.indexByte x.data.toList 10 < 0
      · refine ⟨(n, l), ?_, by show 0 ≤ n; omega, fun q => absurd (show n = 0 from q) (by omega)⟩
        refine Ev.step (fun k => ReadLines.eq_2 ..) ?_
        simp only [if_neg h0', if_pos hi]
        exact Ev.now _
      · obtain ⟨i, hi2⟩ : ∃ i : Nat, Lib.indexByte x.data.toList 10 = (i : Int) := ⟨(Lib.indexByte x.data.toList 10).toNat, by omega⟩
        have hwi : wrap64 ((i : Int) + 1) = (i : Int) + 1 := w64 (by omega) (by omega)
        have hls : (x.extract 0 i).size < 1000000 := by rw [ByteArray.size_extract]; omega
        have hrs : (x.extract (i + 1) x.size).size = x.size - (i + 1) := by rw [ByteArray.size_extract]; omega
        have hwn : wrap64 (n + 1) = n + 1 := w64 (by omega) (by omega)
        have one := TakeOne_ev (x := x.extract 0 i) hls (l := l) (hl.wide (by omega))
        have hrl : ∀ v : Int × List S55, Ev (fun k => (TakeOne k (x.extract 0 i) l).bind fun r => if r.1 = true then ReadLines k (x.extract (i + 1) x.size) (n + 1) r.2 else some (n, r.2)) v → Ev (fun k => ReadLines k x n l) v := by
          intro v hv
          refine Ev.step (fun k => ReadLines.eq_2 ..) ?_
          simp only [if_neg h0', hi2, if_neg (show ¬ (i : Int) < 0 by omega), Int.toNat_natCast, hwi, hwn, if_pos (show (i : Int) < (x.size : Int) ∧ 0 ≤ (i : Int) + 1 ∧ (i : Int) + 1 ≤ (x.size : Int) by omega), show ((i : Int) + 1).toNat = i + 1 by omega]
          exact hv
        by_cases hb : (takeV (x.extract 0 i) l).1 = true
        · obtain ⟨r, q1, q2, q3⟩ := ih (x.extract (i + 1) x.size) (by omega) (by omega) (n + 1) (takeV (x.extract 0 i) l).2 (by omega) (by omega) ((takeV_small hl).wide (by omega))
          refine ⟨r, hrl _ (Ev.bind one ?_), q2, fun q => ?_⟩
          · simp only [if_pos hb]
            exact q1
          · rw [q3 q, take_text (l := l) (x := x.extract 0 i) (l2 := (takeV (x.extract 0 i) l).2) (Prod.ext hb rfl), extract_list, extract_list, List.drop_zero, ← bytes_len, List.take_length]
            have hat := list_at (Lib.indexByte_some hi2).1
            rw [List.append_assoc, List.append_assoc]
            congr 1
            exact hat.symm
        · refine ⟨(n, (takeV (x.extract 0 i) l).2), hrl _ (Ev.bind one ?_), by show 0 ≤ n; omega, fun q => absurd (show n = 0 from q) (by omega)⟩
          simp only [if_neg hb]
          exact Ev.now _
theorem read_any (x : ByteArray) : ∃ v : List S55 × Int × Int, Ev (fun k => contact_Read.f k x) v ∧ ((v.2.2 ≠ 0 ∧ v.1 = []) ∨ (v.2.2 = 0 ∧ v.2.1 = 0 ∧ checkV v.1 = 0 ∧ textP v.1 = x.data.toList ∧ x.size ≤ 200000)) := by
  unfold contact_Read.f
  by_cases hs : (x.size : Int) > 200000
  · simp only [if_pos hs]
    exact ⟨_, Ev.now _, .inl ⟨by show (2 : Int) ≠ 0; decide, rfl⟩⟩
  · simp only [if_neg hs]
    obtain ⟨r, h1, h2, h3⟩ := lines_ev x.size x (Nat.le_refl _) (by omega) 1 [] (by omega) (by omega) ⟨Nat.zero_le _, fun p hp => by cases hp⟩
    by_cases hr : r.1 > 0
    · refine ⟨([], r.1, 10), Ev.bind h1 ?_, .inl ⟨by show (10 : Int) ≠ 0; decide, rfl⟩⟩
      simp only [if_pos hr]
      exact Ev.now _
    · by_cases hc : checkV r.2 = 0
      · refine ⟨(r.2, 0, 0), Ev.bind h1 ?_, .inr ⟨rfl, rfl, hc, ?_, by omega⟩⟩
        · simp only [if_neg hr]
          refine Ev.bind (contact_CheckPasses_ev r.2) ?_
          simp only [if_pos hc]
          exact Ev.now _
        · exact h3 (by omega)
      · refine ⟨([], 0, checkV r.2), Ev.bind h1 ?_, .inl ⟨hc, rfl⟩⟩
        simp only [if_neg hr]
        refine Ev.bind (contact_CheckPasses_ev r.2) ?_
        simp only [if_neg hc]
        exact Ev.now _
structure FitP (p : S55) : Prop where
  name : nameOk p.f0 = true
  a0 : 0 ≤ p.f1
  a1 : p.f1 ≤ 1000000000000
  b0 : 0 ≤ p.f2
  b1 : p.f2 ≤ 1000000000000
  few : p.f3.length ≤ 50
  steps : ∀ s ∈ p.f3, (0 ≤ s.f0 ∧ s.f0 ≤ 1000000000000) ∧ 0 ≤ s.f1 ∧ s.f1 ≤ 1000000000000
theorem fit_all {l : List S55} (h : checkV l = 0) : l.length ≤ 100 ∧ ∀ p ∈ l, FitP p := by
  have hg := checkV_zero h
  refine ⟨hg.many, fun p hp => ?_⟩
  obtain ⟨i, hi, e⟩ := List.getElem_of_mem hp
  have g := hg.each i hi
  have ei : rd_T55 l (i : Int) = p := by
    unfold rd_T55
    simp [List.getD_eq_getElem?_getD, List.getElem?_eq_getElem hi, e]
  rw [ei] at g
  have := g.from0
  have := g.less
  have := g.to1
  refine ⟨g.name, by omega, by omega, by omega, by omega, g.many, fun s hs => ?_⟩
  obtain ⟨j, hj, e⟩ := List.getElem_of_mem hs
  have q := g.step j hj
  have ej : rd_T62 p.f3 (j : Int) = s := by
    unfold rd_T62
    simp [List.getD_eq_getElem?_getD, List.getElem?_eq_getElem hj, e]
  rw [ej] at q
  exact ⟨⟨by omega, by omega⟩, by omega, by omega⟩
theorem name_bytes {s : ByteArray} (h : nameOk s = true) : (1 ≤ s.size ∧ s.size ≤ 40) ∧ ∀ b ∈ s.data.toList, 45 ≤ b.toNat ∧ b.toNat ≤ 122 := by
  unfold nameOk at h
  simp only [Bool.and_eq_true, decide_eq_true_eq] at h
  refine ⟨h.1, ?_⟩
  have key : ∀ d i : Nat, i + d = s.size → namesFrom s i = true → ∀ j : Nat, i ≤ j → j < s.size → 45 ≤ bt s (j : Int) ∧ bt s (j : Int) ≤ 122 := by
    intro d
    induction d with
    | zero => intro i hi _ j h1 h2; omega
    | succ d ih =>
      intro i hi hc j h1 h2
      rw [namesFrom_lt (by omega), Bool.and_eq_true] at hc
      by_cases e : i = j
      · subst e
        have := hc.1
        unfold byteOk at this
        simp only [Bool.or_eq_true, Bool.and_eq_true, decide_eq_true_eq, beq_iff_eq] at this
        omega
      · exact ih (i + 1) (by omega) hc.2 j (by omega) h2
  intro b hb
  obtain ⟨j, hj, e⟩ := List.getElem_of_mem hb
  have hj2 : j < s.size := by rw [← bytes_len]; exact hj
  have := key s.size 0 (Nat.zero_add _) h.2 j (Nat.zero_le _) hj2
  rw [bt_get hj2 hj, e] at this
  omega
theorem name_row {s : ByteArray} (h : nameOk s = true) : rowV s s.size 0 = true := by
  obtain ⟨⟨h1, h2⟩, hb⟩ := name_bytes h
  have key : ∀ d i : Nat, i + d = s.size → rowV s s.size i = true := by
    intro d
    induction d with
    | zero =>
      intro i hi
      rw [rowV_ge (by omega), bne_iff_ne]
      exact mt toList_nil.1 (by omega)
    | succ d ih =>
      intro i hi
      have hl : i < s.data.toList.length := by rw [bytes_len]; omega
      have := hb _ (List.getElem_mem hl)
      rw [rowV_lt (by omega), bt_get (by omega) hl, if_neg (by omega), if_neg (by omega)]
      exact ih (i + 1) (by omega)
  exact key s.size 0 (Nat.zero_add _)
theorem itoa_bytes {n : Int} (h : 0 ≤ n) : ∀ b ∈ (itoaB n).data.toList, 48 ≤ b.toNat ∧ b.toNat ≤ 57 := by
  unfold itoaB
  rw [itoa_nat h]
  exact dec_all _
theorem itoa_size {n : Int} (h0 : 0 ≤ n) (h1 : n ≤ 1000000000000) : (itoaB n).size ≤ 13 := by
  unfold itoaB
  rw [ba_size, itoa_nat h0]
  exact dec_len 12 n.toNat (by omega)
theorem no_in {s : ByteArray} {c : UInt8} {lo hi : Nat} (h : ∀ b ∈ s.data.toList, lo ≤ b.toNat ∧ b.toNat ≤ hi) (hc : c.toNat < lo) : c ∉ s.data.toList := fun q => by
  have := h c q
  omega
theorem line_small {p : S55} (f : FitP p) : (lineB passH p.f0 p.f1 p.f2).size ≤ 80 := by
  unfold lineB
  rw [line_size]
  have := (name_bytes f.name).1
  have := itoa_size f.a0 f.a1
  have := itoa_size f.b0 f.b1
  have : passH.size = 5 := rfl
  omega
theorem rate_small {a b : Int} (ha : 0 ≤ a ∧ a ≤ 1000000000000) (hb : 0 ≤ b ∧ b ≤ 1000000000000) : (rateB a b).size ≤ 40 := by
  unfold rateB
  rw [rate_size]
  have := itoa_size ha.1 ha.2
  have := itoa_size hb.1 hb.2
  omega
theorem textS_small : ∀ {l : List S62}, (∀ s ∈ l, (0 ≤ s.f0 ∧ s.f0 ≤ 1000000000000) ∧ 0 ≤ s.f1 ∧ s.f1 ≤ 1000000000000) → (textS l).length ≤ 40 * l.length
  | [], _ => Nat.zero_le _
  | x :: l, h => by
    have h1 := textS_small (l := l) (fun y hy => h y (List.mem_cons_of_mem _ hy))
    have h2 := h x (List.mem_cons_self ..)
    have h3 := rate_small h2.1 h2.2
    unfold textS at h1 ⊢
    rw [List.flatMap_cons, List.length_append, List.length_cons, bytes_len]
    omega
theorem textP_small : ∀ {l : List S55}, (∀ p ∈ l, FitP p) → (textP l).length ≤ 2080 * l.length
  | [], _ => Nat.zero_le _
  | x :: l, h => by
    have h1 := textP_small (l := l) (fun y hy => h y (List.mem_cons_of_mem _ hy))
    have f := h x (List.mem_cons_self ..)
    have h2 := line_small f
    have h3 := textS_small f.steps
    have h4 := f.few
    unfold textP at h1 ⊢
    rw [List.flatMap_cons, List.length_append, List.length_cons, List.length_append, bytes_len]
    omega
theorem in64_of {a : Int} (h0 : 0 ≤ a) (h1 : a ≤ 1000000000000) : in64 a = true := decide_eq_true ⟨by omega, by omega⟩
theorem text_ok {l : List S55} (h : l.length ≤ 100 ∧ ∀ p ∈ l, FitP p) : textOK l = true := by
  unfold textOK
  simp only [Bool.and_eq_true, List.all_eq_true, decide_eq_true_eq]
  refine ⟨fun p hp => ⟨?_, fun s hs => ?_⟩, ?_⟩
  · have f := h.2 p hp
    have := line_small f
    unfold lineOK
    simp only [Bool.and_eq_true, decide_eq_true_eq]
    exact ⟨⟨in64_of f.a0 f.a1, in64_of f.b0 f.b1⟩, by omega⟩
  · have f := (h.2 p hp).steps s hs
    have := rate_small f.1 f.2
    unfold rateOK
    simp only [Bool.and_eq_true, decide_eq_true_eq]
    exact ⟨⟨in64_of f.1.1 f.1.2, in64_of f.2.1 f.2.2⟩, by omega⟩
  · have := textP_small h.2
    omega
noncomputable def textV (l : List S55) : ByteArray × Int := if checkV l = 0 then (if (textP l).length > 200000 then ((⟨#[]⟩ : ByteArray), 2) else ((⟨(textP l).toArray⟩ : ByteArray), 0)) else ((⟨#[]⟩ : ByteArray), checkV l)
theorem contact_Text_ev (l : List S55) : Ev (fun k => contact_Text.f k l) (textV l) := by
  unfold contact_Text.f textV
  refine Ev.bind (contact_CheckPasses_ev l) ?_
  by_cases h : checkV l = 0
  · simp only [if_pos h, if_pos (text_ok (fit_all h))]
    exact Ev.ite (fun q => by rw [if_pos q]; exact Ev.now _) (fun q => by rw [if_neg q]; exact Ev.now _)
  · simp only [if_neg h]
    exact Ev.now _
def passW : ByteArray := ⟨#[112, 97, 115, 115]⟩
def rateW : ByteArray := ⟨#[114, 97, 116, 101]⟩
def bodyP (s : ByteArray) (a b : Int) : ByteArray := (passW ++ sp) ++ ((s ++ sp) ++ ((itoaB a ++ sp) ++ itoaB b))
def bodyR (a b : Int) : ByteArray := (rateW ++ sp) ++ ((itoaB a ++ sp) ++ itoaB b)
theorem line_body (s : ByteArray) (a b : Int) : (lineB passH s a b).data.toList = (bodyP s a b).data.toList ++ [10] := by
  unfold lineB bodyP sp
  simp only [ByteArray.data_append, Array.toList_append, List.append_assoc]
  rfl
theorem rate_body (a b : Int) : (rateB a b).data.toList = (bodyR a b).data.toList ++ [10] := by
  unfold rateB bodyR sp
  simp only [ByteArray.data_append, Array.toList_append, List.append_assoc]
  rfl
theorem passW_list : passW.toList = [112, 97, 115, 115] := by rw [toList_data]; rfl
theorem rateW_list : rateW.toList = [114, 97, 116, 101] := by rw [toList_data]; rfl
theorem pass_pieces {p : S55} (f : FitP p) : piecesV (bodyP p.f0 p.f1 p.f2) = [passW, p.f0, itoaB p.f1, itoaB p.f2] := by
  unfold bodyP
  rw [pieces_more _ _ (by decide), pieces_more _ _ (no_in (c := 32) (name_bytes f.name).2 (by decide)), pieces_more _ _ (no_in (c := 32) (itoa_bytes f.a0) (by decide)), pieces_one (no_in (c := 32) (itoa_bytes f.b0) (by decide))]
theorem rate_pieces {a b : Int} (ha : 0 ≤ a) (hb : 0 ≤ b) : piecesV (bodyR a b) = [rateW, itoaB a, itoaB b] := by
  unfold bodyR
  rw [pieces_more _ _ (by decide), pieces_more _ _ (no_in (c := 32) (itoa_bytes ha) (by decide)), pieces_one (no_in (c := 32) (itoa_bytes hb) (by decide))]
theorem pass_end {p : S55} (f : FitP p) : (10 : UInt8) ∉ (bodyP p.f0 p.f1 p.f2).data.toList := by
  have hs := no_in (c := 10) (name_bytes f.name).2 (by decide)
  have ha := no_in (c := 10) (itoa_bytes f.a0) (by decide)
  have hb := no_in (c := 10) (itoa_bytes f.b0) (by decide)
  have h1 : (10 : UInt8) ∉ sp.data.toList := by decide
  have h2 : (10 : UInt8) ∉ passW.data.toList := by decide
  unfold bodyP
  simp only [ByteArray.data_append, Array.toList_append, List.mem_append, not_or]
  exact ⟨⟨h2, h1⟩, ⟨hs, h1⟩, ⟨ha, h1⟩, hb⟩
theorem rate_end {a b : Int} (ha : 0 ≤ a) (hb : 0 ≤ b) : (10 : UInt8) ∉ (bodyR a b).data.toList := by
  have ha := no_in (c := 10) (itoa_bytes ha) (by decide)
  have hb := no_in (c := 10) (itoa_bytes hb) (by decide)
  have h1 : (10 : UInt8) ∉ sp.data.toList := by decide
  have h2 : (10 : UInt8) ∉ rateW.data.toList := by decide
  unfold bodyR
  simp only [ByteArray.data_append, Array.toList_append, List.mem_append, not_or]
  exact ⟨⟨h2, h1⟩, ⟨ha, h1⟩, hb⟩
theorem take_pass {p : S55} (f : FitP p) (l : List S55) : takeV (bodyP p.f0 p.f1 p.f2) l = (true, l ++ [⟨p.f0, p.f1, p.f2, []⟩]) := by
  have hp := pass_pieces f
  unfold takeV pc
  rw [hp]
  simp only [rdOf, List.length_cons, List.length_nil, Nat.reduceAdd, Nat.reduceSub, Nat.reduceLT, if_false, if_true, show ((0 : Nat) : Int).toNat = 0 from rfl, show ((1 : Nat) : Int).toNat = 1 from rfl, show ((2 : Nat) : Int).toNat = 2 from rfl, show ((3 : Nat) : Int).toNat = 3 from rfl, List.getD_cons_zero, List.getD_cons_succ, name_row f.name, numV_itoa f.a0 f.a1, numV_itoa f.b0 f.b1]
  rw [if_pos passW_list]
theorem take_rate {a b : Int} (ha : 0 ≤ a ∧ a ≤ 1000000000000) (hb : 0 ≤ b ∧ b ≤ 1000000000000) {l : List S55} (hl : l.length ≠ 0) : takeV (bodyR a b) l = (true, addStep l ⟨a, b⟩) := by
  have hp := rate_pieces ha.1 hb.1
  unfold takeV pc
  rw [hp]
  simp only [rdOf, List.length_cons, List.length_nil, Nat.reduceAdd, Nat.reduceSub, Nat.reduceLT, if_false, if_true, show ((0 : Nat) : Int).toNat = 0 from rfl, show ((1 : Nat) : Int).toNat = 1 from rfl, show ((2 : Nat) : Int).toNat = 2 from rfl, List.getD_cons_zero, List.getD_cons_succ, numV_itoa ha.1 ha.2, numV_itoa hb.1 hb.2, if_neg (show ¬ (3 : Nat) = 4 by decide)]
  rw [if_pos rateW_list, if_neg hl]
theorem addStep_last (L : List S55) (f0 : ByteArray) (f1 f2 : Int) (ss : List S62) (s : S62) : addStep (L ++ [⟨f0, f1, f2, ss⟩]) s = L ++ [⟨f0, f1, f2, ss ++ [s]⟩] := by
  have e : lastP (L ++ [(⟨f0, f1, f2, ss⟩ : S55)]) = ⟨f0, f1, f2, ss⟩ := by
    unfold lastP rd_T55
    rw [List.length_append, List.length_singleton, Nat.add_sub_cancel, Int.toNat_natCast, List.getD_eq_getElem?_getD, List.getElem?_append_right (Nat.le_refl _), Nat.sub_self]
    rfl
  unfold addStep
  rw [e, List.length_append, List.length_singleton, Nat.add_sub_cancel, List.set_append_right _ _ (Nat.le_refl _), Nat.sub_self]
  rfl
theorem extract_ba (l : List UInt8) (i j : Nat) (h : j ≤ l.length) : (⟨l.toArray⟩ : ByteArray).extract i j = ⟨((l.take j).drop i).toArray⟩ := by
  apply ByteArray.ext
  apply Array.ext'
  rw [ByteArray.data_extract, Array.toList_extract]
  simp only [List.extract_eq_take_drop]
  rw [List.drop_take]
theorem read_line {body : ByteArray} (hb : (10 : UInt8) ∉ body.data.toList) (rest : List UInt8) (hr : body.size + 1 + rest.length ≤ 200000) {l l2 : List S55} (hl : Small l 300000) (n : Int) (hn : 0 ≤ n ∧ n ≤ 1000000)
    (h1 : takeV body l = (true, l2)) {v : Int × List S55} (hv : Ev (fun k => ReadLines k ⟨rest.toArray⟩ (n + 1) l2) v) :
    Ev (fun k => ReadLines k ⟨(body.data.toList ++ [10] ++ rest).toArray⟩ n l) v := by
  have hlen : (body.data.toList ++ [10] ++ rest).length = body.size + 1 + rest.length := by
    rw [List.length_append, List.length_append, bytes_len]
    rfl
  have hidx : Lib.indexByte (⟨(body.data.toList ++ [10] ++ rest).toArray⟩ : ByteArray).data.toList 10 = (body.size : Int) := by
    show Lib.indexByte (body.data.toList ++ [10] ++ rest) 10 = _
    rw [List.append_assoc]
    have := indexByte_at 10 body.data.toList rest hb
    rw [bytes_len] at this
    exact this
  have hsz : (⟨(body.data.toList ++ [10] ++ rest).toArray⟩ : ByteArray).size = body.size + 1 + rest.length := by rw [ba_size, hlen]
  have hx1 : (⟨(body.data.toList ++ [10] ++ rest).toArray⟩ : ByteArray).extract 0 body.size = body := by
    rw [extract_ba _ _ _ (by rw [hlen]; omega), List.drop_zero, List.append_assoc, ← bytes_len, List.take_left']
    rfl
  have hx2 : (⟨(body.data.toList ++ [10] ++ rest).toArray⟩ : ByteArray).extract (body.size + 1) (body.size + 1 + rest.length) = ⟨rest.toArray⟩ := by
    rw [extract_ba _ _ _ (by rw [hlen]; exact Nat.le_refl _), List.take_of_length_le (by rw [hlen]; exact Nat.le_refl _), List.drop_left' (by rw [List.length_append, bytes_len]; rfl)]
  refine Ev.step (fun k => ReadLines.eq_2 ..) ?_
  rw [hidx, hsz]
  have hwi : wrap64 ((body.size : Int) + 1) = (body.size : Int) + 1 := w64 (by omega) (by omega)
  simp only [if_neg (mt toList_nil.1 (show (⟨(body.data.toList ++ [10] ++ rest).toArray⟩ : ByteArray).size ≠ 0 by rw [hsz]; omega)), if_neg (show ¬ (body.size : Int) < 0 by omega), hwi, w64 (x := n + 1) (by omega) (by omega)]
  refine Ev.ite (fun _ => ?_) (fun q => absurd (by omega) q)
  simp only [Int.toNat_natCast, hx1, show ((body.size : Int) + 1).toNat = body.size + 1 by omega, hx2]
  have one := TakeOne_ev (x := body) (by omega) (l := l) (hl.wide (by omega))
  rw [h1] at one
  refine Ev.bind one ?_
  simp only [if_true]
  exact hv
theorem read_steps (f0 : ByteArray) (f1 f2 : Int) {L : List S55} (hL : Small L 1000) (rest : List UInt8) {v : Int × List S55} : ∀ (todo done : List S62), (∀ s ∈ todo, (0 ≤ s.f0 ∧ s.f0 ≤ 1000000000000) ∧ 0 ≤ s.f1 ∧ s.f1 ≤ 1000000000000) → done.length + todo.length ≤ 1000 →
    ∀ n : Int, 0 ≤ n → n + (textS todo ++ rest).length ≤ 300000 → (textS todo ++ rest).length ≤ 200000 →
    (∀ m : Int, 0 ≤ m → m + rest.length ≤ 300000 → Ev (fun k => ReadLines k ⟨rest.toArray⟩ m (L ++ [⟨f0, f1, f2, done ++ todo⟩])) v) →
    Ev (fun k => ReadLines k ⟨(textS todo ++ rest).toArray⟩ n (L ++ [⟨f0, f1, f2, done⟩])) v
  | [], done, _, _, n, hn, hz, hz2, hv => by
    have := hv n hn (by rw [show textS [] = [] from rfl, List.nil_append] at hz; exact hz)
    rw [List.append_nil] at this
    rw [show textS [] = [] from rfl, List.nil_append]
    exact this
  | s :: todo, done, hf, hd, n, hn, hz, hz2, hv => by
    have f := hf s (List.mem_cons_self ..)
    have e : textS (s :: todo) ++ rest = (bodyR s.f0 s.f1).data.toList ++ [10] ++ (textS todo ++ rest) := by
      rw [← rate_body]
      unfold textS
      rw [List.flatMap_cons, List.append_assoc]
    have hlen : (textS (s :: todo) ++ rest).length = (bodyR s.f0 s.f1).size + 1 + (textS todo ++ rest).length := by
      rw [e, List.length_append, List.length_append, bytes_len]
      rfl
    have ih := read_steps f0 f1 f2 hL rest (v := v) todo (done ++ [s]) (fun x hx => hf x (List.mem_cons_of_mem _ hx)) (by simp only [List.length_append, List.length_cons, List.length_nil] at hd ⊢; omega) (n + 1) (by omega) (by omega) (by omega) (fun m h1 h2 => by
      rw [List.append_assoc]
      exact hv m h1 h2)
    rw [e]
    refine read_line (rate_end f.1.1 f.2.1) _ (by omega) ?_ n ⟨hn, by omega⟩ (take_rate f.1 f.2 (by simp)) ?_
    · have := (hL.pass (p := ⟨f0, f1, f2, done⟩) (by show done.length ≤ 1000; omega))
      exact this.wide (by omega)
    · rw [addStep_last]
      exact ih
theorem read_passes : ∀ (todo done : List S55), (∀ p ∈ todo, FitP p) → Small done 1000 → done.length + todo.length ≤ 1000 →
    ∀ n : Int, 0 ≤ n → n + (textP todo).length ≤ 300000 → (textP todo).length ≤ 200000 → Ev (fun k => ReadLines k ⟨(textP todo).toArray⟩ n done) (0, done ++ todo)
  | [], done, _, _, _, n, hn, hz, hz2 => by
    refine Ev.step (fun k => ReadLines.eq_2 ..) ?_
    simp only [if_pos (toList_nil.2 (show (⟨(textP ([] : List S55)).toArray⟩ : ByteArray).size = 0 from rfl)), List.append_nil]
    exact Ev.now _
  | p :: todo, done, hf, hs, hd, n, hn, hz, hz2 => by
    have f := hf p (List.mem_cons_self ..)
    have e : textP (p :: todo) = (bodyP p.f0 p.f1 p.f2).data.toList ++ [10] ++ (textS p.f3 ++ textP todo) := by
      rw [← line_body]
      unfold textP
      rw [List.flatMap_cons, List.append_assoc]
    have hlen : (textP (p :: todo)).length = (bodyP p.f0 p.f1 p.f2).size + 1 + (textS p.f3 ++ textP todo).length := by
      rw [e, List.length_append, List.length_append, bytes_len]
      rfl
    have hla : (textS p.f3 ++ textP todo).length = (textS p.f3).length + (textP todo).length := List.length_append
    have hd2 : done.length + (todo.length + 1) ≤ 1000 := hd
    have hn2 : Small (done ++ [p]) 1000 := ⟨by simp only [List.length_append, List.length_cons, List.length_nil]; omega, fun q hq => by
      rcases List.mem_append.1 hq with hq | hq
      · exact hs.steps q hq
      · rw [List.mem_singleton.1 hq]
        have := f.few
        omega⟩
    rw [e]
    refine read_line (pass_end f) _ (by omega) (hs.wide (by omega)) n ⟨hn, by omega⟩ (take_pass f done) ?_
    refine read_steps p.f0 p.f1 p.f2 hs (textP todo) p.f3 [] f.steps (by have := f.few; simp; omega) (n + 1) (by omega) (by omega) (by omega) (fun m h1 h2 => ?_)
    have ih := read_passes todo (done ++ [p]) (fun x hx => hf x (List.mem_cons_of_mem _ hx)) hn2 (by simp only [List.length_append, List.length_cons, List.length_nil]; omega) m h1 h2 (by omega)
    rw [List.append_assoc] at ih
    exact ih
theorem read_back {l : List S55} (h : checkV l = 0) (hz : (textP l).length ≤ 200000) : Ev (fun k => contact_Read.f k ⟨(textP l).toArray⟩) (l, 0, 0) := by
  have hf := fit_all h
  unfold contact_Read.f
  simp only [if_neg (show ¬ ((⟨(textP l).toArray⟩ : ByteArray).size : Int) > 200000 by rw [ba_size]; omega)]
  refine Ev.bind (read_passes l [] hf.2 ⟨Nat.zero_le _, fun p hp => by cases hp⟩ (by have := hf.1; simp; omega) 1 (by omega) (by omega) hz) ?_
  simp only [if_neg (show ¬ (0 : Int) > 0 by decide), List.nil_append]
  refine Ev.bind (contact_CheckPasses_ev l) ?_
  simp only [h, if_true]
  exact Ev.now _
theorem same_l1 (l : List S55) {i : Nat} (hi : i < l.length) (hl : l.length ≤ 1000) (hs : (rd_T55 l (i : Int)).f3.length ≤ 1000) (hn : Ev (fun k => perigeeref10_SamePasses.l0 k l l ((i + 1 : Nat) : Int)) true) : ∀ d j : Nat, j + d = (rd_T55 l (i : Int)).f3.length → Ev (fun k => perigeeref10_SamePasses.l1 k l l (i : Int) (j : Int)) true := by
  intro d
  induction d with
  | zero =>
    intro j hj
    refine Ev.step (fun k => perigeeref10_SamePasses.l1.eq_2 ..) ?_
    simp only [if_pos (show (0 : Int) ≤ (i : Int) by omega), if_pos (show (i : Int) < (l.length : Int) by omega), if_neg (show ¬ (j : Int) < ((rd_T55 l (i : Int)).f3.length : Int) by omega), w64 (x := (i : Int) + 1) (by omega) (by omega)]
    exact hn
  | succ d ih =>
    intro j hj
    refine Ev.step (fun k => perigeeref10_SamePasses.l1.eq_2 ..) ?_
    simp only [if_pos (show (0 : Int) ≤ (i : Int) by omega), if_pos (show (i : Int) < (l.length : Int) by omega), if_pos (show (j : Int) < ((rd_T55 l (i : Int)).f3.length : Int) by omega), if_pos (show (0 : Int) ≤ (j : Int) by omega), beq_self_eq_true, Bool.not_true, Bool.or_false, if_neg (show ¬ (false = true) by decide), w64 (x := (j : Int) + 1) (by omega) (by omega)]
    exact ih (j + 1) (by omega)
theorem same_l0 (l : List S55) (hl : l.length ≤ 1000) (hs : ∀ p ∈ l, p.f3.length ≤ 1000) : ∀ d i : Nat, i + d = l.length → Ev (fun k => perigeeref10_SamePasses.l0 k l l (i : Int)) true := by
  intro d
  induction d with
  | zero =>
    intro i hi
    refine Ev.step (fun k => perigeeref10_SamePasses.l0.eq_2 ..) ?_
    simp only [if_neg (show ¬ (i : Int) < (l.length : Int) by omega)]
    exact Ev.now _
  | succ d ih =>
    intro i hi
    have hlt : i < l.length := by omega
    have hm : rd_T55 l (i : Int) ∈ l := by
      unfold rd_T55
      simp [List.getD_eq_getElem?_getD, List.getElem?_eq_getElem hlt]
    have hn := ih (i + 1) (by omega)
    refine Ev.step (fun k => perigeeref10_SamePasses.l0.eq_2 ..) ?_
    simp only [if_pos (show (i : Int) < (l.length : Int) by omega), if_pos (show (0 : Int) ≤ (i : Int) by omega), if_true, bne_self_eq_false]
    refine Ev.step (fun k => perigeeref10_SamePasses.j1.eq_2 ..) ?_
    simp only [if_neg (show ¬ (false = true) by decide)]
    exact same_l1 l hlt hl (hs _ hm) hn _ 0 (Nat.zero_add _)
theorem same_ev {l : List S55} (h : checkV l = 0) : Ev (fun k => perigeeref10_SamePasses.f k l l) true := by
  have hf := fit_all h
  unfold perigeeref10_SamePasses.f
  simp only [if_true]
  exact same_l0 l (by have := hf.1; omega) (fun p hp => by have := (hf.2 p hp).few; omega) _ 0 (Nat.zero_add _)
end Go.Proofs.YtbngmblgkkdhpaaDoor.Q
