/- The text of loads and uses: both sides write the same, and it is read as them. -/
-- Made by wip/tools/claimp.py of this session's texts; Lean checks it.
import Derived.Test.YtplcdpiggpkppaaDoorC2Text
import Derived.Test.YtplcdpiggpkppaaDoorC2Gd9
import Derived.Test.YtplcdpiggpkppaaDoorC2Gd10
import Derived.Test.YtplcdpiggpkppaaDoorC2Gd5
set_option linter.unusedVariables false
set_option linter.unusedSimpArgs false
namespace Go.Proofs.YtplcdpiggpkppaaDoor.Q
open Go.RowKit Go.Proofs.YtplcdpiggpkppaaDoorW.PrintWords Go.Proofs.YtplcdpiggpkppaaDoorW.PrintLast Go.Proofs.YtplcdpiggpkppaaDoorW.PrintMore Go.Proofs.YtplcdpiggpkppaaDoor.Base
theorem rd_L_mem {l : List S32} {x : S32} (h : x ∈ l) : ∃ i : Nat, i < l.length ∧ rd_T32 l (i : Int) = x := by
  obtain ⟨i, hi, e⟩ := List.getElem_of_mem h
  refine ⟨i, hi, ?_⟩
  unfold rd_T32
  simp [List.getD_eq_getElem?_getD, List.getElem?_eq_getElem hi, e]
theorem rd_U_mem {l : List S35} {x : S35} (h : x ∈ l) : ∃ i : Nat, i < l.length ∧ rd_T35 l (i : Int) = x := by
  obtain ⟨i, hi, e⟩ := List.getElem_of_mem h
  refine ⟨i, hi, ?_⟩
  unfold rd_T35
  simp [List.getD_eq_getElem?_getD, List.getElem?_eq_getElem hi, e]
structure FitAll (l : List S32) (u : List S35) : Prop where
  few : l.length ≤ 50
  fewU : u.length ≤ 300
  loads : ∀ x ∈ l, Fit x.f0 x.f1 x.f2
  uses : ∀ x ∈ u, Fit x.f0 x.f1 x.f2
theorem fit_of {l : List S32} {u : List S35} (h : usesV l u = 0) : FitAll l u := by
  unfold usesV at h
  by_cases h1 : loadsV l = 0
  · rw [if_neg (by omega)] at h
    have hg := loadsV_zero h1
    have hw : ∀ i : Nat, i < l.length → wordV (rd_T32 l (i : Int)).f0 = true := by
      have h2 := h1
      unfold loadsV at h2
      split at h2
      · omega
      · have k := scanV_zero l.length 0 (by omega) h2
        intro i hi
        have e := k i (Nat.zero_le _) hi
        unfold loadBad at e
        split at e
        · omega
        · rename_i q
          simpa using q
    have hl : ∀ x ∈ l, Fit x.f0 x.f1 x.f2 := by
      intro x hx
      obtain ⟨i, hi, rfl⟩ := rd_L_mem hx
      have h3 := hg.inside i hi
      exact ⟨hw i hi, by omega, by omega, by omega, by omega⟩
    by_cases h2 : (u.length : Int) > 300
    · rw [if_pos h2] at h
      omega
    · rw [if_neg h2] at h
      by_cases h4 : scanV (useBad l u) u.length 0 = 0
      · have k := scanV_zero u.length 0 (by omega) h4
        refine ⟨hg.few, by omega, hl, fun x hx => ?_⟩
        obtain ⟨i, hi, rfl⟩ := rd_U_mem hx
        obtain ⟨q1, q2, _⟩ := useBad_zero (k i (Nat.zero_le _) hi)
        obtain ⟨s1, s2, s3⟩ := spanV_zero q2
        have hat := atV_is l (rd_T35 u (i : Int)).f0
        unfold loadV at q1
        cases ha : atV l (rd_T35 u (i : Int)).f0 with
        | none => rw [ha] at q1; cases q1
        | some j =>
          rw [ha] at hat
          have e : (rd_T32 l (j : Int)).f0 = (rd_T35 u (i : Int)).f0 := by
            have := hat.2
            change (rd_T32 l (j : Int)).f0.toList = _ at this
            apply ByteArray.ext
            apply Array.ext'
            rw [ByteArray.toList_eq, ByteArray.toList_eq] at this
            exact this
          exact ⟨e ▸ hw j hat.1, s1.1, s1.2, s2.1, s2.2⟩
      · rw [if_pos h4] at h
        exact absurd h h4
  · rw [if_pos h1] at h
    exact absurd h h1
theorem textL_small {l : List S32} (h : ∀ x ∈ l, Fit x.f0 x.f1 x.f2) : (textL l).length ≤ 80 * l.length := by
  induction l with
  | nil => exact Nat.zero_le _
  | cons x l ih =>
    have h1 := ih (fun y hy => h y (List.mem_cons_of_mem _ hy))
    have h2 := line_small (h := loadH) (by decide) (h x (List.mem_cons_self ..))
    unfold textL at h1 ⊢
    rw [List.flatMap_cons, List.length_append, List.length_cons]
    omega
theorem textU_small {l : List S35} (h : ∀ x ∈ l, Fit x.f0 x.f1 x.f2) : (textU l).length ≤ 80 * l.length := by
  induction l with
  | nil => exact Nat.zero_le _
  | cons x l ih =>
    have h1 := ih (fun y hy => h y (List.mem_cons_of_mem _ hy))
    have h2 := line_small (h := useH) (by decide) (h x (List.mem_cons_self ..))
    unfold textU at h1 ⊢
    rw [List.flatMap_cons, List.length_append, List.length_cons]
    omega
theorem line_ok {h s : ByteArray} {a b : Int} (hh : h.size ≤ 5) (f : Fit s a b) : lineOK h s a b = true := by
  have := line_small hh f
  rw [bytes_len] at this
  have := f.a0
  have := f.a1
  have := f.b0
  have := f.b1
  unfold lineOK
  simp only [Bool.and_eq_true, decide_eq_true_eq]
  exact ⟨⟨⟨by omega, by omega⟩, ⟨by omega, by omega⟩⟩, by omega⟩
theorem text_ok {l : List S32} {u : List S35} (h : FitAll l u) : textOK l u = true := by
  unfold textOK
  simp only [Bool.and_eq_true, List.all_eq_true, decide_eq_true_eq]
  refine ⟨⟨fun x hx => line_ok (by decide) (h.loads x hx), fun x hx => line_ok (by decide) (h.uses x hx)⟩, ?_⟩
  rw [List.length_append]
  have := textL_small h.loads
  have := textU_small h.uses
  have := h.few
  have := h.fewU
  omega
noncomputable def textV (l : List S32) (u : List S35) : ByteArray × Int := if usesV l u = 0 then (if (textL l ++ textU u).length > 50000 then ((⟨#[]⟩ : ByteArray), 2) else ((⟨(textL l ++ textU u).toArray⟩ : ByteArray), 0)) else ((⟨#[]⟩ : ByteArray), usesV l u)
theorem power_Text_ev (l : List S32) (u : List S35) : Ev (fun k => power_Text.f k l u) (textV l u) := by
  unfold power_Text.f textV
  refine Ev.bind (power_CheckUses_ev l u) ?_
  by_cases h : usesV l u = 0
  · simp only [if_pos h, if_pos (text_ok (fit_of h))]
    exact Ev.ite (fun q => by rw [if_pos q]; exact Ev.now _) (fun q => by rw [if_neg q]; exact Ev.now _)
  · simp only [if_neg h]
    exact Ev.now _
theorem itoa_f {n : Int} (h0 : 0 ≤ n) (h1 : n ≤ 1000000000000) : strconv_Itoa.f n = some (itoaB n) := if_pos ⟨by omega, by omega⟩
theorem ba_app (l : List UInt8) (s : ByteArray) : (⟨l.toArray⟩ : ByteArray) ++ s = ⟨(l ++ s.data.toList).toArray⟩ := by
  apply ByteArray.ext
  apply Array.ext'
  simp only [ByteArray.data_append, Array.toList_append]
theorem ref_text_l1 {l : List S32} {u : List S35} (h : FitAll l u) : ∀ d i : Nat, i + d = u.length → Ev (fun k => perigeeref9_Text.l1 k ⟨(textL l ++ textU (u.take i)).toArray⟩ u (u.length : Int) (i : Int)) (if (textL l ++ textU u).length > 50000 then ((⟨#[]⟩ : ByteArray), (2 : Int)) else ((⟨(textL l ++ textU u).toArray⟩ : ByteArray), 0)) := by
  have hfew := h.fewU
  intro d
  induction d with
  | zero =>
    intro i hi
    obtain rfl : i = u.length := by omega
    refine Ev.step (fun k => perigeeref9_Text.l1.eq_2 ..) ?_
    simp only [if_neg (show ¬ (u.length : Int) < (u.length : Int) by omega), List.take_length]
    refine Ev.ite (fun q => ?_) (fun q => ?_)
    · rw [ba_size] at q
      rw [if_pos (by omega)]
      exact Ev.now _
    · rw [ba_size] at q
      rw [if_neg (by omega)]
      exact Ev.now _
  | succ d ih =>
    intro i hi
    have hlt : i < u.length := by omega
    have hn := ih (i + 1) (by omega)
    rw [textU_snoc hlt, ← List.append_assoc] at hn
    have hm : rd_T35 u (i : Int) ∈ u := by
      unfold rd_T35
      simp [List.getD_eq_getElem?_getD, List.getElem?_eq_getElem hlt]
    have f := h.uses _ hm
    have hp1 := textL_small h.loads
    have hp2 := textU_small h.uses
    have hp3 := textU_part u i
    have hfl := h.few
    have hz : (⟨(textL l ++ textU (u.take i)).toArray⟩ : ByteArray).size ≤ 100000 := by rw [ba_size, List.length_append]; omega
    refine Ev.step (fun k => perigeeref9_Text.l1.eq_2 ..) ?_
    simp only [if_pos (show (i : Int) < (u.length : Int) by omega), if_pos (show (0 : Int) ≤ (i : Int) by omega), w64 (x := (i : Int) + 1) (by omega) (by omega), itoa_f f.a0 f.a1, itoa_f f.b0 f.b1, Option.bind_some]
    generalize rd_T35 u (i : Int) = x at f hn ⊢
    have z1 := (word_bytes f.word).1
    have z2 := itoa_size f.a0 f.a1
    have z3 := itoa_size f.b0 f.b1
    have e1 : (⟨#[117, 115, 101, 32]⟩ : ByteArray).size = 4 := rfl
    have e2 : (⟨#[32]⟩ : ByteArray).size = 1 := rfl
    have e3 : (⟨#[10]⟩ : ByteArray).size = 1 := rfl
    repeat' refine Ev.ite (fun _ => ?_) (fun q => absurd (by first | omega | (simp only [ByteArray.size_append]; omega)) q)
    rw [ba_app]
    exact hn
theorem ref_text_l0 {l : List S32} {u : List S35} (h : FitAll l u) : ∀ d i : Nat, i + d = l.length → Ev (fun k => perigeeref9_Text.l0 k u ⟨(textL (l.take i)).toArray⟩ l (l.length : Int) (i : Int)) (if (textL l ++ textU u).length > 50000 then ((⟨#[]⟩ : ByteArray), (2 : Int)) else ((⟨(textL l ++ textU u).toArray⟩ : ByteArray), 0)) := by
  have hfew := h.few
  intro d
  induction d with
  | zero =>
    intro i hi
    obtain rfl : i = l.length := by omega
    refine Ev.step (fun k => perigeeref9_Text.l0.eq_2 ..) ?_
    simp only [if_neg (show ¬ (l.length : Int) < (l.length : Int) by omega), List.take_length]
    have := ref_text_l1 h u.length 0 (Nat.zero_add _)
    rw [show textU (u.take 0) = [] from rfl, List.append_nil] at this
    exact this
  | succ d ih =>
    intro i hi
    have hlt : i < l.length := by omega
    have hn := ih (i + 1) (by omega)
    rw [textL_snoc hlt] at hn
    have hm : rd_T32 l (i : Int) ∈ l := by
      unfold rd_T32
      simp [List.getD_eq_getElem?_getD, List.getElem?_eq_getElem hlt]
    have f := h.loads _ hm
    have hp1 := textL_small h.loads
    have hp3 := textL_part l i
    have hz : (⟨(textL (l.take i)).toArray⟩ : ByteArray).size ≤ 100000 := by rw [ba_size]; omega
    refine Ev.step (fun k => perigeeref9_Text.l0.eq_2 ..) ?_
    simp only [if_pos (show (i : Int) < (l.length : Int) by omega), if_pos (show (0 : Int) ≤ (i : Int) by omega), w64 (x := (i : Int) + 1) (by omega) (by omega), itoa_f f.a0 f.a1, itoa_f f.b0 f.b1, Option.bind_some]
    generalize rd_T32 l (i : Int) = x at f hn ⊢
    have z1 := (word_bytes f.word).1
    have z2 := itoa_size f.a0 f.a1
    have z3 := itoa_size f.b0 f.b1
    have e1 : (⟨#[108, 111, 97, 100, 32]⟩ : ByteArray).size = 5 := rfl
    have e2 : (⟨#[32]⟩ : ByteArray).size = 1 := rfl
    have e3 : (⟨#[10]⟩ : ByteArray).size = 1 := rfl
    repeat' refine Ev.ite (fun _ => ?_) (fun q => absurd (by first | omega | (simp only [ByteArray.size_append]; omega)) q)
    rw [ba_app]
    exact hn
theorem ref_Text_ev (l : List S32) (u : List S35) : Ev (fun k => perigeeref9_Text.f k l u) (textV l u) := by
  unfold perigeeref9_Text.f textV
  refine Ev.bind (perigeeref9_CheckUses_ev l u) ?_
  by_cases h : usesV l u = 0
  · simp only [if_pos h]
    exact ref_text_l0 (fit_of h) _ 0 (Nat.zero_add _)
  · simp only [if_neg h]
    exact Ev.now _
theorem extract_ba (l : List UInt8) (i j : Nat) (h : j ≤ l.length) : (⟨l.toArray⟩ : ByteArray).extract i j = ⟨((l.take j).drop i).toArray⟩ := by
  apply ByteArray.ext
  apply Array.ext'
  rw [ByteArray.data_extract, Array.toList_extract]
  simp only [List.extract_eq_take_drop]
  rw [List.drop_take]
theorem read_line {w s : ByteArray} {a b : Int} (hw : (10 : UInt8) ∉ w.data.toList) (f : Fit s a b) (rest : List UInt8) (hr : ((lineB (w ++ sp) s a b).data.toList ++ rest).length ≤ 50000) {l l2 : List S32} {u u2 : List S35} (hl : l.length < 1000000) (hu : u.length < 1000000) (n : Int) (hn : 0 ≤ n ∧ n ≤ 1000000)
    (h1 : oneV (bodyB w s a b) l u = (true, l2, u2)) {v : Int × List S32 × List S35} (hv : Ev (fun k => ReadLines k ⟨rest.toArray⟩ (n + 1) l2 u2) v) :
    Ev (fun k => ReadLines k ⟨((lineB (w ++ sp) s a b).data.toList ++ rest).toArray⟩ n l u) v := by
  have hb := body_end hw f
  rw [body_line] at hr ⊢
  have hlen : ((bodyB w s a b).data.toList ++ [10] ++ rest).length = (bodyB w s a b).size + 1 + rest.length := by
    rw [List.length_append, List.length_append, bytes_len]
    rfl
  rw [hlen] at hr
  have hidx : Lib.indexByte (⟨((bodyB w s a b).data.toList ++ [10] ++ rest).toArray⟩ : ByteArray).data.toList 10 = ((bodyB w s a b).size : Int) := by
    show Lib.indexByte ((bodyB w s a b).data.toList ++ [10] ++ rest) 10 = _
    rw [List.append_assoc]
    have := indexByte_at 10 (bodyB w s a b).data.toList rest hb
    rw [bytes_len] at this
    exact this
  have hsz : (⟨((bodyB w s a b).data.toList ++ [10] ++ rest).toArray⟩ : ByteArray).size = (bodyB w s a b).size + 1 + rest.length := by rw [ba_size, hlen]
  have hx1 : (⟨((bodyB w s a b).data.toList ++ [10] ++ rest).toArray⟩ : ByteArray).extract 0 (bodyB w s a b).size = bodyB w s a b := by
    rw [extract_ba _ _ _ (by rw [hlen]; omega), List.drop_zero, List.append_assoc, ← bytes_len, List.take_left']
    rfl
  have hx2 : (⟨((bodyB w s a b).data.toList ++ [10] ++ rest).toArray⟩ : ByteArray).extract ((bodyB w s a b).size + 1) ((bodyB w s a b).size + 1 + rest.length) = ⟨rest.toArray⟩ := by
    rw [extract_ba _ _ _ (by rw [hlen]; exact Nat.le_refl _), List.take_of_length_le (by rw [hlen]; exact Nat.le_refl _), List.drop_left' (by rw [List.length_append, bytes_len]; rfl)]
  refine Ev.step (fun k => ReadLines.eq_2 ..) ?_
  rw [hidx, hsz]
  have hwi : wrap64 (((bodyB w s a b).size : Int) + 1) = ((bodyB w s a b).size : Int) + 1 := w64 (by omega) (by omega)
  simp only [if_neg (mt toList_nil.1 (show (⟨((bodyB w s a b).data.toList ++ [10] ++ rest).toArray⟩ : ByteArray).size ≠ 0 by rw [hsz]; omega)), if_neg (show ¬ ((bodyB w s a b).size : Int) < 0 by omega), hwi, w64 (x := n + 1) (by omega) (by omega)]
  refine Ev.ite (fun _ => ?_) (fun q => absurd (by omega) q)
  simp only [Int.toNat_natCast, hx1, show (((bodyB w s a b).size : Int) + 1).toNat = (bodyB w s a b).size + 1 by omega, hx2]
  have one := ReadOne_ev (x := bodyB w s a b) (by omega) (l := l) (u := u) hl hu
  rw [h1] at one
  refine Ev.bind one ?_
  simp only [if_true]
  exact hv
theorem read_uses {l : List S32} {u : List S35} (h : FitAll l u) : ∀ d i : Nat, i + d = u.length → (textU (u.drop i)).length ≤ 50000 → ∀ n : Int, 0 ≤ n → n ≤ 1000 + i → Ev (fun k => ReadLines k ⟨(textU (u.drop i)).toArray⟩ n l (u.take i)) (0, l, u) := by
  have hf1 := h.few
  have hf2 := h.fewU
  intro d
  induction d with
  | zero =>
    intro i hi _ n _ _
    obtain rfl : i = u.length := by omega
    rw [List.drop_length, List.take_length]
    refine Ev.step (fun k => ReadLines.eq_2 ..) ?_
    simp only [if_pos (toList_nil.2 (show (⟨(textU ([] : List S35)).toArray⟩ : ByteArray).size = 0 from rfl))]
    exact Ev.now _
  | succ d ih =>
    intro i hi hz n hn0 hn1
    have hlt : i < u.length := by omega
    have hd : u.drop i = u[i] :: u.drop (i + 1) := List.drop_eq_getElem_cons hlt
    have ht : textU (u.drop i) = (lineB useH u[i].f0 u[i].f1 u[i].f2).data.toList ++ textU (u.drop (i + 1)) := by
      rw [hd]
      unfold textU
      rw [List.flatMap_cons]
    rw [ht] at hz ⊢
    have f := h.uses _ (List.getElem_mem hlt)
    have hz2 := hz
    rw [List.length_append] at hz2
    refine read_line (w := useW) (by decide) f _ hz (by omega) (by rw [List.length_take]; omega) n ⟨hn0, by omega⟩ (one_use f l (u.take i)) ?_
    rw [show u.take i ++ [u[i]] = u.take (i + 1) from (List.take_succ_eq_append_getElem hlt).symm]
    exact ih (i + 1) (by omega) (by omega) (n + 1) (by omega) (by omega)
theorem read_loads {l : List S32} {u : List S35} (h : FitAll l u) : ∀ d i : Nat, i + d = l.length → (textL (l.drop i) ++ textU u).length ≤ 50000 → ∀ n : Int, 0 ≤ n → n ≤ 100 + i → Ev (fun k => ReadLines k ⟨(textL (l.drop i) ++ textU u).toArray⟩ n (l.take i) []) (0, l, u) := by
  have hf1 := h.few
  intro d
  induction d with
  | zero =>
    intro i hi hz n hn0 hn1
    obtain rfl : i = l.length := by omega
    rw [List.drop_length, List.take_length] at *
    rw [show textL ([] : List S32) = [] from rfl, List.nil_append] at hz ⊢
    exact read_uses h u.length 0 (Nat.zero_add _) hz n hn0 (by omega)
  | succ d ih =>
    intro i hi hz n hn0 hn1
    have hlt : i < l.length := by omega
    have hd : l.drop i = l[i] :: l.drop (i + 1) := List.drop_eq_getElem_cons hlt
    have ht : textL (l.drop i) = (lineB loadH l[i].f0 l[i].f1 l[i].f2).data.toList ++ textL (l.drop (i + 1)) := by
      rw [hd]
      unfold textL
      rw [List.flatMap_cons]
    rw [ht, List.append_assoc] at hz ⊢
    have f := h.loads _ (List.getElem_mem hlt)
    have hz2 := hz
    rw [List.length_append] at hz2
    refine read_line (w := loadW) (by decide) f _ hz (by rw [List.length_take]; omega) (by simp) n ⟨hn0, by omega⟩ (one_load f (l.take i)) ?_
    rw [show l.take i ++ [l[i]] = l.take (i + 1) from (List.take_succ_eq_append_getElem hlt).symm]
    exact ih (i + 1) (by omega) (by omega) (n + 1) (by omega) (by omega)
theorem read_back {l : List S32} {u : List S35} (h : usesV l u = 0) (hz : (textL l ++ textU u).length ≤ 50000) : Ev (fun k => power_Read.f k ⟨(textL l ++ textU u).toArray⟩) (l, u, 0, 0) := by
  unfold power_Read.f
  simp only [if_neg (show ¬ ((⟨(textL l ++ textU u).toArray⟩ : ByteArray).size : Int) > 50000 by rw [ba_size]; omega)]
  refine Ev.bind (read_loads (fit_of h) l.length 0 (Nat.zero_add _) hz 1 (by omega) (by omega)) ?_
  simp only [if_neg (show ¬ (0 : Int) > 0 by decide)]
  refine Ev.bind (power_CheckUses_ev l u) ?_
  simp only [h, if_true]
  exact Ev.now _
end Go.Proofs.YtplcdpiggpkppaaDoor.Q
