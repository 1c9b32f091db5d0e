/- Plain laws of chapter 9: how long a load can be on, as the program and the reference find it. -/
-- Made by wip/tools/claimp.py of this session's texts; Lean checks it.
import Derived.Test.YtplcdpiggpkppaaC8PowT
import Derived.Test.YtplcdpiggpkppaaC8Ge20
import Derived.Test.YtplcdpiggpkppaaC8Ge21
import Derived.Test.YtplcdpiggpkppaaC8Ge19
set_option linter.unusedVariables false
set_option linter.unusedSimpArgs false
namespace Go.Proofs.Ytplcdpiggpkppaa.Q
open Go.RowKit Go.Proofs.YtplcdpiggpkppaaW.PrintWords Go.Proofs.YtplcdpiggpkppaaW.PrintLast Go.Proofs.YtplcdpiggpkppaaW.PrintMore Go.Proofs.Ytplcdpiggpkppaa.Base
/-- With one use more, so long from a moment on. -/
def longer (u : List S47) (nm : ByteArray) (f m : Int) : List S47 := u ++ [(⟨nm, f, f + m⟩ : S47)]
/-- No use of the load between two moments. -/
def Free (u : List S47) (nm : ByteArray) (f n : Int) : Prop := ∀ x ∈ u, x.f0.toList = nm.toList → n ≤ x.f1 ∨ x.f2 ≤ f
theorem longer_good {r lv sn bs fl : Int} {s : List S72} {l : List S76} {u : List S47} (h : Good r lv sn bs fl s l u) (hu : u.length ≤ 300) {nm : ByteArray} {f n m : Int} (hf : 0 ≤ f) (hn : n ≤ 1000000000000) (hm : 1 ≤ m ∧ m ≤ n - f) (hfree : Free u nm f n) : Good r lv sn bs fl s l (longer u nm f m) := by
  refine ⟨h.cell, h.sun, h.uses.loads, ?_, ?_, ?_⟩
  · unfold longer; rw [List.length_append]; simp only [List.length_cons, List.length_nil]; omega
  · intro x hx
    rcases List.mem_append.1 hx with q | q
    · exact h.uses.each x q
    · rw [List.mem_singleton.1 q]
      unfold inM
      show (0 ≤ f ∧ f ≤ 1000000000000) ∧ (0 ≤ f + m ∧ f + m ≤ 1000000000000) ∧ f < f + m
      omega
  · refine List.pairwise_append.2 ⟨h.uses.apart, List.pairwise_singleton _ _, fun x hx y hy e => ?_⟩
    rw [List.mem_singleton.1 hy] at e ⊢
    have := hfree x hx e
    show x.f2 ≤ f ∨ f + m ≤ x.f1
    omega
theorem draw_longer {l : List S76} (hl : GoodLoads l) (u : List S47) (nm : ByteArray) {f m m' : Int} (h : m ≤ m') (t : Int) : drawV l (longer u nm f m) t ≤ drawV l (longer u nm f m') t := by
  rw [drawV_sum, drawV_sum]
  unfold longer
  rw [List.map_append, List.map_append, List.sum_append, List.sum_append]
  have hb := (loadV_bd hl nm).1
  have : onU l t (⟨nm, f, f + m⟩ : S47) ≤ onU l t (⟨nm, f, f + m'⟩ : S47) := by
    unfold onU
    show (if f ≤ t ∧ t < f + m then (loadV l nm).2.1 else 0) ≤ (if f ≤ t ∧ t < f + m' then (loadV l nm).2.1 else 0)
    split
    · rw [if_pos (by omega)]; exact Int.le_refl _
    · split <;> omega
  simp only [List.map_cons, List.map_nil, List.sum_cons, List.sum_nil]
  omega
/-- How long at most. -/
def IsLong (F : Int → Prop) (top m : Int) : Prop := (0 ≤ m ∧ m ≤ top) ∧ (m = 0 ∨ F m) ∧ (m = top ∨ ¬ F (m + 1))
theorem IsLong.unique {F : Int → Prop} {top m m' : Int} (mono : ∀ a b, 1 ≤ a → a ≤ b → b ≤ top → F b → F a) (h : IsLong F top m) (h' : IsLong F top m') : m = m' := by
  obtain ⟨h1, h2, h3⟩ := h
  obtain ⟨k1, k2, k3⟩ := h'
  rcases Int.lt_trichotomy m m' with q | q | q
  · rcases k2 with k2 | k2
    · omega
    · rcases h3 with h3 | h3
      · omega
      · exact absurd (mono (m + 1) m' (by omega) (by omega) k1.2 k2) h3
  · exact q
  · rcases h2 with h2 | h2
    · omega
    · rcases k3 with k3 | k3
      · omega
      · exact absurd (mono (m' + 1) m (by omega) (by omega) h1.2 h2) k3
section
variable {r lv sn bs fl : Int} {s : List S72} {l : List S76} {u : List S47}
theorem fits_longer (h : Good r lv sn bs fl s l u) (nm : ByteArray) (f n : Int) (top : Int) : ∀ a b, 1 ≤ a → a ≤ b → b ≤ top → Fits r lv sn bs fl s l (longer u nm f b) n → Fits r lv sn bs fl s l (longer u nm f a) n :=
  fun a b _ hab _ hf => fits_less (by have := h.cell; omega) (draw_longer h.uses.loads u nm hab) hf
theorem clone_eq (u : List S47) (hu : u.length ≤ 300) : api_Use_80.f u = some u := by
  unfold api_Use_80.f
  rw [if_pos (by omega)]
theorem power_long (h : Good r lv sn bs fl s l u) (hu : u.length ≤ 300) {nm : ByteArray} {f n : Int} (hf : 0 ≤ f ∧ f ≤ n) (hn : n ≤ 1000000000000) (hfree : Free u nm f n) :
    ∀ (d : Nat) (lo hi : Int), (hi - lo).toNat ≤ d → 0 ≤ lo → lo ≤ hi → hi ≤ n - f → (lo = 0 ∨ Fits r lv sn bs fl s l (longer u nm f lo) n) → (hi = n - f ∨ ¬ Fits r lv sn bs fl s l (longer u nm f (hi + 1)) n) →
      ∃ m, Ev (fun k => power_Longest.l1 k s l u nm f n lo hi r lv sn bs fl) (m, 0) ∧ IsLong (fun m => Fits r lv sn bs fl s l (longer u nm f m) n) (n - f) m := by
  intro d
  induction d with
  | zero =>
    intro lo hi hd h0 h1 h2 hlo hhi
    have e : lo = hi := by omega
    subst e
    refine ⟨lo, ?_, ⟨h0, h2⟩, hlo, hhi⟩
    refine Ev.step (fun k => power_Longest.l1.eq_2 ..) ?_
    simp only [if_neg (show ¬ lo < lo by omega)]
    exact Ev.now _
  | succ d ih =>
    intro lo hi hd h0 h1 h2 hlo hhi
    by_cases hlt : lo < hi
    · have hmid : wrap64 (Int.tdiv (wrap64 (wrap64 (lo + hi) + 1)) 2) = (lo + hi + 1) / 2 := by
        rw [w64 (x := lo + hi) (by omega) (by omega), w64 (x := lo + hi + 1) (by omega) (by omega), Int.tdiv_eq_ediv_of_nonneg (by omega)]
        exact w64 (by omega) (by omega)
      obtain ⟨mid, hme⟩ : ∃ mid, (lo + hi + 1) / 2 = mid := ⟨_, rfl⟩
      have hmb : lo < mid ∧ mid ≤ hi := by omega
      have hg := longer_good h hu hf.1 hn (m := mid) (by omega) hfree
      obtain ⟨o, ho, hfi⟩ := power_empty_ev hg (n := n) (by omega)
      have hs := first_fits hfi
      have step : ∀ v, (if firstI o < 0 then Ev (fun k => power_Longest.l1 k s l u nm f n mid hi r lv sn bs fl) v else Ev (fun k => power_Longest.l1 k s l u nm f n lo (mid - 1) r lv sn bs fl) v) → Ev (fun k => power_Longest.l1 k s l u nm f n lo hi r lv sn bs fl) v := by
        intro v hv
        refine Ev.step (fun k => power_Longest.l1.eq_2 ..) ?_
        simp only [if_pos hlt, hmid, hme, clone_eq u hu, Option.bind_some, if_pos (show u.length < 4398046511104 by omega), w64 (x := f + mid) (by omega) (by omega), w64 (x := mid - 1) (by omega) (by omega)]
        refine Ev.bind ho ?_
        refine Ev.ite (fun q => ?_) (fun q => ?_)
        · rw [if_pos q] at hv; exact hv
        · rw [if_neg q] at hv; exact hv
      by_cases hq : o = none
      · obtain ⟨m, hr, hm⟩ := ih mid hi (by omega) (by omega) (by omega) h2 (.inr (hs.1 hq)) hhi
        exact ⟨m, step _ (by rw [if_pos (firstI_neg.2 hq)]; exact hr), hm⟩
      · obtain ⟨m, hr, hm⟩ := ih lo (mid - 1) (by omega) h0 (by omega) (by omega) hlo (.inr (by rw [show mid - 1 + 1 = mid by omega]; exact fun q => hq (hs.2 q)))
        exact ⟨m, step _ (by rw [if_neg (fun q => hq (firstI_neg.1 q))]; exact hr), hm⟩
    · exact ih lo hi (by omega) h0 h1 h2 hlo hhi
theorem ref_long (h : Good r lv sn bs fl s l u) (hu : u.length ≤ 300) {nm : ByteArray} {f n : Int} (hf : 0 ≤ f ∧ f ≤ n) (hn : n ≤ 1000000000000) (hfree : Free u nm f n) :
    ∀ (d : Nat) (lo hi : Int), (hi - lo).toNat ≤ d → 0 ≤ lo → lo < hi → hi ≤ n - f + 1 → (lo = 0 ∨ Fits r lv sn bs fl s l (longer u nm f lo) n) → (hi = n - f + 1 ∨ ¬ Fits r lv sn bs fl s l (longer u nm f hi) n) →
      ∃ m, Ev (fun k => perigeeref9_Longest.l1 k s l u nm f n lo hi r lv sn bs fl) (m, 0) ∧ IsLong (fun m => Fits r lv sn bs fl s l (longer u nm f m) n) (n - f) m := by
  intro d
  induction d with
  | zero => intro lo hi hd h0 h1 h2 hlo hhi; omega
  | succ d ih =>
    intro lo hi hd h0 h1 h2 hlo hhi
    by_cases hlt : hi - lo > 1
    · have hmid : wrap64 (Int.tdiv (wrap64 (lo + hi)) 2) = (lo + hi) / 2 := by
        rw [w64 (x := lo + hi) (by omega) (by omega), Int.tdiv_eq_ediv_of_nonneg (by omega)]
        exact w64 (by omega) (by omega)
      obtain ⟨mid, hme⟩ : ∃ mid, (lo + hi) / 2 = mid := ⟨_, rfl⟩
      have hmb : lo < mid ∧ mid < hi := by omega
      have hg := longer_good h hu hf.1 hn (m := mid) (by omega) hfree
      obtain ⟨o, ho, hfi⟩ := ref_empty_ev hg (n := n) (by omega)
      have hs := first_fits hfi
      have step : ∀ v, (if (firstP o).2 = true then Ev (fun k => perigeeref9_Longest.l1 k s l u nm f n lo mid r lv sn bs fl) v else Ev (fun k => perigeeref9_Longest.l1 k s l u nm f n mid hi r lv sn bs fl) v) → Ev (fun k => perigeeref9_Longest.l1 k s l u nm f n lo hi r lv sn bs fl) v := by
        intro v hv
        refine Ev.step (fun k => perigeeref9_Longest.l1.eq_2 ..) ?_
        simp only [w64 (x := hi - lo) (by omega) (by omega), if_pos hlt, hmid, hme, clone_eq u hu, Option.bind_some, if_pos (show u.length < 4398046511104 by omega), w64 (x := f + mid) (by omega) (by omega)]
        refine Ev.bind ho ?_
        refine Ev.ite (fun q => ?_) (fun q => ?_)
        · rw [if_pos q] at hv; exact hv
        · rw [if_neg q] at hv; exact hv
      cases o with
      | none =>
        obtain ⟨m, hr, hm⟩ := ih mid hi (by omega) (by omega) (by omega) h2 (.inr (hs.1 rfl)) hhi
        exact ⟨m, step _ (by rw [if_neg (by simp [firstP])]; exact hr), hm⟩
      | some j =>
        obtain ⟨m, hr, hm⟩ := ih lo mid (by omega) h0 (by omega) (by omega) hlo (.inr (fun q => by cases hs.2 q))
        exact ⟨m, step _ (by rw [if_pos (show (firstP (some j)).2 = true from rfl)]; exact hr), hm⟩
    · have e : hi = lo + 1 := by omega
      subst e
      refine ⟨lo, ?_, ⟨h0, by omega⟩, hlo, ?_⟩
      · refine Ev.step (fun k => perigeeref9_Longest.l1.eq_2 ..) ?_
        simp only [w64 (x := lo + 1 - lo) (by omega) (by omega), if_neg hlt]
        exact Ev.now _
      · rcases hhi with q | q
        · left; omega
        · exact .inr q
/-- A use of the load that lies between two moments. -/
def clashX (x : S47) (nm : ByteArray) (f n : Int) : Prop := x.f0.toList = nm.toList ∧ x.f1 < n ∧ x.f2 > f
theorem power_scan {nm : ByteArray} {f n : Int} (hu : u.length ≤ 300) (V : Int × Int) (hV : (∃ x ∈ u, clashX x nm f n) → V = (0, 12)) (hfin : (¬ ∃ x ∈ u, clashX x nm f n) → Ev (fun k => power_Longest.l1 k s l u nm f n 0 (wrap64 (n - f)) r lv sn bs fl) V) :
    Ev (fun k => power_Longest.l0 k s l u nm f n u (u.length : Int) 0 r lv sn bs fl) V := by
  refine Ev.loopP (L := fun k i => power_Longest.l0 k s l u nm f n u (u.length : Int) (i : Int) r lv sn bs fl) (v := fun _ => V) (P := fun i => ∀ j (hj : j < u.length), j < i → ¬ clashX u[j] nm f n) u.length ?_ ?_ u.length 0 (by omega) (fun j hj hji => by omega)
  · intro hP
    refine Ev.step (fun k => power_Longest.l0.eq_2 ..) ?_
    simp only [if_neg (show ¬ (u.length : Int) < u.length by omega)]
    refine hfin ?_
    rintro ⟨x, hx, hc⟩
    obtain ⟨j, hj, rfl⟩ := List.mem_iff_getElem.1 hx
    exact hP j hj hj hc
  · intro i hi hP ih
    have hnext : ¬ clashX u[i] nm f n → Ev (fun k => power_Longest.l0 k s l u nm f n u (u.length : Int) ((i + 1 : Nat) : Int) r lv sn bs fl) V := fun q => ih (fun j hj hji => by
      by_cases e : j = i
      · subst e; exact q
      · exact hP j hj (by omega))
    have hyes : clashX u[i] nm f n → V = (0, 12) := fun q => hV ⟨_, List.getElem_mem hi, q⟩
    refine Ev.step (fun k => power_Longest.l0.eq_2 ..) ?_
    simp only [if_pos (show (i : Int) < u.length by omega), if_pos (show (0 : Int) ≤ i by omega), w64 (x := (i : Int) + 1) (by omega) (by omega), rdU_get hi]
    refine Ev.ite (fun h1 => ?_) (fun h1 => hnext (fun q => h1 q.1))
    refine Ev.ite (fun h2 => ?_) (fun h2 => hnext (fun q => h2 q.2.1))
    refine Ev.ite (fun h3 => ?_) (fun h3 => hnext (fun q => h3 q.2.2))
    exact Ev.is (hyes ⟨h1, h2, h3⟩).symm
theorem ref_scan {nm : ByteArray} {f n : Int} (hu : u.length ≤ 300) (V : Int × Int) (hV : (∃ x ∈ u, clashX x nm f n) → V = (0, 12)) (hfin : (¬ ∃ x ∈ u, clashX x nm f n) → Ev (fun k => perigeeref9_Longest.l1 k s l u nm f n 0 (wrap64 (wrap64 (n - f) + 1)) r lv sn bs fl) V) :
    Ev (fun k => perigeeref9_Longest.l0 k s l u nm f n u (u.length : Int) 0 r lv sn bs fl) V := by
  refine Ev.loopP (L := fun k i => perigeeref9_Longest.l0 k s l u nm f n u (u.length : Int) (i : Int) r lv sn bs fl) (v := fun _ => V) (P := fun i => ∀ j (hj : j < u.length), j < i → ¬ clashX u[j] nm f n) u.length ?_ ?_ u.length 0 (by omega) (fun j hj hji => by omega)
  · intro hP
    refine Ev.step (fun k => perigeeref9_Longest.l0.eq_2 ..) ?_
    simp only [if_neg (show ¬ (u.length : Int) < u.length by omega)]
    refine hfin ?_
    rintro ⟨x, hx, hc⟩
    obtain ⟨j, hj, rfl⟩ := List.mem_iff_getElem.1 hx
    exact hP j hj hj hc
  · intro i hi hP ih
    have hnext : ¬ clashX u[i] nm f n → Ev (fun k => perigeeref9_Longest.l0 k s l u nm f n u (u.length : Int) ((i + 1 : Nat) : Int) r lv sn bs fl) V := fun q => ih (fun j hj hji => by
      by_cases e : j = i
      · subst e; exact q
      · exact hP j hj (by omega))
    have hyes : clashX u[i] nm f n → V = (0, 12) := fun q => hV ⟨_, List.getElem_mem hi, q⟩
    refine Ev.step (fun k => perigeeref9_Longest.l0.eq_2 ..) ?_
    simp only [if_pos (show (i : Int) < u.length by omega), if_pos (show (0 : Int) ≤ i by omega), w64 (x := (i : Int) + 1) (by omega) (by omega), rdU_get hi]
    refine Ev.ite (fun h1 => ?_) (fun h1 => hnext (fun q => h1 q.1))
    refine Ev.ite (fun h2 => ?_) (fun h2 => hnext (fun q => h2 q.2.1))
    refine Ev.ite (fun h3 => ?_) (fun h3 => hnext (fun q => h3 q.2.2))
    exact Ev.is (hyes ⟨h1, h2, h3⟩).symm
theorem usesV_few {l : List S76} {u : List S47} (h : usesV l u = 0) : u.length ≤ 300 := by
  unfold usesV at h
  split at h
  · rename_i q; exact absurd h q
  · split at h
    · omega
    · omega
end
theorem longests (r lv sn bs fl : Int) (s : List S72) (l : List S76) (u : List S47) (nm : ByteArray) (f n : Int) : ∃ V, Ev (fun k => power_Longest.f k r lv sn bs fl s l u nm f n) V ∧ Ev (fun k => perigeeref9_Longest.f k r lv sn bs fl s l u nm f n) V := by
  simp only [power_Longest.f, perigeeref9_Longest.f, kit_In_eq, within_eq, Option.bind_some, decide_eq_true_eq]
  by_cases h0 : checkF r lv sn bs fl s l u n = 0
  · obtain ⟨h, hn⟩ := checkF_good h0
    have hu := usesV_few (checkF_parts.1 h0).2.2.1
    by_cases h1 : (loadV l nm).2.2.2 = true
    · by_cases h2 : 0 ≤ f ∧ f ≤ n
      · -- all asked
        have main : ∃ V, Ev (fun k => power_Longest.l0 k s l u nm f n u (u.length : Int) 0 r lv sn bs fl) V ∧ Ev (fun k => perigeeref9_Longest.l0 k s l u nm f n u (u.length : Int) 0 r lv sn bs fl) V := by
          by_cases hc : ∃ x ∈ u, clashX x nm f n
          · exact ⟨(0, 12), power_scan hu _ (fun _ => rfl) (fun q => absurd hc q), ref_scan hu _ (fun _ => rfl) (fun q => absurd hc q)⟩
          · have hfree : Free u nm f n := fun x hx e => by
              apply Classical.byContradiction
              intro q
              exact hc ⟨x, hx, e, by omega, by omega⟩
            obtain ⟨m, hr, hm⟩ := power_long h hu h2 hn.2 hfree (n - f).toNat 0 (n - f) (by omega) (Int.le_refl _) (by omega) (Int.le_refl _) (.inl rfl) (.inl rfl)
            obtain ⟨m', hr', hm'⟩ := ref_long h hu h2 hn.2 hfree (n - f + 1).toNat 0 (n - f + 1) (by omega) (Int.le_refl _) (by omega) (Int.le_refl _) (.inl rfl) (.inl rfl)
            have e := hm.unique (fits_longer h nm f n (n - f)) hm'
            subst e
            refine ⟨(m, 0), power_scan hu _ (fun q => absurd q hc) (fun _ => ?_), ref_scan hu _ (fun q => absurd q hc) (fun _ => ?_)⟩
            · rw [w64 (x := n - f) (by omega) (by omega)]; exact hr
            · rw [w64 (x := n - f) (by omega) (by omega), w64 (x := n - f + 1) (by omega) (by omega)]; exact hr'
        obtain ⟨V, v1, v2⟩ := main
        refine ⟨V, ?_, ?_⟩
        · refine Ev.bind (power_check_ev r lv sn bs fl s l u n) ?_
          simp only [if_pos h0]
          refine Ev.bind (power_load_is h.uses.loads nm) ?_
          simp only [if_pos h1, if_pos h2]
          exact v1
        · refine Ev.bind (ref_ask_ev r lv sn bs fl s l u n) ?_
          simp only [if_pos h0]
          refine Ev.bind (loadOf_is h.uses.loads nm) ?_
          simp only [if_pos h1, if_pos h2]
          exact v2
      · refine ⟨(0, 1), ?_, ?_⟩
        · refine Ev.bind (power_check_ev r lv sn bs fl s l u n) ?_
          simp only [if_pos h0]
          refine Ev.bind (power_load_is h.uses.loads nm) ?_
          simp only [if_pos h1, if_neg h2]
          exact Ev.now _
        · refine Ev.bind (ref_ask_ev r lv sn bs fl s l u n) ?_
          simp only [if_pos h0]
          refine Ev.bind (loadOf_is h.uses.loads nm) ?_
          simp only [if_pos h1, if_neg h2]
          exact Ev.now _
    · refine ⟨(0, 9), ?_, ?_⟩
      · refine Ev.bind (power_check_ev r lv sn bs fl s l u n) ?_
        simp only [if_pos h0]
        refine Ev.bind (power_load_is h.uses.loads nm) ?_
        simp only [if_neg h1]
        exact Ev.now _
      · refine Ev.bind (ref_ask_ev r lv sn bs fl s l u n) ?_
        simp only [if_pos h0]
        refine Ev.bind (loadOf_is h.uses.loads nm) ?_
        simp only [if_neg h1]
        exact Ev.now _
  · refine ⟨(0, checkF r lv sn bs fl s l u n), ?_, ?_⟩
    · refine Ev.bind (power_check_ev r lv sn bs fl s l u n) ?_
      simp only [if_neg h0]
      exact Ev.now _
    · refine Ev.bind (ref_ask_ev r lv sn bs fl s l u n) ?_
      simp only [if_neg h0]
      exact Ev.now _
end Go.Proofs.Ytplcdpiggpkppaa.Q
