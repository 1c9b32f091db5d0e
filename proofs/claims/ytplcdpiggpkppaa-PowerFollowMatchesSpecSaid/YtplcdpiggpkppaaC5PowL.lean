/- Plain laws of chapter 9: what the reference tells by Follow, and that it is what the pieces tell. -/
-- Made by wip/tools/claimp.py of this session's texts; Lean checks it.
import Derived.Test.YtplcdpiggpkppaaC5PowJ
import Derived.Test.YtplcdpiggpkppaaC5Ge12
import Derived.Test.YtplcdpiggpkppaaC5Ge9
import Derived.Test.YtplcdpiggpkppaaC5Ge13
set_option linter.unusedVariables false
set_option linter.unusedSimpArgs false
namespace Go.Proofs.Ytplcdpiggpkppaa.Q
open Go.RowKit Go.Proofs.YtplcdpiggpkppaaW.PrintWords Go.Proofs.YtplcdpiggpkppaaW.PrintLast Go.Proofs.YtplcdpiggpkppaaW.PrintMore Go.Proofs.Ytplcdpiggpkppaa.Base
theorem Segs.starts {d : Int → Int} : ∀ {L : List (Int × Int × Int)} {a b : Int}, Segs d a b L → Up (L.map (·.1)) ∧ ∀ x ∈ L.map (·.1), a ≤ x ∧ x < b
  | [], _, _, _ => ⟨List.Pairwise.nil, fun x hx => by cases hx⟩
  | p :: L, a, b, h => by
    obtain ⟨h1, h2, h3, h4, h5⟩ := h
    obtain ⟨k1, k2⟩ := h5.starts
    refine ⟨List.pairwise_cons.2 ⟨fun x hx => ?_, k1⟩, fun x hx => ?_⟩
    · have := k2 x hx; show p.1 < x; omega
    · rcases List.mem_cons.1 hx with q | q
      · have q' : x = p.1 := q
        omega
      · have := k2 x q; omega
theorem Segs.turn {d : Int → Int} : ∀ {L : List (Int × Int × Int)} {a b : Int}, Segs d a b L → ∀ x, a ≤ x → x < b → x ∈ L.map (·.1) ∨ (a < x ∧ d x = d (x - 1))
  | [], a, b, h, x, h1, h2 => by have e : a = b := h; omega
  | p :: L, a, b, h, x, hx1, hx2 => by
    obtain ⟨h1, h2, h3, h4, h5⟩ := h
    by_cases e : x = p.1
    · left; subst e; exact List.mem_cons_self
    · by_cases c : x < p.2.1
      · right
        exact ⟨by omega, by rw [h4 x (by omega) c, h4 (x - 1) (by omega) (by omega)]⟩
      · rcases h5.turn x (by omega) hx2 with q | q
        · left; exact List.mem_cons_of_mem _ q
        · right; exact ⟨by omega, q.2⟩
theorem Segs.ends {d : Int → Int} : ∀ {L : List (Int × Int × Int)} {p : Int × Int × Int} {a b : Int}, Segs d a b (p :: L) → (p :: L).map (·.2.1) = L.map (·.1) ++ [b]
  | [], p, a, b, h => by
    have e : p.2.1 = b := h.2.2.2.2
    simp [e]
  | q :: L, p, a, b, h => by
    have k := Segs.ends h.2.2.2.2
    have e : q.1 = p.2.1 := h.2.2.2.2.1
    rw [List.map_cons, k, List.map_cons, e]
    rfl
/-- The moments at which the change turns: as pieces begin, or as legs do. -/
theorem turns_eq {d : Int → Int} {n : Int} {p q : Int × Int × Int} {P L : List (Int × Int × Int)} (hp : Segs d 0 n (p :: P)) (ht : ∀ x ∈ p :: P, Turns d x) (hq : Segs d 0 n (q :: L)) :
    P.map (·.1) = (L.filter fun x => decide (x.2.2 ≠ d (x.1 - 1))).map (·.1) := by
  have p1 := hp.1
  have q1 := hq.1
  have hpu := List.pairwise_cons.1 hp.starts.1
  have hqu := List.pairwise_cons.1 hq.starts.1
  have sub : (L.filter fun x => decide (x.2.2 ≠ d (x.1 - 1))).map (·.1) |>.Sublist (L.map (·.1)) := List.filter_sublist.map _
  refine up_ext hpu.2 (hqu.2.sublist sub) fun x => ?_
  have A : x ∈ P.map (·.1) ↔ 0 < x ∧ x < n ∧ d x ≠ d (x - 1) := by
    constructor
    · intro h
      have h0 : 0 < x := by have z : p.1 < x := hpu.1 x h; omega
      have h1 := (hp.starts.2 x (List.mem_cons_of_mem _ h)).2
      obtain ⟨y, hy, rfl⟩ := List.mem_map.1 h
      rcases ht y (List.mem_cons_of_mem _ hy) with z | z
      · omega
      · exact ⟨h0, h1, z⟩
    · rintro ⟨h0, h1, h2⟩
      rcases hp.turn x (by omega) h1 with z | z
      · rcases List.mem_cons.1 z with z | z
        · have z' : x = p.1 := z
          omega
        · exact z
      · exact absurd z.2 h2
  have B : x ∈ (L.filter fun x => decide (x.2.2 ≠ d (x.1 - 1))).map (·.1) ↔ 0 < x ∧ x < n ∧ d x ≠ d (x - 1) := by
    have hin := hq.inside
    constructor
    · intro h
      obtain ⟨y, hy, rfl⟩ := List.mem_map.1 h
      obtain ⟨hy1, hy2⟩ := List.mem_filter.1 hy
      have hy2 := of_decide_eq_true hy2
      have h0 : 0 < y.1 := by have z : q.1 < y.1 := hqu.1 y.1 (List.mem_map_of_mem hy1); omega
      obtain ⟨i1, i2, i3, i4⟩ := hin y (List.mem_cons_of_mem _ hy1)
      exact ⟨h0, by omega, by rw [i4]; exact hy2⟩
    · rintro ⟨h0, h1, h2⟩
      rcases hq.turn x (by omega) h1 with z | z
      · rcases List.mem_cons.1 z with z | z
        · have z' : x = q.1 := z
          omega
        · obtain ⟨y, hy, rfl⟩ := List.mem_map.1 z
          obtain ⟨i1, i2, i3, i4⟩ := hin y (List.mem_cons_of_mem _ hy)
          exact List.mem_map.2 ⟨y, List.mem_filter.2 ⟨hy, decide_eq_true (by rw [← i4]; exact h2)⟩, rfl⟩
      · exact absurd z.2 h2
  rw [A, B]
/-- A mark. -/
noncomputable def markV (r lv sn bs : Int) (s : List S72) (l : List S76) (u : List S47) (t : Int) : S42 := ⟨t, lvV r lv sn bs s l u t.toNat⟩
theorem follow_end {r lv sn bs fl : Int} {s : List S72} {l : List S76} {u : List S47} (h : Good r lv sn bs fl s l u) {n : Int} (hn : 0 < n ∧ n ≤ 1000000000000) {M : List S96} (x : Int) {i : Nat} (hi : M.length ≤ i) {out : List S42} (hne : out ≠ []) (hol : out.length ≤ 2000000000000) (hlt : ∀ v ∈ out, v.f0 < n) :
    Ev (fun k => perigeeref9_Follow.l0 k s l u n out x M (M.length : Int) (i : Int) r lv sn bs fl) (out ++ [(⟨n, x⟩ : S42)], 0) := by
  have hpos : 0 < out.length := List.length_pos_iff.2 hne
  refine Ev.step (fun k => perigeeref9_Follow.l0.eq_2 ..) ?_
  simp only [if_neg (show ¬ (i : Int) < M.length by omega), if_pos (show n > 0 by omega), w64 (x := n - 1) (by omega) (by omega), w64 (x := (out.length : Int) - 1) (by omega) (by omega), if_pos (show (0 : Int) ≤ (out.length : Int) - 1 by omega), if_pos (show (out.length : Int) - 1 < out.length by omega), if_pos (show out.length < 8796093022208 by omega)]
  refine Ev.bind (ref_change_ev h _) ?_
  refine Ev.bind (ref_change_ev h _) ?_
  refine Ev.ite (fun _ => ?_) (fun _ => Ev.now _)
  have hlast : rd_T42 out ((out.length : Int) - 1) ∈ out := by
    unfold rd_T42
    rw [List.getD_eq_getElem?_getD, show ((out.length : Int) - 1).toNat = out.length - 1 by omega, List.getElem?_eq_getElem (show out.length - 1 < out.length by omega)]
    exact List.getElem_mem _
  simp only [if_pos (hlt _ hlast)]
  exact Ev.now _
theorem ref_follow_loop {r lv sn bs fl : Int} {s : List S72} {l : List S76} {u : List S47} (h : Good r lv sn bs fl s l u) {n : Int} (hn : 0 < n ∧ n ≤ 1000000000000) {M : List S96} (hM : (M.length : Int) ≤ 1000000000000) :
    ∀ (L : List (Int × Int × Int)) (i : Nat) (a : Int) (out : List S42), 0 < i → i ≤ M.length → M.drop i = attach r (lvV r lv sn bs s l u a.toNat) L → 0 ≤ a → Segs (dV sn bs s l u) a n L → out ≠ [] → out.length ≤ i + 1 → (∀ v ∈ out, v.f0 < n) →
      Ev (fun k => perigeeref9_Follow.l0 k s l u n out (lvV r lv sn bs s l u a.toNat) M (M.length : Int) (i : Int) r lv sn bs fl) (out ++ ((L.filter fun x => decide (x.2.2 ≠ dV sn bs s l u (x.1 - 1))).map fun x => markV r lv sn bs s l u x.1) ++ [markV r lv sn bs s l u n], 0)
  | [], i, a, out, hi, hiM, hd, ha, hs, hne, hol, hlt => by
    have hi2 : M.length ≤ i := List.drop_eq_nil_iff.1 hd
    have e : a = n := hs
    subst e
    exact Ev.to (follow_end h hn _ hi2 hne (by omega) hlt) (by simp [markV])
  | p :: L, i, a, out, hi, hiM, hd, ha, hs, hne, hol, hlt => by
    obtain ⟨q1, q2, q3, q4, q5⟩ := leg_step h ha hs
    obtain ⟨h1, h2, h3⟩ := rd_leg hd
    rw [q3] at h1 h3
    refine Ev.step (fun k => perigeeref9_Follow.l0.eq_2 ..) ?_
    simp only [if_pos (show (i : Int) < M.length by omega), if_pos (show (0 : Int) ≤ i by omega), if_pos (show (i : Int) > 0 by omega), h1, w64 (x := p.1 - 1) (by omega) (by omega), w64 (x := (i : Int) + 1) (by omega) (by omega), if_pos (show out.length < 8796093022208 by omega)]
    refine Ev.bind (ref_change_ev h _) ?_
    refine Ev.ite (fun c => ?_) (fun c => ?_)
    · have e : ((p :: L).filter fun x => decide (x.2.2 ≠ dV sn bs s l u (x.1 - 1))) = L.filter fun x => decide (x.2.2 ≠ dV sn bs s l u (x.1 - 1)) := by
        rw [List.filter_cons, if_neg (by simp [c])]
      rw [e]
      exact ref_follow_loop h hn hM L (i + 1) p.2.1 out (by omega) h2 h3 (by omega) q4 hne (by omega) hlt
    · have e : ((p :: L).filter fun x => decide (x.2.2 ≠ dV sn bs s l u (x.1 - 1))) = p :: L.filter fun x => decide (x.2.2 ≠ dV sn bs s l u (x.1 - 1)) := by
        rw [List.filter_cons, if_pos (by simp [c])]
      rw [e]
      have ih := ref_follow_loop h hn hM L (i + 1) p.2.1 (out ++ [(⟨p.1, lvV r lv sn bs s l u a.toNat⟩ : S42)]) (by omega) h2 h3 (by omega) q4 (by simp) (by rw [List.length_append]; simp only [List.length_cons, List.length_nil]; omega) (fun v hv => by
        rcases List.mem_append.1 hv with z | z
        · exact hlt v z
        · rw [List.mem_singleton.1 z]; show p.1 < n; omega)
      refine Ev.to ih ?_
      rw [List.map_cons, show markV r lv sn bs s l u p.1 = (⟨p.1, lvV r lv sn bs s l u a.toNat⟩ : S42) from by unfold markV; rw [q1]]
      simp
theorem ref_Follow_ev (r lv sn bs fl : Int) (s : List S72) (l : List S76) (u : List S47) (n : Int) : Ev (fun k => perigeeref9_Follow.f k r lv sn bs fl s l u n) (FollowV r lv sn bs fl s l u n) := by
  simp only [perigeeref9_Follow.f]
  refine Ev.bind (ref_ask_ev r lv sn bs fl s l u n) ?_
  unfold FollowV
  refine Ev.ite (fun h0 => ?_) (fun h0 => Ev.is (if_neg h0).symm)
  rw [if_pos h0]
  obtain ⟨h, hn⟩ := checkF_good h0
  have hs := legs_segs h hn.1
  have hps := pieces_segs h hn.1
  have hsh := hs.short
  have hlen : (attach r lv (legsOf sn bs s l u n)).length = (legsOf sn bs s l u n).length := attach_length r _ lv
  refine Ev.bind (legs_ev h hn) ?_
  generalize legsOf sn bs s l u n = L at *
  generalize piecesV sn bs s l u n = P at *
  by_cases hz : n = 0
  · subst hz
    have e1 : L = [] := by
      cases L with
      | nil => rfl
      | cons p L => have := hs.1; have := hs.2.1; have := hs.2.2.1; omega
    have e2 : P = [] := by
      cases P with
      | nil => rfl
      | cons p L => have := hps.1.1; have := hps.1.2.1; have := hps.1.2.2.1; omega
    subst e1
    subst e2
    refine Ev.step (fun k => perigeeref9_Follow.l0.eq_2 ..) ?_
    simp only [attach, List.length_nil, if_neg (show ¬ (0 : Int) < ((0 : Nat) : Int) by omega), if_neg (show ¬ (0 : Int) > 0 by omega)]
    exact Ev.now _
  · have hpos : 0 < n := by omega
    cases L with
    | nil => have e : (0 : Int) = n := hs; omega
    | cons q L =>
      cases P with
      | nil => have e : (0 : Int) = n := hps.1; omega
      | cons p P =>
        obtain ⟨q1, q2, q3, q4, q5⟩ := leg_step h (Int.le_refl _) hs
        have q3' : overP r lv q = lvV r lv sn bs s l u q.2.1.toNat := q3
        have hl : (attach r lv (q :: L)).length = L.length + 1 := attach_length r _ lv
        have hrd : rd_T96 (attach r lv (q :: L)) 0 = (⟨q.1, q.2.1, lv, q.2.2, overP r lv q⟩ : S96) := rfl
        have ih := ref_follow_loop h ⟨hpos, hn.2⟩ (M := attach r lv (q :: L)) (by rw [hl]; simp only [List.length_cons] at hsh; omega) L 1 q.2.1 [(⟨0, lv⟩ : S42)] (by omega) (by rw [hl]; omega) (by rw [← q3']; rfl) (by omega) q4 (by simp) (by simp) (fun v hv => by rw [List.mem_singleton.1 hv]; exact hpos)
        refine Ev.step (fun k => perigeeref9_Follow.l0.eq_2 ..) ?_
        simp only [hl, if_pos (show (0 : Int) < ((L.length + 1 : Nat) : Int) by omega), if_pos (show (0 : Int) ≤ 0 by omega), if_neg (show ¬ (0 : Int) > 0 by omega), hrd, w64 (x := (0 : Int) + 1) (by omega) (by omega), q3']
        rw [hl] at ih
        refine Ev.to ih ?_
        have e1 := hps.1.ends
        have e2 := turns_eq hps.1 hps.2 hs
        have e3 : followL r lv sn bs s l u (p :: P) = ((p :: P).map (·.2.1)).map (markV r lv sn bs s l u) := by
          unfold followL
          rw [List.map_map]
          rfl
        rw [e3, e1, e2, List.map_append, List.map_map]
        simp [Function.comp_def]
theorem equal_levels_loop (l : List S42) (hl : (l.length : Int) ≤ 9000000000000000) : Ev (fun k => api_Level.l0 k l l (l.length : Int) 0) true := by
  refine Ev.loop (L := fun k i => api_Level.l0 k l l (l.length : Int) (i : Int)) (v := fun _ => true) l.length ?_ ?_ l.length 0 (by omega)
  · refine Ev.step (fun k => api_Level.l0.eq_2 ..) ?_
    simp only [if_neg (show ¬ (l.length : Int) < l.length by omega)]
    exact Ev.now _
  · intro i hi ih
    refine Ev.step (fun k => api_Level.l0.eq_2 ..) ?_
    simp only [if_pos (show (i : Int) < l.length by omega), if_pos (show (0 : Int) ≤ i by omega), w64 (x := (i : Int) + 1) (by omega) (by omega), beq_self_eq_true, Bool.not_true, Bool.or_self, if_neg Bool.false_ne_true]
    exact ih
theorem equal_levels (l : List S42) (hl : (l.length : Int) ≤ 9000000000000000) : Ev (fun k => api_Level.f k l l) true := by
  simp only [api_Level.f, if_true]
  exact equal_levels_loop l hl
end Go.Proofs.Ytplcdpiggpkppaa.Q
