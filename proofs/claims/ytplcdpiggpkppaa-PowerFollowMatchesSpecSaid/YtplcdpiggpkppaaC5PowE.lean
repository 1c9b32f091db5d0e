/- Plain laws of chapter 9: LevelAt and Follow, by the level at each millisecond. -/
-- Made by wip/tools/claimp.py of this session's texts; Lean checks it.
import Derived.Test.YtplcdpiggpkppaaC5PowD
import Derived.Test.YtplcdpiggpkppaaC5Ge13
import Derived.Test.YtplcdpiggpkppaaC5Ge9
set_option linter.unusedVariables false
set_option linter.unusedSimpArgs false
namespace Go.Proofs.Ytplcdpiggpkppaa.Q
open Go.RowKit Go.Proofs.YtplcdpiggpkppaaW.PrintWords Go.Proofs.YtplcdpiggpkppaaW.PrintLast Go.Proofs.YtplcdpiggpkppaaW.PrintMore Go.Proofs.Ytplcdpiggpkppaa.Base
theorem Segs.short {d : Int → Int} : ∀ {L : List (Int × Int × Int)} {a b : Int}, Segs d a b L → (L.length : Int) ≤ b - a
  | [], a, b, h => by have h' : a = b := h; subst h'; simp
  | p :: L, a, b, h => by
    obtain ⟨h1, h2, h3, h4, h5⟩ := h
    have := h5.short
    simp only [List.length_cons]
    omega
theorem drop_pieces {L : List (Int × Int × Int)} {i : Nat} (h : i < L.length) : ∃ p, L.drop i = p :: L.drop (i + 1) ∧ rd_T89 (L.map pieceOf) (i : Int) = pieceOf p := by
  obtain ⟨p, hp, hr, _⟩ := rd_pieces h
  refine ⟨p, ?_, hr⟩
  rw [List.drop_eq_getElem_cons h]
  rw [List.getElem?_eq_getElem h] at hp
  rw [Option.some.inj hp]
/-- One piece: the level at its end. -/
theorem piece_step {r lv sn bs fl : Int} {s : List S72} {l : List S76} {u : List S47} (h : Good r lv sn bs fl s l u) {n a : Int} (hn : n ≤ 1000000000000) (ha : 0 ≤ a) {p : Int × Int × Int} {L : List (Int × Int × Int)} (hs : Segs (dV sn bs s l u) a n (p :: L)) (x y z w : Int) :
    p.1 = a ∧ (0 < p.2.1 - p.1 ∧ p.2.1 ≤ n) ∧ wrap64 (p.2.1 - p.1) = p.2.1 - p.1 ∧ power_behind.f r x y z w (lvV r lv sn bs s l u a.toNat) p.2.2 (p.2.1 - p.1) = some (lvV r lv sn bs s l u p.2.1.toNat) ∧ Segs (dV sn bs s l u) p.2.1 n L ∧ (∀ t, p.1 ≤ t → t < p.2.1 → dV sn bs s l u t = p.2.2) := by
  obtain ⟨h1, h2, h3, h4, h5⟩ := hs
  have hd := d_bd h p.1
  rw [h4 p.1 (Int.le_refl _) h2] at hd
  have hl := lev_bd (d := dV sn bs s l u) h.cell.2.1 a.toNat
  have k := lev_piece (d := dV sn bs s l u) h.cell.2.1 (show 0 ≤ p.1 by omega) (Int.le_of_lt h2) h4 p.2.1 (Int.le_of_lt h2) (Int.le_refl _)
  refine ⟨h1, ⟨by omega, h3⟩, w64 (by omega) (by omega), ?_, h5, h4⟩
  unfold lvV
  rw [behind_eq h.cell.1 hl hd (by omega), k, h1]
/-- What Follow tells. -/
noncomputable def followL (r lv sn bs : Int) (s : List S72) (l : List S76) (u : List S47) (L : List (Int × Int × Int)) : List S42 := L.map fun p => ⟨p.2.1, lvV r lv sn bs s l u p.2.1.toNat⟩
noncomputable def FollowV (r lv sn bs fl : Int) (s : List S72) (l : List S76) (u : List S47) (n : Int) : List S42 × Int := if checkF r lv sn bs fl s l u n = 0 then ((⟨0, lv⟩ : S42) :: followL r lv sn bs s l u (piecesV sn bs s l u n), 0) else ([], checkF r lv sn bs fl s l u n)
theorem rd_last {m : List S42} {x : S42} : rd_T42 (m ++ [x]) (m.length : Int) = x := by
  unfold rd_T42
  rw [List.getD_eq_getElem?_getD, Int.toNat_natCast]
  simp
theorem follow_loop {r lv sn bs fl : Int} {s : List S72} {l : List S76} {u : List S47} (h : Good r lv sn bs fl s l u) {n : Int} (hn : n ≤ 1000000000000) {L : List (Int × Int × Int)} (hL : (L.length : Int) ≤ 1000000000000) :
    ∀ (d i : Nat) (a t : Int) (m : List S42), i + d = L.length → 0 ≤ a → Segs (dV sn bs s l u) a n (L.drop i) → m.length ≤ i →
      Ev (fun k => power_Follow.l0 k (m ++ [(⟨t, lvV r lv sn bs s l u a.toNat⟩ : S42)]) (L.map pieceOf) (L.length : Int) (i : Int) r lv sn bs fl) (m ++ [(⟨t, lvV r lv sn bs s l u a.toNat⟩ : S42)] ++ followL r lv sn bs s l u (L.drop i), 0)
  | 0, i, a, t, m, hi, ha, hs, hm => by
    rw [List.drop_of_length_le (by omega)] at hs ⊢
    refine Ev.step (fun k => power_Follow.l0.eq_2 ..) ?_
    simp only [if_neg (show ¬ (i : Int) < L.length by omega)]
    exact Ev.is (by simp [followL])
  | d + 1, i, a, t, m, hi, ha, hs, hm => by
    obtain ⟨p, hp, hr⟩ := drop_pieces (L := L) (i := i) (by omega)
    rw [hp] at hs ⊢
    obtain ⟨q1, q2, q3, q4, q5, _⟩ := piece_step h hn ha hs lv sn bs fl
    have ih := follow_loop h hn hL d (i + 1) p.2.1 p.2.1 (m ++ [(⟨t, lvV r lv sn bs s l u a.toNat⟩ : S42)]) (by omega) (by omega) q5 (by rw [List.length_append]; simp only [List.length_cons, List.length_nil]; omega)
    refine Ev.step (fun k => power_Follow.l0.eq_2 ..) ?_
    have hlen : (m ++ [(⟨t, lvV r lv sn bs s l u a.toNat⟩ : S42)]).length = m.length + 1 := by simp
    have hw : wrap64 (((m.length + 1 : Nat) : Int) - 1) = (m.length : Int) := by rw [w64 (by omega) (by omega)]; omega
    simp only [if_pos (show (i : Int) < L.length by omega), if_pos (show (0 : Int) ≤ i by omega), List.length_map, hlen, hw, if_pos (show (0 : Int) ≤ (m.length : Int) by omega), if_pos (show (m.length : Int) < ((m.length + 1 : Nat) : Int) by omega), rd_last, hr, pieceOf, q3, q4, Option.bind_some, if_pos (show m.length + 1 < 8796093022208 by omega), w64 (x := (i : Int) + 1) (by omega) (by omega)]
    have e : m ++ [(⟨t, lvV r lv sn bs s l u a.toNat⟩ : S42)] ++ followL r lv sn bs s l u (p :: L.drop (i + 1)) = m ++ [(⟨t, lvV r lv sn bs s l u a.toNat⟩ : S42)] ++ [(⟨p.2.1, lvV r lv sn bs s l u p.2.1.toNat⟩ : S42)] ++ followL r lv sn bs s l u (L.drop (i + 1)) := by
      simp [followL]
    rw [e]
    exact ih
theorem power_Follow_ev (r lv sn bs fl : Int) (s : List S72) (l : List S76) (u : List S47) (n : Int) : Ev (fun k => power_Follow.f k r lv sn bs fl s l u n) (FollowV r lv sn bs fl s l u n) := by
  simp only [power_Follow.f]
  refine Ev.bind (power_check_ev r lv sn bs fl s l u n) ?_
  unfold FollowV
  refine Ev.ite (fun h0 => ?_) (fun h0 => Ev.is (if_neg h0).symm)
  rw [if_pos h0]
  obtain ⟨h, hn⟩ := checkF_good h0
  refine Ev.bind (flow_ev h n) ?_
  have hs := (pieces_segs h hn.1).1
  have hsh := hs.short
  rw [List.length_map]
  exact follow_loop h hn.2 (by omega) (piecesV sn bs s l u n).length 0 0 0 [] (by omega) (Int.le_refl _) hs (Nat.le_refl _)
theorem Segs.last {d : Int → Int} : ∀ {L : List (Int × Int × Int)} {a b : Int}, Segs d a b L → L ≠ [] → ∃ L0 p, L = L0 ++ [p] ∧ p.2.1 = b
  | [], _, _, _, h => absurd rfl h
  | [p], a, b, h, _ => ⟨[], p, rfl, h.2.2.2.2⟩
  | p :: q :: L, a, b, h, _ => by
    obtain ⟨L0, z, hz, hb⟩ := Segs.last h.2.2.2.2 (by simp)
    exact ⟨p :: L0, z, by rw [hz]; rfl, hb⟩
end Go.Proofs.Ytplcdpiggpkppaa.Q
