/- Plain laws of chapter 9: LevelAt and Follow, by the level at each millisecond. -/
-- Made by wip/tools/claimp.py of this session's texts; Lean checks it.
import Derived.Test.YtplcdpiggpkppaaC12PowD
import Derived.Test.YtplcdpiggpkppaaC12Ge13
import Derived.Test.YtplcdpiggpkppaaC12Ge9
set_option linter.unusedVariables false
set_option linter.unusedSimpArgs false
namespace Go.Proofs.Ytplcdpiggpkppaa.Q
open Go.RowKit Go.Proofs.YtplcdpiggpkppaaW.PrintWords Go.Proofs.YtplcdpiggpkppaaW.PrintLast Go.Proofs.YtplcdpiggpkppaaW.PrintMore Go.Proofs.Ytplcdpiggpkppaa.Base
theorem Segs.short {d : Int → Int} : ∀ {L : List (Int × Int × Int)} {a b : Int}, Segs d a b L → (L.length : Int) ≤ b - a
  | [], a, b, h => by have h' : a = b := h; subst h'; simp
  | p :: L, a, b, h => by
    obtain ⟨h1, h2, h3, h4, h5⟩ := h
    have := h5.short
    simp only [List.length_cons]
    omega
theorem drop_pieces {L : List (Int × Int × Int)} {i : Nat} (h : i < L.length) : ∃ p, L.drop i = p :: L.drop (i + 1) ∧ rd_T89 (L.map pieceOf) (i : Int) = pieceOf p := by
  obtain ⟨p, hp, hr, _⟩ := rd_pieces h
  refine ⟨p, ?_, hr⟩
  rw [List.drop_eq_getElem_cons h]
  rw [List.getElem?_eq_getElem h] at hp
  rw [Option.some.inj hp]
/-- One piece: the level at its end. -/
theorem piece_step {r lv sn bs fl : Int} {s : List S72} {l : List S76} {u : List S47} (h : Good r lv sn bs fl s l u) {n a : Int} (hn : n ≤ 1000000000000) (ha : 0 ≤ a) {p : Int × Int × Int} {L : List (Int × Int × Int)} (hs : Segs (dV sn bs s l u) a n (p :: L)) (x y z w : Int) :
    p.1 = a ∧ (0 < p.2.1 - p.1 ∧ p.2.1 ≤ n) ∧ wrap64 (p.2.1 - p.1) = p.2.1 - p.1 ∧ power_behind.f r x y z w (lvV r lv sn bs s l u a.toNat) p.2.2 (p.2.1 - p.1) = some (lvV r lv sn bs s l u p.2.1.toNat) ∧ Segs (dV sn bs s l u) p.2.1 n L ∧ (∀ t, p.1 ≤ t → t < p.2.1 → dV sn bs s l u t = p.2.2) := by
  obtain ⟨h1, h2, h3, h4, h5⟩ := hs
  have hd := d_bd h p.1
  rw [h4 p.1 (Int.le_refl _) h2] at hd
  have hl := lev_bd (d := dV sn bs s l u) h.cell.2.1 a.toNat
  have k := lev_piece (d := dV sn bs s l u) h.cell.2.1 (show 0 ≤ p.1 by omega) (Int.le_of_lt h2) h4 p.2.1 (Int.le_of_lt h2) (Int.le_refl _)
  refine ⟨h1, ⟨by omega, h3⟩, w64 (by omega) (by omega), ?_, h5, h4⟩
  unfold lvV
  rw [behind_eq h.cell.1 hl hd (by omega), k, h1]
noncomputable def LevelV (r lv sn bs fl : Int) (s : List S72) (l : List S76) (u : List S47) (n : Int) : Int × Int := if checkF r lv sn bs fl s l u n = 0 then (lvV r lv sn bs s l u n.toNat, 0) else (0, checkF r lv sn bs fl s l u n)
theorem levelAt_loop {r lv sn bs fl : Int} {s : List S72} {l : List S76} {u : List S47} (h : Good r lv sn bs fl s l u) {n : Int} (hn : n ≤ 1000000000000) {L : List (Int × Int × Int)} (hL : (L.length : Int) ≤ 1000000000000) :
    ∀ (d i : Nat) (a : Int), i + d = L.length → 0 ≤ a → Segs (dV sn bs s l u) a n (L.drop i) → Ev (fun k => power_LevelAt.l0 k (lvV r lv sn bs s l u a.toNat) (L.map pieceOf) (L.length : Int) (i : Int) r lv sn bs fl) (lvV r lv sn bs s l u n.toNat, 0)
  | 0, i, a, hi, ha, hs => by
    rw [List.drop_of_length_le (by omega)] at hs
    have e : a = n := hs
    subst e
    refine Ev.step (fun k => power_LevelAt.l0.eq_2 ..) ?_
    simp only [if_neg (show ¬ (i : Int) < L.length by omega)]
    exact Ev.now _
  | d + 1, i, a, hi, ha, hs => by
    obtain ⟨p, hp, hr⟩ := drop_pieces (L := L) (i := i) (by omega)
    rw [hp] at hs
    obtain ⟨q1, q2, q3, q4, q5, _⟩ := piece_step h hn ha hs lv sn bs fl
    refine Ev.step (fun k => power_LevelAt.l0.eq_2 ..) ?_
    simp only [if_pos (show (i : Int) < L.length by omega), if_pos (show (0 : Int) ≤ i by omega), List.length_map, hr, pieceOf, q3, q4, Option.bind_some, w64 (x := (i : Int) + 1) (by omega) (by omega)]
    exact levelAt_loop h hn hL d (i + 1) p.2.1 (by omega) (by omega) q5
theorem power_LevelAt_ev (r lv sn bs fl : Int) (s : List S72) (l : List S76) (u : List S47) (n : Int) : Ev (fun k => power_LevelAt.f k r lv sn bs fl s l u n) (LevelV r lv sn bs fl s l u n) := by
  simp only [power_LevelAt.f]
  refine Ev.bind (power_check_ev r lv sn bs fl s l u n) ?_
  unfold LevelV
  refine Ev.ite (fun h0 => ?_) (fun h0 => Ev.is (if_neg h0).symm)
  rw [if_pos h0]
  obtain ⟨h, hn⟩ := checkF_good h0
  refine Ev.bind (flow_ev h n) ?_
  have hs := (pieces_segs h hn.1).1
  have hsh := hs.short
  rw [List.length_map]
  exact levelAt_loop h hn.2 (by omega) (piecesV sn bs s l u n).length 0 0 (by omega) (Int.le_refl _) hs
theorem Segs.last {d : Int → Int} : ∀ {L : List (Int × Int × Int)} {a b : Int}, Segs d a b L → L ≠ [] → ∃ L0 p, L = L0 ++ [p] ∧ p.2.1 = b
  | [], _, _, _, h => absurd rfl h
  | [p], a, b, h, _ => ⟨[], p, rfl, h.2.2.2.2⟩
  | p :: q :: L, a, b, h, _ => by
    obtain ⟨L0, z, hz, hb⟩ := Segs.last h.2.2.2.2 (by simp)
    exact ⟨p :: L0, z, by rw [hz]; rfl, hb⟩
end Go.Proofs.Ytplcdpiggpkppaa.Q
