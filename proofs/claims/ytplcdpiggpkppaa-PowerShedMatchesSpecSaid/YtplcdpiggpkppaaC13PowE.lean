/- Plain laws of chapter 9: LevelAt and Follow, by the level at each millisecond. -/
-- Made by wip/tools/claimp.py of this session's texts; Lean checks it.
import Derived.Test.YtplcdpiggpkppaaC13PowD
import Derived.Test.YtplcdpiggpkppaaC13Ge13
import Derived.Test.YtplcdpiggpkppaaC13Ge9
set_option linter.unusedVariables false
set_option linter.unusedSimpArgs false
namespace Go.Proofs.Ytplcdpiggpkppaa.Q
open Go.RowKit Go.Proofs.YtplcdpiggpkppaaW.PrintWords Go.Proofs.YtplcdpiggpkppaaW.PrintLast Go.Proofs.YtplcdpiggpkppaaW.PrintMore Go.Proofs.Ytplcdpiggpkppaa.Base
theorem Segs.short {d : Int → Int} : ∀ {L : List (Int × Int × Int)} {a b : Int}, Segs d a b L → (L.length : Int) ≤ b - a
  | [], a, b, h => by have h' : a = b := h; subst h'; simp
  | p :: L, a, b, h => by
    obtain ⟨h1, h2, h3, h4, h5⟩ := h
    have := h5.short
    simp only [List.length_cons]
    omega
theorem drop_pieces {L : List (Int × Int × Int)} {i : Nat} (h : i < L.length) : ∃ p, L.drop i = p :: L.drop (i + 1) ∧ rd_T89 (L.map pieceOf) (i : Int) = pieceOf p := by
  obtain ⟨p, hp, hr, _⟩ := rd_pieces h
  refine ⟨p, ?_, hr⟩
  rw [List.drop_eq_getElem_cons h]
  rw [List.getElem?_eq_getElem h] at hp
  rw [Option.some.inj hp]
/-- One piece: the level at its end. -/
theorem piece_step {r lv sn bs fl : Int} {s : List S72} {l : List S76} {u : List S47} (h : Good r lv sn bs fl s l u) {n a : Int} (hn : n ≤ 1000000000000) (ha : 0 ≤ a) {p : Int × Int × Int} {L : List (Int × Int × Int)} (hs : Segs (dV sn bs s l u) a n (p :: L)) (x y z w : Int) :
    p.1 = a ∧ (0 < p.2.1 - p.1 ∧ p.2.1 ≤ n) ∧ wrap64 (p.2.1 - p.1) = p.2.1 - p.1 ∧ power_behind.f r x y z w (lvV r lv sn bs s l u a.toNat) p.2.2 (p.2.1 - p.1) = some (lvV r lv sn bs s l u p.2.1.toNat) ∧ Segs (dV sn bs s l u) p.2.1 n L ∧ (∀ t, p.1 ≤ t → t < p.2.1 → dV sn bs s l u t = p.2.2) := by
  obtain ⟨h1, h2, h3, h4, h5⟩ := hs
  have hd := d_bd h p.1
  rw [h4 p.1 (Int.le_refl _) h2] at hd
  have hl := lev_bd (d := dV sn bs s l u) h.cell.2.1 a.toNat
  have k := lev_piece (d := dV sn bs s l u) h.cell.2.1 (show 0 ≤ p.1 by omega) (Int.le_of_lt h2) h4 p.2.1 (Int.le_of_lt h2) (Int.le_refl _)
  refine ⟨h1, ⟨by omega, h3⟩, w64 (by omega) (by omega), ?_, h5, h4⟩
  unfold lvV
  rw [behind_eq h.cell.1 hl hd (by omega), k, h1]
theorem Segs.last {d : Int → Int} : ∀ {L : List (Int × Int × Int)} {a b : Int}, Segs d a b L → L ≠ [] → ∃ L0 p, L = L0 ++ [p] ∧ p.2.1 = b
  | [], _, _, _, h => absurd rfl h
  | [p], a, b, h, _ => ⟨[], p, rfl, h.2.2.2.2⟩
  | p :: q :: L, a, b, h, _ => by
    obtain ⟨L0, z, hz, hb⟩ := Segs.last h.2.2.2.2 (by simp)
    exact ⟨p :: L0, z, by rw [hz]; rfl, hb⟩
end Go.Proofs.Ytplcdpiggpkppaa.Q
