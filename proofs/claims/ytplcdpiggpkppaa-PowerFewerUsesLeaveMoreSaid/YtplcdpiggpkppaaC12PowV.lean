/- Plain laws of chapter 9: uses in order; what is shed, as the program and the reference find it. -/
-- Made by wip/tools/claimp.py of this session's texts; Lean checks it.
import Derived.Test.YtplcdpiggpkppaaC12PowT
import Derived.Test.YtplcdpiggpkppaaC12Ge22
import Derived.Test.YtplcdpiggpkppaaC12Q0
import Derived.Test.YtplcdpiggpkppaaC12Ge15
import Derived.Test.YtplcdpiggpkppaaC12Ge19
import Derived.Test.YtplcdpiggpkppaaC12Ge5
import Derived.Test.YtplcdpiggpkppaaC12Ge9
set_option linter.unusedVariables false
set_option linter.unusedSimpArgs false
namespace Go.Proofs.Ytplcdpiggpkppaa.Q
open Go.RowKit Go.Proofs.YtplcdpiggpkppaaW.PrintWords Go.Proofs.YtplcdpiggpkppaaW.PrintLast Go.Proofs.YtplcdpiggpkppaaW.PrintMore Go.Proofs.Ytplcdpiggpkppaa.Base
theorem afterU_trans {a b c : S47} (h : afterU a b) (k : afterU b c) : afterU a c := by
  unfold afterU at *
  by_cases e1 : a.f1 = b.f1
  · rw [if_pos e1] at h
    by_cases e2 : b.f1 = c.f1
    · rw [if_pos e2] at k
      rw [if_pos (e1.trans e2)]
      by_cases e3 : a.f0.toList = b.f0.toList
      · rw [if_pos e3] at h
        by_cases e4 : b.f0.toList = c.f0.toList
        · rw [if_pos e4] at k
          rw [if_pos (e3.trans e4)]
          omega
        · rw [if_neg e4] at k
          rw [if_neg (fun q => e4 (e3.symm.trans q)), e3]
          exact k
      · rw [if_neg e3] at h
        by_cases e4 : b.f0.toList = c.f0.toList
        · rw [if_neg (fun q => e3 (q.trans e4.symm)), ← e4]
          exact h
        · rw [if_neg e4] at k
          have t := less_trans k h
          rw [if_neg (fun q => by rw [q] at t; exact less_irrefl _ t)]
          exact t
    · rw [if_neg e2] at k
      rw [if_neg (by omega)]
      omega
  · rw [if_neg e1] at h
    by_cases e2 : b.f1 = c.f1
    · rw [if_neg (by omega)]; omega
    · rw [if_neg e2] at k
      rw [if_neg (by omega)]
      omega
abbrev Sorted (u : List S47) : Prop := u.Pairwise fun a b => afterU b a
structure Ordered (l : List S76) (u : List S47) : Prop where
  few : u.length ≤ 300
  known : ∀ x ∈ u, (loadV l x.f0).2.2.2 = true
  sorted : Sorted u
theorem usesV_ordered {l : List S76} {u : List S47} (h : usesV l u = 0) : Ordered l u := by
  have hl : u.length ≤ 300 := by
    unfold usesV at h
    split at h
    · rename_i q; exact absurd h q
    · split at h
      · omega
      · omega
  have ok : ∀ i : Nat, i < u.length → useBad l u i = 0 := by
    unfold usesV at h
    split at h
    · rename_i q; exact absurd h q
    · split at h
      · omega
      · split at h
        · rename_i r; exact absurd h r
        · rename_i r
          exact fun i hi => scanV_zero u.length 0 (by omega) (Classical.not_not.1 r) i (Nat.zero_le _) hi
  refine ⟨hl, fun x hx => ?_, ?_⟩
  · obtain ⟨i, hi, rfl⟩ := List.mem_iff_getElem.1 hx
    have := (useBad_zero (ok i hi)).1
    rwa [rdU_get hi] at this
  · have step : ∀ i (hi : i + 1 < u.length), afterU u[i + 1] u[i] := fun i hi => by
      have := (useBad_zero (ok (i + 1) hi)).2.2 (by omega)
      rwa [rdU_get hi, show (((i + 1 : Nat) : Int) - 1) = ((i : Nat) : Int) by omega, rdU_get (show i < u.length by omega)] at this
    have far : ∀ d i (hi : i + d + 1 < u.length), afterU u[i + d + 1] u[i] := by
      intro d
      induction d with
      | zero => intro i hi; exact step i hi
      | succ d ih => intro i hi; exact afterU_trans (step (i + d + 1) hi) (ih i (by omega))
    refine List.pairwise_iff_getElem.2 fun i j hi hj hij => ?_
    have := far (j - i - 1) i (by omega)
    have e : i + (j - i - 1) + 1 = j := by omega
    simpa only [e] using this
theorem Ordered.sub {l : List S76} {u v : List S47} (h : Ordered l u) (hs : v.Sublist u) : Ordered l v := ⟨Nat.le_trans hs.length_le h.few, fun x hx => h.known x (hs.mem hx), h.sorted.sublist hs⟩
theorem scanV_all {f : Nat → Int} {n : Nat} (h : ∀ i, i < n → f i = 0) : ∀ d i : Nat, i + d = n → scanV f n i = 0
  | 0, i, hi => scanV_ge (by omega)
  | d + 1, i, hi => by
    rw [scanV_lt (by omega), if_neg (by simp [h i (by omega)])]
    exact scanV_all h d (i + 1) (by omega)
theorem usesV_of {l : List S76} {u : List S47} (hl : loadsV l = 0) (hg : GoodUses l u) (ho : Ordered l u) : usesV l u = 0 := by
  have hf := ho.few
  have hspan : ∀ x ∈ u, spanV x.f1 x.f2 = 0 := fun x hx => by
    obtain ⟨a, b, c⟩ := hg.each x hx
    unfold spanV
    rw [if_neg (fun q => q.elim (fun z => z a) (fun z => z b)), if_neg (by omega)]
  unfold usesV
  rw [if_neg (by simp [hl]), if_neg (by omega)]
  have h1 : scanV (useBad l u) u.length 0 = 0 := scanV_all (fun i hi => by
    refine useBad_ok ?_ ?_ ?_
    · rw [rdU_get hi]; exact ho.known _ (List.getElem_mem hi)
    · rw [rdU_get hi]; exact hspan _ (List.getElem_mem hi)
    · rintro ⟨q, r⟩
      refine r ?_
      have := List.pairwise_iff_getElem.1 ho.sorted (i - 1) i (by omega) hi (by omega)
      rw [rdU_get hi, show ((i : Int) - 1) = ((i - 1 : Nat) : Int) by omega, rdU_get (show i - 1 < u.length by omega)]
      exact this) u.length 0 (by omega)
  rw [if_neg (by simp [h1])]
  refine scanV_all (fun x hx => ?_) u.length 0 (by omega)
  refine scanV_all (fun k hk => ?_) u.length 0 (by omega)
  unfold clashAt
  refine if_neg ?_
  rintro ⟨q1, q2, q3, q4⟩
  rw [rdU_get hk, rdU_get hx] at q2 q3
  rw [rdU_get hk, rdU_get hx] at q4
  have s1 := hg.each _ (List.getElem_mem hk)
  have s2 := hg.each _ (List.getElem_mem hx)
  rcases Nat.lt_or_gt_of_ne q1 with z | z
  · have := List.pairwise_iff_getElem.1 hg.apart k x hk hx z q2
    omega
  · have := List.pairwise_iff_getElem.1 hg.apart x k hx hk z q2.symm
    omega
end Go.Proofs.Ytplcdpiggpkppaa.Q
