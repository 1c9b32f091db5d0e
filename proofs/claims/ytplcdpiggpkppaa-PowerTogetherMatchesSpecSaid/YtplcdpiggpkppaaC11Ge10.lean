-- Made by wip/tools/claimp.py of this session's texts; Lean checks it.
import Derived.Test.YtplcdpiggpkppaaC11Q0
import Derived.Test.YtplcdpiggpkppaaC11Ge1
import Derived.Test.YtplcdpiggpkppaaC11Ge7
namespace Go.Proofs.Ytplcdpiggpkppaa.Q
open Go.RowKit Go.Proofs.YtplcdpiggpkppaaW.PrintWords Go.Proofs.YtplcdpiggpkppaaW.PrintLast Go.Proofs.YtplcdpiggpkppaaW.PrintMore
attribute [local go_sem] max2_int min2_int max_two min_two max_three min_three max_four min_four
open Go.Proofs.Ytplcdpiggpkppaa.Base
attribute [local go_sem high] str_leq str_gtr str_geq
set_option linter.unusedVariables false
set_option linter.unusedSimpArgs false
theorem slices_Compact_int_int.short (l : List Int) : (Lib.compact l).length ≤ l.length := by
  unfold Lib.compact Lib.compactUpTo
  rw [List.length_map]
  exact Nat.le_trans (List.length_filter_le _ _) (by rw [List.length_range]; exact Nat.le_refl _)
def slices_Compact_int_int.f (l0 : List Int) : Option (List Int) := some (Lib.compact l0)
open Go.Sort in
theorem slices_Compact_int_int.calls (P0_ : Nat → Prop) (u9000_ : Value) (l0 : List Int) (r : List Int) (w0 w : World) (hB : Below w0.heap.size w0 w) (ho0 : Kd.R (Kd.int .i64) 3 w w0.heap.size P0_ u9000_ l0) (h : slices_Compact_int_int.f l0 = some r) :
 Calls Try.prog 90 #[u9000_] w fun e w' => ∃ v0_ : Value, e = .returned (v0_) ∧ Kd.R (Kd.int .i64) 3 w' w0.heap.size (fun k_ => (P0_ k_ ∨ w.heap.size ≤ k_)) v0_ r ∧ Below w0.heap.size w0 w' ∧ Kept w w' (fun k_ => P0_ k_) := by
 obtain rfl := Option.some.inj h
 have ho := Kd.own_of_R ho0
 rcases ho.2 with ⟨hv, hn⟩ | ⟨g, cap, cur, hv, hbase, hb, h1, h2, h3, h4⟩
 · subst hv
   obtain rfl : l0 = [] := List.eq_nil_of_length_eq_zero hn
   refine (Try.slices_Compact_int_empty none 0 w).mono ?_
   rintro e w' ⟨rfl, rfl⟩
   exact ⟨_, rfl, Kd.R_nil _ _ _ _ _, hB, Kept.refl _ _⟩
 · subst hv
   have hp : P0_ g := ho0.1 g rfl
   have hs := slices_Compact_int_int.short l0
   have hmax : l0.length ≤ 9223372036854775807 := by have := h2; unfold maxLen at this; omega
   refine (Try.slices_Compact_int g 0 cap l0 w (holds_of_blockI hb (by rw [Nat.mul_one] at h4; exact h4)) hmax h1).mono ?_
   rintro e w' ⟨rfl, n, rfl⟩
   have hlen : (Lib.compact l0 ++ List.replicate (l0.length - (Lib.compact l0).length) 0).length = l0.length := by rw [List.length_append, List.length_replicate]; omega
   have hg := grownBy_sortedI (w := w) (g := g) (n := n) (os := #[]) (Lib.compact l0 ++ List.replicate (l0.length - (Lib.compact l0).length) 0).toArray
   have hown := ownsRow_sortedI (n := n) (os := #[]) hlen hbase hb h1 h2 h3
   rw [Sort.grow_empty] at hg hown
   have hR : Kd.R (Kd.int .i64) 3 (putRow (Value.int .i64) (Sort.ahead w n) g 0 (Lib.compact l0 ++ List.replicate (l0.length - (Lib.compact l0).length) 0).toArray) w0.heap.size (fun k_ => (P0_ k_ ∨ w.heap.size ≤ k_)) (.slice (some ⟨g, 0, none⟩) (Lib.compact l0 ++ List.replicate (l0.length - (Lib.compact l0).length) (0 : Int)).length cap) (Lib.compact l0 ++ List.replicate (l0.length - (Lib.compact l0).length) 0) :=
    Kd.R_of_own (by rw [hlen]; exact hown) (fun k hk => .inl ((show g = k from by simpa [Value.ownBlock] using hk) ▸ hp))
   have hT := Kd.R_take (m := (Lib.compact l0).length) hR (by rw [hlen]; exact hs)
   rw [List.take_left] at hT
   refine ⟨_, rfl, hT, pw_below_grown hB _ hB.size hg (fun j hj => by cases hj; exact hbase), ⟨hg.size, fun i hi hn => hg.block i hi (fun e => hn ((show g = i from by simpa using e.symm) ▸ hp))⟩⟩
def perigeeref9_leg_levelAt.j0 : Nat → Int → Bool → Int → Int → Int → Int → Int → Int → Int → Int → Int → Int → Option (Int)
  | 0, _, _, _, _, _, _, _, _, _, _, _, _ => none
  | k + 1, x7, x12, x102000, x102001, x102002, x102003, x102004, x103000, x103001, x103002, x103003, x103004 => if x12 = true then (some x103000) else (if x102003 < 0 then (if (wrap64 (-x102003)) = 0 then (none) else (if x7 > (wrap64 (Int.tdiv x102002 (wrap64 (-x102003)))) then (some 0) else (some (wrap64 (x102002 + (wrap64 (x7 * x102003))))))) else (some (wrap64 (x102002 + (wrap64 (x7 * x102003))))))
end Go.Proofs.Ytplcdpiggpkppaa.Q
