-- Made by wip/tools/claimp.py of this session's texts; Lean checks it.
import Derived.Test.YtbngmblgkkdhpaaC8Q0
import Derived.Test.YtbngmblgkkdhpaaC8Gs3
namespace Go.Proofs.Ytbngmblgkkdhpaa.Q
open Go.RowKit Go.Proofs.YtbngmblgkkdhpaaW.PrintWords Go.Proofs.YtbngmblgkkdhpaaW.PrintLast Go.Proofs.YtbngmblgkkdhpaaW.PrintMore
attribute [local go_sem] max2_int min2_int max_two min_two max_three min_three max_four min_four
open Go.Proofs.Ytbngmblgkkdhpaa.Base
attribute [local go_sem high] str_leq str_gtr str_geq
set_option linter.unusedVariables false
set_option linter.unusedSimpArgs false
def perigeeref10_put.l0 : Nat → List ByteArray → ByteArray → Int → Option (List ByteArray)
  | 0, _, _, _ => none
  | k + 1, x0, x1, x5 => if x5 > 0 then (if 0 ≤ (wrap64 (x5 - 1)) then (if (wrap64 (x5 - 1)) < (x0.length : Int) then (if (Op.bytesLess x1.toList ((rdOf ByteArray.empty x0 (wrap64 (x5 - 1))).toList)) = true then (perigeeref10_put.l0 k x0 x1 (wrap64 (x5 - 1))) else (if (rdOf ByteArray.empty x0 (wrap64 (x5 - 1))).toList = x1.toList then (some x0) else (if 0 ≤ x5 then (if x5 ≤ (x0.length : Int) then ((some (x0.take (x5 : Int).toNat : List ByteArray)).bind fun y103 => (if ([] : List ByteArray).length + y103.length < 8796093022208 then ((some (([] : List ByteArray) ++ y103 : List ByteArray)).bind fun y107 => (if y107.length < 8796093022208 then ((some (y107 ++ [x1] : List ByteArray)).bind fun y110 => ((some (x0.drop (x5 : Int).toNat : List ByteArray)).bind fun y113 => (if y110.length + y113.length < 8796093022208 then (some (y110 ++ y113)) else (none)))) else (none))) else (none))) else (none)) else (none)))) else (none)) else (none)) else (if 0 ≤ x5 then (if x5 ≤ (x0.length : Int) then ((some (x0.take (x5 : Int).toNat : List ByteArray)).bind fun y120 => (if ([] : List ByteArray).length + y120.length < 8796093022208 then ((some (([] : List ByteArray) ++ y120 : List ByteArray)).bind fun y124 => (if y124.length < 8796093022208 then ((some (y124 ++ [x1] : List ByteArray)).bind fun y127 => ((some (x0.drop (x5 : Int).toNat : List ByteArray)).bind fun y130 => (if y127.length + y130.length < 8796093022208 then (some (y127 ++ y130)) else (none)))) else (none))) else (none))) else (none)) else (none))
def perigeeref10_put.f (k : Nat) (l0 : List ByteArray) (a1 : ByteArray) : Option (List ByteArray) := perigeeref10_put.l0 k l0 a1 (l0.length : Int)
theorem d80a {p : Prop} (h : p := by first | exact HK.out.1 | exact (show Kept w _ (fun k_ => P0_ k_) from by repeat (first | (with_reducible first | exact HK.out | apply Kept.alloc | apply Kept.drewN | apply Kept.drew) | exact HK.out)).1) : p := h
theorem d80b {p : Prop} (h : p := by repeat (first | (with_reducible first | exact HB.out | apply below_alloc | apply pw_below_drewN | apply below_drew1) | exact HB.out)) : p := h
theorem d80c {p : Prop} (h : p := by repeat (first | (with_reducible first | exact HK.out | apply Kept.alloc | apply Kept.drewN | apply Kept.drew) | exact HK.out)) : p := h
theorem d80d {p : Prop} (h : p := by (with_reducible repeat (first | apply Kd.R_alloc | apply Kd.R_drewN | apply Kd.R_drew)); exact HO_0.out) : p := h
theorem d80e {p : Prop} (h : p := by first | (with_reducible assumption) | assumption) : p := h
set_option maxHeartbeats 8000000 in
set_option maxRecDepth 100000 in
theorem perigeeref10_put.calls (k : Nat) (P0_ : Nat → Prop) (u9000_ : Value) (l0 : List ByteArray) (a1 : ByteArray) (r : List ByteArray) (w0 w : World) (hB : Below w0.heap.size w0 w) (ho0 : Kd.R Kd.string 9 w w0.heap.size P0_ u9000_ l0) (h : perigeeref10_put.f k l0 a1 = some r) :
 Calls Try.prog 80 #[u9000_, .string a1] w fun e w' => ∃ v0_ : Value, e = .returned (v0_) ∧ Kd.R Kd.string 9 w' w0.heap.size (fun k_ => (P0_ k_ ∨ w.heap.size ≤ k_)) v0_ r ∧ Below w0.heap.size w0 w' ∧ Kept w w' (fun k_ => P0_ k_) := by
 have HO0 := Aside0.mk (show Kd.R Kd.string 9 w w0.heap.size (fun k_ => (P0_ k_ ∨ w.heap.size ≤ k_)) u9000_ l0 from Kd.R_mono ho0 (fun k_ hk => (.inl hk)))
 have HK := Aside0.mk (Kept.refl w (fun k_ => P0_ k_))
 have HW0 := Aside0.mk hB.size
 have HB := Aside0.mk hB
 clear hB
 have H : (perigeeref10_put.l0 k l0 a1 (l0.length : Int)) = some r := h
 clear h
 have H' := Aside0.mk H
 clear H
 obtain ⟨Ao3, co3, eo3⟩ := Kd.R_slice HO0.out
 subst eo3
 go_enter Try.func80, Try.ntmps80
 go_wp2
 go_loopg [5] k (fun kq v5 w' => ∃ (x5_1 : Int), v5 = .int .i64 x5_1 ∧ Aside0 (perigeeref10_put.l0 kq l0 a1 x5_1 = some r) ∧ Aside0 (kq ≤ k) ∧ Aside0 (Kd.R Kd.string 9 w' w0.heap.size (fun k_ => (P0_ k_ ∨ w.heap.size ≤ k_)) (.slice Ao3 l0.length co3) l0) ∧ Aside0 (Kept w w' (fun k_ => P0_ k_)) ∧ Aside0 (Below w0.heap.size w0 w'))
 case atStart => exact ⟨((l0.length : Int)), (by first | rfl | (simp; done) | (simp [*]; done)), H', ⟨Nat.le_refl _⟩, ⟨by (with_reducible repeat (first | apply Kd.R_alloc | apply Kd.R_drewN | apply Kd.R_drew)); exact HO0.out⟩, ⟨d80c⟩, ⟨d80b⟩⟩
 case round =>
  clear H'
  obtain ⟨x5_1, rfl, HA, HK1, HO_0, HK, HB⟩ := hrel
  cases gk with
  | zero => exact absurd HA.out (by simp [perigeeref10_put.l0])
  | succ k1 =>
   have H := HA.out
   clear HA
   simp only [perigeeref10_put.l0] at H
   by_cases c4 : x5_1 > 0
   · rw [if_pos c4] at H
     have c4b0 : decide (0 < x5_1) = true := decide_eq_true c4
     clear c4
     obtain ⟨ji5, hji5⟩ : ∃ j_ : Int, (wrap64 (x5_1 - 1)) = j_ := ⟨_, rfl⟩
     replace H : (if 0 ≤ (ji5) then (if (ji5) < (l0.length : Int) then (if (Op.bytesLess a1.toList ((rdOf ByteArray.empty l0 (ji5)).toList)) = true then (perigeeref10_put.l0 k1 l0 a1 ji5) else (if (rdOf ByteArray.empty l0 (ji5)).toList = a1.toList then (some l0) else (if 0 ≤ x5_1 then (if x5_1 ≤ (l0.length : Int) then ((some (l0.take (x5_1 : Int).toNat : List ByteArray)).bind fun y103 => (if ([] : List ByteArray).length + y103.length < 8796093022208 then ((some (([] : List ByteArray) ++ y103 : List ByteArray)).bind fun y107 => (if y107.length < 8796093022208 then ((some (y107 ++ [a1] : List ByteArray)).bind fun y110 => ((some (l0.drop (x5_1 : Int).toNat : List ByteArray)).bind fun y113 => (if y110.length + y113.length < 8796093022208 then (some (y110 ++ y113)) else (none)))) else (none))) else (none))) else (none)) else (none)))) else (none)) else (none)) = some r := by first | (rw [hji5] at H; exact H) | (simp only [hji5] at H ⊢; exact H)
     have hji5w : (IntKind.i64.wrap (x5_1 - 1)) = ji5 := (i64_w _).trans hji5
     replace H := guardT H; obtain ⟨c6, H⟩ := H
     have c6b0 : decide (0 ≤ (ji5)) = true := decide_eq_true c6
     clear c6
     replace H := guardT H; obtain ⟨c7, H⟩ := H
     have c7b0 : decide ((ji5) < (l0.length : Int)) = true := decide_eq_true c7
     clear c7
     by_cases c8 : (Op.bytesLess a1.toList ((rdOf ByteArray.empty l0 (ji5)).toList)) = true
     · rw [if_pos c8] at H
       have c8b0 : (Op.bytesLess a1.toList ((rdOf ByteArray.empty l0 (ji5)).toList)) = true := c8
       clear c8
       have H' := Aside0.mk H
       clear H
       have p101 : 0 ≤ ((ji5) : Int) := of_decide_eq_true d80e
       have q101 : (ji5) < (l0.length : Int) := of_decide_eq_true d80e
       obtain ⟨ad101, e101, hx101_0⟩ := Kd.at_string (Kd.R_reads' HO_0.out).2.2 (ji5) p101 q101
       cases e101
       replace p101 := eq_true p101
       replace q101 := eq_true q101
       go_wp2
       go_roundg k1
       case measure => have := HK1.out; omega
       case rel => exact ⟨(ji5), (by first | rfl | (simp; done) | (simp only [← hji5] <;> (first | rfl | simp)) | (simp [*]; done)), H', ⟨by have := HK1.out; omega⟩, ⟨d80d⟩, ⟨d80c⟩, ⟨d80b⟩⟩
     · rw [if_neg c8] at H
       have c8b0 : (Op.bytesLess a1.toList ((rdOf ByteArray.empty l0 (ji5)).toList)) = false := by simpa using c8
       clear c8
       by_cases c9 : (rdOf ByteArray.empty l0 (ji5)).toList = a1.toList
       · rw [if_pos c9] at H
         have c9b0 : ((rdOf ByteArray.empty l0 (ji5)).toList == a1.toList) = true := beq_iff_eq.mpr c9
         have c9b1 : ((rdOf ByteArray.empty l0 (ji5)).toList != a1.toList) = false := bne_eq_false_iff_eq.mpr c9
         clear c9
         obtain rfl := Option.some.inj H
         have p101 : 0 ≤ ((ji5) : Int) := of_decide_eq_true d80e
         have q101 : (ji5) < (l0.length : Int) := of_decide_eq_true d80e
         obtain ⟨ad101, e101, hx101_0⟩ := Kd.at_string (Kd.R_reads' HO_0.out).2.2 (ji5) p101 q101
         cases e101
         replace p101 := eq_true p101
         replace q101 := eq_true q101
         have p102 : 0 ≤ ((ji5) : Int) := of_decide_eq_true d80e
         have q102 : (ji5) < (l0.length : Int) := of_decide_eq_true d80e
         obtain ⟨ad102, e102, hx102_0⟩ := Kd.at_string (Kd.R_reads' HO_0.out).2.2 (ji5) p102 q102
         obtain rfl : ad101 = ad102 := (by injection e102)
         replace p102 := eq_true p102
         replace q102 := eq_true q102
         go_wp2
         go_ret
         exact ⟨_, by first | rfl | (simp [errW_none, errW_some] <;> rfl) | (simp only [← hji5]; first | rfl | (simp [errW_none, errW_some] <;> rfl)) | (simp [*, errW_none, errW_some] <;> rfl), d80d, d80b, d80c⟩
       · rw [if_neg c9] at H
         have c9b0 : ((rdOf ByteArray.empty l0 (ji5)).toList == a1.toList) = false := beq_eq_false_iff_ne.mpr c9
         have c9b1 : ((rdOf ByteArray.empty l0 (ji5)).toList != a1.toList) = true := bne_iff_ne.mpr c9
         replace H := guardT H; obtain ⟨c10, H⟩ := H
         have c10b0 := eq_true c10
         have c10b1 : decide (0 ≤ x5_1) = true := decide_eq_true c10
         clear c10
         replace H := guardT H; obtain ⟨c11, H⟩ := H
         have c11b0 := eq_true c11
         have c11b1 : decide (x5_1 ≤ (l0.length : Int)) = true := decide_eq_true c11
         clear c11
         obtain ⟨y103, hy103⟩ : ∃ y_ : List ByteArray, y_ = (l0.take (x5_1 : Int).toNat) := ⟨_, rfl⟩
         replace H : (if ([] : List ByteArray).length + y103.length < 8796093022208 then ((some (([] : List ByteArray) ++ y103 : List ByteArray)).bind fun y107 => (if y107.length < 8796093022208 then ((some (y107 ++ [a1] : List ByteArray)).bind fun y110 => ((some (l0.drop (x5_1 : Int).toNat : List ByteArray)).bind fun y113 => (if y110.length + y113.length < 8796093022208 then (some (y110 ++ y113)) else (none)))) else (none))) else (none)) = some r := by first | (rw [hy103]; with_reducible exact H) | (have H2_ := (Option.bind_some _ _).symm.trans H; rw [hy103]; with_reducible exact H2_) | (have H2_ := (Option.bind_some _ _).symm.trans H; with_reducible exact H2_) | with_reducible exact H | (rw [hy103]; exact H) | exact H
         have Ny103 := Aside0.mk hy103
         clear hy103
         replace H := guardT H; obtain ⟨c12, H⟩ := H
         have LMc12 := Aside0.mk c12
         clear c12
         obtain ⟨y107, hy107⟩ : ∃ y_ : List ByteArray, y_ = (([] : List ByteArray) ++ y103) := ⟨_, rfl⟩
         replace H : (if y107.length < 8796093022208 then ((some (y107 ++ [a1] : List ByteArray)).bind fun y110 => ((some (l0.drop (x5_1 : Int).toNat : List ByteArray)).bind fun y113 => (if y110.length + y113.length < 8796093022208 then (some (y110 ++ y113)) else (none)))) else (none)) = some r := by first | (rw [hy107]; with_reducible exact H) | (have H2_ := (Option.bind_some _ _).symm.trans H; rw [hy107]; with_reducible exact H2_) | (have H2_ := (Option.bind_some _ _).symm.trans H; with_reducible exact H2_) | with_reducible exact H | (rw [hy107]; exact H) | exact H
         have Ny107 := Aside0.mk hy107
         clear hy107
         replace H := guardT H; obtain ⟨c13, H⟩ := H
         have LMc13 := Aside0.mk c13
         clear c13
         obtain ⟨y110, hy110⟩ : ∃ y_ : List ByteArray, y_ = (y107 ++ [a1]) := ⟨_, rfl⟩
         replace H : ((some (l0.drop (x5_1 : Int).toNat : List ByteArray)).bind fun y113 => (if y110.length + y113.length < 8796093022208 then (some (y110 ++ y113)) else (none))) = some r := by first | (rw [hy110]; with_reducible exact H) | (have H2_ := (Option.bind_some _ _).symm.trans H; rw [hy110]; with_reducible exact H2_) | (have H2_ := (Option.bind_some _ _).symm.trans H; with_reducible exact H2_) | with_reducible exact H | (rw [hy110]; exact H) | exact H
         have Ny110 := Aside0.mk hy110
         clear hy110
         have c14b0 := eq_true (of_decide_eq_true d80e : 0 ≤ x5_1)
         have c15b0 := eq_true (of_decide_eq_true d80e : x5_1 ≤ (l0.length : Int))
         obtain ⟨y113, hy113⟩ : ∃ y_ : List ByteArray, y_ = (l0.drop (x5_1 : Int).toNat) := ⟨_, rfl⟩
         replace H : (if y110.length + y113.length < 8796093022208 then (some (y110 ++ y113)) else (none)) = some r := by first | (rw [hy113]; with_reducible exact H) | (have H2_ := (Option.bind_some _ _).symm.trans H; rw [hy113]; with_reducible exact H2_) | (have H2_ := (Option.bind_some _ _).symm.trans H; with_reducible exact H2_) | with_reducible exact H | (rw [hy113]; exact H) | exact H
         have Ny113 := Aside0.mk hy113
         clear hy113
         replace H := guardT H; obtain ⟨c16, H⟩ := H
         have LMc16 := Aside0.mk c16
         clear c16
         obtain ⟨y117, hy117⟩ : ∃ y_ : List ByteArray, y_ = (y110 ++ y113) := ⟨_, rfl⟩
         replace H : (some y117) = some r := by first | (rw [hy117]; with_reducible exact H) | (have H2_ := (Option.bind_some _ _).symm.trans H; rw [hy117]; with_reducible exact H2_) | (have H2_ := (Option.bind_some _ _).symm.trans H; with_reducible exact H2_) | with_reducible exact H | (rw [hy117]; exact H) | exact H
         have Ny117 := Aside0.mk hy117
         clear hy117
         obtain rfl := Option.some.inj H
         have p101 : 0 ≤ ((ji5) : Int) := of_decide_eq_true d80e
         have q101 : (ji5) < (l0.length : Int) := of_decide_eq_true d80e
         obtain ⟨ad101, e101, hx101_0⟩ := Kd.at_string (Kd.R_reads' HO_0.out).2.2 (ji5) p101 q101
         cases e101
         replace p101 := eq_true p101
         replace q101 := eq_true q101
         have p102 : 0 ≤ ((ji5) : Int) := of_decide_eq_true d80e
         have q102 : (ji5) < (l0.length : Int) := of_decide_eq_true d80e
         obtain ⟨ad102, e102, hx102_0⟩ := Kd.at_string (Kd.R_reads' HO_0.out).2.2 (ji5) p102 q102
         obtain rfl : ad101 = ad102 := (by injection e102)
         replace p102 := eq_true p102
         replace q102 := eq_true q102
         have q17 : (x5_1 : Int) ≤ ((l0.length : Int) : Int) := of_decide_eq_true d80e
         obtain ⟨i017, hi017, _, hsz17, _⟩ := info_parts info9
         have hroom17 : l0.length ≤ co3 := (Kd.R_reads' HO_0.out).2.1
         have hC17 : Kd.C Kd.string _ (some ad101) l0.length l0 := (Kd.R_reads' HO_0.out).2.2
         have hcut17 := cut_to (P := Try.prog) 48 9 .i64 Try.underlying48 hi017 (some ad101) l0.length co3 x5_1 (of_decide_eq_true d80e) q17 hroom17
         have hr17 := Kd.C_take (m := (x5_1 : Int).toNat) hC17 (by omega)
         have hy17 : y103.length = (x5_1 : Int).toNat := (by rw [Ny103.out, List.length_take]; omega)
         rw [← Ny103.out] at hr17
         rw [← hy17] at hcut17
         have HR106 := Aside0.mk hr17
         have HC106 := Aside0.mk (show y103.length ≤ co3 from by omega)
         clear hr17 hC17 hroom17 hi017 hsz17
         have KY17 := Aside0.mk hy17
         clear hy17
         have KL17 := Aside0.mk (show (x5_1 : Int).toNat ≤ l0.length from by omega)
         replace q17 := eq_true q17
         go_wp2_with (first | ((with_reducible refine gate_builtin (b := .append) (xs := #[.tmp 34, .tmp 37]) rfl ?_); at_builtin; refine Kd.R_append_rows Kd.string (w0 := w0) w0.heap.size rfl (.tmp 34) (.tmp 37) 48 9 (.string ⟨#[]⟩) 16 rfl Try.underlying48 info9 rfl (by decide) (by omega) (.slice none 0 0) ([] : List ByteArray) y103 _ _ _ (fun k_ => (P0_ k_ ∨ w.heap.size ≤ k_) ∧ some k_ ≠ (.slice (some ad101) l0.length co3 : Value).ownBlock) (fun _ => False) rfl rfl ?aO ?aR (fun _ _ h => h) (fun _ h => h.elim) ?aF ?aB ?aS ?aL ?_; (case aR => repeat (first | exact (by repeat (first | (with_reducible exact HR106.out) | (with_reducible refine Kd.C_alloc ?_ _) | (with_reducible refine Kd.C_drewN ?_ _) | (with_reducible refine Kd.C_drew ?_) | exact HR106.out)) | (with_reducible refine Kd.C_alloc ?_ _) | (with_reducible refine Kd.C_drewN ?_ _) | (with_reducible refine Kd.C_drew ?_))); (case aB => exact d80b); (case aF => exact (fun k_ hk => ⟨(.inr (Nat.le_trans d80a hk)), Kd.fresh' (Kd.R_lt d80d) k_ hk⟩)); (case aO => exact ((Kd.R_nil _ _ _ _ (fun k_ => (P0_ k_ ∨ w.heap.size ≤ k_) ∧ some k_ ≠ (.slice (some ad101) l0.length co3 : Value).ownBlock)))); (case aS => exact (below_size d80b)); (case aL => have := LMc12.out; omega); intro v108 w18 ho hb hg hat; rw [← Ny107.out] at ho; have n0_ := Aside0.mk (Kd.R_after (Kd.R_apart_nil d80d) hg hat); have n1_ := Aside0.mk (hb); have n2_ := Aside0.mk (Kept.of_grown (S := (fun k_ => P0_ k_)) hg d80c (fun k_ e_ => by simp [Value.ownBlock] at e_)); have n3_ := Aside0.mk ((show Kd.C Kd.string w18 (some ad101) y103.length y103 from by rw [Ny103.out]; exact Kd.C_take (m := (x5_1 : Int).toNat) ((Kd.R_reads' (Kd.R_after (Kd.R_apart_nil d80d) hg hat)).2.2) KL17.out)); have n4_ := Aside0.mk (ho); clear HO_0; clear HB; clear HK; clear HR106; have HO_0 := n0_; have HB := n1_; have HK := n2_; have HR106 := n3_; have HO109 := n4_; clear n0_ n1_ n2_ n3_ n4_; clear ho hb hg hat) | ((with_reducible refine gate_builtin (b := .append) (xs := #[.tmp 39, .tmp 41]) rfl ?_); at_builtin; refine Kd.R_append Kd.string (w0 := w0) w0.heap.size rfl (.tmp 39) (.tmp 41) 48 9 (.string ⟨#[]⟩) 16 rfl Try.underlying48 info9 rfl (by decide) (by omega) v108 y107 a1 [.string a1] (fun k_ => (P0_ k_ ∨ w.heap.size ≤ k_) ∧ some k_ ≠ (.slice (some ad101) l0.length co3 : Value).ownBlock) (fun _ => False) rfl rfl ?aP (fun _ hk => hk.elim) ?aF ?aO ?aB ?aS ?aL ?_; (case aP => exact rfl); (case aB => exact d80b); (case aF => exact (fun k_ hk => ⟨(.inr (Nat.le_trans d80a hk)), Kd.fresh' (Kd.R_lt d80d) k_ hk⟩)); (case aO => exact (by (with_reducible repeat (first | apply Kd.R_alloc | apply Kd.R_drewN | apply Kd.R_drew)); exact HO109.out)); (case aS => exact (below_size d80b)); (case aL => have := LMc13.out; omega); intro v111 w19 ho hb hg hat; rw [← Ny110.out] at ho; have n0_ := Aside0.mk (Kd.R_after (ok := (fun k_ => (P0_ k_ ∨ w.heap.size ≤ k_))) d80d hg hat); have n1_ := Aside0.mk (hb); have n2_ := Aside0.mk (Kept.of_grown (S := (fun k_ => P0_ k_)) hg d80c (fun k_ e_ => (HO109.out.1 k_ e_).1)); have n3_ := Aside0.mk ((show Kd.C Kd.string w19 (some ad101) y103.length y103 from by rw [Ny103.out]; exact Kd.C_take (m := (x5_1 : Int).toNat) ((Kd.R_reads' (Kd.R_after (ok := (fun k_ => (P0_ k_ ∨ w.heap.size ≤ k_))) d80d hg hat)).2.2) KL17.out)); have n4_ := Aside0.mk (ho); clear HO_0; clear HB; clear HK; clear HR106; clear HO109; have HO_0 := n0_; have HB := n1_; have HK := n2_; have HR106 := n3_; have HO112 := n4_; clear n0_ n1_ n2_ n3_ n4_; clear ho hb hg hat; have q20 : (x5_1 : Int) ≤ ((l0.length : Int) : Int) := of_decide_eq_true d80e; obtain ⟨i020, hi020, _, hsz20, _⟩ := info_parts info9; have hroom20 : l0.length ≤ co3 := (Kd.R_reads' HO_0.out).2.1; have hC20 : Kd.C Kd.string _ (some ad101) l0.length l0 := (Kd.R_reads' HO_0.out).2.2; have q020 : (0 : Int) ≤ (x5_1 : Int) := of_decide_eq_true d80e; have hcut20 := cut_from (P := Try.prog) 48 9 .i64 Try.underlying48 hi020 1 hsz20 (some ad101) l0.length co3 x5_1 q020 q20; have hr20 := Kd.C_drop (m := (x5_1 : Int).toNat) (c := co3) hC20 (by omega) hroom20; obtain ⟨A20, hA20⟩ : ∃ A1, A1 = (if co3 = (x5_1 : Int).toNat then (some ad101) else ((some ad101) : Option Addr).map (·.add ((x5_1 : Int).toNat * 1))) := ⟨_, rfl⟩; obtain ⟨c20, hc20⟩ : ∃ c1, c1 = co3 - (x5_1 : Int).toNat := ⟨_, rfl⟩; have hy20 : y113.length = l0.length - (x5_1 : Int).toNat := (by rw [Ny113.out, List.length_drop] <;> omega); rw [show (l0).drop (x5_1 : Int).toNat = y113 from Ny113.out.symm] at hr20; replace hr20 : Kd.C Kd.string _ A20 y113.length y113 := (by rw [hA20]; exact hr20); rw [← hy20, ← hA20, ← hc20] at hcut20; have HR116 := Aside0.mk hr20; have HC116 := Aside0.mk (show y113.length ≤ c20 from by rw [hy20, hc20]; exact Nat.sub_le_sub_right hroom20 _); clear hr20 hC20 hroom20 hi020 hsz20 hc20; have KY20 := Aside0.mk hy20; have KA20 := Aside0.mk hA20; clear hy20 hA20; have KL20 := Aside0.mk (show (x5_1 : Int).toNat ≤ l0.length from by omega); replace q20 := eq_true q20) | ((with_reducible refine gate_builtin (b := .append) (xs := #[.tmp 43, .tmp 46]) rfl ?_); at_builtin; refine Kd.R_append_rows Kd.string (w0 := w0) w0.heap.size rfl (.tmp 43) (.tmp 46) 48 9 (.string ⟨#[]⟩) 16 rfl Try.underlying48 info9 rfl (by decide) (by omega) v111 y110 y113 _ _ _ (fun k_ => (P0_ k_ ∨ w.heap.size ≤ k_) ∧ some k_ ≠ (.slice (some ad101) l0.length co3 : Value).ownBlock) (fun _ => False) rfl rfl ?aO ?aR (fun _ _ h => h) (fun _ h => h.elim) ?aF ?aB ?aS ?aL ?_; (case aR => repeat (first | exact (by repeat (first | (with_reducible exact HR116.out) | (with_reducible refine Kd.C_alloc ?_ _) | (with_reducible refine Kd.C_drewN ?_ _) | (with_reducible refine Kd.C_drew ?_) | exact HR116.out)) | (with_reducible refine Kd.C_alloc ?_ _) | (with_reducible refine Kd.C_drewN ?_ _) | (with_reducible refine Kd.C_drew ?_))); (case aB => exact d80b); (case aF => exact (fun k_ hk => ⟨(.inr (Nat.le_trans d80a hk)), Kd.fresh' (Kd.R_lt d80d) k_ hk⟩)); (case aO => exact (by (with_reducible repeat (first | apply Kd.R_alloc | apply Kd.R_drewN | apply Kd.R_drew)); exact HO112.out)); (case aS => exact (below_size d80b)); (case aL => have := LMc16.out; omega); intro v118 w21 ho hb hg hat; rw [← Ny117.out] at ho; have n0_ := Aside0.mk (Kd.R_after (ok := (fun k_ => (P0_ k_ ∨ w.heap.size ≤ k_))) d80d hg hat); have n1_ := Aside0.mk (hb); have n2_ := Aside0.mk (Kept.of_grown (S := (fun k_ => P0_ k_)) hg d80c (fun k_ e_ => (HO112.out.1 k_ e_).1)); have n3_ := Aside0.mk ((show Kd.C Kd.string w21 (some ad101) y103.length y103 from by rw [Ny103.out]; exact Kd.C_take (m := (x5_1 : Int).toNat) ((Kd.R_reads' (Kd.R_after (ok := (fun k_ => (P0_ k_ ∨ w.heap.size ≤ k_))) d80d hg hat)).2.2) KL17.out)); have n4_ := Aside0.mk ((show Kd.C Kd.string w21 A20 y113.length y113 from by rw [Ny113.out, KA20.out]; exact Kd.C_drop (m := (x5_1 : Int).toNat) (c := co3) ((Kd.R_reads' (Kd.R_after (ok := (fun k_ => (P0_ k_ ∨ w.heap.size ≤ k_))) d80d hg hat)).2.2) KL20.out ((Kd.R_reads' (Kd.R_after (ok := (fun k_ => (P0_ k_ ∨ w.heap.size ≤ k_))) d80d hg hat)).2.1))); have n5_ := Aside0.mk (ho); clear HO_0; clear HB; clear HK; clear HR106; clear HR116; clear HO112; have HO_0 := n0_; have HB := n1_; have HK := n2_; have HR106 := n3_; have HR116 := n4_; have HO119 := n5_; clear n0_ n1_ n2_ n3_ n4_ n5_; clear ho hb hg hat))
         go_ret
         exact ⟨_, by first | rfl | (simp [errW_none, errW_some] <;> rfl) | (simp only [← hji5]; first | rfl | (simp [errW_none, errW_some] <;> rfl)) | (simp [*, errW_none, errW_some] <;> rfl), by (with_reducible repeat (first | apply Kd.R_alloc | apply Kd.R_drewN | apply Kd.R_drew)); exact Kd.R_mono HO119.out (fun _ hk => hk.1), d80b, d80c⟩
   · rw [if_neg c4] at H
     have c4b0 : decide (0 < x5_1) = false := decide_eq_false c4
     clear c4
     replace H := guardT H; obtain ⟨c22, H⟩ := H
     have c22b0 := eq_true c22
     have c22b1 : decide (0 ≤ x5_1) = true := decide_eq_true c22
     clear c22
     replace H := guardT H; obtain ⟨c23, H⟩ := H
     have c23b0 := eq_true c23
     have c23b1 : decide (x5_1 ≤ (l0.length : Int)) = true := decide_eq_true c23
     clear c23
     obtain ⟨y120, hy120⟩ : ∃ y_ : List ByteArray, y_ = (l0.take (x5_1 : Int).toNat) := ⟨_, rfl⟩
     replace H : (if ([] : List ByteArray).length + y120.length < 8796093022208 then ((some (([] : List ByteArray) ++ y120 : List ByteArray)).bind fun y124 => (if y124.length < 8796093022208 then ((some (y124 ++ [a1] : List ByteArray)).bind fun y127 => ((some (l0.drop (x5_1 : Int).toNat : List ByteArray)).bind fun y130 => (if y127.length + y130.length < 8796093022208 then (some (y127 ++ y130)) else (none)))) else (none))) else (none)) = some r := by first | (rw [hy120]; with_reducible exact H) | (have H2_ := (Option.bind_some _ _).symm.trans H; rw [hy120]; with_reducible exact H2_) | (have H2_ := (Option.bind_some _ _).symm.trans H; with_reducible exact H2_) | with_reducible exact H | (rw [hy120]; exact H) | exact H
     have Ny120 := Aside0.mk hy120
     clear hy120
     replace H := guardT H; obtain ⟨c24, H⟩ := H
     have LMc24 := Aside0.mk c24
     clear c24
     obtain ⟨y124, hy124⟩ : ∃ y_ : List ByteArray, y_ = (([] : List ByteArray) ++ y120) := ⟨_, rfl⟩
     replace H : (if y124.length < 8796093022208 then ((some (y124 ++ [a1] : List ByteArray)).bind fun y127 => ((some (l0.drop (x5_1 : Int).toNat : List ByteArray)).bind fun y130 => (if y127.length + y130.length < 8796093022208 then (some (y127 ++ y130)) else (none)))) else (none)) = some r := by first | (rw [hy124]; with_reducible exact H) | (have H2_ := (Option.bind_some _ _).symm.trans H; rw [hy124]; with_reducible exact H2_) | (have H2_ := (Option.bind_some _ _).symm.trans H; with_reducible exact H2_) | with_reducible exact H | (rw [hy124]; exact H) | exact H
     have Ny124 := Aside0.mk hy124
     clear hy124
     replace H := guardT H; obtain ⟨c25, H⟩ := H
     have LMc25 := Aside0.mk c25
     clear c25
     obtain ⟨y127, hy127⟩ : ∃ y_ : List ByteArray, y_ = (y124 ++ [a1]) := ⟨_, rfl⟩
     replace H : ((some (l0.drop (x5_1 : Int).toNat : List ByteArray)).bind fun y130 => (if y127.length + y130.length < 8796093022208 then (some (y127 ++ y130)) else (none))) = some r := by first | (rw [hy127]; with_reducible exact H) | (have H2_ := (Option.bind_some _ _).symm.trans H; rw [hy127]; with_reducible exact H2_) | (have H2_ := (Option.bind_some _ _).symm.trans H; with_reducible exact H2_) | with_reducible exact H | (rw [hy127]; exact H) | exact H
     have Ny127 := Aside0.mk hy127
     clear hy127
     have c26b0 := eq_true (of_decide_eq_true d80e : 0 ≤ x5_1)
     have c27b0 := eq_true (of_decide_eq_true d80e : x5_1 ≤ (l0.length : Int))
     obtain ⟨y130, hy130⟩ : ∃ y_ : List ByteArray, y_ = (l0.drop (x5_1 : Int).toNat) := ⟨_, rfl⟩
     replace H : (if y127.length + y130.length < 8796093022208 then (some (y127 ++ y130)) else (none)) = some r := by first | (rw [hy130]; with_reducible exact H) | (have H2_ := (Option.bind_some _ _).symm.trans H; rw [hy130]; with_reducible exact H2_) | (have H2_ := (Option.bind_some _ _).symm.trans H; with_reducible exact H2_) | with_reducible exact H | (rw [hy130]; exact H) | exact H
     have Ny130 := Aside0.mk hy130
     clear hy130
     replace H := guardT H; obtain ⟨c28, H⟩ := H
     have LMc28 := Aside0.mk c28
     clear c28
     obtain ⟨y134, hy134⟩ : ∃ y_ : List ByteArray, y_ = (y127 ++ y130) := ⟨_, rfl⟩
     replace H : (some y134) = some r := by first | (rw [hy134]; with_reducible exact H) | (have H2_ := (Option.bind_some _ _).symm.trans H; rw [hy134]; with_reducible exact H2_) | (have H2_ := (Option.bind_some _ _).symm.trans H; with_reducible exact H2_) | with_reducible exact H | (rw [hy134]; exact H) | exact H
     have Ny134 := Aside0.mk hy134
     clear hy134
     obtain rfl := Option.some.inj H
     have q29 : (x5_1 : Int) ≤ ((l0.length : Int) : Int) := of_decide_eq_true d80e
     obtain ⟨i029, hi029, _, hsz29, _⟩ := info_parts info9
     have hroom29 : l0.length ≤ co3 := (Kd.R_reads' HO_0.out).2.1
     have hC29 : Kd.C Kd.string _ Ao3 l0.length l0 := (Kd.R_reads' HO_0.out).2.2
     have hcut29 := cut_to (P := Try.prog) 48 9 .i64 Try.underlying48 hi029 Ao3 l0.length co3 x5_1 (of_decide_eq_true d80e) q29 hroom29
     have hr29 := Kd.C_take (m := (x5_1 : Int).toNat) hC29 (by omega)
     have hy29 : y120.length = (x5_1 : Int).toNat := (by rw [Ny120.out, List.length_take]; omega)
     rw [← Ny120.out] at hr29
     rw [← hy29] at hcut29
     have HR123 := Aside0.mk hr29
     have HC123 := Aside0.mk (show y120.length ≤ co3 from by omega)
     clear hr29 hC29 hroom29 hi029 hsz29
     have KY29 := Aside0.mk hy29
     clear hy29
     have KL29 := Aside0.mk (show (x5_1 : Int).toNat ≤ l0.length from by omega)
     replace q29 := eq_true q29
     go_wp2_with (first | ((with_reducible refine gate_builtin (b := .append) (xs := #[.tmp 34, .tmp 37]) rfl ?_); at_builtin; refine Kd.R_append_rows Kd.string (w0 := w0) w0.heap.size rfl (.tmp 34) (.tmp 37) 48 9 (.string ⟨#[]⟩) 16 rfl Try.underlying48 info9 rfl (by decide) (by omega) (.slice none 0 0) ([] : List ByteArray) y120 _ _ _ (fun k_ => (P0_ k_ ∨ w.heap.size ≤ k_) ∧ some k_ ≠ (.slice Ao3 l0.length co3 : Value).ownBlock) (fun _ => False) rfl rfl ?aO ?aR (fun _ _ h => h) (fun _ h => h.elim) ?aF ?aB ?aS ?aL ?_; (case aR => repeat (first | exact (by repeat (first | (with_reducible exact HR123.out) | (with_reducible refine Kd.C_alloc ?_ _) | (with_reducible refine Kd.C_drewN ?_ _) | (with_reducible refine Kd.C_drew ?_) | exact HR123.out)) | (with_reducible refine Kd.C_alloc ?_ _) | (with_reducible refine Kd.C_drewN ?_ _) | (with_reducible refine Kd.C_drew ?_))); (case aB => exact d80b); (case aF => exact (fun k_ hk => ⟨(.inr (Nat.le_trans d80a hk)), Kd.fresh' (Kd.R_lt d80d) k_ hk⟩)); (case aO => exact ((Kd.R_nil _ _ _ _ (fun k_ => (P0_ k_ ∨ w.heap.size ≤ k_) ∧ some k_ ≠ (.slice Ao3 l0.length co3 : Value).ownBlock)))); (case aS => exact (below_size d80b)); (case aL => have := LMc24.out; omega); intro v125 w30 ho hb hg hat; rw [← Ny124.out] at ho; have n0_ := Aside0.mk (Kd.R_after (Kd.R_apart_nil d80d) hg hat); have n1_ := Aside0.mk (hb); have n2_ := Aside0.mk (Kept.of_grown (S := (fun k_ => P0_ k_)) hg d80c (fun k_ e_ => by simp [Value.ownBlock] at e_)); have n3_ := Aside0.mk ((show Kd.C Kd.string w30 Ao3 y120.length y120 from by rw [Ny120.out]; exact Kd.C_take (m := (x5_1 : Int).toNat) ((Kd.R_reads' (Kd.R_after (Kd.R_apart_nil d80d) hg hat)).2.2) KL29.out)); have n4_ := Aside0.mk (ho); clear HO_0; clear HB; clear HK; clear HR123; have HO_0 := n0_; have HB := n1_; have HK := n2_; have HR123 := n3_; have HO126 := n4_; clear n0_ n1_ n2_ n3_ n4_; clear ho hb hg hat) | ((with_reducible refine gate_builtin (b := .append) (xs := #[.tmp 39, .tmp 41]) rfl ?_); at_builtin; refine Kd.R_append Kd.string (w0 := w0) w0.heap.size rfl (.tmp 39) (.tmp 41) 48 9 (.string ⟨#[]⟩) 16 rfl Try.underlying48 info9 rfl (by decide) (by omega) v125 y124 a1 [.string a1] (fun k_ => (P0_ k_ ∨ w.heap.size ≤ k_) ∧ some k_ ≠ (.slice Ao3 l0.length co3 : Value).ownBlock) (fun _ => False) rfl rfl ?aP (fun _ hk => hk.elim) ?aF ?aO ?aB ?aS ?aL ?_; (case aP => exact rfl); (case aB => exact d80b); (case aF => exact (fun k_ hk => ⟨(.inr (Nat.le_trans d80a hk)), Kd.fresh' (Kd.R_lt d80d) k_ hk⟩)); (case aO => exact (by (with_reducible repeat (first | apply Kd.R_alloc | apply Kd.R_drewN | apply Kd.R_drew)); exact HO126.out)); (case aS => exact (below_size d80b)); (case aL => have := LMc25.out; omega); intro v128 w31 ho hb hg hat; rw [← Ny127.out] at ho; have n0_ := Aside0.mk (Kd.R_after (ok := (fun k_ => (P0_ k_ ∨ w.heap.size ≤ k_))) d80d hg hat); have n1_ := Aside0.mk (hb); have n2_ := Aside0.mk (Kept.of_grown (S := (fun k_ => P0_ k_)) hg d80c (fun k_ e_ => (HO126.out.1 k_ e_).1)); have n3_ := Aside0.mk ((show Kd.C Kd.string w31 Ao3 y120.length y120 from by rw [Ny120.out]; exact Kd.C_take (m := (x5_1 : Int).toNat) ((Kd.R_reads' (Kd.R_after (ok := (fun k_ => (P0_ k_ ∨ w.heap.size ≤ k_))) d80d hg hat)).2.2) KL29.out)); have n4_ := Aside0.mk (ho); clear HO_0; clear HB; clear HK; clear HR123; clear HO126; have HO_0 := n0_; have HB := n1_; have HK := n2_; have HR123 := n3_; have HO129 := n4_; clear n0_ n1_ n2_ n3_ n4_; clear ho hb hg hat; have q32 : (x5_1 : Int) ≤ ((l0.length : Int) : Int) := of_decide_eq_true d80e; obtain ⟨i032, hi032, _, hsz32, _⟩ := info_parts info9; have hroom32 : l0.length ≤ co3 := (Kd.R_reads' HO_0.out).2.1; have hC32 : Kd.C Kd.string _ Ao3 l0.length l0 := (Kd.R_reads' HO_0.out).2.2; have q032 : (0 : Int) ≤ (x5_1 : Int) := of_decide_eq_true d80e; have hcut32 := cut_from (P := Try.prog) 48 9 .i64 Try.underlying48 hi032 1 hsz32 Ao3 l0.length co3 x5_1 q032 q32; have hr32 := Kd.C_drop (m := (x5_1 : Int).toNat) (c := co3) hC32 (by omega) hroom32; obtain ⟨A32, hA32⟩ : ∃ A1, A1 = (if co3 = (x5_1 : Int).toNat then Ao3 else (Ao3 : Option Addr).map (·.add ((x5_1 : Int).toNat * 1))) := ⟨_, rfl⟩; obtain ⟨c32, hc32⟩ : ∃ c1, c1 = co3 - (x5_1 : Int).toNat := ⟨_, rfl⟩; have hy32 : y130.length = l0.length - (x5_1 : Int).toNat := (by rw [Ny130.out, List.length_drop] <;> omega); rw [show (l0).drop (x5_1 : Int).toNat = y130 from Ny130.out.symm] at hr32; replace hr32 : Kd.C Kd.string _ A32 y130.length y130 := (by rw [hA32]; exact hr32); rw [← hy32, ← hA32, ← hc32] at hcut32; have HR133 := Aside0.mk hr32; have HC133 := Aside0.mk (show y130.length ≤ c32 from by rw [hy32, hc32]; exact Nat.sub_le_sub_right hroom32 _); clear hr32 hC32 hroom32 hi032 hsz32 hc32; have KY32 := Aside0.mk hy32; have KA32 := Aside0.mk hA32; clear hy32 hA32; have KL32 := Aside0.mk (show (x5_1 : Int).toNat ≤ l0.length from by omega); replace q32 := eq_true q32) | ((with_reducible refine gate_builtin (b := .append) (xs := #[.tmp 43, .tmp 46]) rfl ?_); at_builtin; refine Kd.R_append_rows Kd.string (w0 := w0) w0.heap.size rfl (.tmp 43) (.tmp 46) 48 9 (.string ⟨#[]⟩) 16 rfl Try.underlying48 info9 rfl (by decide) (by omega) v128 y127 y130 _ _ _ (fun k_ => (P0_ k_ ∨ w.heap.size ≤ k_) ∧ some k_ ≠ (.slice Ao3 l0.length co3 : Value).ownBlock) (fun _ => False) rfl rfl ?aO ?aR (fun _ _ h => h) (fun _ h => h.elim) ?aF ?aB ?aS ?aL ?_; (case aR => repeat (first | exact (by repeat (first | (with_reducible exact HR133.out) | (with_reducible refine Kd.C_alloc ?_ _) | (with_reducible refine Kd.C_drewN ?_ _) | (with_reducible refine Kd.C_drew ?_) | exact HR133.out)) | (with_reducible refine Kd.C_alloc ?_ _) | (with_reducible refine Kd.C_drewN ?_ _) | (with_reducible refine Kd.C_drew ?_))); (case aB => exact d80b); (case aF => exact (fun k_ hk => ⟨(.inr (Nat.le_trans d80a hk)), Kd.fresh' (Kd.R_lt d80d) k_ hk⟩)); (case aO => exact (by (with_reducible repeat (first | apply Kd.R_alloc | apply Kd.R_drewN | apply Kd.R_drew)); exact HO129.out)); (case aS => exact (below_size d80b)); (case aL => have := LMc28.out; omega); intro v135 w33 ho hb hg hat; rw [← Ny134.out] at ho; have n0_ := Aside0.mk (Kd.R_after (ok := (fun k_ => (P0_ k_ ∨ w.heap.size ≤ k_))) d80d hg hat); have n1_ := Aside0.mk (hb); have n2_ := Aside0.mk (Kept.of_grown (S := (fun k_ => P0_ k_)) hg d80c (fun k_ e_ => (HO129.out.1 k_ e_).1)); have n3_ := Aside0.mk ((show Kd.C Kd.string w33 Ao3 y120.length y120 from by rw [Ny120.out]; exact Kd.C_take (m := (x5_1 : Int).toNat) ((Kd.R_reads' (Kd.R_after (ok := (fun k_ => (P0_ k_ ∨ w.heap.size ≤ k_))) d80d hg hat)).2.2) KL29.out)); have n4_ := Aside0.mk ((show Kd.C Kd.string w33 A32 y130.length y130 from by rw [Ny130.out, KA32.out]; exact Kd.C_drop (m := (x5_1 : Int).toNat) (c := co3) ((Kd.R_reads' (Kd.R_after (ok := (fun k_ => (P0_ k_ ∨ w.heap.size ≤ k_))) d80d hg hat)).2.2) KL32.out ((Kd.R_reads' (Kd.R_after (ok := (fun k_ => (P0_ k_ ∨ w.heap.size ≤ k_))) d80d hg hat)).2.1))); have n5_ := Aside0.mk (ho); clear HO_0; clear HB; clear HK; clear HR123; clear HR133; clear HO129; have HO_0 := n0_; have HB := n1_; have HK := n2_; have HR123 := n3_; have HR133 := n4_; have HO136 := n5_; clear n0_ n1_ n2_ n3_ n4_ n5_; clear ho hb hg hat))
     go_ret
     exact ⟨_, by first | rfl | (simp [errW_none, errW_some] <;> rfl) | (simp [*, errW_none, errW_some] <;> rfl), by (with_reducible repeat (first | apply Kd.R_alloc | apply Kd.R_drewN | apply Kd.R_drew)); exact Kd.R_mono HO136.out (fun _ hk => hk.1), d80b, d80c⟩
def perigeeref10_stations.l0 : Nat → List (S33) → List ByteArray → Int → Option (List ByteArray)
  | 0, _, _, _ => none
  | k + 1, x0, x3, x4 => if x4 < (x0.length : Int) then (if 0 ≤ x4 then ((perigeeref10_put.f k x3 ((rd_T33 x0 x4).f0)).bind fun t102 => (perigeeref10_stations.l0 k x0 t102 (wrap64 (x4 + 1)))) else (none)) else (some x3)
def perigeeref10_stations.f (k : Nat) (l0 : List (S33)) : Option (List ByteArray) := perigeeref10_stations.l0 k l0 ([] : List ByteArray) 0
theorem d49a {p : Prop} (h : p := by repeat (first | (with_reducible first | exact HB.out | apply below_alloc | apply pw_below_drewN | apply below_drew1) | exact HB.out)) : p := h
set_option maxHeartbeats 8000000 in
set_option maxRecDepth 100000 in
theorem perigeeref10_stations.calls (k : Nat) (A0 : Option Addr) (c0 : Nat) (l0 : List (S33)) (r : List ByteArray) (w : World) (hr0 : Kd.C k33 w A0 l0.length l0) (hc0 : l0.length ≤ c0) (h : perigeeref10_stations.f k l0 = some r) :
 Calls Try.prog 49 #[.slice A0 l0.length c0] w fun e w' => ∃ v0_ : Value, e = .returned (v0_) ∧ Kd.R Kd.string 9 w' w.heap.size (fun _ => True) v0_ r ∧ Below w.heap.size w w' := by
 have HR0 := Aside0.mk hr0
 have HC0 := Aside0.mk hc0
 clear hr0 hc0
 have HB := Aside0.mk (Below.refl w.heap.size w)
 have H : (perigeeref10_stations.l0 k l0 ([] : List ByteArray) 0) = some r := h
 clear h
 have H' := Aside0.mk H
 clear H
 go_enter Try.func49, Try.ntmps49
 go_wp2
 go_loopg [3, 4] k (fun kq v3 v4 w' => ∃ (x3_1 : List ByteArray) (x4_1 : Int), v4 = .int .i64 x4_1 ∧ Aside0 (perigeeref10_stations.l0 kq l0 x3_1 x4_1 = some r) ∧ Aside0 (kq ≤ k) ∧ Aside0 (Kd.R Kd.string 9 w' w.heap.size (fun _ => True) v3 x3_1) ∧ Aside0 (Below w.heap.size w w'))
 case atStart => exact ⟨(([] : List ByteArray)), (0), (by first | rfl | (simp; done) | (simp [*]; done)), H', ⟨Nat.le_refl _⟩, ⟨by first | exact Kd.R_nil _ _ _ _ _ | exact Kd.N_nil _ _ _ _ _ | exact Kd.V_nil _ _ _ _ _ | exact Kd.Q_nil _ _ _ _ _ | exact Kd.S_nil _ _ _ _ _⟩, ⟨d49a⟩⟩
 case round =>
  clear H'
  obtain ⟨x3_1, x4_1, rfl, HA, HK1, HO_3, HB⟩ := hrel
  cases gk with
  | zero => exact absurd HA.out (by simp [perigeeref10_stations.l0])
  | succ k1 =>
   have H := HA.out
   clear HA
   simp only [perigeeref10_stations.l0] at H
   by_cases c2 : x4_1 < (l0.length : Int)
   · rw [if_pos c2] at H
     have c2b0 : decide (x4_1 < (l0.length : Int)) = true := decide_eq_true c2
     clear c2
     replace H := guardT H; obtain ⟨c3, H⟩ := H
     have c3b0 : decide (0 ≤ x4_1) = true := decide_eq_true c3
     clear c3
     replace H := bindS H; obtain ⟨t102, A4, H⟩ := H
     have H' := Aside0.mk H
     clear H
     have p101 : 0 ≤ (x4_1 : Int) := of_decide_eq_true (by first | (with_reducible assumption) | assumption)
     have q101 : x4_1 < (l0.length : Int) := of_decide_eq_true (by first | (with_reducible assumption) | assumption)
     obtain ⟨ad101, A101_3, c101_3, e101, hx101_0, hx101_1, hx101_2, hx101_3, hl101_3, hi101_3⟩ := at_T33 HR0.out x4_1 p101 q101
     cases e101
     replace hx101_0 := cellB HB.out hx101_0
     replace hx101_1 := cellB HB.out hx101_1
     replace hx101_2 := cellB HB.out hx101_2
     replace hx101_3 := cellB HB.out hx101_3
     have HR101_3 := Aside0.mk hi101_3
     have HC101_3 := Aside0.mk hl101_3
     clear hi101_3 hl101_3
     replace p101 := eq_true p101
     replace q101 := eq_true q101
     obtain ⟨Ao5, co5, eo5⟩ := Kd.R_slice HO_3.out
     subst eo5
     go_wp2_with ((with_reducible refine gate_callee (f := 80) rfl ?_); refine goesL_ (some 17) rfl rfl Try.func80 (by kernel_rfl) rfl #[.slice Ao5 x3_1.length co5, .string ((rd_T33 l0 x4_1).f0)] rfl (by (try simp only [List.map_toArray, List.map_cons, List.map_nil]); first | done | rfl | (simp only [List.length_drop, List.length_take]; rfl)) ?_; (with_reducible refine (perigeeref10_put.calls k1 (fun k_ => some k_ = (.slice Ao5 x3_1.length co5 : Value).ownBlock) (.slice Ao5 x3_1.length co5) x3_1 ((rd_T33 l0 x4_1).f0) t102 w _ ?side1 ?side2 A4.out).mono ?_); (case side1 => exact d49a); (case side2 => exact Kd.R_tight rfl HO_3.out); rintro e w6 ⟨v103, rfl, ho0, hb, hkp⟩; refine ⟨_, rfl, ?_⟩; have n0_ := Aside0.mk (Kd.R_mono (ok' := fun k_ => True) ho0 (fun k_ hk_ => trivial)); have n1_ := Aside0.mk (hb); clear HB; clear HO_3; have HO104 := n0_; have HB := n1_; clear n0_ n1_; (try clear hb); (try clear hkp); (try clear ho0))
     go_roundg k1
     case measure => have := HK1.out; omega
     case rel => exact ⟨(t102), (wrap64 (x4_1 + 1)), (by first | rfl | (simp; done) | (simp [*]; done)), H', ⟨by have := HK1.out; omega⟩, ⟨by (with_reducible repeat (first | apply Kd.R_alloc | apply Kd.R_drewN | apply Kd.R_drew)); exact HO104.out⟩, ⟨d49a⟩⟩
   · rw [if_neg c2] at H
     have c2b0 : decide (x4_1 < (l0.length : Int)) = false := decide_eq_false c2
     clear c2
     obtain rfl := Option.some.inj H
     go_wp2
     go_ret
     exact ⟨_, by first | rfl | (simp [errW_none, errW_some] <;> rfl) | (simp [*, errW_none, errW_some] <;> rfl), by (with_reducible repeat (first | apply Kd.R_alloc | apply Kd.R_drewN | apply Kd.R_drew)); exact HO_3.out, d49a⟩
def perigeeref10_CheckPasses.l0 : Nat → List (S33) → Int → Option (Int)
  | 0, _, _ => none
  | k + 1, x0, x3 => if x3 < (x0.length : Int) then (if 0 ≤ x3 then ((perigeeref10_checkPass.f k ((rd_T33 x0 x3).f0) ((rd_T33 x0 x3).f1) ((rd_T33 x0 x3).f2) ((rd_T33 x0 x3).f3)).bind fun t105 => (if t105 = 0 then (if x3 > 0 then (if 0 ≤ (wrap64 (x3 - 1)) then (if (wrap64 (x3 - 1)) < (x0.length : Int) then (if ((rd_T33 x0 x3).f1) < ((rd_T33 x0 (wrap64 (x3 - 1))).f1) then (some 8) else (if ((rd_T33 x0 x3).f1) = ((rd_T33 x0 (wrap64 (x3 - 1))).f1) then (if ((Op.bytesLess (((rd_T33 x0 (wrap64 (x3 - 1))).f0).toList) (((rd_T33 x0 x3).f0).toList)) = true) then (perigeeref10_CheckPasses.l0 k x0 (wrap64 (x3 + 1))) else (some 8)) else (perigeeref10_CheckPasses.l0 k x0 (wrap64 (x3 + 1))))) else (none)) else (none)) else (perigeeref10_CheckPasses.l0 k x0 (wrap64 (x3 + 1)))) else (some t105))) else (none)) else ((perigeeref10_stations.f k x0).bind fun t101 => (if (t101.length : Int) > 50 then (some 2) else (some 0)))
def perigeeref10_CheckPasses.f (k : Nat) (l0 : List (S33)) : Option (Int) := if (l0.length : Int) > 100 then (some 2) else (perigeeref10_CheckPasses.l0 k l0 0)
theorem d19a {p : Prop} (h : p := by repeat (first | (with_reducible first | exact HB.out | apply below_alloc | apply pw_below_drewN | apply below_drew1) | exact HB.out)) : p := h
theorem d19b {p : Prop} (h : p := by first | rfl | (simp [errW_none, errW_some] <;> rfl) | (simp [*, errW_none, errW_some] <;> rfl)) : p := h
theorem d19c {p : Prop} (h : p := by first | (with_reducible assumption) | assumption) : p := h
theorem d19d {p : Prop} (h : p := by first | rfl | (simp; done) | (simp [*]; done)) : p := h
theorem d19e {p : Prop} (h : p := by exact C_go (Kd.C_below HR104_3.out HB.out)) : p := h
set_option maxHeartbeats 8000000 in
set_option maxRecDepth 100000 in
theorem perigeeref10_CheckPasses.calls (k : Nat) (A0 : Option Addr) (c0 : Nat) (l0 : List (S33)) (r : Int) (w : World) (hr0 : Kd.C k33 w A0 l0.length l0) (hc0 : l0.length ≤ c0) (h : perigeeref10_CheckPasses.f k l0 = some r) :
 Calls Try.prog 19 #[.slice A0 l0.length c0] w fun e w' => e = .returned (.int .i64 r) ∧ Below w.heap.size w w' := by
 have hu33 := Try.underlying33
 have HR0 := Aside0.mk hr0
 have HC0 := Aside0.mk hc0
 clear hr0 hc0
 have HB := Aside0.mk (Below.refl w.heap.size w)
 have H : (if (l0.length : Int) > 100 then (some 2) else (perigeeref10_CheckPasses.l0 k l0 0)) = some r := h
 clear h
 by_cases c2 : (l0.length : Int) > 100
 · rw [if_pos c2] at H
   have c2b0 : decide (100 < (l0.length : Int)) = true := decide_eq_true c2
   have c2b1 : decide (100 < l0.length) = true := decide_eq_true (by omega)
   clear c2
   obtain rfl := Option.some.inj H
   go_enter Try.func19, Try.ntmps19
   go_wp2
   go_ret
   exact ⟨d19b, d19a⟩
 · rw [if_neg c2] at H
   have c2b0 : decide (100 < (l0.length : Int)) = false := decide_eq_false c2
   have c2b1 : decide (100 < l0.length) = false := decide_eq_false (by omega)
   clear c2
   have H' := Aside0.mk H
   clear H
   go_enter Try.func19, Try.ntmps19
   go_wp2
   go_loopg [3] k (fun kq v3 w' => ∃ (x3_1 : Int), v3 = .int .i64 x3_1 ∧ Aside0 (perigeeref10_CheckPasses.l0 kq l0 x3_1 = some r) ∧ Aside0 (kq ≤ k) ∧ Aside0 (Below w.heap.size w w'))
   case atStart => exact ⟨(0), d19d, H', ⟨Nat.le_refl _⟩, ⟨d19a⟩⟩
   case round =>
    clear H'
    try clear c2b0
    try clear c2b1
    obtain ⟨x3_1, rfl, HA, HK1, HB⟩ := hrel
    cases gk with
    | zero => exact absurd HA.out (by simp [perigeeref10_CheckPasses.l0])
    | succ k1 =>
     have H := HA.out
     clear HA
     simp only [perigeeref10_CheckPasses.l0] at H
     by_cases c3 : x3_1 < (l0.length : Int)
     · rw [if_pos c3] at H
       have c3b0 : decide (x3_1 < (l0.length : Int)) = true := decide_eq_true c3
       clear c3
       replace H := guardT H; obtain ⟨c4, H⟩ := H
       have c4b0 : decide (0 ≤ x3_1) = true := decide_eq_true c4
       clear c4
       replace H := bindS H; obtain ⟨t105, A5, H⟩ := H
       by_cases c6 : t105 = 0
       · rw [if_pos c6] at H
         have c6b0 : (t105 == 0) = true := beq_iff_eq.mpr c6
         have c6b1 : (t105 != 0) = false := bne_eq_false_iff_eq.mpr c6
         clear c6
         by_cases c7 : x3_1 > 0
         · rw [if_pos c7] at H
           have c7b0 : decide (0 < x3_1) = true := decide_eq_true c7
           clear c7
           obtain ⟨ji8, hji8⟩ : ∃ j_ : Int, (wrap64 (x3_1 - 1)) = j_ := ⟨_, rfl⟩
           replace H : (if 0 ≤ (ji8) then (if (ji8) < (l0.length : Int) then (if ((rd_T33 l0 x3_1).f1) < ((rd_T33 l0 (ji8)).f1) then (some 8) else (if ((rd_T33 l0 x3_1).f1) = ((rd_T33 l0 (ji8)).f1) then (if ((Op.bytesLess (((rd_T33 l0 (ji8)).f0).toList) (((rd_T33 l0 x3_1).f0).toList)) = true) then (perigeeref10_CheckPasses.l0 k1 l0 (wrap64 (x3_1 + 1))) else (some 8)) else (perigeeref10_CheckPasses.l0 k1 l0 (wrap64 (x3_1 + 1))))) else (none)) else (none)) = some r := by first | (rw [hji8] at H; exact H) | (simp only [hji8] at H ⊢; exact H)
           (try rw [hji8] at A5)
           have hji8w : (IntKind.i64.wrap (x3_1 - 1)) = ji8 := (i64_w _).trans hji8
           replace H := guardT H; obtain ⟨c9, H⟩ := H
           have c9b0 : decide (0 ≤ (ji8)) = true := decide_eq_true c9
           clear c9
           replace H := guardT H; obtain ⟨c10, H⟩ := H
           have c10b0 : decide ((ji8) < (l0.length : Int)) = true := decide_eq_true c10
           clear c10
           by_cases c11 : ((rd_T33 l0 x3_1).f1) < ((rd_T33 l0 (ji8)).f1)
           · rw [if_pos c11] at H
             have c11b0 : decide (((rd_T33 l0 x3_1).f1) < ((rd_T33 l0 (ji8)).f1)) = true := decide_eq_true c11
             clear c11
             obtain rfl := Option.some.inj H
             have p104 : 0 ≤ (x3_1 : Int) := of_decide_eq_true d19c
             have q104 : x3_1 < (l0.length : Int) := of_decide_eq_true d19c
             obtain ⟨ad104, A104_3, c104_3, e104, hx104_0, hx104_1, hx104_2, hx104_3, hl104_3, hi104_3⟩ := at_T33 HR0.out x3_1 p104 q104
             cases e104
             replace hx104_0 := cellB HB.out hx104_0
             replace hx104_1 := cellB HB.out hx104_1
             replace hx104_2 := cellB HB.out hx104_2
             replace hx104_3 := cellB HB.out hx104_3
             have HR104_3 := Aside0.mk hi104_3
             have HC104_3 := Aside0.mk hl104_3
             clear hi104_3 hl104_3
             replace p104 := eq_true p104
             replace q104 := eq_true q104
             go_wp2_with (go_at_call 48; (with_reducible refine (perigeeref10_checkPass.calls k1 ((rd_T33 l0 x3_1).f0) ((rd_T33 l0 x3_1).f1) ((rd_T33 l0 x3_1).f2) _ _ ((rd_T33 l0 x3_1).f3) t105 _ ?side1 ?side2 A5.out).mono ?_); (case side1 => exact d19e); (case side2 => exact HC104_3.out); rintro e w12 ⟨rfl, hb⟩; replace HB := Aside0.mk (below_step d19a hb); (try clear hb); have p106 : 0 ≤ (x3_1 : Int) := of_decide_eq_true d19c; have q106 : x3_1 < (l0.length : Int) := of_decide_eq_true d19c; obtain ⟨ad106, A106_3, c106_3, e106, hx106_0, hx106_1, hx106_2, hx106_3, hl106_3, hi106_3⟩ := at_T33 HR0.out x3_1 p106 q106; obtain rfl : ad104 = ad106 := (by injection e106); replace hx106_0 := cellB HB.out hx106_0; replace hx106_1 := cellB HB.out hx106_1; replace hx106_2 := cellB HB.out hx106_2; replace hx106_3 := cellB HB.out hx106_3; have HR106_3 := Aside0.mk hi106_3; have HC106_3 := Aside0.mk hl106_3; clear hi106_3 hl106_3; replace p106 := eq_true p106; replace q106 := eq_true q106; have p107 : 0 ≤ ((ji8) : Int) := of_decide_eq_true d19c; have q107 : (ji8) < (l0.length : Int) := of_decide_eq_true d19c; obtain ⟨ad107, A107_3, c107_3, e107, hx107_0, hx107_1, hx107_2, hx107_3, hl107_3, hi107_3⟩ := at_T33 HR0.out (ji8) p107 q107; obtain rfl : ad104 = ad107 := (by injection e107); replace hx107_0 := cellB HB.out hx107_0; replace hx107_1 := cellB HB.out hx107_1; replace hx107_2 := cellB HB.out hx107_2; replace hx107_3 := cellB HB.out hx107_3; have HR107_3 := Aside0.mk hi107_3; have HC107_3 := Aside0.mk hl107_3; clear hi107_3 hl107_3; replace p107 := eq_true p107; replace q107 := eq_true q107)
             repeat (go_quiet (fail); try go_wp2_with (fail))
             go_ret
             exact ⟨by first | rfl | (simp [errW_none, errW_some] <;> rfl) | (simp only [← hji8]; first | rfl | (simp [errW_none, errW_some] <;> rfl)) | (simp [*, errW_none, errW_some] <;> rfl), d19a⟩
           · rw [if_neg c11] at H
             have c11b0 : decide (((rd_T33 l0 x3_1).f1) < ((rd_T33 l0 (ji8)).f1)) = false := decide_eq_false c11
             clear c11
             by_cases c13 : ((rd_T33 l0 x3_1).f1) = ((rd_T33 l0 (ji8)).f1)
             · rw [if_pos c13] at H
               have c13b0 : (((rd_T33 l0 x3_1).f1) == ((rd_T33 l0 (ji8)).f1)) = true := beq_iff_eq.mpr c13
               have c13b1 : (((rd_T33 l0 x3_1).f1) != ((rd_T33 l0 (ji8)).f1)) = false := bne_eq_false_iff_eq.mpr c13
               clear c13
               by_cases c14 : ((Op.bytesLess (((rd_T33 l0 (ji8)).f0).toList) (((rd_T33 l0 x3_1).f0).toList)) = true)
               · rw [if_pos c14] at H
                 have c14b0 : (Op.bytesLess (((rd_T33 l0 (ji8)).f0).toList) (((rd_T33 l0 x3_1).f0).toList)) = true := c14
                 clear c14
                 have H' := Aside0.mk H
                 clear H
                 have p104 : 0 ≤ (x3_1 : Int) := of_decide_eq_true d19c
                 have q104 : x3_1 < (l0.length : Int) := of_decide_eq_true d19c
                 obtain ⟨ad104, A104_3, c104_3, e104, hx104_0, hx104_1, hx104_2, hx104_3, hl104_3, hi104_3⟩ := at_T33 HR0.out x3_1 p104 q104
                 cases e104
                 replace hx104_0 := cellB HB.out hx104_0
                 replace hx104_1 := cellB HB.out hx104_1
                 replace hx104_2 := cellB HB.out hx104_2
                 replace hx104_3 := cellB HB.out hx104_3
                 have HR104_3 := Aside0.mk hi104_3
                 have HC104_3 := Aside0.mk hl104_3
                 clear hi104_3 hl104_3
                 replace p104 := eq_true p104
                 replace q104 := eq_true q104
                 go_wp2_with (go_at_call 48; (with_reducible refine (perigeeref10_checkPass.calls k1 ((rd_T33 l0 x3_1).f0) ((rd_T33 l0 x3_1).f1) ((rd_T33 l0 x3_1).f2) _ _ ((rd_T33 l0 x3_1).f3) t105 _ ?side1 ?side2 A5.out).mono ?_); (case side1 => exact d19e); (case side2 => exact HC104_3.out); rintro e w15 ⟨rfl, hb⟩; replace HB := Aside0.mk (below_step d19a hb); (try clear hb); have p106 : 0 ≤ (x3_1 : Int) := of_decide_eq_true d19c; have q106 : x3_1 < (l0.length : Int) := of_decide_eq_true d19c; obtain ⟨ad106, A106_3, c106_3, e106, hx106_0, hx106_1, hx106_2, hx106_3, hl106_3, hi106_3⟩ := at_T33 HR0.out x3_1 p106 q106; obtain rfl : ad104 = ad106 := (by injection e106); replace hx106_0 := cellB HB.out hx106_0; replace hx106_1 := cellB HB.out hx106_1; replace hx106_2 := cellB HB.out hx106_2; replace hx106_3 := cellB HB.out hx106_3; have HR106_3 := Aside0.mk hi106_3; have HC106_3 := Aside0.mk hl106_3; clear hi106_3 hl106_3; replace p106 := eq_true p106; replace q106 := eq_true q106; have p107 : 0 ≤ ((ji8) : Int) := of_decide_eq_true d19c; have q107 : (ji8) < (l0.length : Int) := of_decide_eq_true d19c; obtain ⟨ad107, A107_3, c107_3, e107, hx107_0, hx107_1, hx107_2, hx107_3, hl107_3, hi107_3⟩ := at_T33 HR0.out (ji8) p107 q107; obtain rfl : ad104 = ad107 := (by injection e107); replace hx107_0 := cellB HB.out hx107_0; replace hx107_1 := cellB HB.out hx107_1; replace hx107_2 := cellB HB.out hx107_2; replace hx107_3 := cellB HB.out hx107_3; have HR107_3 := Aside0.mk hi107_3; have HC107_3 := Aside0.mk hl107_3; clear hi107_3 hl107_3; replace p107 := eq_true p107; replace q107 := eq_true q107; have p108 : 0 ≤ (x3_1 : Int) := of_decide_eq_true d19c; have q108 : x3_1 < (l0.length : Int) := of_decide_eq_true d19c; obtain ⟨ad108, A108_3, c108_3, e108, hx108_0, hx108_1, hx108_2, hx108_3, hl108_3, hi108_3⟩ := at_T33 HR0.out x3_1 p108 q108; obtain rfl : ad104 = ad108 := (by injection e108); replace hx108_0 := cellB HB.out hx108_0; replace hx108_1 := cellB HB.out hx108_1; replace hx108_2 := cellB HB.out hx108_2; replace hx108_3 := cellB HB.out hx108_3; have HR108_3 := Aside0.mk hi108_3; have HC108_3 := Aside0.mk hl108_3; clear hi108_3 hl108_3; replace p108 := eq_true p108; replace q108 := eq_true q108; have ea_ := Option.some.inj (hx106_3.symm.trans hx108_3); injection ea_ with ea_ en_ ec_; subst ea_; subst ec_; clear en_; have p109 : 0 ≤ ((ji8) : Int) := of_decide_eq_true d19c; have q109 : (ji8) < (l0.length : Int) := of_decide_eq_true d19c; obtain ⟨ad109, A109_3, c109_3, e109, hx109_0, hx109_1, hx109_2, hx109_3, hl109_3, hi109_3⟩ := at_T33 HR0.out (ji8) p109 q109; obtain rfl : ad104 = ad109 := (by injection e109); replace hx109_0 := cellB HB.out hx109_0; replace hx109_1 := cellB HB.out hx109_1; replace hx109_2 := cellB HB.out hx109_2; replace hx109_3 := cellB HB.out hx109_3; have HR109_3 := Aside0.mk hi109_3; have HC109_3 := Aside0.mk hl109_3; clear hi109_3 hl109_3; replace p109 := eq_true p109; replace q109 := eq_true q109; have ea_ := Option.some.inj (hx107_3.symm.trans hx109_3); injection ea_ with ea_ en_ ec_; subst ea_; subst ec_; clear en_; have p110 : 0 ≤ (x3_1 : Int) := of_decide_eq_true d19c; have q110 : x3_1 < (l0.length : Int) := of_decide_eq_true d19c; obtain ⟨ad110, A110_3, c110_3, e110, hx110_0, hx110_1, hx110_2, hx110_3, hl110_3, hi110_3⟩ := at_T33 HR0.out x3_1 p110 q110; obtain rfl : ad104 = ad110 := (by injection e110); replace hx110_0 := cellB HB.out hx110_0; replace hx110_1 := cellB HB.out hx110_1; replace hx110_2 := cellB HB.out hx110_2; replace hx110_3 := cellB HB.out hx110_3; have HR110_3 := Aside0.mk hi110_3; have HC110_3 := Aside0.mk hl110_3; clear hi110_3 hl110_3; replace p110 := eq_true p110; replace q110 := eq_true q110; have ea_ := Option.some.inj (hx106_3.symm.trans hx110_3); injection ea_ with ea_ en_ ec_; subst ea_; subst ec_; clear en_; have p111 : 0 ≤ ((ji8) : Int) := of_decide_eq_true d19c; have q111 : (ji8) < (l0.length : Int) := of_decide_eq_true d19c; obtain ⟨ad111, A111_3, c111_3, e111, hx111_0, hx111_1, hx111_2, hx111_3, hl111_3, hi111_3⟩ := at_T33 HR0.out (ji8) p111 q111; obtain rfl : ad104 = ad111 := (by injection e111); replace hx111_0 := cellB HB.out hx111_0; replace hx111_1 := cellB HB.out hx111_1; replace hx111_2 := cellB HB.out hx111_2; replace hx111_3 := cellB HB.out hx111_3; have HR111_3 := Aside0.mk hi111_3; have HC111_3 := Aside0.mk hl111_3; clear hi111_3 hl111_3; replace p111 := eq_true p111; replace q111 := eq_true q111; have ea_ := Option.some.inj (hx107_3.symm.trans hx111_3); injection ea_ with ea_ en_ ec_; subst ea_; subst ec_; clear en_)
                 repeat (go_quiet (fail); try go_wp2_with (fail))
                 go_roundg k1
                 case measure => have := HK1.out; omega
                 case rel => exact ⟨(wrap64 (x3_1 + 1)), d19d, H', ⟨by have := HK1.out; omega⟩, ⟨d19a⟩⟩
               · rw [if_neg c14] at H
                 have c14b0 : (Op.bytesLess (((rd_T33 l0 (ji8)).f0).toList) (((rd_T33 l0 x3_1).f0).toList)) = false := by simpa using c14
                 clear c14
                 obtain rfl := Option.some.inj H
                 have p104 : 0 ≤ (x3_1 : Int) := of_decide_eq_true d19c
                 have q104 : x3_1 < (l0.length : Int) := of_decide_eq_true d19c
                 obtain ⟨ad104, A104_3, c104_3, e104, hx104_0, hx104_1, hx104_2, hx104_3, hl104_3, hi104_3⟩ := at_T33 HR0.out x3_1 p104 q104
                 cases e104
                 replace hx104_0 := cellB HB.out hx104_0
                 replace hx104_1 := cellB HB.out hx104_1
                 replace hx104_2 := cellB HB.out hx104_2
                 replace hx104_3 := cellB HB.out hx104_3
                 have HR104_3 := Aside0.mk hi104_3
                 have HC104_3 := Aside0.mk hl104_3
                 clear hi104_3 hl104_3
                 replace p104 := eq_true p104
                 replace q104 := eq_true q104
                 go_wp2_with (go_at_call 48; (with_reducible refine (perigeeref10_checkPass.calls k1 ((rd_T33 l0 x3_1).f0) ((rd_T33 l0 x3_1).f1) ((rd_T33 l0 x3_1).f2) _ _ ((rd_T33 l0 x3_1).f3) t105 _ ?side1 ?side2 A5.out).mono ?_); (case side1 => exact d19e); (case side2 => exact HC104_3.out); rintro e w16 ⟨rfl, hb⟩; replace HB := Aside0.mk (below_step d19a hb); (try clear hb); have p106 : 0 ≤ (x3_1 : Int) := of_decide_eq_true d19c; have q106 : x3_1 < (l0.length : Int) := of_decide_eq_true d19c; obtain ⟨ad106, A106_3, c106_3, e106, hx106_0, hx106_1, hx106_2, hx106_3, hl106_3, hi106_3⟩ := at_T33 HR0.out x3_1 p106 q106; obtain rfl : ad104 = ad106 := (by injection e106); replace hx106_0 := cellB HB.out hx106_0; replace hx106_1 := cellB HB.out hx106_1; replace hx106_2 := cellB HB.out hx106_2; replace hx106_3 := cellB HB.out hx106_3; have HR106_3 := Aside0.mk hi106_3; have HC106_3 := Aside0.mk hl106_3; clear hi106_3 hl106_3; replace p106 := eq_true p106; replace q106 := eq_true q106; have p107 : 0 ≤ ((ji8) : Int) := of_decide_eq_true d19c; have q107 : (ji8) < (l0.length : Int) := of_decide_eq_true d19c; obtain ⟨ad107, A107_3, c107_3, e107, hx107_0, hx107_1, hx107_2, hx107_3, hl107_3, hi107_3⟩ := at_T33 HR0.out (ji8) p107 q107; obtain rfl : ad104 = ad107 := (by injection e107); replace hx107_0 := cellB HB.out hx107_0; replace hx107_1 := cellB HB.out hx107_1; replace hx107_2 := cellB HB.out hx107_2; replace hx107_3 := cellB HB.out hx107_3; have HR107_3 := Aside0.mk hi107_3; have HC107_3 := Aside0.mk hl107_3; clear hi107_3 hl107_3; replace p107 := eq_true p107; replace q107 := eq_true q107; have p108 : 0 ≤ (x3_1 : Int) := of_decide_eq_true d19c; have q108 : x3_1 < (l0.length : Int) := of_decide_eq_true d19c; obtain ⟨ad108, A108_3, c108_3, e108, hx108_0, hx108_1, hx108_2, hx108_3, hl108_3, hi108_3⟩ := at_T33 HR0.out x3_1 p108 q108; obtain rfl : ad104 = ad108 := (by injection e108); replace hx108_0 := cellB HB.out hx108_0; replace hx108_1 := cellB HB.out hx108_1; replace hx108_2 := cellB HB.out hx108_2; replace hx108_3 := cellB HB.out hx108_3; have HR108_3 := Aside0.mk hi108_3; have HC108_3 := Aside0.mk hl108_3; clear hi108_3 hl108_3; replace p108 := eq_true p108; replace q108 := eq_true q108; have ea_ := Option.some.inj (hx106_3.symm.trans hx108_3); injection ea_ with ea_ en_ ec_; subst ea_; subst ec_; clear en_; have p109 : 0 ≤ ((ji8) : Int) := of_decide_eq_true d19c; have q109 : (ji8) < (l0.length : Int) := of_decide_eq_true d19c; obtain ⟨ad109, A109_3, c109_3, e109, hx109_0, hx109_1, hx109_2, hx109_3, hl109_3, hi109_3⟩ := at_T33 HR0.out (ji8) p109 q109; obtain rfl : ad104 = ad109 := (by injection e109); replace hx109_0 := cellB HB.out hx109_0; replace hx109_1 := cellB HB.out hx109_1; replace hx109_2 := cellB HB.out hx109_2; replace hx109_3 := cellB HB.out hx109_3; have HR109_3 := Aside0.mk hi109_3; have HC109_3 := Aside0.mk hl109_3; clear hi109_3 hl109_3; replace p109 := eq_true p109; replace q109 := eq_true q109; have ea_ := Option.some.inj (hx107_3.symm.trans hx109_3); injection ea_ with ea_ en_ ec_; subst ea_; subst ec_; clear en_; have p110 : 0 ≤ (x3_1 : Int) := of_decide_eq_true d19c; have q110 : x3_1 < (l0.length : Int) := of_decide_eq_true d19c; obtain ⟨ad110, A110_3, c110_3, e110, hx110_0, hx110_1, hx110_2, hx110_3, hl110_3, hi110_3⟩ := at_T33 HR0.out x3_1 p110 q110; obtain rfl : ad104 = ad110 := (by injection e110); replace hx110_0 := cellB HB.out hx110_0; replace hx110_1 := cellB HB.out hx110_1; replace hx110_2 := cellB HB.out hx110_2; replace hx110_3 := cellB HB.out hx110_3; have HR110_3 := Aside0.mk hi110_3; have HC110_3 := Aside0.mk hl110_3; clear hi110_3 hl110_3; replace p110 := eq_true p110; replace q110 := eq_true q110; have ea_ := Option.some.inj (hx106_3.symm.trans hx110_3); injection ea_ with ea_ en_ ec_; subst ea_; subst ec_; clear en_; have p111 : 0 ≤ ((ji8) : Int) := of_decide_eq_true d19c; have q111 : (ji8) < (l0.length : Int) := of_decide_eq_true d19c; obtain ⟨ad111, A111_3, c111_3, e111, hx111_0, hx111_1, hx111_2, hx111_3, hl111_3, hi111_3⟩ := at_T33 HR0.out (ji8) p111 q111; obtain rfl : ad104 = ad111 := (by injection e111); replace hx111_0 := cellB HB.out hx111_0; replace hx111_1 := cellB HB.out hx111_1; replace hx111_2 := cellB HB.out hx111_2; replace hx111_3 := cellB HB.out hx111_3; have HR111_3 := Aside0.mk hi111_3; have HC111_3 := Aside0.mk hl111_3; clear hi111_3 hl111_3; replace p111 := eq_true p111; replace q111 := eq_true q111; have ea_ := Option.some.inj (hx107_3.symm.trans hx111_3); injection ea_ with ea_ en_ ec_; subst ea_; subst ec_; clear en_)
                 repeat (go_quiet (fail); try go_wp2_with (fail))
                 go_ret
                 exact ⟨by first | rfl | (simp [errW_none, errW_some] <;> rfl) | (simp only [← hji8]; first | rfl | (simp [errW_none, errW_some] <;> rfl)) | (simp [*, errW_none, errW_some] <;> rfl), d19a⟩
             · rw [if_neg c13] at H
               have c13b0 : (((rd_T33 l0 x3_1).f1) == ((rd_T33 l0 (ji8)).f1)) = false := beq_eq_false_iff_ne.mpr c13
               have c13b1 : (((rd_T33 l0 x3_1).f1) != ((rd_T33 l0 (ji8)).f1)) = true := bne_iff_ne.mpr c13
               have H' := Aside0.mk H
               clear H
               have p104 : 0 ≤ (x3_1 : Int) := of_decide_eq_true d19c
               have q104 : x3_1 < (l0.length : Int) := of_decide_eq_true d19c
               obtain ⟨ad104, A104_3, c104_3, e104, hx104_0, hx104_1, hx104_2, hx104_3, hl104_3, hi104_3⟩ := at_T33 HR0.out x3_1 p104 q104
               cases e104
               replace hx104_0 := cellB HB.out hx104_0
               replace hx104_1 := cellB HB.out hx104_1
               replace hx104_2 := cellB HB.out hx104_2
               replace hx104_3 := cellB HB.out hx104_3
               have HR104_3 := Aside0.mk hi104_3
               have HC104_3 := Aside0.mk hl104_3
               clear hi104_3 hl104_3
               replace p104 := eq_true p104
               replace q104 := eq_true q104
               go_wp2_with (go_at_call 48; (with_reducible refine (perigeeref10_checkPass.calls k1 ((rd_T33 l0 x3_1).f0) ((rd_T33 l0 x3_1).f1) ((rd_T33 l0 x3_1).f2) _ _ ((rd_T33 l0 x3_1).f3) t105 _ ?side1 ?side2 A5.out).mono ?_); (case side1 => exact d19e); (case side2 => exact HC104_3.out); rintro e w17 ⟨rfl, hb⟩; replace HB := Aside0.mk (below_step d19a hb); (try clear hb); have p106 : 0 ≤ (x3_1 : Int) := of_decide_eq_true d19c; have q106 : x3_1 < (l0.length : Int) := of_decide_eq_true d19c; obtain ⟨ad106, A106_3, c106_3, e106, hx106_0, hx106_1, hx106_2, hx106_3, hl106_3, hi106_3⟩ := at_T33 HR0.out x3_1 p106 q106; obtain rfl : ad104 = ad106 := (by injection e106); replace hx106_0 := cellB HB.out hx106_0; replace hx106_1 := cellB HB.out hx106_1; replace hx106_2 := cellB HB.out hx106_2; replace hx106_3 := cellB HB.out hx106_3; have HR106_3 := Aside0.mk hi106_3; have HC106_3 := Aside0.mk hl106_3; clear hi106_3 hl106_3; replace p106 := eq_true p106; replace q106 := eq_true q106; have p107 : 0 ≤ ((ji8) : Int) := of_decide_eq_true d19c; have q107 : (ji8) < (l0.length : Int) := of_decide_eq_true d19c; obtain ⟨ad107, A107_3, c107_3, e107, hx107_0, hx107_1, hx107_2, hx107_3, hl107_3, hi107_3⟩ := at_T33 HR0.out (ji8) p107 q107; obtain rfl : ad104 = ad107 := (by injection e107); replace hx107_0 := cellB HB.out hx107_0; replace hx107_1 := cellB HB.out hx107_1; replace hx107_2 := cellB HB.out hx107_2; replace hx107_3 := cellB HB.out hx107_3; have HR107_3 := Aside0.mk hi107_3; have HC107_3 := Aside0.mk hl107_3; clear hi107_3 hl107_3; replace p107 := eq_true p107; replace q107 := eq_true q107; have p108 : 0 ≤ (x3_1 : Int) := of_decide_eq_true d19c; have q108 : x3_1 < (l0.length : Int) := of_decide_eq_true d19c; obtain ⟨ad108, A108_3, c108_3, e108, hx108_0, hx108_1, hx108_2, hx108_3, hl108_3, hi108_3⟩ := at_T33 HR0.out x3_1 p108 q108; obtain rfl : ad104 = ad108 := (by injection e108); replace hx108_0 := cellB HB.out hx108_0; replace hx108_1 := cellB HB.out hx108_1; replace hx108_2 := cellB HB.out hx108_2; replace hx108_3 := cellB HB.out hx108_3; have HR108_3 := Aside0.mk hi108_3; have HC108_3 := Aside0.mk hl108_3; clear hi108_3 hl108_3; replace p108 := eq_true p108; replace q108 := eq_true q108; have ea_ := Option.some.inj (hx106_3.symm.trans hx108_3); injection ea_ with ea_ en_ ec_; subst ea_; subst ec_; clear en_; have p109 : 0 ≤ ((ji8) : Int) := of_decide_eq_true d19c; have q109 : (ji8) < (l0.length : Int) := of_decide_eq_true d19c; obtain ⟨ad109, A109_3, c109_3, e109, hx109_0, hx109_1, hx109_2, hx109_3, hl109_3, hi109_3⟩ := at_T33 HR0.out (ji8) p109 q109; obtain rfl : ad104 = ad109 := (by injection e109); replace hx109_0 := cellB HB.out hx109_0; replace hx109_1 := cellB HB.out hx109_1; replace hx109_2 := cellB HB.out hx109_2; replace hx109_3 := cellB HB.out hx109_3; have HR109_3 := Aside0.mk hi109_3; have HC109_3 := Aside0.mk hl109_3; clear hi109_3 hl109_3; replace p109 := eq_true p109; replace q109 := eq_true q109; have ea_ := Option.some.inj (hx107_3.symm.trans hx109_3); injection ea_ with ea_ en_ ec_; subst ea_; subst ec_; clear en_)
               repeat (go_quiet (fail); try go_wp2_with (fail))
               go_roundg k1
               case measure => have := HK1.out; omega
               case rel => exact ⟨(wrap64 (x3_1 + 1)), d19d, H', ⟨by have := HK1.out; omega⟩, ⟨d19a⟩⟩
         · rw [if_neg c7] at H
           have c7b0 : decide (0 < x3_1) = false := decide_eq_false c7
           clear c7
           have H' := Aside0.mk H
           clear H
           have p104 : 0 ≤ (x3_1 : Int) := of_decide_eq_true d19c
           have q104 : x3_1 < (l0.length : Int) := of_decide_eq_true d19c
           obtain ⟨ad104, A104_3, c104_3, e104, hx104_0, hx104_1, hx104_2, hx104_3, hl104_3, hi104_3⟩ := at_T33 HR0.out x3_1 p104 q104
           cases e104
           replace hx104_0 := cellB HB.out hx104_0
           replace hx104_1 := cellB HB.out hx104_1
           replace hx104_2 := cellB HB.out hx104_2
           replace hx104_3 := cellB HB.out hx104_3
           have HR104_3 := Aside0.mk hi104_3
           have HC104_3 := Aside0.mk hl104_3
           clear hi104_3 hl104_3
           replace p104 := eq_true p104
           replace q104 := eq_true q104
           go_wp2_with (go_at_call 48; (with_reducible refine (perigeeref10_checkPass.calls k1 ((rd_T33 l0 x3_1).f0) ((rd_T33 l0 x3_1).f1) ((rd_T33 l0 x3_1).f2) _ _ ((rd_T33 l0 x3_1).f3) t105 _ ?side1 ?side2 A5.out).mono ?_); (case side1 => exact d19e); (case side2 => exact HC104_3.out); rintro e w18 ⟨rfl, hb⟩; replace HB := Aside0.mk (below_step d19a hb); (try clear hb))
           repeat (go_quiet (fail); try go_wp2_with (fail))
           go_roundg k1
           case measure => have := HK1.out; omega
           case rel => exact ⟨(wrap64 (x3_1 + 1)), d19d, H', ⟨by have := HK1.out; omega⟩, ⟨d19a⟩⟩
       · rw [if_neg c6] at H
         have c6b0 : (t105 == 0) = false := beq_eq_false_iff_ne.mpr c6
         have c6b1 : (t105 != 0) = true := bne_iff_ne.mpr c6
         obtain rfl := Option.some.inj H
         have p104 : 0 ≤ (x3_1 : Int) := of_decide_eq_true d19c
         have q104 : x3_1 < (l0.length : Int) := of_decide_eq_true d19c
         obtain ⟨ad104, A104_3, c104_3, e104, hx104_0, hx104_1, hx104_2, hx104_3, hl104_3, hi104_3⟩ := at_T33 HR0.out x3_1 p104 q104
         cases e104
         replace hx104_0 := cellB HB.out hx104_0
         replace hx104_1 := cellB HB.out hx104_1
         replace hx104_2 := cellB HB.out hx104_2
         replace hx104_3 := cellB HB.out hx104_3
         have HR104_3 := Aside0.mk hi104_3
         have HC104_3 := Aside0.mk hl104_3
         clear hi104_3 hl104_3
         replace p104 := eq_true p104
         replace q104 := eq_true q104
         go_wp2_with (go_at_call 48; (with_reducible refine (perigeeref10_checkPass.calls k1 ((rd_T33 l0 x3_1).f0) ((rd_T33 l0 x3_1).f1) ((rd_T33 l0 x3_1).f2) _ _ ((rd_T33 l0 x3_1).f3) t105 _ ?side1 ?side2 A5.out).mono ?_); (case side1 => exact d19e); (case side2 => exact HC104_3.out); rintro e w19 ⟨rfl, hb⟩; replace HB := Aside0.mk (below_step d19a hb); (try clear hb))
         go_ret
         exact ⟨d19b, d19a⟩
     · rw [if_neg c3] at H
       have c3b0 : decide (x3_1 < (l0.length : Int)) = false := decide_eq_false c3
       clear c3
       replace H := bindS H; obtain ⟨t101, A20, H⟩ := H
       by_cases c21 : (t101.length : Int) > 50
       · rw [if_pos c21] at H
         have c21b0 : decide (50 < (t101.length : Int)) = true := decide_eq_true c21
         have c21b1 : decide (50 < t101.length) = true := decide_eq_true (by omega)
         clear c21
         obtain rfl := Option.some.inj H
         go_wp2_with (go_at_call 49; (with_reducible refine (perigeeref10_stations.calls k1 _ _ l0 t101 _ ?side1 ?side2 A20.out).mono ?_); (case side1 => exact C_go (Kd.C_below HR0.out HB.out)); (case side2 => exact HC0.out); rintro e w22 ⟨v102, rfl, ho0, hb⟩; have n0_ := Aside0.mk (Kd.R_lower ho0 (below_size d19a)); have n1_ := Aside0.mk (below_step d19a hb); clear HB; have HO103 := n0_; have HB := n1_; clear n0_ n1_; (try clear hb); (try clear ho0); obtain ⟨Ao23, co23, eo23⟩ := Kd.R_slice HO103.out; subst eo23)
         go_ret
         exact ⟨d19b, d19a⟩
       · rw [if_neg c21] at H
         have c21b0 : decide (50 < (t101.length : Int)) = false := decide_eq_false c21
         have c21b1 : decide (50 < t101.length) = false := decide_eq_false (by omega)
         clear c21
         obtain rfl := Option.some.inj H
         go_wp2_with (go_at_call 49; (with_reducible refine (perigeeref10_stations.calls k1 _ _ l0 t101 _ ?side1 ?side2 A20.out).mono ?_); (case side1 => exact C_go (Kd.C_below HR0.out HB.out)); (case side2 => exact HC0.out); rintro e w24 ⟨v102, rfl, ho0, hb⟩; have n0_ := Aside0.mk (Kd.R_lower ho0 (below_size d19a)); have n1_ := Aside0.mk (below_step d19a hb); clear HB; have HO103 := n0_; have HB := n1_; clear n0_ n1_; (try clear hb); (try clear ho0); obtain ⟨Ao25, co25, eo25⟩ := Kd.R_slice HO103.out; subst eo25)
         go_ret
         exact ⟨d19b, d19a⟩
end Go.Proofs.Ytbngmblgkkdhpaa.Q
