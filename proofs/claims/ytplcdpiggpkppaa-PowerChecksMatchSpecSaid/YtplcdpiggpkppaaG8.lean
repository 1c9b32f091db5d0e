-- Made by wip/tools/pp.py (this session's) over the kit's print program; Lean checks it.
import Derived.Test.YtplcdpiggpkppaaQ0
import Derived.Test.YtplcdpiggpkppaaG1
import Derived.Test.YtplcdpiggpkppaaG6
import Derived.Test.YtplcdpiggpkppaaG7
namespace Go.Proofs.Ytplcdpiggpkppaa.Q
open Go.RowKit Go.Proofs.YtplcdpiggpkppaaW.PrintWords Go.Proofs.YtplcdpiggpkppaaW.PrintLast Go.Proofs.YtplcdpiggpkppaaW.PrintMore
attribute [local go_sem] max2_int min2_int max_two min_two max_three min_three max_four min_four
open Go.Proofs.Ytplcdpiggpkppaa.Base
attribute [local go_sem high] str_leq str_gtr str_geq
set_option linter.unusedVariables false
set_option linter.unusedSimpArgs false


/-! ### perigeeref9_Draw: function 26 -/
def perigeeref9_Draw.f (k : Nat) (l0 : List (S76)) (l1 : List (S47)) (a2 : Int) : Option (Int × Int) := (perigeeref9_CheckUses.f k l0 l1).bind fun t101 => (if t101 = 0 then ((perigeeref9_within.f a2 0 1000000000000).bind fun t102 => (if t102 = true then ((perigeeref9_draw.f k l0 l1 a2).bind fun t103 => (some (t103, 0))) else (some (0, 1)))) else (some (0, t101)))
theorem perigeeref9_Draw.mono : ∀ a0 a1 a2 k, LeO (perigeeref9_Draw.f k a0 a1 a2) (perigeeref9_Draw.f (k + 1) a0 a1 a2) := by
  intro a0 a1 a2 k
  unfold perigeeref9_Draw.f
  repeat' first
      | (with_reducible exact perigeeref9_CheckUses.mono _ _ _)
      | (with_reducible exact perigeeref9_draw.mono _ _ _ _)
      | (with_reducible exact LeO.refl _)
      | (with_reducible exact LeO.none _)
      | (with_reducible refine LeO.ite ?_ ?_)
      | (with_reducible refine LeO.bind ?_ (fun _ => ?_))
      | exact perigeeref9_CheckUses.mono _ _ _
      | exact perigeeref9_draw.mono _ _ _ _
      | exact LeO.none _
      | refine LeO.ite ?_ ?_
      | refine LeO.bind ?_ (fun _ => ?_)
theorem d26a {p : Prop} (h : p := by (try simp only [List.map_toArray, List.map_cons, List.map_nil]); first | done | rfl | (simp only [List.length_drop, List.length_take]; rfl)) : p := h
theorem d26b {p : Prop} (h : p := by repeat (first | (with_reducible first | exact HB.out | apply below_alloc | apply pw_below_drewN | apply below_drew1) | exact HB.out)) : p := h
theorem d26c {p : Prop} (h : p := by first | rfl | (simp [errW_none, errW_some] <;> rfl) | (simp [*, errW_none, errW_some] <;> rfl)) : p := h
set_option maxHeartbeats 8000000 in
set_option maxRecDepth 100000 in
theorem perigeeref9_Draw.calls (k : Nat) (A0 : Option Addr) (c0 : Nat) (l0 : List (S76)) (A1 : Option Addr) (c1 : Nat) (l1 : List (S47)) (a2 : Int) (r1 : Int) (r2 : Int) (w : World) (hr0 : Kd.C k76 w A0 l0.length l0) (hc0 : l0.length ≤ c0) (hr1 : Kd.C k47 w A1 l1.length l1) (hc1 : l1.length ≤ c1) (h : perigeeref9_Draw.f k l0 l1 a2 = some (r1, r2)) :
 Calls Try.prog 26 #[.slice A0 l0.length c0, .slice A1 l1.length c1, .int .i64 a2] w fun e w' => e = .returned (.tuple #[.int .i64 r1, .int .i64 r2]) ∧ Below w.heap.size w w' := by
 have HR0 := Aside0.mk hr0
 have HC0 := Aside0.mk hc0
 clear hr0 hc0
 have HR1 := Aside0.mk hr1
 have HC1 := Aside0.mk hc1
 clear hr1 hc1
 have HB := Aside0.mk (Below.refl w.heap.size w)
 have H : ((perigeeref9_CheckUses.f k l0 l1).bind fun t101 => (if t101 = 0 then ((perigeeref9_within.f a2 0 1000000000000).bind fun t102 => (if t102 = true then ((perigeeref9_draw.f k l0 l1 a2).bind fun t103 => (some (t103, 0))) else (some (0, 1)))) else (some (0, t101)))) = some (r1, r2) := h
 clear h
 replace H := bindS H; obtain ⟨t101, A4, H⟩ := H
 by_cases c5 : t101 = 0
 · rw [if_pos c5] at H
   have c5b0 : (t101 == 0) = true := beq_iff_eq.mpr c5
   have c5b1 : (t101 != 0) = false := bne_eq_false_iff_eq.mpr c5
   clear c5
   replace H := bindS H; obtain ⟨t102, A6, H⟩ := H
   by_cases c7 : t102 = true
   · subst c7
     replace H := iteT H
     replace H := bindS H; obtain ⟨t103, A8, H⟩ := H
     simp only [Option.some.injEq, Prod.mk.injEq] at H
     obtain ⟨rfl, rfl⟩ := H
     go_enter Try.func26, Try.ntmps26
     go_wp2_with (first | ((with_reducible refine gate_callee (f := 22) rfl ?_); refine goesL_ (some 11) rfl rfl Try.func22 (by kernel_rfl) rfl #[.slice A0 l0.length c0, .slice A1 l1.length c1] rfl d26a ?_; (with_reducible refine (perigeeref9_CheckUses.calls k _ _ l0 _ _ l1 t101 _ ?side1 ?side2 ?side3 ?side4 A4.out).mono ?_); (case side1 => exact C_go HR0.out); (case side2 => exact HC0.out); (case side3 => exact C_go HR1.out); (case side4 => exact HC1.out); rintro e w9 ⟨rfl, hb⟩; refine ⟨_, rfl, ?_⟩; replace HB := Aside0.mk (below_step d26b hb); (try clear hb)) | ((with_reducible refine gate_callee (f := 54) rfl ?_); refine goesL_ (some 16) rfl rfl Try.func54 (by kernel_rfl) rfl #[.int .i64 a2, .int .i64 0, .int .i64 1000000000000] rfl d26a ?_; (with_reducible refine (perigeeref9_within.calls a2 0 1000000000000 true _ A6.out).mono ?_); rintro e w' ⟨rfl, ⟨nd, rfl⟩⟩; refine ⟨_, rfl, ?_⟩) | ((with_reducible refine gate_callee (f := 65) rfl ?_); refine goesL_ (some 21) rfl rfl Try.func65 (by kernel_rfl) rfl #[.slice A0 l0.length c0, .slice A1 l1.length c1, .int .i64 a2] rfl d26a ?_; (with_reducible refine (perigeeref9_draw.calls k _ _ l0 _ _ l1 a2 t103 _ ?side1 ?side2 ?side3 ?side4 A8.out).mono ?_); (case side1 => repeat (first | exact (Kd.C_below HR0.out d26b) | (with_reducible refine Kd.C_alloc ?_ _) | (with_reducible refine Kd.C_drewN ?_ _) | (with_reducible refine Kd.C_drew ?_))); (case side2 => exact HC0.out); (case side3 => repeat (first | exact (Kd.C_below HR1.out d26b) | (with_reducible refine Kd.C_alloc ?_ _) | (with_reducible refine Kd.C_drewN ?_ _) | (with_reducible refine Kd.C_drew ?_))); (case side4 => exact HC1.out); rintro e w10 ⟨rfl, hb⟩; refine ⟨_, rfl, ?_⟩; replace HB := Aside0.mk (below_step d26b hb); (try clear hb)))
     go_ret2
     exact ⟨d26c, d26b⟩
   · replace c7 := Bool.eq_false_iff.mpr c7
     subst c7
     replace H := iteF H
     simp only [Option.some.injEq, Prod.mk.injEq] at H
     obtain ⟨rfl, rfl⟩ := H
     go_enter Try.func26, Try.ntmps26
     go_wp2_with (first | ((with_reducible refine gate_callee (f := 22) rfl ?_); refine goesL_ (some 11) rfl rfl Try.func22 (by kernel_rfl) rfl #[.slice A0 l0.length c0, .slice A1 l1.length c1] rfl d26a ?_; (with_reducible refine (perigeeref9_CheckUses.calls k _ _ l0 _ _ l1 t101 _ ?side1 ?side2 ?side3 ?side4 A4.out).mono ?_); (case side1 => exact C_go HR0.out); (case side2 => exact HC0.out); (case side3 => exact C_go HR1.out); (case side4 => exact HC1.out); rintro e w11 ⟨rfl, hb⟩; refine ⟨_, rfl, ?_⟩; replace HB := Aside0.mk (below_step d26b hb); (try clear hb)) | ((with_reducible refine gate_callee (f := 54) rfl ?_); refine goesL_ (some 16) rfl rfl Try.func54 (by kernel_rfl) rfl #[.int .i64 a2, .int .i64 0, .int .i64 1000000000000] rfl d26a ?_; (with_reducible refine (perigeeref9_within.calls a2 0 1000000000000 false _ A6.out).mono ?_); rintro e w' ⟨rfl, ⟨nd, rfl⟩⟩; refine ⟨_, rfl, ?_⟩))
     go_ret2
     exact ⟨d26c, d26b⟩
 · rw [if_neg c5] at H
   have c5b0 : (t101 == 0) = false := beq_eq_false_iff_ne.mpr c5
   have c5b1 : (t101 != 0) = true := bne_iff_ne.mpr c5
   simp only [Option.some.injEq, Prod.mk.injEq] at H
   obtain ⟨rfl, rfl⟩ := H
   go_enter Try.func26, Try.ntmps26
   go_wp2_with ((with_reducible refine gate_callee (f := 22) rfl ?_); refine goesL_ (some 11) rfl rfl Try.func22 (by kernel_rfl) rfl #[.slice A0 l0.length c0, .slice A1 l1.length c1] rfl d26a ?_; (with_reducible refine (perigeeref9_CheckUses.calls k _ _ l0 _ _ l1 t101 _ ?side1 ?side2 ?side3 ?side4 A4.out).mono ?_); (case side1 => exact C_go HR0.out); (case side2 => exact HC0.out); (case side3 => exact C_go HR1.out); (case side4 => exact HC1.out); rintro e w12 ⟨rfl, hb⟩; refine ⟨_, rfl, ?_⟩; replace HB := Aside0.mk (below_step d26b hb); (try clear hb))
   go_ret2
   exact ⟨d26c, d26b⟩
/-! ### perigeelaw9_awake: function 27 -/
def perigeelaw9_awake.f (k : Nat)  : Option (Bool) := (power_Sunny.f k (([(⟨2, 5⟩ : S72)] : List (S72))) 0 4).bind fun bt104 => (if bt104.2 = 0 then (some (bt104.1 == 2)) else (some false))
theorem perigeelaw9_awake.mono : ∀ k, LeO (perigeelaw9_awake.f k ) (perigeelaw9_awake.f (k + 1) ) := by
  intro  k
  unfold perigeelaw9_awake.f
  repeat' first
      | (with_reducible exact power_Sunny.mono _ _ _ _)
      | (with_reducible exact LeO.refl _)
      | (with_reducible exact LeO.none _)
      | (with_reducible refine LeO.ite ?_ ?_)
      | (with_reducible refine LeO.bind ?_ (fun _ => ?_))
      | exact power_Sunny.mono _ _ _ _
      | exact LeO.none _
      | refine LeO.ite ?_ ?_
      | refine LeO.bind ?_ (fun _ => ?_)
theorem d27a {p : Prop} (h : p := by repeat (first | (with_reducible first | exact HB.out | apply below_alloc | apply pw_below_drewN | apply below_drew1) | exact HB.out)) : p := h
set_option maxHeartbeats 8000000 in
set_option maxRecDepth 100000 in
theorem perigeelaw9_awake.calls (k : Nat)  (r : Bool) (w : World) (h : perigeelaw9_awake.f k  = some r) :
 Calls Try.prog 27 #[] w fun e w' => e = .returned (.bool r) ∧ Below w.heap.size w w' := by
 have hu72 := Try.underlying72
 have HB := Aside0.mk (Below.refl w.heap.size w)
 have H : ((power_Sunny.f k (([(⟨2, 5⟩ : S72)] : List (S72))) 0 4).bind fun bt104 => (if bt104.2 = 0 then (some (bt104.1 == 2)) else (some false))) = some r := h
 clear h
 obtain ⟨y101, hy101⟩ : ∃ y_ : List (S72), y_ = (([(⟨2, 5⟩ : S72)] : List (S72))) := ⟨_, rfl⟩
 replace H : ((power_Sunny.f k y101 0 4).bind fun bt104 => (if bt104.2 = 0 then (some (bt104.1 == 2)) else (some false))) = some r := by first | (rw [hy101]; with_reducible exact H) | (have H2_ := (Option.bind_some _ _).symm.trans H; rw [hy101]; with_reducible exact H2_) | (have H2_ := (Option.bind_some _ _).symm.trans H; with_reducible exact H2_) | with_reducible exact H | (rw [hy101]; exact H) | exact H
 have Ny101 := Aside0.mk hy101
 clear hy101
 replace H := bindS H; obtain ⟨⟨t104, t105⟩, A1, H⟩ := H
 by_cases c2 : t105 = 0
 · rw [if_pos c2] at H
   have c2b0 : (t105 == 0) = true := beq_iff_eq.mpr c2
   have c2b1 : (t105 != 0) = false := bne_eq_false_iff_eq.mpr c2
   clear c2
   obtain rfl := Option.some.inj H
   go_enter Try.func27, Try.ntmps27
   go_wp2_with (first | ((with_reducible refine gate_dst (N := 5) rfl ?_); refine Kd.R_lit k72 _ 72 ?hg (N := 5) ?hd (xs := ([(⟨2, 5⟩ : S72)] : List (S72))) (inner := [.int .i64 2, .int .i64 5]) (ok := fun _ => True) (okp := fun _ => True) ?hr ?hp (fun _ hk => hk) trivial (Below.refl _ _) (Nat.le_refl _) (by simp) ?_; (case hd => rfl); (case hg => rfl); (case hr => first | (go_simp; done) | (go_simp; rfl)); (case hp => exact (Reps.c2 (show Kd.M k72 _ _ _ (⟨2, 5⟩ : S72) [.int .i64 2, .int .i64 5] from (k72_mkM _ _ _ (⟨2, 5⟩ : S72) )) (Reps.none _ _))); intro v102 w3 ho4 hb hg_ hnew_; clear hg_ hnew_; (first | rw [← Ny101.out] at ho4 | (simp only [Int.reduceToNat] at ho4; rw [← Ny101.out] at ho4)); have n0_ := Aside0.mk (Kd.R_lower ho4 (below_size d27a)); have n1_ := Aside0.mk (below_step d27a hb); clear HB; have HO103 := n0_; have HB := n1_; clear n0_ n1_; clear hb ho4; obtain ⟨Ao5, co5, eo5⟩ := Kd.R_slice HO103.out; subst eo5) | ((with_reducible refine gate_callee (f := 23) rfl ?_); refine goesL_ (some 6) rfl rfl Try.func23 (by kernel_rfl) rfl #[.slice Ao5 y101.length co5, .int .i64 0, .int .i64 4] rfl (by (try simp only [List.map_toArray, List.map_cons, List.map_nil]); first | done | rfl | (simp only [List.length_drop, List.length_take]; rfl)) ?_; (with_reducible refine (power_Sunny.calls k _ _ y101 0 4 t104 t105 _ ?side1 ?side2 A1.out).mono ?_); (case side1 => exact C_go (Kd.R_reads' HO103.out).2.2); (case side2 => exact (Kd.R_reads' HO103.out).2.1); rintro e w6 ⟨rfl, hb⟩; refine ⟨_, rfl, ?_⟩; have n0_ := Aside0.mk (Kd.R_below (by (with_reducible repeat (first | apply Kd.R_alloc | apply Kd.R_drewN | apply Kd.R_drew)); exact HO103.out) hb); have n1_ := Aside0.mk (below_step d27a hb); clear HO103; clear HB; have HO103 := n0_; have HB := n1_; clear n0_ n1_; (try clear hb)))
   go_ret
   exact ⟨by first | rfl | (simp [errW_none, errW_some] <;> rfl) | (simp [*, errW_none, errW_some] <;> rfl), d27a⟩
 · rw [if_neg c2] at H
   have c2b0 : (t105 == 0) = false := beq_eq_false_iff_ne.mpr c2
   have c2b1 : (t105 != 0) = true := bne_iff_ne.mpr c2
   obtain rfl := Option.some.inj H
   go_enter Try.func27, Try.ntmps27
   go_wp2_with (first | ((with_reducible refine gate_dst (N := 5) rfl ?_); refine Kd.R_lit k72 _ 72 ?hg (N := 5) ?hd (xs := ([(⟨2, 5⟩ : S72)] : List (S72))) (inner := [.int .i64 2, .int .i64 5]) (ok := fun _ => True) (okp := fun _ => True) ?hr ?hp (fun _ hk => hk) trivial (Below.refl _ _) (Nat.le_refl _) (by simp) ?_; (case hd => rfl); (case hg => rfl); (case hr => first | (go_simp; done) | (go_simp; rfl)); (case hp => exact (Reps.c2 (show Kd.M k72 _ _ _ (⟨2, 5⟩ : S72) [.int .i64 2, .int .i64 5] from (k72_mkM _ _ _ (⟨2, 5⟩ : S72) )) (Reps.none _ _))); intro v102 w7 ho8 hb hg_ hnew_; clear hg_ hnew_; (first | rw [← Ny101.out] at ho8 | (simp only [Int.reduceToNat] at ho8; rw [← Ny101.out] at ho8)); have n0_ := Aside0.mk (Kd.R_lower ho8 (below_size d27a)); have n1_ := Aside0.mk (below_step d27a hb); clear HB; have HO103 := n0_; have HB := n1_; clear n0_ n1_; clear hb ho8; obtain ⟨Ao9, co9, eo9⟩ := Kd.R_slice HO103.out; subst eo9) | ((with_reducible refine gate_callee (f := 23) rfl ?_); refine goesL_ (some 6) rfl rfl Try.func23 (by kernel_rfl) rfl #[.slice Ao9 y101.length co9, .int .i64 0, .int .i64 4] rfl (by (try simp only [List.map_toArray, List.map_cons, List.map_nil]); first | done | rfl | (simp only [List.length_drop, List.length_take]; rfl)) ?_; (with_reducible refine (power_Sunny.calls k _ _ y101 0 4 t104 t105 _ ?side1 ?side2 A1.out).mono ?_); (case side1 => exact C_go (Kd.R_reads' HO103.out).2.2); (case side2 => exact (Kd.R_reads' HO103.out).2.1); rintro e w10 ⟨rfl, hb⟩; refine ⟨_, rfl, ?_⟩; have n0_ := Aside0.mk (Kd.R_below (by (with_reducible repeat (first | apply Kd.R_alloc | apply Kd.R_drewN | apply Kd.R_drew)); exact HO103.out) hb); have n1_ := Aside0.mk (below_step d27a hb); clear HO103; clear HB; have HO103 := n0_; have HB := n1_; clear n0_ n1_; (try clear hb)))
   go_ret
   exact ⟨by first | rfl | (simp [errW_none, errW_some] <;> rfl) | (simp [*, errW_none, errW_some] <;> rfl), d27a⟩
end Go.Proofs.Ytplcdpiggpkppaa.Q
