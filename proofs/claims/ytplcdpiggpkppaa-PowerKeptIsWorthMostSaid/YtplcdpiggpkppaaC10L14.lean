-- Made by wip/tools/claimp.py of this session's texts; Lean checks it.
import Derived.Test.YtplcdpiggpkppaaC10Q0
import Derived.Test.YtplcdpiggpkppaaC10Ge13
import Derived.Test.YtplcdpiggpkppaaC10Ge18
import Derived.Test.YtplcdpiggpkppaaC10Ge22
import Derived.Test.YtplcdpiggpkppaaC10Ge23
import Derived.Test.YtplcdpiggpkppaaC10Ge8
namespace Go.Proofs.Ytplcdpiggpkppaa.Q
open Go.RowKit Go.Proofs.YtplcdpiggpkppaaW.PrintWords Go.Proofs.YtplcdpiggpkppaaW.PrintLast Go.Proofs.YtplcdpiggpkppaaW.PrintMore
attribute [local go_sem] max2_int min2_int max_two min_two max_three min_three max_four min_four
open Go.Proofs.Ytplcdpiggpkppaa.Base
attribute [local go_sem high] str_leq str_gtr str_geq
set_option linter.unusedVariables false
set_option linter.unusedSimpArgs false
mutual
def perigeelaw9_PowerKeptIsWorthMost.l0 : Nat → List (S72) → List (S76) → List (S47) → Int → Int → List (S47) → List Int → Int → Int → Int → Int → Int → Int → Int → Option (Bool)
  | 0, _, _, _, _, _, _, _, _, _, _, _, _, _, _ => none
  | k + 1, x1, x2, x3, x4, x12, x14, x43, x44, x45, x102000, x102001, x102002, x102003, x102004 => if x45 < x44 then (if 0 ≤ x45 then (if x45 < (x43.length : Int) then (if 0 ≤ (rd x43 x45) then (if (rd x43 x45) < (x3.length : Int) then (if x14.length < 4398046511104 then (perigeelaw9_PowerKeptIsWorthMost.l0 k x1 x2 x3 x4 x12 (x14 ++ [(⟨(rd_T47 x3 (rd x43 x45)).f0, (rd_T47 x3 (rd x43 x45)).f1, (rd_T47 x3 (rd x43 x45)).f2⟩ : S47)]) x43 x44 (wrap64 (x45 + 1)) x102000 x102001 x102002 x102003 x102004) else (none)) else (none)) else (none)) else (none)) else (none)) else ((power_Shed.f k x102000 x102001 x102002 x102003 x102004 x1 x2 x14 x4).bind fun bt113 => (if bt113.2 = 0 then ((api_Use_48.f k bt113.1 x14).bind fun t117 => (perigeelaw9_PowerKeptIsWorthMost.j1 k x1 x2 x3 x4 x12 x14 (!t117) x102000 x102001 x102002 x102003 x102004)) else (perigeelaw9_PowerKeptIsWorthMost.j1 k x1 x2 x3 x4 x12 x14 true x102000 x102001 x102002 x102003 x102004)))
def perigeelaw9_PowerKeptIsWorthMost.j1 : Nat → List (S72) → List (S76) → List (S47) → Int → Int → List (S47) → Bool → Int → Int → Int → Int → Int → Option (Bool)
  | 0, _, _, _, _, _, _, _, _, _, _, _, _ => none
  | k + 1, x1, x2, x3, x4, x12, x14, x73, x102000, x102001, x102002, x102003, x102004 => if x73 = true then (some false) else ((power_Shed.f k x102000 x102001 x102002 x102003 x102004 x1 x2 x3 x4).bind fun bt118 => (if bt118.2 = 0 then ((power_Empty.f k x102000 x102001 x102002 x102003 x102004 x1 x2 bt118.1 x4).bind fun bt122 => (if bt122.2.2 = 0 then (if bt122.2.1 = true then ((perigeeref9_Worth.f k x2 x14).bind fun t125 => (if t125 = x12 then ((perigeelaw9_awake.f k).bind fun t126 => (some t126)) else (some false))) else ((perigeeref9_Worth.f k x2 bt118.1).bind fun t127 => (if t127 ≤ x12 then ((perigeeref9_Worth.f k x2 x14).bind fun t128 => (if t128 = x12 then ((perigeelaw9_awake.f k).bind fun t129 => (some t129)) else (some false))) else (some false)))) else (some false))) else (some false)))
end
def perigeelaw9_PowerKeptIsWorthMost.f (k : Nat) (a0_0 : Int) (a0_1 : Int) (a0_2 : Int) (a0_3 : Int) (a0_4 : Int) (l1 : List (S72)) (l2 : List (S76)) (l3 : List (S47)) (a4 : Int) : Option (Bool) := (power_Kept.f k a0_0 a0_1 a0_2 a0_3 a0_4 l1 l2 l3 a4).bind fun bt102 => (if bt102.2.2 = 0 then (perigeelaw9_PowerKeptIsWorthMost.l0 k l1 l2 l3 a4 bt102.2.1 ([] : List (S47)) bt102.1 (bt102.1.length : Int) 0 a0_0 a0_1 a0_2 a0_3 a0_4) else (if (bt102.1.length : Int) = 0 then (if bt102.2.1 = 0 then ((perigeelaw9_awake.f k).bind fun t107 => (some t107)) else (some false)) else (some false)))
theorem d14a {p : Prop} (h : p := by repeat (first | (with_reducible first | exact HB.out | apply below_alloc | apply pw_below_drewN | apply below_drew1 | refine below_set ?_ GE101.out) | exact HB.out)) : p := h
theorem d14b {p : Prop} (h : p := by (try simp only [List.map_toArray, List.map_cons, List.map_nil]); first | done | rfl | (simp only [List.length_drop, List.length_take]; rfl)) : p := h
theorem d14c {p : Prop} (h : p := by repeat (first | (with_reducible first | exact HB.out | apply below_alloc | apply pw_below_drewN | apply below_drew1) | exact HB.out)) : p := h
theorem d14d {p : Prop} (h : p := by (with_reducible repeat (first | refine blk_drewN ?_ _ | refine blk_drew ?_ | refine blk_alloc ?_ _)); exact BK101.out) : p := h
theorem d14e {p : Prop} (h : p := by (with_reducible repeat (first | apply Kd.R_alloc | apply Kd.R_drewN | apply Kd.R_drew)); exact HO_14.out) : p := h
theorem d14f {p : Prop} (h : p := by (with_reducible repeat (first | apply Kd.R_alloc | apply Kd.R_drewN | apply Kd.R_drew)); exact HO_43.out) : p := h
theorem d14g {p : Prop} (h : p := by (with_reducible repeat (first | apply Kd.R_alloc | apply Kd.R_drewN | apply Kd.R_drew)); exact HO120.out) : p := h
theorem d14h {p : Prop} (h : p := by first | rfl | (simp [errW_none, errW_some] <;> rfl) | (simp [*, errW_none, errW_some] <;> rfl)) : p := h
theorem d14i {p : Prop} (h : p := by first | (with_reducible assumption) | assumption) : p := h
theorem d14j {p : Prop} (h : p := by first | rfl | (simp; done) | (simp [*]; done)) : p := h
theorem d14k {p : Prop} (h : p := by first | (go_simp; done) | (go_simp; rfl)) : p := h
theorem d14l {p : Prop} (h : p := by exact C_go (Kd.C_below HR1.out HB.out)) : p := h
theorem d14m {p : Prop} (h : p := by exact C_go (Kd.C_below HR2.out HB.out)) : p := h
theorem d14n {p : Prop} (h : p := by exact C_go (Kd.C_below HR3.out HB.out)) : p := h
theorem d14o {p : Prop} (h : p := by exact C_go (Kd.R_reads' HO_14.out).2.2) : p := h
theorem d14p {p : Prop} (h : p := by exact C_go (Kd.R_reads' HO120.out).2.2) : p := h
theorem d14q {p : Prop} (h : p := by exact (Kd.R_reads' HO_14.out).2.1) : p := h
theorem d14r {p : Prop} (h : p := by exact (Kd.R_reads' HO120.out).2.1) : p := h
set_option maxHeartbeats 8000000 in
set_option maxRecDepth 100000 in
theorem perigeelaw9_PowerKeptIsWorthMost.calls (k : Nat) (a0_0 : Int) (a0_1 : Int) (a0_2 : Int) (a0_3 : Int) (a0_4 : Int) (A1 : Option Addr) (c1 : Nat) (l1 : List (S72)) (A2 : Option Addr) (c2 : Nat) (l2 : List (S76)) (A3 : Option Addr) (c3 : Nat) (l3 : List (S47)) (a4 : Int) (r : Bool) (w : World) (hr1 : Kd.C k72 w A1 l1.length l1) (hc1 : l1.length ≤ c1) (hr2 : Kd.C k76 w A2 l2.length l2) (hc2 : l2.length ≤ c2) (hr3 : Kd.C k47 w A3 l3.length l3) (hc3 : l3.length ≤ c3) (h : perigeelaw9_PowerKeptIsWorthMost.f k a0_0 a0_1 a0_2 a0_3 a0_4 l1 l2 l3 a4 = some r) :
 Calls Try.prog 14 #[.agg #[.int .i64 a0_0, .int .i64 a0_1, .int .i64 a0_2, .int .i64 a0_3, .int .i64 a0_4], .slice A1 l1.length c1, .slice A2 l2.length c2, .slice A3 l3.length c3, .int .i64 a4] w fun e w' => e = .returned (.bool r) ∧ Below w.heap.size w w' := by
 have hu23 := Try.underlying23
 have hu47 := Try.underlying47
 have HR1 := Aside0.mk hr1
 have HC1 := Aside0.mk hc1
 clear hr1 hc1
 have HR2 := Aside0.mk hr2
 have HC2 := Aside0.mk hc2
 clear hr2 hc2
 have HR3 := Aside0.mk hr3
 have HC3 := Aside0.mk hc3
 clear hr3 hc3
 have HB := Aside0.mk (Below.refl w.heap.size w)
 have H : ((power_Kept.f k a0_0 a0_1 a0_2 a0_3 a0_4 l1 l2 l3 a4).bind fun bt102 => (if bt102.2.2 = 0 then (perigeelaw9_PowerKeptIsWorthMost.l0 k l1 l2 l3 a4 bt102.2.1 ([] : List (S47)) bt102.1 (bt102.1.length : Int) 0 a0_0 a0_1 a0_2 a0_3 a0_4) else (if (bt102.1.length : Int) = 0 then (if bt102.2.1 = 0 then ((perigeelaw9_awake.f k).bind fun t107 => (some t107)) else (some false)) else (some false)))) = some r := h
 clear h
 replace H := bindS H; obtain ⟨⟨t102, t105, t106⟩, A6, H⟩ := H
 by_cases c7 : t106 = 0
 · rw [if_pos c7] at H
   have c7b0 : (t106 == 0) = true := beq_iff_eq.mpr c7
   have c7b1 : (t106 != 0) = false := bne_eq_false_iff_eq.mpr c7
   clear c7
   have H' := Aside0.mk H
   clear H
   go_enter Try.func14, Try.ntmps14
   go_wp2_with (first | ((with_reducible refine gate_dst (N := 5) rfl ?_); refine box_event ?hg (N := 5) ?hd (cs := #[.int .i64 a0_0, .int .i64 a0_1, .int .i64 a0_2, .int .i64 a0_3, .int .i64 a0_4]) (t := 23) ?hr ?_; (case hd => rfl); (case hg => rfl); (case hr => exact d14k); intro gb101 hg w8 hbox hb; have n0_ := Aside0.mk (below_step d14c hb); have n1_ := Aside0.mk (hbox); have n2_ := Aside0.mk ((by rw [hg]; exact (below_size d14c) : w.heap.size ≤ gb101)); have n3_ := Aside0.mk ((by rw [hg]; exact (below_size d14c) : w.heap.size ≤ gb101)); clear HB; have HB := n0_; have BK101 := n1_; have GW101 := n2_; have GE101 := n3_; clear n0_ n1_ n2_ n3_; clear hb hbox hg; have hcz9_0 : w8.cell? ⟨gb101, 0, none⟩ = some (.int .i64 a0_0) := (blk_cell BK101.out 0).trans rfl; have hcz9_1 : w8.cell? ⟨gb101, 1, none⟩ = some (.int .i64 a0_1) := (blk_cell BK101.out 1).trans rfl; have hcz9_2 : w8.cell? ⟨gb101, 2, none⟩ = some (.int .i64 a0_2) := (blk_cell BK101.out 2).trans rfl; have hcz9_3 : w8.cell? ⟨gb101, 3, none⟩ = some (.int .i64 a0_3) := (blk_cell BK101.out 3).trans rfl; have hcz9_4 : w8.cell? ⟨gb101, 4, none⟩ = some (.int .i64 a0_4) := (blk_cell BK101.out 4).trans rfl; have hfz9_0 := blk_frozen BK101.out 0; have hfz9_1 := blk_frozen BK101.out 1; have hfz9_2 := blk_frozen BK101.out 2; have hfz9_3 := blk_frozen BK101.out 3; have hfz9_4 := blk_frozen BK101.out 4) | ((with_reducible refine gate_callee (f := 49) rfl ?_); refine goesL_ (some 27) rfl rfl Try.func49 (by kernel_rfl) rfl #[.agg #[.int .i64 a0_0, .int .i64 a0_1, .int .i64 a0_2, .int .i64 a0_3, .int .i64 a0_4], .slice A1 l1.length c1, .slice A2 l2.length c2, .slice A3 l3.length c3, .int .i64 a4] rfl d14b ?_; (with_reducible refine (power_Kept.calls k a0_0 a0_1 a0_2 a0_3 a0_4 _ _ l1 _ _ l2 _ _ l3 a4 t102 t105 t106 _ ?side1 ?side2 ?side3 ?side4 ?side5 ?side6 A6.out).mono ?_); (case side1 => exact d14l); (case side2 => exact HC1.out); (case side3 => exact d14m); (case side4 => exact HC2.out); (case side5 => exact d14n); (case side6 => exact HC3.out); rintro e w10 ⟨v103, rfl, ho0, hb⟩; refine ⟨_, rfl, ?_⟩; have n0_ := Aside0.mk (Kd.R_lower ho0 (below_size d14a)); have n1_ := Aside0.mk (blk_below (g := gb101) (o := .cells #[.int .i64 a0_0, .int .i64 a0_1, .int .i64 a0_2, .int .i64 a0_3, .int .i64 a0_4] 23 (0, 0)) d14d hb); have n2_ := Aside0.mk (below_step d14a hb); clear BK101; clear HB; have HO104 := n0_; have BK101 := n1_; have HB := n2_; clear n0_ n1_ n2_; (try clear hb); (try clear ho0); obtain ⟨Ao11, co11, eo11⟩ := Kd.R_slice HO104.out; subst eo11))
   go_loopg [14, 45] k (fun kq v14 v45 w' => ∃ (x14_1 : List (S47)) (x45_1 : Int), v45 = .int .i64 x45_1 ∧ Aside0 (perigeelaw9_PowerKeptIsWorthMost.l0 kq l1 l2 l3 a4 t105 x14_1 t102 (t102.length : Int) x45_1 a0_0 a0_1 a0_2 a0_3 a0_4 = some r) ∧ Aside0 (kq ≤ k) ∧ Aside0 (Kd.R k47 47 w' w.heap.size (fun _ => True) v14 x14_1) ∧ Aside0 (Kd.R (Kd.int .i64) 3 w' w.heap.size (fun _ => True) (.slice Ao11 t102.length co11) t102) ∧ Aside0 (w'.heap[gb101]? = some (.cells #[.int .i64 a0_0, .int .i64 a0_1, .int .i64 a0_2, .int .i64 a0_3, .int .i64 a0_4] 23 (0, 0))) ∧ Aside0 (Below w.heap.size w w'))
   case atStart => exact ⟨(([] : List (S47))), (0), d14j, H', ⟨Nat.le_refl _⟩, ⟨by first | exact Kd.R_nil _ _ _ _ _ | exact Kd.N_nil _ _ _ _ _ | exact Kd.V_nil _ _ _ _ _ | exact Kd.Q_nil _ _ _ _ _ | exact Kd.S_nil _ _ _ _ _⟩, ⟨by (with_reducible repeat (first | apply Kd.R_alloc | apply Kd.R_drewN | apply Kd.R_drew)); exact HO104.out⟩, ⟨d14d⟩, ⟨d14a⟩⟩
   case round =>
    clear H'
    try clear c7b0
    try clear c7b1
    try clear hcz9_0
    try clear hcz9_1
    try clear hcz9_2
    try clear hcz9_3
    try clear hcz9_4
    try clear hfz9_0
    try clear hfz9_1
    try clear hfz9_2
    try clear hfz9_3
    try clear hfz9_4
    obtain ⟨x14_1, x45_1, rfl, HA, HK1, HO_14, HO_43, BK101, HB⟩ := hrel
    cases gk with
    | zero => exact absurd HA.out (by simp [perigeelaw9_PowerKeptIsWorthMost.l0])
    | succ k1 =>
     have H := HA.out
     clear HA
     simp only [perigeelaw9_PowerKeptIsWorthMost.l0] at H
     by_cases c12 : x45_1 < (t102.length : Int)
     · rw [if_pos c12] at H
       have c12b0 : decide (x45_1 < (t102.length : Int)) = true := decide_eq_true c12
       clear c12
       replace H := guardT H; obtain ⟨c13, H⟩ := H
       have c13b0 : decide (0 ≤ x45_1) = true := decide_eq_true c13
       clear c13
       replace H := guardT H; obtain ⟨c14, H⟩ := H
       have c14b0 : decide (x45_1 < (t102.length : Int)) = true := decide_eq_true c14
       clear c14
       replace H := guardT H; obtain ⟨c15, H⟩ := H
       have c15b0 : decide (0 ≤ (rd t102 x45_1)) = true := decide_eq_true c15
       clear c15
       replace H := guardT H; obtain ⟨c16, H⟩ := H
       have c16b0 : decide ((rd t102 x45_1) < (l3.length : Int)) = true := decide_eq_true c16
       clear c16
       replace H := guardT H; obtain ⟨c17, H⟩ := H
       have LMc17 := Aside0.mk c17
       clear c17
       obtain ⟨y110, hy110⟩ : ∃ y_ : List (S47), y_ = (x14_1 ++ [(⟨(rd_T47 l3 (rd t102 x45_1)).f0, (rd_T47 l3 (rd t102 x45_1)).f1, (rd_T47 l3 (rd t102 x45_1)).f2⟩ : S47)]) := ⟨_, rfl⟩
       replace H : (perigeelaw9_PowerKeptIsWorthMost.l0 k1 l1 l2 l3 a4 t105 y110 t102 (t102.length : Int) (wrap64 (x45_1 + 1)) a0_0 a0_1 a0_2 a0_3 a0_4) = some r := by first | (rw [hy110]; with_reducible exact H) | (have H2_ := (Option.bind_some _ _).symm.trans H; rw [hy110]; with_reducible exact H2_) | (have H2_ := (Option.bind_some _ _).symm.trans H; with_reducible exact H2_) | with_reducible exact H | (rw [hy110]; exact H) | exact H
       have Ny110 := Aside0.mk hy110
       clear hy110
       have H' := Aside0.mk H
       clear H
       have p108 : 0 ≤ (x45_1 : Int) := of_decide_eq_true d14i
       have q108 : x45_1 < (t102.length : Int) := of_decide_eq_true d14i
       obtain ⟨ad108, e108, hx108_0⟩ := Kd.at_int (Kd.R_reads' HO_43.out).2.2 x45_1 p108 q108
       cases e108
       replace p108 := eq_true p108
       replace q108 := eq_true q108
       have p109 : 0 ≤ ((rd t102 x45_1) : Int) := of_decide_eq_true d14i
       have q109 : (rd t102 x45_1) < (l3.length : Int) := of_decide_eq_true d14i
       obtain ⟨ad109, e109, hx109_0, hx109_1, hx109_2⟩ := at_T47 HR3.out (rd t102 x45_1) p109 q109
       cases e109
       replace hx109_0 := cellB HB.out hx109_0
       replace hx109_1 := cellB HB.out hx109_1
       replace hx109_2 := cellB HB.out hx109_2
       replace p109 := eq_true p109
       replace q109 := eq_true q109
       go_wp2_with ((with_reducible refine gate_builtin (b := .append) (xs := #[.tmp 49, .tmp 54]) rfl ?_); at_builtin; refine Kd.R_append k47 (w0 := w) w.heap.size rfl (.tmp 49) (.tmp 54) 26 47 (.agg #[(.string ⟨#[]⟩), (.int .i64 0), (.int .i64 0)]) 32 rfl Try.underlying26 info47 rfl (by decide) (by omega) u14 x14_1 (⟨(rd_T47 l3 (rd t102 x45_1)).f0, (rd_T47 l3 (rd t102 x45_1)).f1, (rd_T47 l3 (rd t102 x45_1)).f2⟩ : S47) [.string ((rd_T47 l3 (rd t102 x45_1)).f0), .int .i64 ((rd_T47 l3 (rd t102 x45_1)).f1), .int .i64 ((rd_T47 l3 (rd t102 x45_1)).f2)] (fun _ => True) (fun _ => False) rfl rfl ?aP (fun _ hk => hk.elim) ?aF ?aO ?aB ?aS ?aL ?_; (case aP => exact k47_mkM _ _ _ (⟨(rd_T47 l3 (rd t102 x45_1)).f0, (rd_T47 l3 (rd t102 x45_1)).f1, (rd_T47 l3 (rd t102 x45_1)).f2⟩ : S47)); (case aB => exact d14a); (case aF => exact (fun _ _ => trivial)); (case aO => exact d14e); (case aS => exact (below_size d14a)); (case aL => have := LMc17.out; omega); intro v111 w18 ho hb hg hat; rw [← Ny110.out] at ho; have n0_ := Aside0.mk (Kd.R_over' d14f (Kd.R_typed d14e) (by decide) hg); have n1_ := Aside0.mk (blk_grown (g := gb101) (o := .cells #[.int .i64 a0_0, .int .i64 a0_1, .int .i64 a0_2, .int .i64 a0_3, .int .i64 a0_4] 23 (0, 0)) d14d hg (Kd.R_ne HO_14.out BK101.out (by decide))); have n2_ := Aside0.mk (hb); have n3_ := Aside0.mk (ho); clear HO_43; clear BK101; clear HB; clear HO_14; have HO_43 := n0_; have BK101 := n1_; have HB := n2_; have HO112 := n3_; clear n0_ n1_ n2_ n3_; clear ho hb hg hat)
       go_roundg k1
       case measure => have := HK1.out; omega
       case rel => exact ⟨(y110), (wrap64 (x45_1 + 1)), d14j, H', ⟨by have := HK1.out; omega⟩, ⟨by (with_reducible repeat (first | apply Kd.R_alloc | apply Kd.R_drewN | apply Kd.R_drew)); exact HO112.out⟩, ⟨d14f⟩, ⟨d14d⟩, ⟨d14a⟩⟩
     · rw [if_neg c12] at H
       have c12b0 : decide (x45_1 < (t102.length : Int)) = false := decide_eq_false c12
       clear c12
       replace H := bindS H; obtain ⟨⟨t113, t116⟩, A19, H⟩ := H
       have HC20 := Aside0.mk H
       clear H
       obtain ⟨hcz21_0, hcz21_1, hcz21_2, hcz21_3, hcz21_4⟩ := blkC5 BK101.out
       have hfz21_0 := blk_frozen BK101.out 0
       have hfz21_1 := blk_frozen BK101.out 1
       have hfz21_2 := blk_frozen BK101.out 2
       have hfz21_3 := blk_frozen BK101.out 3
       have hfz21_4 := blk_frozen BK101.out 4
       obtain ⟨Ao22, co22, eo22⟩ := Kd.R_slice HO_14.out
       subst eo22
       go_upto_region 11 with ((with_reducible refine gate_callee (f := 46) rfl ?_); refine goesL_ (some 63) rfl rfl Try.func46 (by kernel_rfl) rfl #[.agg #[.int .i64 a0_0, .int .i64 a0_1, .int .i64 a0_2, .int .i64 a0_3, .int .i64 a0_4], .slice A1 l1.length c1, .slice A2 l2.length c2, .slice Ao22 x14_1.length co22, .int .i64 a4] rfl d14b ?_; (with_reducible refine (power_Shed.calls k1 a0_0 a0_1 a0_2 a0_3 a0_4 _ _ l1 _ _ l2 _ _ x14_1 a4 t113 t116 _ ?side1 ?side2 ?side3 ?side4 ?side5 ?side6 A19.out).mono ?_); (case side1 => exact d14l); (case side2 => exact HC1.out); (case side3 => exact d14m); (case side4 => exact HC2.out); (case side5 => exact d14o); (case side6 => exact d14q); rintro e w23 ⟨v114, rfl, ho0, hb⟩; refine ⟨_, rfl, ?_⟩; have n0_ := Aside0.mk (Kd.R_elder' d14e (Kd.R_base ho0) hb); have n1_ := Aside0.mk (Kd.R_below d14f hb); have n2_ := Aside0.mk (Kd.R_lower (Kd.R_new' ho0 (Kd.R_lt d14e)) (below_size d14a)); have n3_ := Aside0.mk (blk_below (g := gb101) (o := .cells #[.int .i64 a0_0, .int .i64 a0_1, .int .i64 a0_2, .int .i64 a0_3, .int .i64 a0_4] 23 (0, 0)) d14d hb); have n4_ := Aside0.mk (below_step d14a hb); clear HO_14; clear HO_43; clear BK101; clear HB; have HO_14 := n0_; have HO_43 := n1_; have HO115 := n2_; have BK101 := n3_; have HB := n4_; clear n0_ n1_ n2_ n3_ n4_; (try clear hb); (try clear ho0))
       (try simp only [Act.put, List.setIfInBounds_toArray, List.set_cons_zero, List.set_cons_succ])
       go_cut [73] (fun v73 wc => ∃ (kq : Nat) (x73_19 : Bool), v73 = .bool x73_19 ∧ Aside0 (perigeelaw9_PowerKeptIsWorthMost.j1 kq l1 l2 l3 a4 t105 x14_1 x73_19 a0_0 a0_1 a0_2 a0_3 a0_4 = some r) ∧ Aside0 (kq ≤ k1) ∧ Aside0 (Kd.R k47 47 wc w.heap.size (fun _ => True) (.slice Ao22 x14_1.length co22) x14_1) ∧ Aside0 (wc.heap[gb101]? = some (.cells #[.int .i64 a0_0, .int .i64 a0_1, .int .i64 a0_2, .int .i64 a0_3, .int .i64 a0_4] 23 (0, 0))) ∧ Aside0 (Below w.heap.size w wc))
       case first =>
        have H := HC20.out
        clear HC20
        by_cases c24 : t116 = 0
        · rw [if_pos c24] at H
          have c24b0 : (t116 == 0) = true := beq_iff_eq.mpr c24
          have c24b1 : (t116 != 0) = false := bne_eq_false_iff_eq.mpr c24
          clear c24
          (first | rw [c24b0] | (simp only [i64_w, i32_w]; rw [c24b0]) | skip)
          replace H := bindS H; obtain ⟨t117, A25, H⟩ := H
          have H' := Aside0.mk H
          clear H
          obtain ⟨Ao26, co26, eo26⟩ := Kd.R_slice HO115.out
          subst eo26
          go_wp2_with (go_at_call 48; (with_reducible refine (api_Use_48.calls k1 _ _ t113 _ _ x14_1 t117 _ ?side1 ?side2 ?side3 ?side4 A25.out).mono ?_); (case side1 => exact C_go (Kd.R_reads' HO115.out).2.2); (case side2 => exact (Kd.R_reads' HO115.out).2.1); (case side3 => exact d14o); (case side4 => exact d14q); rintro e w' ⟨rfl, ⟨nd, rfl⟩⟩)
          go_meet
          case rel => exact ⟨_, (!t117), d14j, H', ⟨by have := HK1.out; first | omega | exact Nat.le_refl _⟩, ⟨by (with_reducible repeat (first | apply Kd.R_alloc | apply Kd.R_drewN | apply Kd.R_drew)); exact Kd.R_mono HO_14.out (fun _ hk => trivial)⟩, ⟨d14d⟩, ⟨d14a⟩⟩
        · rw [if_neg c24] at H
          have c24b0 : (t116 == 0) = false := beq_eq_false_iff_ne.mpr c24
          have c24b1 : (t116 != 0) = true := bne_iff_ne.mpr c24
          (first | rw [c24b0] | (simp only [i64_w, i32_w]; rw [c24b0]) | skip)
          have H' := Aside0.mk H
          clear H
          go_wp2
          go_meet
          case rel => exact ⟨_, (true), d14j, H', ⟨by have := HK1.out; first | omega | exact Nat.le_refl _⟩, ⟨by (with_reducible repeat (first | apply Kd.R_alloc | apply Kd.R_drewN | apply Kd.R_drew)); exact Kd.R_mono HO_14.out (fun _ hk => trivial)⟩, ⟨d14d⟩, ⟨d14a⟩⟩
       case rest =>
        clear HC20
        try clear c12b0
        try clear hcz21_0
        try clear hcz21_1
        try clear hcz21_2
        try clear hcz21_3
        try clear hcz21_4
        try clear hfz21_0
        try clear hfz21_1
        try clear hfz21_2
        try clear hfz21_3
        try clear hfz21_4
        obtain ⟨kq, x73_19, rfl, HA, HJ19, HO_14, BK101, HB⟩ := hcut
        cases kq with
        | zero => exact absurd HA.out (by simp [perigeelaw9_PowerKeptIsWorthMost.j1])
        | succ kj19 =>
         have H := HA.out
         clear HA
         simp only [perigeelaw9_PowerKeptIsWorthMost.j1] at H
         by_cases c27 : x73_19 = true
         · subst c27
           replace H := iteT H
           obtain rfl := Option.some.inj H
           go_wp2
           go_ret
           exact ⟨d14h, d14a⟩
         · replace c27 := Bool.eq_false_iff.mpr c27
           subst c27
           replace H := iteF H
           replace H := bindS H; obtain ⟨⟨t118, t121⟩, A28, H⟩ := H
           by_cases c29 : t121 = 0
           · rw [if_pos c29] at H
             have c29b0 : (t121 == 0) = true := beq_iff_eq.mpr c29
             have c29b1 : (t121 != 0) = false := bne_eq_false_iff_eq.mpr c29
             clear c29
             replace H := bindS H; obtain ⟨⟨t122, t123, t124⟩, A30, H⟩ := H
             by_cases c31 : t124 = 0
             · rw [if_pos c31] at H
               have c31b0 : (t124 == 0) = true := beq_iff_eq.mpr c31
               have c31b1 : (t124 != 0) = false := bne_eq_false_iff_eq.mpr c31
               clear c31
               by_cases c32 : t123 = true
               · subst c32
                 replace H := iteT H
                 replace H := bindS H; obtain ⟨t125, A33, H⟩ := H
                 by_cases c34 : t125 = t105
                 · rw [if_pos c34] at H
                   have c34b0 : (t125 == t105) = true := beq_iff_eq.mpr c34
                   have c34b1 : (t125 != t105) = false := bne_eq_false_iff_eq.mpr c34
                   clear c34
                   replace H := bindS H; obtain ⟨t126, A35, H⟩ := H
                   obtain rfl := Option.some.inj H
                   obtain ⟨hcz36_0, hcz36_1, hcz36_2, hcz36_3, hcz36_4⟩ := blkC5 BK101.out
                   have hfz36_0 := blk_frozen BK101.out 0
                   have hfz36_1 := blk_frozen BK101.out 1
                   have hfz36_2 := blk_frozen BK101.out 2
                   have hfz36_3 := blk_frozen BK101.out 3
                   have hfz36_4 := blk_frozen BK101.out 4
                   go_wp2_with (first | ((with_reducible refine gate_callee (f := 46) rfl ?_); refine goesL_ (some 80) rfl rfl Try.func46 (by kernel_rfl) rfl #[.agg #[.int .i64 a0_0, .int .i64 a0_1, .int .i64 a0_2, .int .i64 a0_3, .int .i64 a0_4], .slice A1 l1.length c1, .slice A2 l2.length c2, .slice A3 l3.length c3, .int .i64 a4] rfl d14b ?_; (with_reducible refine (power_Shed.calls kj19 a0_0 a0_1 a0_2 a0_3 a0_4 _ _ l1 _ _ l2 _ _ l3 a4 t118 t121 _ ?side1 ?side2 ?side3 ?side4 ?side5 ?side6 A28.out).mono ?_); (case side1 => exact d14l); (case side2 => exact HC1.out); (case side3 => exact d14m); (case side4 => exact HC2.out); (case side5 => exact d14n); (case side6 => exact HC3.out); rintro e w37 ⟨v119, rfl, ho0, hb⟩; refine ⟨_, rfl, ?_⟩; have n0_ := Aside0.mk (Kd.R_elder' d14e (Kd.R_base ho0) hb); have n1_ := Aside0.mk (Kd.R_lower (Kd.R_new' ho0 (Kd.R_lt d14e)) (below_size d14a)); have n2_ := Aside0.mk (blk_below (g := gb101) (o := .cells #[.int .i64 a0_0, .int .i64 a0_1, .int .i64 a0_2, .int .i64 a0_3, .int .i64 a0_4] 23 (0, 0)) d14d hb); have n3_ := Aside0.mk (below_step d14a hb); clear HO_14; clear BK101; clear HB; have HO_14 := n0_; have HO120 := n1_; have BK101 := n2_; have HB := n3_; clear n0_ n1_ n2_ n3_; (try clear hb); (try clear ho0); have hcz38_0 : w37.cell? ⟨gb101, 0, none⟩ = some (.int .i64 a0_0) := (blk_cell BK101.out 0).trans rfl; have hcz38_1 : w37.cell? ⟨gb101, 1, none⟩ = some (.int .i64 a0_1) := (blk_cell BK101.out 1).trans rfl; have hcz38_2 : w37.cell? ⟨gb101, 2, none⟩ = some (.int .i64 a0_2) := (blk_cell BK101.out 2).trans rfl; have hcz38_3 : w37.cell? ⟨gb101, 3, none⟩ = some (.int .i64 a0_3) := (blk_cell BK101.out 3).trans rfl; have hcz38_4 : w37.cell? ⟨gb101, 4, none⟩ = some (.int .i64 a0_4) := (blk_cell BK101.out 4).trans rfl; have hfz38_0 := blk_frozen BK101.out 0; have hfz38_1 := blk_frozen BK101.out 1; have hfz38_2 := blk_frozen BK101.out 2; have hfz38_3 := blk_frozen BK101.out 3; have hfz38_4 := blk_frozen BK101.out 4; obtain ⟨Ao39, co39, eo39⟩ := Kd.R_slice HO120.out; subst eo39) | ((with_reducible refine gate_callee (f := 35) rfl ?_); refine goesL_ (some 91) rfl rfl Try.func35 (by kernel_rfl) rfl #[.agg #[.int .i64 a0_0, .int .i64 a0_1, .int .i64 a0_2, .int .i64 a0_3, .int .i64 a0_4], .slice A1 l1.length c1, .slice A2 l2.length c2, .slice Ao39 t118.length co39, .int .i64 a4] rfl d14b ?_; (with_reducible refine (power_Empty.calls kj19 a0_0 a0_1 a0_2 a0_3 a0_4 _ _ l1 _ _ l2 _ _ t118 a4 t122 true t124 _ ?side1 ?side2 ?side3 ?side4 ?side5 ?side6 A30.out).mono ?_); (case side1 => exact d14l); (case side2 => exact HC1.out); (case side3 => exact d14m); (case side4 => exact HC2.out); (case side5 => exact d14p); (case side6 => exact d14r); rintro e w40 ⟨rfl, hb⟩; refine ⟨_, rfl, ?_⟩; have n0_ := Aside0.mk (Kd.R_below d14e hb); have n1_ := Aside0.mk (Kd.R_below d14g hb); have n2_ := Aside0.mk (blk_below (g := gb101) (o := .cells #[.int .i64 a0_0, .int .i64 a0_1, .int .i64 a0_2, .int .i64 a0_3, .int .i64 a0_4] 23 (0, 0)) d14d hb); have n3_ := Aside0.mk (below_step d14a hb); clear HO_14; clear HO120; clear BK101; clear HB; have HO_14 := n0_; have HO120 := n1_; have BK101 := n2_; have HB := n3_; clear n0_ n1_ n2_ n3_; (try clear hb)) | (go_at_call 52; (with_reducible refine (perigeeref9_Worth.calls kj19 _ _ l2 _ _ x14_1 t125 _ ?side1 ?side2 ?side3 ?side4 A33.out).mono ?_); (case side1 => exact d14m); (case side2 => exact HC2.out); (case side3 => exact d14o); (case side4 => exact d14q); rintro e w41 ⟨rfl, hb⟩; have n0_ := Aside0.mk (Kd.R_below d14e hb); have n1_ := Aside0.mk (Kd.R_below d14g hb); have n2_ := Aside0.mk (blk_below (g := gb101) (o := .cells #[.int .i64 a0_0, .int .i64 a0_1, .int .i64 a0_2, .int .i64 a0_3, .int .i64 a0_4] 23 (0, 0)) d14d hb); have n3_ := Aside0.mk (below_step d14a hb); clear HO_14; clear HO120; clear BK101; clear HB; have HO_14 := n0_; have HO120 := n1_; have BK101 := n2_; have HB := n3_; clear n0_ n1_ n2_ n3_; (try clear hb)) | (go_at_call 27; (with_reducible refine (perigeelaw9_awake.calls kj19  t126 _ A35.out).mono ?_); rintro e w42 ⟨rfl, hb⟩; have n0_ := Aside0.mk (Kd.R_below d14e hb); have n1_ := Aside0.mk (Kd.R_below d14g hb); have n2_ := Aside0.mk (blk_below (g := gb101) (o := .cells #[.int .i64 a0_0, .int .i64 a0_1, .int .i64 a0_2, .int .i64 a0_3, .int .i64 a0_4] 23 (0, 0)) d14d hb); have n3_ := Aside0.mk (below_step d14a hb); clear HO_14; clear HO120; clear BK101; clear HB; have HO_14 := n0_; have HO120 := n1_; have BK101 := n2_; have HB := n3_; clear n0_ n1_ n2_ n3_; (try clear hb)))
                   go_ret
                   exact ⟨d14h, d14a⟩
                 · rw [if_neg c34] at H
                   have c34b0 : (t125 == t105) = false := beq_eq_false_iff_ne.mpr c34
                   have c34b1 : (t125 != t105) = true := bne_iff_ne.mpr c34
                   obtain rfl := Option.some.inj H
                   obtain ⟨hcz43_0, hcz43_1, hcz43_2, hcz43_3, hcz43_4⟩ := blkC5 BK101.out
                   have hfz43_0 := blk_frozen BK101.out 0
                   have hfz43_1 := blk_frozen BK101.out 1
                   have hfz43_2 := blk_frozen BK101.out 2
                   have hfz43_3 := blk_frozen BK101.out 3
                   have hfz43_4 := blk_frozen BK101.out 4
                   go_wp2_with (first | ((with_reducible refine gate_callee (f := 46) rfl ?_); refine goesL_ (some 80) rfl rfl Try.func46 (by kernel_rfl) rfl #[.agg #[.int .i64 a0_0, .int .i64 a0_1, .int .i64 a0_2, .int .i64 a0_3, .int .i64 a0_4], .slice A1 l1.length c1, .slice A2 l2.length c2, .slice A3 l3.length c3, .int .i64 a4] rfl d14b ?_; (with_reducible refine (power_Shed.calls kj19 a0_0 a0_1 a0_2 a0_3 a0_4 _ _ l1 _ _ l2 _ _ l3 a4 t118 t121 _ ?side1 ?side2 ?side3 ?side4 ?side5 ?side6 A28.out).mono ?_); (case side1 => exact d14l); (case side2 => exact HC1.out); (case side3 => exact d14m); (case side4 => exact HC2.out); (case side5 => exact d14n); (case side6 => exact HC3.out); rintro e w44 ⟨v119, rfl, ho0, hb⟩; refine ⟨_, rfl, ?_⟩; have n0_ := Aside0.mk (Kd.R_elder' d14e (Kd.R_base ho0) hb); have n1_ := Aside0.mk (Kd.R_lower (Kd.R_new' ho0 (Kd.R_lt d14e)) (below_size d14a)); have n2_ := Aside0.mk (blk_below (g := gb101) (o := .cells #[.int .i64 a0_0, .int .i64 a0_1, .int .i64 a0_2, .int .i64 a0_3, .int .i64 a0_4] 23 (0, 0)) d14d hb); have n3_ := Aside0.mk (below_step d14a hb); clear HO_14; clear BK101; clear HB; have HO_14 := n0_; have HO120 := n1_; have BK101 := n2_; have HB := n3_; clear n0_ n1_ n2_ n3_; (try clear hb); (try clear ho0); have hcz45_0 : w44.cell? ⟨gb101, 0, none⟩ = some (.int .i64 a0_0) := (blk_cell BK101.out 0).trans rfl; have hcz45_1 : w44.cell? ⟨gb101, 1, none⟩ = some (.int .i64 a0_1) := (blk_cell BK101.out 1).trans rfl; have hcz45_2 : w44.cell? ⟨gb101, 2, none⟩ = some (.int .i64 a0_2) := (blk_cell BK101.out 2).trans rfl; have hcz45_3 : w44.cell? ⟨gb101, 3, none⟩ = some (.int .i64 a0_3) := (blk_cell BK101.out 3).trans rfl; have hcz45_4 : w44.cell? ⟨gb101, 4, none⟩ = some (.int .i64 a0_4) := (blk_cell BK101.out 4).trans rfl; have hfz45_0 := blk_frozen BK101.out 0; have hfz45_1 := blk_frozen BK101.out 1; have hfz45_2 := blk_frozen BK101.out 2; have hfz45_3 := blk_frozen BK101.out 3; have hfz45_4 := blk_frozen BK101.out 4; obtain ⟨Ao46, co46, eo46⟩ := Kd.R_slice HO120.out; subst eo46) | ((with_reducible refine gate_callee (f := 35) rfl ?_); refine goesL_ (some 91) rfl rfl Try.func35 (by kernel_rfl) rfl #[.agg #[.int .i64 a0_0, .int .i64 a0_1, .int .i64 a0_2, .int .i64 a0_3, .int .i64 a0_4], .slice A1 l1.length c1, .slice A2 l2.length c2, .slice Ao46 t118.length co46, .int .i64 a4] rfl d14b ?_; (with_reducible refine (power_Empty.calls kj19 a0_0 a0_1 a0_2 a0_3 a0_4 _ _ l1 _ _ l2 _ _ t118 a4 t122 true t124 _ ?side1 ?side2 ?side3 ?side4 ?side5 ?side6 A30.out).mono ?_); (case side1 => exact d14l); (case side2 => exact HC1.out); (case side3 => exact d14m); (case side4 => exact HC2.out); (case side5 => exact d14p); (case side6 => exact d14r); rintro e w47 ⟨rfl, hb⟩; refine ⟨_, rfl, ?_⟩; have n0_ := Aside0.mk (Kd.R_below d14e hb); have n1_ := Aside0.mk (Kd.R_below d14g hb); have n2_ := Aside0.mk (blk_below (g := gb101) (o := .cells #[.int .i64 a0_0, .int .i64 a0_1, .int .i64 a0_2, .int .i64 a0_3, .int .i64 a0_4] 23 (0, 0)) d14d hb); have n3_ := Aside0.mk (below_step d14a hb); clear HO_14; clear HO120; clear BK101; clear HB; have HO_14 := n0_; have HO120 := n1_; have BK101 := n2_; have HB := n3_; clear n0_ n1_ n2_ n3_; (try clear hb)) | (go_at_call 52; (with_reducible refine (perigeeref9_Worth.calls kj19 _ _ l2 _ _ x14_1 t125 _ ?side1 ?side2 ?side3 ?side4 A33.out).mono ?_); (case side1 => exact d14m); (case side2 => exact HC2.out); (case side3 => exact d14o); (case side4 => exact d14q); rintro e w48 ⟨rfl, hb⟩; have n0_ := Aside0.mk (Kd.R_below d14e hb); have n1_ := Aside0.mk (Kd.R_below d14g hb); have n2_ := Aside0.mk (blk_below (g := gb101) (o := .cells #[.int .i64 a0_0, .int .i64 a0_1, .int .i64 a0_2, .int .i64 a0_3, .int .i64 a0_4] 23 (0, 0)) d14d hb); have n3_ := Aside0.mk (below_step d14a hb); clear HO_14; clear HO120; clear BK101; clear HB; have HO_14 := n0_; have HO120 := n1_; have BK101 := n2_; have HB := n3_; clear n0_ n1_ n2_ n3_; (try clear hb)))
                   go_ret
                   exact ⟨d14h, d14a⟩
               · replace c32 := Bool.eq_false_iff.mpr c32
                 subst c32
                 replace H := iteF H
                 replace H := bindS H; obtain ⟨t127, A49, H⟩ := H
                 by_cases c50 : t127 ≤ t105
                 · rw [if_pos c50] at H
                   have c50b0 : decide (t127 ≤ t105) = true := decide_eq_true c50
                   clear c50
                   replace H := bindS H; obtain ⟨t128, A51, H⟩ := H
                   by_cases c52 : t128 = t105
                   · rw [if_pos c52] at H
                     have c52b0 : (t128 == t105) = true := beq_iff_eq.mpr c52
                     have c52b1 : (t128 != t105) = false := bne_eq_false_iff_eq.mpr c52
                     clear c52
                     replace H := bindS H; obtain ⟨t129, A53, H⟩ := H
                     obtain rfl := Option.some.inj H
                     obtain ⟨hcz54_0, hcz54_1, hcz54_2, hcz54_3, hcz54_4⟩ := blkC5 BK101.out
                     have hfz54_0 := blk_frozen BK101.out 0
                     have hfz54_1 := blk_frozen BK101.out 1
                     have hfz54_2 := blk_frozen BK101.out 2
                     have hfz54_3 := blk_frozen BK101.out 3
                     have hfz54_4 := blk_frozen BK101.out 4
                     go_wp2_with (first | ((with_reducible refine gate_callee (f := 46) rfl ?_); refine goesL_ (some 80) rfl rfl Try.func46 (by kernel_rfl) rfl #[.agg #[.int .i64 a0_0, .int .i64 a0_1, .int .i64 a0_2, .int .i64 a0_3, .int .i64 a0_4], .slice A1 l1.length c1, .slice A2 l2.length c2, .slice A3 l3.length c3, .int .i64 a4] rfl d14b ?_; (with_reducible refine (power_Shed.calls kj19 a0_0 a0_1 a0_2 a0_3 a0_4 _ _ l1 _ _ l2 _ _ l3 a4 t118 t121 _ ?side1 ?side2 ?side3 ?side4 ?side5 ?side6 A28.out).mono ?_); (case side1 => exact d14l); (case side2 => exact HC1.out); (case side3 => exact d14m); (case side4 => exact HC2.out); (case side5 => exact d14n); (case side6 => exact HC3.out); rintro e w55 ⟨v119, rfl, ho0, hb⟩; refine ⟨_, rfl, ?_⟩; have n0_ := Aside0.mk (Kd.R_elder' d14e (Kd.R_base ho0) hb); have n1_ := Aside0.mk (Kd.R_lower (Kd.R_new' ho0 (Kd.R_lt d14e)) (below_size d14a)); have n2_ := Aside0.mk (blk_below (g := gb101) (o := .cells #[.int .i64 a0_0, .int .i64 a0_1, .int .i64 a0_2, .int .i64 a0_3, .int .i64 a0_4] 23 (0, 0)) d14d hb); have n3_ := Aside0.mk (below_step d14a hb); clear HO_14; clear BK101; clear HB; have HO_14 := n0_; have HO120 := n1_; have BK101 := n2_; have HB := n3_; clear n0_ n1_ n2_ n3_; (try clear hb); (try clear ho0); have hcz56_0 : w55.cell? ⟨gb101, 0, none⟩ = some (.int .i64 a0_0) := (blk_cell BK101.out 0).trans rfl; have hcz56_1 : w55.cell? ⟨gb101, 1, none⟩ = some (.int .i64 a0_1) := (blk_cell BK101.out 1).trans rfl; have hcz56_2 : w55.cell? ⟨gb101, 2, none⟩ = some (.int .i64 a0_2) := (blk_cell BK101.out 2).trans rfl; have hcz56_3 : w55.cell? ⟨gb101, 3, none⟩ = some (.int .i64 a0_3) := (blk_cell BK101.out 3).trans rfl; have hcz56_4 : w55.cell? ⟨gb101, 4, none⟩ = some (.int .i64 a0_4) := (blk_cell BK101.out 4).trans rfl; have hfz56_0 := blk_frozen BK101.out 0; have hfz56_1 := blk_frozen BK101.out 1; have hfz56_2 := blk_frozen BK101.out 2; have hfz56_3 := blk_frozen BK101.out 3; have hfz56_4 := blk_frozen BK101.out 4; obtain ⟨Ao57, co57, eo57⟩ := Kd.R_slice HO120.out; subst eo57) | ((with_reducible refine gate_callee (f := 35) rfl ?_); refine goesL_ (some 91) rfl rfl Try.func35 (by kernel_rfl) rfl #[.agg #[.int .i64 a0_0, .int .i64 a0_1, .int .i64 a0_2, .int .i64 a0_3, .int .i64 a0_4], .slice A1 l1.length c1, .slice A2 l2.length c2, .slice Ao57 t118.length co57, .int .i64 a4] rfl d14b ?_; (with_reducible refine (power_Empty.calls kj19 a0_0 a0_1 a0_2 a0_3 a0_4 _ _ l1 _ _ l2 _ _ t118 a4 t122 false t124 _ ?side1 ?side2 ?side3 ?side4 ?side5 ?side6 A30.out).mono ?_); (case side1 => exact d14l); (case side2 => exact HC1.out); (case side3 => exact d14m); (case side4 => exact HC2.out); (case side5 => exact d14p); (case side6 => exact d14r); rintro e w58 ⟨rfl, hb⟩; refine ⟨_, rfl, ?_⟩; have n0_ := Aside0.mk (Kd.R_below d14e hb); have n1_ := Aside0.mk (Kd.R_below d14g hb); have n2_ := Aside0.mk (blk_below (g := gb101) (o := .cells #[.int .i64 a0_0, .int .i64 a0_1, .int .i64 a0_2, .int .i64 a0_3, .int .i64 a0_4] 23 (0, 0)) d14d hb); have n3_ := Aside0.mk (below_step d14a hb); clear HO_14; clear HO120; clear BK101; clear HB; have HO_14 := n0_; have HO120 := n1_; have BK101 := n2_; have HB := n3_; clear n0_ n1_ n2_ n3_; (try clear hb)) | (go_at_call 52; (with_reducible refine (perigeeref9_Worth.calls kj19 _ _ l2 _ _ t118 t127 _ ?side1 ?side2 ?side3 ?side4 A49.out).mono ?_); (case side1 => exact d14m); (case side2 => exact HC2.out); (case side3 => exact d14p); (case side4 => exact d14r); rintro e w59 ⟨rfl, hb⟩; have n0_ := Aside0.mk (Kd.R_below d14e hb); have n1_ := Aside0.mk (Kd.R_below d14g hb); have n2_ := Aside0.mk (blk_below (g := gb101) (o := .cells #[.int .i64 a0_0, .int .i64 a0_1, .int .i64 a0_2, .int .i64 a0_3, .int .i64 a0_4] 23 (0, 0)) d14d hb); have n3_ := Aside0.mk (below_step d14a hb); clear HO_14; clear HO120; clear BK101; clear HB; have HO_14 := n0_; have HO120 := n1_; have BK101 := n2_; have HB := n3_; clear n0_ n1_ n2_ n3_; (try clear hb)) | (go_at_call 52; (with_reducible refine (perigeeref9_Worth.calls kj19 _ _ l2 _ _ x14_1 t128 _ ?side1 ?side2 ?side3 ?side4 A51.out).mono ?_); (case side1 => exact d14m); (case side2 => exact HC2.out); (case side3 => exact d14o); (case side4 => exact d14q); rintro e w60 ⟨rfl, hb⟩; have n0_ := Aside0.mk (Kd.R_below d14e hb); have n1_ := Aside0.mk (Kd.R_below d14g hb); have n2_ := Aside0.mk (blk_below (g := gb101) (o := .cells #[.int .i64 a0_0, .int .i64 a0_1, .int .i64 a0_2, .int .i64 a0_3, .int .i64 a0_4] 23 (0, 0)) d14d hb); have n3_ := Aside0.mk (below_step d14a hb); clear HO_14; clear HO120; clear BK101; clear HB; have HO_14 := n0_; have HO120 := n1_; have BK101 := n2_; have HB := n3_; clear n0_ n1_ n2_ n3_; (try clear hb)) | (go_at_call 27; (with_reducible refine (perigeelaw9_awake.calls kj19  t129 _ A53.out).mono ?_); rintro e w61 ⟨rfl, hb⟩; have n0_ := Aside0.mk (Kd.R_below d14e hb); have n1_ := Aside0.mk (Kd.R_below d14g hb); have n2_ := Aside0.mk (blk_below (g := gb101) (o := .cells #[.int .i64 a0_0, .int .i64 a0_1, .int .i64 a0_2, .int .i64 a0_3, .int .i64 a0_4] 23 (0, 0)) d14d hb); have n3_ := Aside0.mk (below_step d14a hb); clear HO_14; clear HO120; clear BK101; clear HB; have HO_14 := n0_; have HO120 := n1_; have BK101 := n2_; have HB := n3_; clear n0_ n1_ n2_ n3_; (try clear hb)))
                     go_ret
                     exact ⟨d14h, d14a⟩
                   · rw [if_neg c52] at H
                     have c52b0 : (t128 == t105) = false := beq_eq_false_iff_ne.mpr c52
                     have c52b1 : (t128 != t105) = true := bne_iff_ne.mpr c52
                     obtain rfl := Option.some.inj H
                     obtain ⟨hcz62_0, hcz62_1, hcz62_2, hcz62_3, hcz62_4⟩ := blkC5 BK101.out
                     have hfz62_0 := blk_frozen BK101.out 0
                     have hfz62_1 := blk_frozen BK101.out 1
                     have hfz62_2 := blk_frozen BK101.out 2
                     have hfz62_3 := blk_frozen BK101.out 3
                     have hfz62_4 := blk_frozen BK101.out 4
                     go_wp2_with (first | ((with_reducible refine gate_callee (f := 46) rfl ?_); refine goesL_ (some 80) rfl rfl Try.func46 (by kernel_rfl) rfl #[.agg #[.int .i64 a0_0, .int .i64 a0_1, .int .i64 a0_2, .int .i64 a0_3, .int .i64 a0_4], .slice A1 l1.length c1, .slice A2 l2.length c2, .slice A3 l3.length c3, .int .i64 a4] rfl d14b ?_; (with_reducible refine (power_Shed.calls kj19 a0_0 a0_1 a0_2 a0_3 a0_4 _ _ l1 _ _ l2 _ _ l3 a4 t118 t121 _ ?side1 ?side2 ?side3 ?side4 ?side5 ?side6 A28.out).mono ?_); (case side1 => exact d14l); (case side2 => exact HC1.out); (case side3 => exact d14m); (case side4 => exact HC2.out); (case side5 => exact d14n); (case side6 => exact HC3.out); rintro e w63 ⟨v119, rfl, ho0, hb⟩; refine ⟨_, rfl, ?_⟩; have n0_ := Aside0.mk (Kd.R_elder' d14e (Kd.R_base ho0) hb); have n1_ := Aside0.mk (Kd.R_lower (Kd.R_new' ho0 (Kd.R_lt d14e)) (below_size d14a)); have n2_ := Aside0.mk (blk_below (g := gb101) (o := .cells #[.int .i64 a0_0, .int .i64 a0_1, .int .i64 a0_2, .int .i64 a0_3, .int .i64 a0_4] 23 (0, 0)) d14d hb); have n3_ := Aside0.mk (below_step d14a hb); clear HO_14; clear BK101; clear HB; have HO_14 := n0_; have HO120 := n1_; have BK101 := n2_; have HB := n3_; clear n0_ n1_ n2_ n3_; (try clear hb); (try clear ho0); have hcz64_0 : w63.cell? ⟨gb101, 0, none⟩ = some (.int .i64 a0_0) := (blk_cell BK101.out 0).trans rfl; have hcz64_1 : w63.cell? ⟨gb101, 1, none⟩ = some (.int .i64 a0_1) := (blk_cell BK101.out 1).trans rfl; have hcz64_2 : w63.cell? ⟨gb101, 2, none⟩ = some (.int .i64 a0_2) := (blk_cell BK101.out 2).trans rfl; have hcz64_3 : w63.cell? ⟨gb101, 3, none⟩ = some (.int .i64 a0_3) := (blk_cell BK101.out 3).trans rfl; have hcz64_4 : w63.cell? ⟨gb101, 4, none⟩ = some (.int .i64 a0_4) := (blk_cell BK101.out 4).trans rfl; have hfz64_0 := blk_frozen BK101.out 0; have hfz64_1 := blk_frozen BK101.out 1; have hfz64_2 := blk_frozen BK101.out 2; have hfz64_3 := blk_frozen BK101.out 3; have hfz64_4 := blk_frozen BK101.out 4; obtain ⟨Ao65, co65, eo65⟩ := Kd.R_slice HO120.out; subst eo65) | ((with_reducible refine gate_callee (f := 35) rfl ?_); refine goesL_ (some 91) rfl rfl Try.func35 (by kernel_rfl) rfl #[.agg #[.int .i64 a0_0, .int .i64 a0_1, .int .i64 a0_2, .int .i64 a0_3, .int .i64 a0_4], .slice A1 l1.length c1, .slice A2 l2.length c2, .slice Ao65 t118.length co65, .int .i64 a4] rfl d14b ?_; (with_reducible refine (power_Empty.calls kj19 a0_0 a0_1 a0_2 a0_3 a0_4 _ _ l1 _ _ l2 _ _ t118 a4 t122 false t124 _ ?side1 ?side2 ?side3 ?side4 ?side5 ?side6 A30.out).mono ?_); (case side1 => exact d14l); (case side2 => exact HC1.out); (case side3 => exact d14m); (case side4 => exact HC2.out); (case side5 => exact d14p); (case side6 => exact d14r); rintro e w66 ⟨rfl, hb⟩; refine ⟨_, rfl, ?_⟩; have n0_ := Aside0.mk (Kd.R_below d14e hb); have n1_ := Aside0.mk (Kd.R_below d14g hb); have n2_ := Aside0.mk (blk_below (g := gb101) (o := .cells #[.int .i64 a0_0, .int .i64 a0_1, .int .i64 a0_2, .int .i64 a0_3, .int .i64 a0_4] 23 (0, 0)) d14d hb); have n3_ := Aside0.mk (below_step d14a hb); clear HO_14; clear HO120; clear BK101; clear HB; have HO_14 := n0_; have HO120 := n1_; have BK101 := n2_; have HB := n3_; clear n0_ n1_ n2_ n3_; (try clear hb)) | (go_at_call 52; (with_reducible refine (perigeeref9_Worth.calls kj19 _ _ l2 _ _ t118 t127 _ ?side1 ?side2 ?side3 ?side4 A49.out).mono ?_); (case side1 => exact d14m); (case side2 => exact HC2.out); (case side3 => exact d14p); (case side4 => exact d14r); rintro e w67 ⟨rfl, hb⟩; have n0_ := Aside0.mk (Kd.R_below d14e hb); have n1_ := Aside0.mk (Kd.R_below d14g hb); have n2_ := Aside0.mk (blk_below (g := gb101) (o := .cells #[.int .i64 a0_0, .int .i64 a0_1, .int .i64 a0_2, .int .i64 a0_3, .int .i64 a0_4] 23 (0, 0)) d14d hb); have n3_ := Aside0.mk (below_step d14a hb); clear HO_14; clear HO120; clear BK101; clear HB; have HO_14 := n0_; have HO120 := n1_; have BK101 := n2_; have HB := n3_; clear n0_ n1_ n2_ n3_; (try clear hb)) | (go_at_call 52; (with_reducible refine (perigeeref9_Worth.calls kj19 _ _ l2 _ _ x14_1 t128 _ ?side1 ?side2 ?side3 ?side4 A51.out).mono ?_); (case side1 => exact d14m); (case side2 => exact HC2.out); (case side3 => exact d14o); (case side4 => exact d14q); rintro e w68 ⟨rfl, hb⟩; have n0_ := Aside0.mk (Kd.R_below d14e hb); have n1_ := Aside0.mk (Kd.R_below d14g hb); have n2_ := Aside0.mk (blk_below (g := gb101) (o := .cells #[.int .i64 a0_0, .int .i64 a0_1, .int .i64 a0_2, .int .i64 a0_3, .int .i64 a0_4] 23 (0, 0)) d14d hb); have n3_ := Aside0.mk (below_step d14a hb); clear HO_14; clear HO120; clear BK101; clear HB; have HO_14 := n0_; have HO120 := n1_; have BK101 := n2_; have HB := n3_; clear n0_ n1_ n2_ n3_; (try clear hb)))
                     go_ret
                     exact ⟨d14h, d14a⟩
                 · rw [if_neg c50] at H
                   have c50b0 : decide (t127 ≤ t105) = false := decide_eq_false c50
                   clear c50
                   obtain rfl := Option.some.inj H
                   obtain ⟨hcz69_0, hcz69_1, hcz69_2, hcz69_3, hcz69_4⟩ := blkC5 BK101.out
                   have hfz69_0 := blk_frozen BK101.out 0
                   have hfz69_1 := blk_frozen BK101.out 1
                   have hfz69_2 := blk_frozen BK101.out 2
                   have hfz69_3 := blk_frozen BK101.out 3
                   have hfz69_4 := blk_frozen BK101.out 4
                   go_wp2_with (first | ((with_reducible refine gate_callee (f := 46) rfl ?_); refine goesL_ (some 80) rfl rfl Try.func46 (by kernel_rfl) rfl #[.agg #[.int .i64 a0_0, .int .i64 a0_1, .int .i64 a0_2, .int .i64 a0_3, .int .i64 a0_4], .slice A1 l1.length c1, .slice A2 l2.length c2, .slice A3 l3.length c3, .int .i64 a4] rfl d14b ?_; (with_reducible refine (power_Shed.calls kj19 a0_0 a0_1 a0_2 a0_3 a0_4 _ _ l1 _ _ l2 _ _ l3 a4 t118 t121 _ ?side1 ?side2 ?side3 ?side4 ?side5 ?side6 A28.out).mono ?_); (case side1 => exact d14l); (case side2 => exact HC1.out); (case side3 => exact d14m); (case side4 => exact HC2.out); (case side5 => exact d14n); (case side6 => exact HC3.out); rintro e w70 ⟨v119, rfl, ho0, hb⟩; refine ⟨_, rfl, ?_⟩; have n0_ := Aside0.mk (Kd.R_elder' d14e (Kd.R_base ho0) hb); have n1_ := Aside0.mk (Kd.R_lower (Kd.R_new' ho0 (Kd.R_lt d14e)) (below_size d14a)); have n2_ := Aside0.mk (blk_below (g := gb101) (o := .cells #[.int .i64 a0_0, .int .i64 a0_1, .int .i64 a0_2, .int .i64 a0_3, .int .i64 a0_4] 23 (0, 0)) d14d hb); have n3_ := Aside0.mk (below_step d14a hb); clear HO_14; clear BK101; clear HB; have HO_14 := n0_; have HO120 := n1_; have BK101 := n2_; have HB := n3_; clear n0_ n1_ n2_ n3_; (try clear hb); (try clear ho0); have hcz71_0 : w70.cell? ⟨gb101, 0, none⟩ = some (.int .i64 a0_0) := (blk_cell BK101.out 0).trans rfl; have hcz71_1 : w70.cell? ⟨gb101, 1, none⟩ = some (.int .i64 a0_1) := (blk_cell BK101.out 1).trans rfl; have hcz71_2 : w70.cell? ⟨gb101, 2, none⟩ = some (.int .i64 a0_2) := (blk_cell BK101.out 2).trans rfl; have hcz71_3 : w70.cell? ⟨gb101, 3, none⟩ = some (.int .i64 a0_3) := (blk_cell BK101.out 3).trans rfl; have hcz71_4 : w70.cell? ⟨gb101, 4, none⟩ = some (.int .i64 a0_4) := (blk_cell BK101.out 4).trans rfl; have hfz71_0 := blk_frozen BK101.out 0; have hfz71_1 := blk_frozen BK101.out 1; have hfz71_2 := blk_frozen BK101.out 2; have hfz71_3 := blk_frozen BK101.out 3; have hfz71_4 := blk_frozen BK101.out 4; obtain ⟨Ao72, co72, eo72⟩ := Kd.R_slice HO120.out; subst eo72) | ((with_reducible refine gate_callee (f := 35) rfl ?_); refine goesL_ (some 91) rfl rfl Try.func35 (by kernel_rfl) rfl #[.agg #[.int .i64 a0_0, .int .i64 a0_1, .int .i64 a0_2, .int .i64 a0_3, .int .i64 a0_4], .slice A1 l1.length c1, .slice A2 l2.length c2, .slice Ao72 t118.length co72, .int .i64 a4] rfl d14b ?_; (with_reducible refine (power_Empty.calls kj19 a0_0 a0_1 a0_2 a0_3 a0_4 _ _ l1 _ _ l2 _ _ t118 a4 t122 false t124 _ ?side1 ?side2 ?side3 ?side4 ?side5 ?side6 A30.out).mono ?_); (case side1 => exact d14l); (case side2 => exact HC1.out); (case side3 => exact d14m); (case side4 => exact HC2.out); (case side5 => exact d14p); (case side6 => exact d14r); rintro e w73 ⟨rfl, hb⟩; refine ⟨_, rfl, ?_⟩; have n0_ := Aside0.mk (Kd.R_below d14e hb); have n1_ := Aside0.mk (Kd.R_below d14g hb); have n2_ := Aside0.mk (blk_below (g := gb101) (o := .cells #[.int .i64 a0_0, .int .i64 a0_1, .int .i64 a0_2, .int .i64 a0_3, .int .i64 a0_4] 23 (0, 0)) d14d hb); have n3_ := Aside0.mk (below_step d14a hb); clear HO_14; clear HO120; clear BK101; clear HB; have HO_14 := n0_; have HO120 := n1_; have BK101 := n2_; have HB := n3_; clear n0_ n1_ n2_ n3_; (try clear hb)) | (go_at_call 52; (with_reducible refine (perigeeref9_Worth.calls kj19 _ _ l2 _ _ t118 t127 _ ?side1 ?side2 ?side3 ?side4 A49.out).mono ?_); (case side1 => exact d14m); (case side2 => exact HC2.out); (case side3 => exact d14p); (case side4 => exact d14r); rintro e w74 ⟨rfl, hb⟩; have n0_ := Aside0.mk (Kd.R_below d14e hb); have n1_ := Aside0.mk (Kd.R_below d14g hb); have n2_ := Aside0.mk (blk_below (g := gb101) (o := .cells #[.int .i64 a0_0, .int .i64 a0_1, .int .i64 a0_2, .int .i64 a0_3, .int .i64 a0_4] 23 (0, 0)) d14d hb); have n3_ := Aside0.mk (below_step d14a hb); clear HO_14; clear HO120; clear BK101; clear HB; have HO_14 := n0_; have HO120 := n1_; have BK101 := n2_; have HB := n3_; clear n0_ n1_ n2_ n3_; (try clear hb)))
                   go_ret
                   exact ⟨d14h, d14a⟩
             · rw [if_neg c31] at H
               have c31b0 : (t124 == 0) = false := beq_eq_false_iff_ne.mpr c31
               have c31b1 : (t124 != 0) = true := bne_iff_ne.mpr c31
               obtain rfl := Option.some.inj H
               obtain ⟨hcz75_0, hcz75_1, hcz75_2, hcz75_3, hcz75_4⟩ := blkC5 BK101.out
               have hfz75_0 := blk_frozen BK101.out 0
               have hfz75_1 := blk_frozen BK101.out 1
               have hfz75_2 := blk_frozen BK101.out 2
               have hfz75_3 := blk_frozen BK101.out 3
               have hfz75_4 := blk_frozen BK101.out 4
               go_wp2_with (first | ((with_reducible refine gate_callee (f := 46) rfl ?_); refine goesL_ (some 80) rfl rfl Try.func46 (by kernel_rfl) rfl #[.agg #[.int .i64 a0_0, .int .i64 a0_1, .int .i64 a0_2, .int .i64 a0_3, .int .i64 a0_4], .slice A1 l1.length c1, .slice A2 l2.length c2, .slice A3 l3.length c3, .int .i64 a4] rfl d14b ?_; (with_reducible refine (power_Shed.calls kj19 a0_0 a0_1 a0_2 a0_3 a0_4 _ _ l1 _ _ l2 _ _ l3 a4 t118 t121 _ ?side1 ?side2 ?side3 ?side4 ?side5 ?side6 A28.out).mono ?_); (case side1 => exact d14l); (case side2 => exact HC1.out); (case side3 => exact d14m); (case side4 => exact HC2.out); (case side5 => exact d14n); (case side6 => exact HC3.out); rintro e w76 ⟨v119, rfl, ho0, hb⟩; refine ⟨_, rfl, ?_⟩; have n0_ := Aside0.mk (Kd.R_elder' d14e (Kd.R_base ho0) hb); have n1_ := Aside0.mk (Kd.R_lower (Kd.R_new' ho0 (Kd.R_lt d14e)) (below_size d14a)); have n2_ := Aside0.mk (blk_below (g := gb101) (o := .cells #[.int .i64 a0_0, .int .i64 a0_1, .int .i64 a0_2, .int .i64 a0_3, .int .i64 a0_4] 23 (0, 0)) d14d hb); have n3_ := Aside0.mk (below_step d14a hb); clear HO_14; clear BK101; clear HB; have HO_14 := n0_; have HO120 := n1_; have BK101 := n2_; have HB := n3_; clear n0_ n1_ n2_ n3_; (try clear hb); (try clear ho0); have hcz77_0 : w76.cell? ⟨gb101, 0, none⟩ = some (.int .i64 a0_0) := (blk_cell BK101.out 0).trans rfl; have hcz77_1 : w76.cell? ⟨gb101, 1, none⟩ = some (.int .i64 a0_1) := (blk_cell BK101.out 1).trans rfl; have hcz77_2 : w76.cell? ⟨gb101, 2, none⟩ = some (.int .i64 a0_2) := (blk_cell BK101.out 2).trans rfl; have hcz77_3 : w76.cell? ⟨gb101, 3, none⟩ = some (.int .i64 a0_3) := (blk_cell BK101.out 3).trans rfl; have hcz77_4 : w76.cell? ⟨gb101, 4, none⟩ = some (.int .i64 a0_4) := (blk_cell BK101.out 4).trans rfl; have hfz77_0 := blk_frozen BK101.out 0; have hfz77_1 := blk_frozen BK101.out 1; have hfz77_2 := blk_frozen BK101.out 2; have hfz77_3 := blk_frozen BK101.out 3; have hfz77_4 := blk_frozen BK101.out 4; obtain ⟨Ao78, co78, eo78⟩ := Kd.R_slice HO120.out; subst eo78) | ((with_reducible refine gate_callee (f := 35) rfl ?_); refine goesL_ (some 91) rfl rfl Try.func35 (by kernel_rfl) rfl #[.agg #[.int .i64 a0_0, .int .i64 a0_1, .int .i64 a0_2, .int .i64 a0_3, .int .i64 a0_4], .slice A1 l1.length c1, .slice A2 l2.length c2, .slice Ao78 t118.length co78, .int .i64 a4] rfl d14b ?_; (with_reducible refine (power_Empty.calls kj19 a0_0 a0_1 a0_2 a0_3 a0_4 _ _ l1 _ _ l2 _ _ t118 a4 t122 t123 t124 _ ?side1 ?side2 ?side3 ?side4 ?side5 ?side6 A30.out).mono ?_); (case side1 => exact d14l); (case side2 => exact HC1.out); (case side3 => exact d14m); (case side4 => exact HC2.out); (case side5 => exact d14p); (case side6 => exact d14r); rintro e w79 ⟨rfl, hb⟩; refine ⟨_, rfl, ?_⟩; have n0_ := Aside0.mk (Kd.R_below d14e hb); have n1_ := Aside0.mk (Kd.R_below d14g hb); have n2_ := Aside0.mk (blk_below (g := gb101) (o := .cells #[.int .i64 a0_0, .int .i64 a0_1, .int .i64 a0_2, .int .i64 a0_3, .int .i64 a0_4] 23 (0, 0)) d14d hb); have n3_ := Aside0.mk (below_step d14a hb); clear HO_14; clear HO120; clear BK101; clear HB; have HO_14 := n0_; have HO120 := n1_; have BK101 := n2_; have HB := n3_; clear n0_ n1_ n2_ n3_; (try clear hb)))
               go_ret
               exact ⟨d14h, d14a⟩
           · rw [if_neg c29] at H
             have c29b0 : (t121 == 0) = false := beq_eq_false_iff_ne.mpr c29
             have c29b1 : (t121 != 0) = true := bne_iff_ne.mpr c29
             obtain rfl := Option.some.inj H
             obtain ⟨hcz80_0, hcz80_1, hcz80_2, hcz80_3, hcz80_4⟩ := blkC5 BK101.out
             have hfz80_0 := blk_frozen BK101.out 0
             have hfz80_1 := blk_frozen BK101.out 1
             have hfz80_2 := blk_frozen BK101.out 2
             have hfz80_3 := blk_frozen BK101.out 3
             have hfz80_4 := blk_frozen BK101.out 4
             go_wp2_with ((with_reducible refine gate_callee (f := 46) rfl ?_); refine goesL_ (some 80) rfl rfl Try.func46 (by kernel_rfl) rfl #[.agg #[.int .i64 a0_0, .int .i64 a0_1, .int .i64 a0_2, .int .i64 a0_3, .int .i64 a0_4], .slice A1 l1.length c1, .slice A2 l2.length c2, .slice A3 l3.length c3, .int .i64 a4] rfl d14b ?_; (with_reducible refine (power_Shed.calls kj19 a0_0 a0_1 a0_2 a0_3 a0_4 _ _ l1 _ _ l2 _ _ l3 a4 t118 t121 _ ?side1 ?side2 ?side3 ?side4 ?side5 ?side6 A28.out).mono ?_); (case side1 => exact d14l); (case side2 => exact HC1.out); (case side3 => exact d14m); (case side4 => exact HC2.out); (case side5 => exact d14n); (case side6 => exact HC3.out); rintro e w81 ⟨v119, rfl, ho0, hb⟩; refine ⟨_, rfl, ?_⟩; have n0_ := Aside0.mk (Kd.R_elder' d14e (Kd.R_base ho0) hb); have n1_ := Aside0.mk (Kd.R_lower (Kd.R_new' ho0 (Kd.R_lt d14e)) (below_size d14a)); have n2_ := Aside0.mk (blk_below (g := gb101) (o := .cells #[.int .i64 a0_0, .int .i64 a0_1, .int .i64 a0_2, .int .i64 a0_3, .int .i64 a0_4] 23 (0, 0)) d14d hb); have n3_ := Aside0.mk (below_step d14a hb); clear HO_14; clear BK101; clear HB; have HO_14 := n0_; have HO120 := n1_; have BK101 := n2_; have HB := n3_; clear n0_ n1_ n2_ n3_; (try clear hb); (try clear ho0))
             go_ret
             exact ⟨d14h, d14a⟩
 · rw [if_neg c7] at H
   have c7b0 : (t106 == 0) = false := beq_eq_false_iff_ne.mpr c7
   have c7b1 : (t106 != 0) = true := bne_iff_ne.mpr c7
   by_cases c82 : (t102.length : Int) = 0
   · rw [if_pos c82] at H
     have c82b0 : ((t102.length : Int) == 0) = true := beq_iff_eq.mpr c82
     have c82b1 : ((t102.length : Int) != 0) = false := bne_eq_false_iff_eq.mpr c82
     clear c82
     by_cases c83 : t105 = 0
     · rw [if_pos c83] at H
       have c83b0 : (t105 == 0) = true := beq_iff_eq.mpr c83
       have c83b1 : (t105 != 0) = false := bne_eq_false_iff_eq.mpr c83
       clear c83
       replace H := bindS H; obtain ⟨t107, A84, H⟩ := H
       obtain rfl := Option.some.inj H
       go_enter Try.func14, Try.ntmps14
       go_wp2_with (first | ((with_reducible refine gate_dst (N := 5) rfl ?_); refine box_event ?hg (N := 5) ?hd (cs := #[.int .i64 a0_0, .int .i64 a0_1, .int .i64 a0_2, .int .i64 a0_3, .int .i64 a0_4]) (t := 23) ?hr ?_; (case hd => rfl); (case hg => rfl); (case hr => exact d14k); intro gb101 hg w85 hbox hb; have n0_ := Aside0.mk (below_step d14c hb); have n1_ := Aside0.mk (hbox); have n2_ := Aside0.mk ((by rw [hg]; exact (below_size d14c) : w.heap.size ≤ gb101)); have n3_ := Aside0.mk ((by rw [hg]; exact (below_size d14c) : w.heap.size ≤ gb101)); clear HB; have HB := n0_; have BK101 := n1_; have GW101 := n2_; have GE101 := n3_; clear n0_ n1_ n2_ n3_; clear hb hbox hg; have hcz86_0 : w85.cell? ⟨gb101, 0, none⟩ = some (.int .i64 a0_0) := (blk_cell BK101.out 0).trans rfl; have hcz86_1 : w85.cell? ⟨gb101, 1, none⟩ = some (.int .i64 a0_1) := (blk_cell BK101.out 1).trans rfl; have hcz86_2 : w85.cell? ⟨gb101, 2, none⟩ = some (.int .i64 a0_2) := (blk_cell BK101.out 2).trans rfl; have hcz86_3 : w85.cell? ⟨gb101, 3, none⟩ = some (.int .i64 a0_3) := (blk_cell BK101.out 3).trans rfl; have hcz86_4 : w85.cell? ⟨gb101, 4, none⟩ = some (.int .i64 a0_4) := (blk_cell BK101.out 4).trans rfl; have hfz86_0 := blk_frozen BK101.out 0; have hfz86_1 := blk_frozen BK101.out 1; have hfz86_2 := blk_frozen BK101.out 2; have hfz86_3 := blk_frozen BK101.out 3; have hfz86_4 := blk_frozen BK101.out 4) | ((with_reducible refine gate_callee (f := 49) rfl ?_); refine goesL_ (some 27) rfl rfl Try.func49 (by kernel_rfl) rfl #[.agg #[.int .i64 a0_0, .int .i64 a0_1, .int .i64 a0_2, .int .i64 a0_3, .int .i64 a0_4], .slice A1 l1.length c1, .slice A2 l2.length c2, .slice A3 l3.length c3, .int .i64 a4] rfl d14b ?_; (with_reducible refine (power_Kept.calls k a0_0 a0_1 a0_2 a0_3 a0_4 _ _ l1 _ _ l2 _ _ l3 a4 t102 t105 t106 _ ?side1 ?side2 ?side3 ?side4 ?side5 ?side6 A6.out).mono ?_); (case side1 => exact d14l); (case side2 => exact HC1.out); (case side3 => exact d14m); (case side4 => exact HC2.out); (case side5 => exact d14n); (case side6 => exact HC3.out); rintro e w87 ⟨v103, rfl, ho0, hb⟩; refine ⟨_, rfl, ?_⟩; have n0_ := Aside0.mk (Kd.R_lower ho0 (below_size d14a)); have n1_ := Aside0.mk (blk_below (g := gb101) (o := .cells #[.int .i64 a0_0, .int .i64 a0_1, .int .i64 a0_2, .int .i64 a0_3, .int .i64 a0_4] 23 (0, 0)) d14d hb); have n2_ := Aside0.mk (below_step d14a hb); clear BK101; clear HB; have HO104 := n0_; have BK101 := n1_; have HB := n2_; clear n0_ n1_ n2_; (try clear hb); (try clear ho0); obtain ⟨Ao88, co88, eo88⟩ := Kd.R_slice HO104.out; subst eo88) | (go_at_call 27; (with_reducible refine (perigeelaw9_awake.calls k  t107 _ A84.out).mono ?_); rintro e w89 ⟨rfl, hb⟩; have n0_ := Aside0.mk (Kd.R_below (by (with_reducible repeat (first | apply Kd.R_alloc | apply Kd.R_drewN | apply Kd.R_drew)); exact HO104.out) hb); have n1_ := Aside0.mk (blk_below (g := gb101) (o := .cells #[.int .i64 a0_0, .int .i64 a0_1, .int .i64 a0_2, .int .i64 a0_3, .int .i64 a0_4] 23 (0, 0)) d14d hb); have n2_ := Aside0.mk (below_step d14a hb); clear HO104; clear BK101; clear HB; have HO104 := n0_; have BK101 := n1_; have HB := n2_; clear n0_ n1_ n2_; (try clear hb)))
       go_ret
       exact ⟨d14h, d14a⟩
     · rw [if_neg c83] at H
       have c83b0 : (t105 == 0) = false := beq_eq_false_iff_ne.mpr c83
       have c83b1 : (t105 != 0) = true := bne_iff_ne.mpr c83
       obtain rfl := Option.some.inj H
       go_enter Try.func14, Try.ntmps14
       go_wp2_with (first | ((with_reducible refine gate_dst (N := 5) rfl ?_); refine box_event ?hg (N := 5) ?hd (cs := #[.int .i64 a0_0, .int .i64 a0_1, .int .i64 a0_2, .int .i64 a0_3, .int .i64 a0_4]) (t := 23) ?hr ?_; (case hd => rfl); (case hg => rfl); (case hr => exact d14k); intro gb101 hg w90 hbox hb; have n0_ := Aside0.mk (below_step d14c hb); have n1_ := Aside0.mk (hbox); have n2_ := Aside0.mk ((by rw [hg]; exact (below_size d14c) : w.heap.size ≤ gb101)); have n3_ := Aside0.mk ((by rw [hg]; exact (below_size d14c) : w.heap.size ≤ gb101)); clear HB; have HB := n0_; have BK101 := n1_; have GW101 := n2_; have GE101 := n3_; clear n0_ n1_ n2_ n3_; clear hb hbox hg; have hcz91_0 : w90.cell? ⟨gb101, 0, none⟩ = some (.int .i64 a0_0) := (blk_cell BK101.out 0).trans rfl; have hcz91_1 : w90.cell? ⟨gb101, 1, none⟩ = some (.int .i64 a0_1) := (blk_cell BK101.out 1).trans rfl; have hcz91_2 : w90.cell? ⟨gb101, 2, none⟩ = some (.int .i64 a0_2) := (blk_cell BK101.out 2).trans rfl; have hcz91_3 : w90.cell? ⟨gb101, 3, none⟩ = some (.int .i64 a0_3) := (blk_cell BK101.out 3).trans rfl; have hcz91_4 : w90.cell? ⟨gb101, 4, none⟩ = some (.int .i64 a0_4) := (blk_cell BK101.out 4).trans rfl; have hfz91_0 := blk_frozen BK101.out 0; have hfz91_1 := blk_frozen BK101.out 1; have hfz91_2 := blk_frozen BK101.out 2; have hfz91_3 := blk_frozen BK101.out 3; have hfz91_4 := blk_frozen BK101.out 4) | ((with_reducible refine gate_callee (f := 49) rfl ?_); refine goesL_ (some 27) rfl rfl Try.func49 (by kernel_rfl) rfl #[.agg #[.int .i64 a0_0, .int .i64 a0_1, .int .i64 a0_2, .int .i64 a0_3, .int .i64 a0_4], .slice A1 l1.length c1, .slice A2 l2.length c2, .slice A3 l3.length c3, .int .i64 a4] rfl d14b ?_; (with_reducible refine (power_Kept.calls k a0_0 a0_1 a0_2 a0_3 a0_4 _ _ l1 _ _ l2 _ _ l3 a4 t102 t105 t106 _ ?side1 ?side2 ?side3 ?side4 ?side5 ?side6 A6.out).mono ?_); (case side1 => exact d14l); (case side2 => exact HC1.out); (case side3 => exact d14m); (case side4 => exact HC2.out); (case side5 => exact d14n); (case side6 => exact HC3.out); rintro e w92 ⟨v103, rfl, ho0, hb⟩; refine ⟨_, rfl, ?_⟩; have n0_ := Aside0.mk (Kd.R_lower ho0 (below_size d14a)); have n1_ := Aside0.mk (blk_below (g := gb101) (o := .cells #[.int .i64 a0_0, .int .i64 a0_1, .int .i64 a0_2, .int .i64 a0_3, .int .i64 a0_4] 23 (0, 0)) d14d hb); have n2_ := Aside0.mk (below_step d14a hb); clear BK101; clear HB; have HO104 := n0_; have BK101 := n1_; have HB := n2_; clear n0_ n1_ n2_; (try clear hb); (try clear ho0); obtain ⟨Ao93, co93, eo93⟩ := Kd.R_slice HO104.out; subst eo93))
       go_ret
       exact ⟨d14h, d14a⟩
   · rw [if_neg c82] at H
     have c82b0 : ((t102.length : Int) == 0) = false := beq_eq_false_iff_ne.mpr c82
     have c82b1 : ((t102.length : Int) != 0) = true := bne_iff_ne.mpr c82
     have c82b2 : ¬ (t102 = []) := fun h_ => c82 (by rw [h_]; rfl)
     obtain rfl := Option.some.inj H
     go_enter Try.func14, Try.ntmps14
     go_wp2_with (first | ((with_reducible refine gate_dst (N := 5) rfl ?_); refine box_event ?hg (N := 5) ?hd (cs := #[.int .i64 a0_0, .int .i64 a0_1, .int .i64 a0_2, .int .i64 a0_3, .int .i64 a0_4]) (t := 23) ?hr ?_; (case hd => rfl); (case hg => rfl); (case hr => exact d14k); intro gb101 hg w94 hbox hb; have n0_ := Aside0.mk (below_step d14c hb); have n1_ := Aside0.mk (hbox); have n2_ := Aside0.mk ((by rw [hg]; exact (below_size d14c) : w.heap.size ≤ gb101)); have n3_ := Aside0.mk ((by rw [hg]; exact (below_size d14c) : w.heap.size ≤ gb101)); clear HB; have HB := n0_; have BK101 := n1_; have GW101 := n2_; have GE101 := n3_; clear n0_ n1_ n2_ n3_; clear hb hbox hg; have hcz95_0 : w94.cell? ⟨gb101, 0, none⟩ = some (.int .i64 a0_0) := (blk_cell BK101.out 0).trans rfl; have hcz95_1 : w94.cell? ⟨gb101, 1, none⟩ = some (.int .i64 a0_1) := (blk_cell BK101.out 1).trans rfl; have hcz95_2 : w94.cell? ⟨gb101, 2, none⟩ = some (.int .i64 a0_2) := (blk_cell BK101.out 2).trans rfl; have hcz95_3 : w94.cell? ⟨gb101, 3, none⟩ = some (.int .i64 a0_3) := (blk_cell BK101.out 3).trans rfl; have hcz95_4 : w94.cell? ⟨gb101, 4, none⟩ = some (.int .i64 a0_4) := (blk_cell BK101.out 4).trans rfl; have hfz95_0 := blk_frozen BK101.out 0; have hfz95_1 := blk_frozen BK101.out 1; have hfz95_2 := blk_frozen BK101.out 2; have hfz95_3 := blk_frozen BK101.out 3; have hfz95_4 := blk_frozen BK101.out 4) | ((with_reducible refine gate_callee (f := 49) rfl ?_); refine goesL_ (some 27) rfl rfl Try.func49 (by kernel_rfl) rfl #[.agg #[.int .i64 a0_0, .int .i64 a0_1, .int .i64 a0_2, .int .i64 a0_3, .int .i64 a0_4], .slice A1 l1.length c1, .slice A2 l2.length c2, .slice A3 l3.length c3, .int .i64 a4] rfl d14b ?_; (with_reducible refine (power_Kept.calls k a0_0 a0_1 a0_2 a0_3 a0_4 _ _ l1 _ _ l2 _ _ l3 a4 t102 t105 t106 _ ?side1 ?side2 ?side3 ?side4 ?side5 ?side6 A6.out).mono ?_); (case side1 => exact d14l); (case side2 => exact HC1.out); (case side3 => exact d14m); (case side4 => exact HC2.out); (case side5 => exact d14n); (case side6 => exact HC3.out); rintro e w96 ⟨v103, rfl, ho0, hb⟩; refine ⟨_, rfl, ?_⟩; have n0_ := Aside0.mk (Kd.R_lower ho0 (below_size d14a)); have n1_ := Aside0.mk (blk_below (g := gb101) (o := .cells #[.int .i64 a0_0, .int .i64 a0_1, .int .i64 a0_2, .int .i64 a0_3, .int .i64 a0_4] 23 (0, 0)) d14d hb); have n2_ := Aside0.mk (below_step d14a hb); clear BK101; clear HB; have HO104 := n0_; have BK101 := n1_; have HB := n2_; clear n0_ n1_ n2_; (try clear hb); (try clear ho0); obtain ⟨Ao97, co97, eo97⟩ := Kd.R_slice HO104.out; subst eo97))
     go_ret
     exact ⟨d14h, d14a⟩
end Go.Proofs.Ytplcdpiggpkppaa.Q
