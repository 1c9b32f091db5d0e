-- Made by wip/tools/claimp.py of this session's texts; Lean checks it.
import Derived.Test.YtbngmblgkkdhpaaC10Q0
import Derived.Test.YtbngmblgkkdhpaaC10Gs1
import Derived.Test.YtbngmblgkkdhpaaC10Gs3
namespace Go.Proofs.Ytbngmblgkkdhpaa.Q
open Go.RowKit Go.Proofs.YtbngmblgkkdhpaaW.PrintWords Go.Proofs.YtbngmblgkkdhpaaW.PrintLast Go.Proofs.YtbngmblgkkdhpaaW.PrintMore
attribute [local go_sem] max2_int min2_int max_two min_two max_three min_three max_four min_four
open Go.Proofs.Ytbngmblgkkdhpaa.Base
attribute [local go_sem high] str_leq str_gtr str_geq
set_option linter.unusedVariables false
set_option linter.unusedSimpArgs false
mutual
def contact_CheckItems.l0 : Nat → List (S63) → List (S63) → Int → Int → Option (Int)
  | 0, _, _, _, _ => none
  | k + 1, x0, x8, x9, x10 => if x10 < x9 then (if 0 ≤ x10 then (if x10 < (x8.length : Int) then ((monitor_IsName.f k ((rd_T63 x8 x10).f0)).bind fun t103 => (if t103 = true then ((kit_In.f ((rd_T63 x8 x10).f1) 0 1000000000000).bind fun t104 => (if t104 = true then ((kit_In.f ((rd_T63 x8 x10).f2) 0 100).bind fun t105 => (if t105 = true then ((kit_In.f ((rd_T63 x8 x10).f3) 0 1000000000000).bind fun t106 => (if t106 = true then ((kit_In.f ((rd_T63 x8 x10).f4) 0 1000000000000).bind fun t107 => (contact_CheckItems.j1 k x0 x10 x8 x9 x10 (!t107) ((rd_T63 x8 x10).f0) ((rd_T63 x8 x10).f1) ((rd_T63 x8 x10).f2) ((rd_T63 x8 x10).f3) ((rd_T63 x8 x10).f4))) else (contact_CheckItems.j1 k x0 x10 x8 x9 x10 true ((rd_T63 x8 x10).f0) ((rd_T63 x8 x10).f1) ((rd_T63 x8 x10).f2) ((rd_T63 x8 x10).f3) ((rd_T63 x8 x10).f4)))) else (contact_CheckItems.j1 k x0 x10 x8 x9 x10 true ((rd_T63 x8 x10).f0) ((rd_T63 x8 x10).f1) ((rd_T63 x8 x10).f2) ((rd_T63 x8 x10).f3) ((rd_T63 x8 x10).f4)))) else (contact_CheckItems.j1 k x0 x10 x8 x9 x10 true ((rd_T63 x8 x10).f0) ((rd_T63 x8 x10).f1) ((rd_T63 x8 x10).f2) ((rd_T63 x8 x10).f3) ((rd_T63 x8 x10).f4)))) else (some 5))) else (none)) else (none)) else (some 0)
def contact_CheckItems.j1 : Nat → List (S63) → Int → List (S63) → Int → Int → Bool → ByteArray → Int → Int → Int → Int → Option (Int)
  | 0, _, _, _, _, _, _, _, _, _, _, _ => none
  | k + 1, x0, x3, x8, x9, x10, x20, x103000, x103001, x103002, x103003, x103004 => if x20 = true then (some 1) else (if x103004 < x103003 then (some 8) else (if x3 > 0 then (if 0 ≤ (wrap64 (x3 - 1)) then (if (wrap64 (x3 - 1)) < (x0.length : Int) then (if ((Op.bytesLess (((rd_T63 x0 (wrap64 (x3 - 1))).f0).toList) x103000.toList) = true) then (contact_CheckItems.l0 k x0 x8 x9 (wrap64 (x10 + 1))) else (some 8)) else (none)) else (none)) else (contact_CheckItems.l0 k x0 x8 x9 (wrap64 (x10 + 1)))))
end
def contact_CheckItems.f (k : Nat) (l0 : List (S63)) : Option (Int) := if (l0.length : Int) > 300 then (some 2) else (contact_CheckItems.l0 k l0 l0 (l0.length : Int) 0)
theorem d68a {p : Prop} (h : p := by (with_reducible repeat (first | refine blk_drewN ?_ _ | refine blk_drew ?_ | refine blk_alloc ?_ _)); refine blk_put (cs := #[.string ((rd_T63 l0 x10_1).f0), .int .i64 ((rd_T63 l0 x10_1).f1), .int .i64 ((rd_T63 l0 x10_1).f2), .int .i64 ((rd_T63 l0 x10_1).f3), .int .i64 0]) ?_ 4 _ rfl; (with_reducible repeat (first | refine blk_drewN ?_ _ | refine blk_drew ?_ | refine blk_alloc ?_ _)); refine blk_put (cs := #[.string ((rd_T63 l0 x10_1).f0), .int .i64 ((rd_T63 l0 x10_1).f1), .int .i64 ((rd_T63 l0 x10_1).f2), .int .i64 0, .int .i64 0]) ?_ 3 _ rfl; (with_reducible repeat (first | refine blk_drewN ?_ _ | refine blk_drew ?_ | refine blk_alloc ?_ _)); refine blk_put (cs := #[.string ((rd_T63 l0 x10_1).f0), .int .i64 ((rd_T63 l0 x10_1).f1), .int .i64 0, .int .i64 0, .int .i64 0]) ?_ 2 _ rfl; (with_reducible repeat (first | refine blk_drewN ?_ _ | refine blk_drew ?_ | refine blk_alloc ?_ _)); refine blk_put (cs := #[.string ((rd_T63 l0 x10_1).f0), .int .i64 0, .int .i64 0, .int .i64 0, .int .i64 0]) ?_ 1 _ rfl; (with_reducible repeat (first | refine blk_drewN ?_ _ | refine blk_drew ?_ | refine blk_alloc ?_ _)); refine blk_put (cs := #[.string (⟨#[]⟩ : ByteArray), .int .i64 0, .int .i64 0, .int .i64 0, .int .i64 0]) ?_ 0 _ rfl; (with_reducible repeat (first | refine blk_drewN ?_ _ | refine blk_drew ?_ | refine blk_alloc ?_ _)); exact BK102.out) : p := h
theorem d68b {p : Prop} (h : p := by repeat (first | (with_reducible first | exact HB.out | apply below_alloc | apply pw_below_drewN | apply below_drew1 | refine below_set ?_ GE102.out) | exact HB.out)) : p := h
theorem d68c {p : Prop} (h : p := by repeat (first | (with_reducible first | exact HB.out | apply below_alloc | apply pw_below_drewN | apply below_drew1) | exact HB.out)) : p := h
theorem d68d {p : Prop} (h : p := by first | rfl | (simp [errW_none, errW_some] <;> rfl) | (simp [*, errW_none, errW_some] <;> rfl)) : p := h
theorem d68e {p : Prop} (h : p := by first | (with_reducible assumption) | assumption) : p := h
theorem d68f {p : Prop} (h : p := by first | rfl | (simp; done) | (simp [*]; done)) : p := h
set_option maxHeartbeats 8000000 in
set_option maxRecDepth 100000 in
theorem contact_CheckItems.calls (k : Nat) (A0 : Option Addr) (c0 : Nat) (l0 : List (S63)) (r : Int) (w : World) (hr0 : Kd.C k63 w A0 l0.length l0) (hc0 : l0.length ≤ c0) (h : contact_CheckItems.f k l0 = some r) :
 Calls Try.prog 68 #[.slice A0 l0.length c0] w fun e w' => e = .returned (.int .i64 r) ∧ Below w.heap.size w w' := by
 have hu63 := Try.underlying63
 have HR0 := Aside0.mk hr0
 have HC0 := Aside0.mk hc0
 clear hr0 hc0
 have HB := Aside0.mk (Below.refl w.heap.size w)
 have H : (if (l0.length : Int) > 300 then (some 2) else (contact_CheckItems.l0 k l0 l0 (l0.length : Int) 0)) = some r := h
 clear h
 by_cases c2 : (l0.length : Int) > 300
 · rw [if_pos c2] at H
   have c2b0 : decide (300 < (l0.length : Int)) = true := decide_eq_true c2
   have c2b1 : decide (300 < l0.length) = true := decide_eq_true (by omega)
   clear c2
   obtain rfl := Option.some.inj H
   go_enter Try.func68, Try.ntmps68
   go_wp2
   go_ret
   exact ⟨d68d, d68c⟩
 · rw [if_neg c2] at H
   have c2b0 : decide (300 < (l0.length : Int)) = false := decide_eq_false c2
   have c2b1 : decide (300 < l0.length) = false := decide_eq_false (by omega)
   clear c2
   have H' := Aside0.mk H
   clear H
   go_enter Try.func68, Try.ntmps68
   go_wp2
   go_loopg [10] k (fun kq v10 w' => ∃ (x10_1 : Int), v10 = .int .i64 x10_1 ∧ Aside0 (contact_CheckItems.l0 kq l0 l0 (l0.length : Int) x10_1 = some r) ∧ Aside0 (kq ≤ k) ∧ Aside0 (Below w.heap.size w w'))
   case atStart => exact ⟨(0), d68f, H', ⟨Nat.le_refl _⟩, ⟨d68c⟩⟩
   case round =>
    clear H'
    try clear c2b0
    try clear c2b1
    obtain ⟨x10_1, rfl, HA, HK1, HB⟩ := hrel
    cases gk with
    | zero => exact absurd HA.out (by simp [contact_CheckItems.l0])
    | succ k1 =>
     have H := HA.out
     clear HA
     simp only [contact_CheckItems.l0] at H
     by_cases c3 : x10_1 < (l0.length : Int)
     · rw [if_pos c3] at H
       have c3b0 : decide (x10_1 < (l0.length : Int)) = true := decide_eq_true c3
       clear c3
       replace H := guardT H; obtain ⟨c4, H⟩ := H
       have c4b0 : decide (0 ≤ x10_1) = true := decide_eq_true c4
       clear c4
       replace H := guardT H; obtain ⟨c5, H⟩ := H
       have c5b0 : decide (x10_1 < (l0.length : Int)) = true := decide_eq_true c5
       clear c5
       replace H := bindS H; obtain ⟨t103, A6, H⟩ := H
       by_cases c7 : t103 = true
       · subst c7
         replace H := iteT H
         have HC8 := Aside0.mk H
         clear H
         have p101 : 0 ≤ (x10_1 : Int) := of_decide_eq_true d68e
         have q101 : x10_1 < (l0.length : Int) := of_decide_eq_true d68e
         obtain ⟨ad101, e101, hx101_0, hx101_1, hx101_2, hx101_3, hx101_4⟩ := at_T63 HR0.out x10_1 p101 q101
         cases e101
         replace hx101_0 := cellB HB.out hx101_0
         replace hx101_1 := cellB HB.out hx101_1
         replace hx101_2 := cellB HB.out hx101_2
         replace hx101_3 := cellB HB.out hx101_3
         replace hx101_4 := cellB HB.out hx101_4
         replace p101 := eq_true p101
         replace q101 := eq_true q101
         go_upto_region 8 with (first | ((with_reducible refine gate_dst (N := 4) rfl ?_); refine box_event ?hg (N := 4) ?hd (cs := #[.string (⟨#[]⟩ : ByteArray), .int .i64 0, .int .i64 0, .int .i64 0, .int .i64 0]) (t := 63) ?hr ?_; (case hd => rfl); (case hg => rfl); (case hr => first | (go_simp; done) | (go_simp; rfl)); intro gb102 hg w9 hbox hb; have n0_ := Aside0.mk (below_step d68c hb); have n1_ := Aside0.mk (hbox); have n2_ := Aside0.mk ((by rw [hg]; exact (below_size d68c) : w.heap.size ≤ gb102)); have n3_ := Aside0.mk ((by rw [hg]; exact (below_size d68c) : w.heap.size ≤ gb102)); clear HB; have HB := n0_; have BK102 := n1_; have GW102 := n2_; have GE102 := n3_; clear n0_ n1_ n2_ n3_; clear hb hbox hg; have hcz10_0 : w9.cell? ⟨gb102, 0, none⟩ = some (.string (⟨#[]⟩ : ByteArray)) := (blk_cell BK102.out 0).trans rfl; have hcz10_1 : w9.cell? ⟨gb102, 1, none⟩ = some (.int .i64 0) := (blk_cell BK102.out 1).trans rfl; have hcz10_2 : w9.cell? ⟨gb102, 2, none⟩ = some (.int .i64 0) := (blk_cell BK102.out 2).trans rfl; have hcz10_3 : w9.cell? ⟨gb102, 3, none⟩ = some (.int .i64 0) := (blk_cell BK102.out 3).trans rfl; have hcz10_4 : w9.cell? ⟨gb102, 4, none⟩ = some (.int .i64 0) := (blk_cell BK102.out 4).trans rfl; have hfz10_0 := blk_frozen BK102.out 0; have hfz10_1 := blk_frozen BK102.out 1; have hfz10_2 := blk_frozen BK102.out 2; have hfz10_3 := blk_frozen BK102.out 3; have hfz10_4 := blk_frozen BK102.out 4) | (go_at_call 78; (with_reducible refine (monitor_IsName.calls k1 ((rd_T63 l0 x10_1).f0) true _ A6.out).mono ?_); rintro e w' ⟨rfl, ⟨nd, rfl⟩⟩; (try first | exact ⟨rfl, _, World.drewN_drewN _ _ _⟩ | exact ⟨rfl, _, Eq.trans (World.drewN_drewN _ _ _) (congrArg (World.drewN _) (Nat.add_assoc _ _ _))⟩)))
         (try simp only [Act.put, List.setIfInBounds_toArray, List.set_cons_zero, List.set_cons_succ])
         go_cut [20] (fun v20 wc => ∃ (kq : Nat) (x20_7 : Bool), v20 = .bool x20_7 ∧ Aside0 (contact_CheckItems.j1 kq l0 x10_1 l0 (l0.length : Int) x10_1 x20_7 ((rd_T63 l0 x10_1).f0) ((rd_T63 l0 x10_1).f1) ((rd_T63 l0 x10_1).f2) ((rd_T63 l0 x10_1).f3) ((rd_T63 l0 x10_1).f4) = some r) ∧ Aside0 (kq ≤ k1) ∧ Aside0 (wc.heap[gb102]? = some (.cells #[.string ((rd_T63 l0 x10_1).f0), .int .i64 ((rd_T63 l0 x10_1).f1), .int .i64 ((rd_T63 l0 x10_1).f2), .int .i64 ((rd_T63 l0 x10_1).f3), .int .i64 ((rd_T63 l0 x10_1).f4)] 63 (0, 0))) ∧ Aside0 (Below w.heap.size w wc))
         case first =>
          have H := HC8.out
          clear HC8
          replace H := bindS H; obtain ⟨t104, A11, H⟩ := H
          by_cases c12 : t104 = true
          · subst c12
            replace H := iteT H
            replace H := bindS H; obtain ⟨t105, A13, H⟩ := H
            by_cases c14 : t105 = true
            · subst c14
              replace H := iteT H
              replace H := bindS H; obtain ⟨t106, A15, H⟩ := H
              by_cases c16 : t106 = true
              · subst c16
                replace H := iteT H
                replace H := bindS H; obtain ⟨t107, A17, H⟩ := H
                have H' := Aside0.mk H
                clear H
                obtain ⟨hcz18_0, hcz18_1, hcz18_2, hcz18_3, hcz18_4⟩ := blkC5 BK102.out
                have hfz18_0 := blk_frozen BK102.out 0
                have hfz18_1 := blk_frozen BK102.out 1
                have hfz18_2 := blk_frozen BK102.out 2
                have hfz18_3 := blk_frozen BK102.out 3
                have hfz18_4 := blk_frozen BK102.out 4
                go_wp2_with (first | (go_at_call 76; (with_reducible refine (kit_In.calls ((rd_T63 l0 x10_1).f1) 0 1000000000000 true _ A11.out).mono ?_); rintro e w' ⟨rfl, ⟨nd, rfl⟩⟩; (try first | exact ⟨rfl, _, World.drewN_drewN _ _ _⟩ | exact ⟨rfl, _, Eq.trans (World.drewN_drewN _ _ _) (congrArg (World.drewN _) (Nat.add_assoc _ _ _))⟩)) | (go_at_call 76; (with_reducible refine (kit_In.calls ((rd_T63 l0 x10_1).f2) 0 100 true _ A13.out).mono ?_); rintro e w' ⟨rfl, ⟨nd, rfl⟩⟩; (try first | exact ⟨rfl, _, World.drewN_drewN _ _ _⟩ | exact ⟨rfl, _, Eq.trans (World.drewN_drewN _ _ _) (congrArg (World.drewN _) (Nat.add_assoc _ _ _))⟩)) | (go_at_call 76; (with_reducible refine (kit_In.calls ((rd_T63 l0 x10_1).f3) 0 1000000000000 true _ A15.out).mono ?_); rintro e w' ⟨rfl, ⟨nd, rfl⟩⟩; (try first | exact ⟨rfl, _, World.drewN_drewN _ _ _⟩ | exact ⟨rfl, _, Eq.trans (World.drewN_drewN _ _ _) (congrArg (World.drewN _) (Nat.add_assoc _ _ _))⟩)) | (go_at_call 76; (with_reducible refine (kit_In.calls ((rd_T63 l0 x10_1).f4) 0 1000000000000 t107 _ A17.out).mono ?_); rintro e w' ⟨rfl, ⟨nd, rfl⟩⟩; (try first | exact ⟨rfl, _, World.drewN_drewN _ _ _⟩ | exact ⟨rfl, _, Eq.trans (World.drewN_drewN _ _ _) (congrArg (World.drewN _) (Nat.add_assoc _ _ _))⟩)))
                go_meet
                case rel => exact ⟨_, (!t107), d68f, H', ⟨by have := HK1.out; first | omega | exact Nat.le_refl _⟩, ⟨d68a⟩, ⟨d68b⟩⟩
              · replace c16 := Bool.eq_false_iff.mpr c16
                subst c16
                replace H := iteF H
                have H' := Aside0.mk H
                clear H
                obtain ⟨hcz19_0, hcz19_1, hcz19_2, hcz19_3, hcz19_4⟩ := blkC5 BK102.out
                have hfz19_0 := blk_frozen BK102.out 0
                have hfz19_1 := blk_frozen BK102.out 1
                have hfz19_2 := blk_frozen BK102.out 2
                have hfz19_3 := blk_frozen BK102.out 3
                have hfz19_4 := blk_frozen BK102.out 4
                go_wp2_with (first | (go_at_call 76; (with_reducible refine (kit_In.calls ((rd_T63 l0 x10_1).f1) 0 1000000000000 true _ A11.out).mono ?_); rintro e w' ⟨rfl, ⟨nd, rfl⟩⟩; (try first | exact ⟨rfl, _, World.drewN_drewN _ _ _⟩ | exact ⟨rfl, _, Eq.trans (World.drewN_drewN _ _ _) (congrArg (World.drewN _) (Nat.add_assoc _ _ _))⟩)) | (go_at_call 76; (with_reducible refine (kit_In.calls ((rd_T63 l0 x10_1).f2) 0 100 true _ A13.out).mono ?_); rintro e w' ⟨rfl, ⟨nd, rfl⟩⟩; (try first | exact ⟨rfl, _, World.drewN_drewN _ _ _⟩ | exact ⟨rfl, _, Eq.trans (World.drewN_drewN _ _ _) (congrArg (World.drewN _) (Nat.add_assoc _ _ _))⟩)) | (go_at_call 76; (with_reducible refine (kit_In.calls ((rd_T63 l0 x10_1).f3) 0 1000000000000 false _ A15.out).mono ?_); rintro e w' ⟨rfl, ⟨nd, rfl⟩⟩; (try first | exact ⟨rfl, _, World.drewN_drewN _ _ _⟩ | exact ⟨rfl, _, Eq.trans (World.drewN_drewN _ _ _) (congrArg (World.drewN _) (Nat.add_assoc _ _ _))⟩)))
                go_meet
                case rel => exact ⟨_, (true), d68f, H', ⟨by have := HK1.out; first | omega | exact Nat.le_refl _⟩, ⟨d68a⟩, ⟨d68b⟩⟩
            · replace c14 := Bool.eq_false_iff.mpr c14
              subst c14
              replace H := iteF H
              have H' := Aside0.mk H
              clear H
              obtain ⟨hcz20_0, hcz20_1, hcz20_2, hcz20_3, hcz20_4⟩ := blkC5 BK102.out
              have hfz20_0 := blk_frozen BK102.out 0
              have hfz20_1 := blk_frozen BK102.out 1
              have hfz20_2 := blk_frozen BK102.out 2
              have hfz20_3 := blk_frozen BK102.out 3
              have hfz20_4 := blk_frozen BK102.out 4
              go_wp2_with (first | (go_at_call 76; (with_reducible refine (kit_In.calls ((rd_T63 l0 x10_1).f1) 0 1000000000000 true _ A11.out).mono ?_); rintro e w' ⟨rfl, ⟨nd, rfl⟩⟩; (try first | exact ⟨rfl, _, World.drewN_drewN _ _ _⟩ | exact ⟨rfl, _, Eq.trans (World.drewN_drewN _ _ _) (congrArg (World.drewN _) (Nat.add_assoc _ _ _))⟩)) | (go_at_call 76; (with_reducible refine (kit_In.calls ((rd_T63 l0 x10_1).f2) 0 100 false _ A13.out).mono ?_); rintro e w' ⟨rfl, ⟨nd, rfl⟩⟩; (try first | exact ⟨rfl, _, World.drewN_drewN _ _ _⟩ | exact ⟨rfl, _, Eq.trans (World.drewN_drewN _ _ _) (congrArg (World.drewN _) (Nat.add_assoc _ _ _))⟩)))
              go_meet
              case rel => exact ⟨_, (true), d68f, H', ⟨by have := HK1.out; first | omega | exact Nat.le_refl _⟩, ⟨d68a⟩, ⟨d68b⟩⟩
          · replace c12 := Bool.eq_false_iff.mpr c12
            subst c12
            replace H := iteF H
            have H' := Aside0.mk H
            clear H
            obtain ⟨hcz21_0, hcz21_1, hcz21_2, hcz21_3, hcz21_4⟩ := blkC5 BK102.out
            have hfz21_0 := blk_frozen BK102.out 0
            have hfz21_1 := blk_frozen BK102.out 1
            have hfz21_2 := blk_frozen BK102.out 2
            have hfz21_3 := blk_frozen BK102.out 3
            have hfz21_4 := blk_frozen BK102.out 4
            go_wp2_with (go_at_call 76; (with_reducible refine (kit_In.calls ((rd_T63 l0 x10_1).f1) 0 1000000000000 false _ A11.out).mono ?_); rintro e w' ⟨rfl, ⟨nd, rfl⟩⟩; (try first | exact ⟨rfl, _, World.drewN_drewN _ _ _⟩ | exact ⟨rfl, _, Eq.trans (World.drewN_drewN _ _ _) (congrArg (World.drewN _) (Nat.add_assoc _ _ _))⟩))
            go_meet
            case rel => exact ⟨_, (true), d68f, H', ⟨by have := HK1.out; first | omega | exact Nat.le_refl _⟩, ⟨d68a⟩, ⟨d68b⟩⟩
         case rest =>
          clear HC8
          try clear c3b0
          try clear c4b0
          try clear c5b0
          try clear hcz10_0
          try clear hcz10_1
          try clear hcz10_2
          try clear hcz10_3
          try clear hcz10_4
          try clear hfz10_0
          try clear hfz10_1
          try clear hfz10_2
          try clear hfz10_3
          try clear hfz10_4
          try clear hx101_0
          try clear hx101_1
          try clear hx101_2
          try clear hx101_3
          try clear hx101_4
          try clear p101
          try clear q101
          obtain ⟨kq, x20_7, rfl, HA, HJ7, BK102, HB⟩ := hcut
          cases kq with
          | zero => exact absurd HA.out (by simp [contact_CheckItems.j1])
          | succ kj7 =>
           have H := HA.out
           clear HA
           simp only [contact_CheckItems.j1] at H
           by_cases c22 : x20_7 = true
           · subst c22
             replace H := iteT H
             obtain rfl := Option.some.inj H
             go_wp2
             go_ret
             exact ⟨d68d, d68b⟩
           · replace c22 := Bool.eq_false_iff.mpr c22
             subst c22
             replace H := iteF H
             by_cases c23 : ((rd_T63 l0 x10_1).f4) < ((rd_T63 l0 x10_1).f3)
             · rw [if_pos c23] at H
               have c23b0 : decide (((rd_T63 l0 x10_1).f4) < ((rd_T63 l0 x10_1).f3)) = true := decide_eq_true c23
               clear c23
               obtain rfl := Option.some.inj H
               obtain ⟨hcz24_0, hcz24_1, hcz24_2, hcz24_3, hcz24_4⟩ := blkC5 BK102.out
               have hfz24_0 := blk_frozen BK102.out 0
               have hfz24_1 := blk_frozen BK102.out 1
               have hfz24_2 := blk_frozen BK102.out 2
               have hfz24_3 := blk_frozen BK102.out 3
               have hfz24_4 := blk_frozen BK102.out 4
               go_wp2
               repeat (go_quiet (fail); try go_wp2)
               go_ret
               exact ⟨d68d, d68b⟩
             · rw [if_neg c23] at H
               have c23b0 : decide (((rd_T63 l0 x10_1).f4) < ((rd_T63 l0 x10_1).f3)) = false := decide_eq_false c23
               clear c23
               by_cases c25 : x10_1 > 0
               · rw [if_pos c25] at H
                 have c25b0 : decide (0 < x10_1) = true := decide_eq_true c25
                 clear c25
                 obtain ⟨ji26, hji26⟩ : ∃ j_ : Int, (wrap64 (x10_1 - 1)) = j_ := ⟨_, rfl⟩
                 replace H : (if 0 ≤ (ji26) then (if (ji26) < (l0.length : Int) then (if ((Op.bytesLess (((rd_T63 l0 (ji26)).f0).toList) ((rd_T63 l0 x10_1).f0).toList) = true) then (contact_CheckItems.l0 kj7 l0 l0 (l0.length : Int) (wrap64 (x10_1 + 1))) else (some 8)) else (none)) else (none)) = some r := by first | (rw [hji26] at H; exact H) | (simp only [hji26] at H ⊢; exact H)
                 have hji26w : (IntKind.i64.wrap (x10_1 - 1)) = ji26 := (i64_w _).trans hji26
                 replace H := guardT H; obtain ⟨c27, H⟩ := H
                 have c27b0 : decide (0 ≤ (ji26)) = true := decide_eq_true c27
                 clear c27
                 replace H := guardT H; obtain ⟨c28, H⟩ := H
                 have c28b0 : decide ((ji26) < (l0.length : Int)) = true := decide_eq_true c28
                 clear c28
                 by_cases c29 : ((Op.bytesLess (((rd_T63 l0 (ji26)).f0).toList) ((rd_T63 l0 x10_1).f0).toList) = true)
                 · rw [if_pos c29] at H
                   have c29b0 : (Op.bytesLess (((rd_T63 l0 (ji26)).f0).toList) ((rd_T63 l0 x10_1).f0).toList) = true := c29
                   clear c29
                   have H' := Aside0.mk H
                   clear H
                   obtain ⟨hcz30_0, hcz30_1, hcz30_2, hcz30_3, hcz30_4⟩ := blkC5 BK102.out
                   have hfz30_0 := blk_frozen BK102.out 0
                   have hfz30_1 := blk_frozen BK102.out 1
                   have hfz30_2 := blk_frozen BK102.out 2
                   have hfz30_3 := blk_frozen BK102.out 3
                   have hfz30_4 := blk_frozen BK102.out 4
                   have p108 : 0 ≤ ((ji26) : Int) := of_decide_eq_true d68e
                   have q108 : (ji26) < (l0.length : Int) := of_decide_eq_true d68e
                   obtain ⟨ad108, e108, hx108_0, hx108_1, hx108_2, hx108_3, hx108_4⟩ := at_T63 HR0.out (ji26) p108 q108
                   obtain rfl : ad101 = ad108 := (by injection e108)
                   replace hx108_0 := cellB HB.out hx108_0
                   replace hx108_1 := cellB HB.out hx108_1
                   replace hx108_2 := cellB HB.out hx108_2
                   replace hx108_3 := cellB HB.out hx108_3
                   replace hx108_4 := cellB HB.out hx108_4
                   replace p108 := eq_true p108
                   replace q108 := eq_true q108
                   go_wp2
                   repeat (go_quiet (fail); try go_wp2)
                   go_roundg kj7
                   case measure => have := HK1.out; have := HJ7.out; omega
                   case rel => exact ⟨(wrap64 (x10_1 + 1)), d68f, H', ⟨by have := HK1.out; have := HJ7.out; omega⟩, ⟨d68b⟩⟩
                 · rw [if_neg c29] at H
                   have c29b0 : (Op.bytesLess (((rd_T63 l0 (ji26)).f0).toList) ((rd_T63 l0 x10_1).f0).toList) = false := by simpa using c29
                   clear c29
                   obtain rfl := Option.some.inj H
                   obtain ⟨hcz31_0, hcz31_1, hcz31_2, hcz31_3, hcz31_4⟩ := blkC5 BK102.out
                   have hfz31_0 := blk_frozen BK102.out 0
                   have hfz31_1 := blk_frozen BK102.out 1
                   have hfz31_2 := blk_frozen BK102.out 2
                   have hfz31_3 := blk_frozen BK102.out 3
                   have hfz31_4 := blk_frozen BK102.out 4
                   have p108 : 0 ≤ ((ji26) : Int) := of_decide_eq_true d68e
                   have q108 : (ji26) < (l0.length : Int) := of_decide_eq_true d68e
                   obtain ⟨ad108, e108, hx108_0, hx108_1, hx108_2, hx108_3, hx108_4⟩ := at_T63 HR0.out (ji26) p108 q108
                   obtain rfl : ad101 = ad108 := (by injection e108)
                   replace hx108_0 := cellB HB.out hx108_0
                   replace hx108_1 := cellB HB.out hx108_1
                   replace hx108_2 := cellB HB.out hx108_2
                   replace hx108_3 := cellB HB.out hx108_3
                   replace hx108_4 := cellB HB.out hx108_4
                   replace p108 := eq_true p108
                   replace q108 := eq_true q108
                   go_wp2
                   repeat (go_quiet (fail); try go_wp2)
                   go_ret
                   exact ⟨by first | rfl | (simp [errW_none, errW_some] <;> rfl) | (simp only [← hji26]; first | rfl | (simp [errW_none, errW_some] <;> rfl)) | (simp [*, errW_none, errW_some] <;> rfl), d68b⟩
               · rw [if_neg c25] at H
                 have c25b0 : decide (0 < x10_1) = false := decide_eq_false c25
                 clear c25
                 have H' := Aside0.mk H
                 clear H
                 obtain ⟨hcz32_0, hcz32_1, hcz32_2, hcz32_3, hcz32_4⟩ := blkC5 BK102.out
                 have hfz32_0 := blk_frozen BK102.out 0
                 have hfz32_1 := blk_frozen BK102.out 1
                 have hfz32_2 := blk_frozen BK102.out 2
                 have hfz32_3 := blk_frozen BK102.out 3
                 have hfz32_4 := blk_frozen BK102.out 4
                 go_wp2
                 repeat (go_quiet (fail); try go_wp2)
                 go_roundg kj7
                 case measure => have := HK1.out; have := HJ7.out; omega
                 case rel => exact ⟨(wrap64 (x10_1 + 1)), d68f, H', ⟨by have := HK1.out; have := HJ7.out; omega⟩, ⟨d68b⟩⟩
       · replace c7 := Bool.eq_false_iff.mpr c7
         subst c7
         replace H := iteF H
         obtain rfl := Option.some.inj H
         have p101 : 0 ≤ (x10_1 : Int) := of_decide_eq_true d68e
         have q101 : x10_1 < (l0.length : Int) := of_decide_eq_true d68e
         obtain ⟨ad101, e101, hx101_0, hx101_1, hx101_2, hx101_3, hx101_4⟩ := at_T63 HR0.out x10_1 p101 q101
         cases e101
         replace hx101_0 := cellB HB.out hx101_0
         replace hx101_1 := cellB HB.out hx101_1
         replace hx101_2 := cellB HB.out hx101_2
         replace hx101_3 := cellB HB.out hx101_3
         replace hx101_4 := cellB HB.out hx101_4
         replace p101 := eq_true p101
         replace q101 := eq_true q101
         go_wp2_with (first | ((with_reducible refine gate_dst (N := 4) rfl ?_); refine box_event ?hg (N := 4) ?hd (cs := #[.string (⟨#[]⟩ : ByteArray), .int .i64 0, .int .i64 0, .int .i64 0, .int .i64 0]) (t := 63) ?hr ?_; (case hd => rfl); (case hg => rfl); (case hr => first | (go_simp; done) | (go_simp; rfl)); intro gb102 hg w33 hbox hb; have n0_ := Aside0.mk (below_step d68c hb); have n1_ := Aside0.mk (hbox); have n2_ := Aside0.mk ((by rw [hg]; exact (below_size d68c) : w.heap.size ≤ gb102)); have n3_ := Aside0.mk ((by rw [hg]; exact (below_size d68c) : w.heap.size ≤ gb102)); clear HB; have HB := n0_; have BK102 := n1_; have GW102 := n2_; have GE102 := n3_; clear n0_ n1_ n2_ n3_; clear hb hbox hg; have hcz34_0 : w33.cell? ⟨gb102, 0, none⟩ = some (.string (⟨#[]⟩ : ByteArray)) := (blk_cell BK102.out 0).trans rfl; have hcz34_1 : w33.cell? ⟨gb102, 1, none⟩ = some (.int .i64 0) := (blk_cell BK102.out 1).trans rfl; have hcz34_2 : w33.cell? ⟨gb102, 2, none⟩ = some (.int .i64 0) := (blk_cell BK102.out 2).trans rfl; have hcz34_3 : w33.cell? ⟨gb102, 3, none⟩ = some (.int .i64 0) := (blk_cell BK102.out 3).trans rfl; have hcz34_4 : w33.cell? ⟨gb102, 4, none⟩ = some (.int .i64 0) := (blk_cell BK102.out 4).trans rfl; have hfz34_0 := blk_frozen BK102.out 0; have hfz34_1 := blk_frozen BK102.out 1; have hfz34_2 := blk_frozen BK102.out 2; have hfz34_3 := blk_frozen BK102.out 3; have hfz34_4 := blk_frozen BK102.out 4) | (go_at_call 78; (with_reducible refine (monitor_IsName.calls k1 ((rd_T63 l0 x10_1).f0) false _ A6.out).mono ?_); rintro e w' ⟨rfl, ⟨nd, rfl⟩⟩; (try first | exact ⟨rfl, _, World.drewN_drewN _ _ _⟩ | exact ⟨rfl, _, Eq.trans (World.drewN_drewN _ _ _) (congrArg (World.drewN _) (Nat.add_assoc _ _ _))⟩)))
         go_ret
         exact ⟨d68d, d68b⟩
     · rw [if_neg c3] at H
       have c3b0 : decide (x10_1 < (l0.length : Int)) = false := decide_eq_false c3
       clear c3
       obtain rfl := Option.some.inj H
       go_wp2
       go_ret
       exact ⟨d68d, d68c⟩
/-- The order in which the items go. -/
def cmpX (q : List S63) (i j : Int) : Int :=
  if (rd_T63 q i).f2 = (rd_T63 q j).f2 then
    (if (rd_T63 q i).f4 = (rd_T63 q j).f4 then Lib.compareBytes (rd_T63 q i).f0.data.toList (rd_T63 q j).f0.data.toList
    else wrap64 ((rd_T63 q i).f4 - (rd_T63 q j).f4))
  else wrap64 ((rd_T63 q j).f2 - (rd_T63 q i).f2)
set_option maxHeartbeats 8000000 in
set_option maxRecDepth 100000 in
open Go.Sort in
theorem cmp_calls {W : World} {g5 : Nat} {A : Option Addr} {cq : Nat} {q : List S63} (hx : W.cell? ⟨g5, 0, none⟩ = some (.slice A q.length cq)) (hC : k63.C W A q.length q) (i j : Int) (i0 : 0 ≤ i) (i1 : i < (q.length : Int)) (j0 : 0 ≤ j) (j1 : j < (q.length : Int)) :
    Calls Try.prog 86 #[.int .i64 i, .int .i64 j, .pointer (some ⟨g5, 0, none⟩)] W fun e w' => e = .returned (.int .i64 (cmpX q i j)) ∧ ∃ n os, w' = grow (W.drewN n) os := by
  obtain ⟨ad, ea, y0, y1, y2, y3, y4⟩ := at_T63 hC i i0 i1
  obtain ⟨_, ea', z0, z1, z2, z3, z4⟩ := at_T63 hC j j0 j1
  subst ea
  cases ea'
  obtain ⟨r, hr⟩ : ∃ r, r = cmpX q i j := ⟨_, rfl⟩
  rw [← hr]
  unfold cmpX at hr
  generalize rd_T63 q i = x at *
  generalize rd_T63 q j = y at *
  have hn0 := World.new_ne W _ hx
  have hny := World.new_ne W _ y0
  have hnz := World.new_ne W _ z0
  have hu63 := Try.underlying63
  have HR := Aside0.mk hr
  clear hC hr
  go_enter Try.func86, Try.ntmps86
  go_wp2_with (fail)
  go_region_held3 (fun w' => w'.cell? ⟨g5, 0, none⟩ = some (.slice (some ad) q.length cq) ∧ w'.cell? (ad.add (i.toNat * 5)) = some (.string x.f0) ∧ w'.cell? ⟨(ad.add (i.toNat * 5)).block, (ad.add (i.toNat * 5)).off + 1, none⟩ = some (.int .i64 x.f1) ∧ w'.cell? ⟨(ad.add (i.toNat * 5)).block, (ad.add (i.toNat * 5)).off + 2, none⟩ = some (.int .i64 x.f2) ∧ w'.cell? ⟨(ad.add (i.toNat * 5)).block, (ad.add (i.toNat * 5)).off + 3, none⟩ = some (.int .i64 x.f3) ∧ w'.cell? ⟨(ad.add (i.toNat * 5)).block, (ad.add (i.toNat * 5)).off + 4, none⟩ = some (.int .i64 x.f4) ∧ w'.cell? (ad.add (j.toNat * 5)) = some (.string y.f0) ∧ w'.cell? ⟨(ad.add (j.toNat * 5)).block, (ad.add (j.toNat * 5)).off + 1, none⟩ = some (.int .i64 y.f1) ∧ w'.cell? ⟨(ad.add (j.toNat * 5)).block, (ad.add (j.toNat * 5)).off + 2, none⟩ = some (.int .i64 y.f2) ∧ w'.cell? ⟨(ad.add (j.toNat * 5)).block, (ad.add (j.toNat * 5)).off + 3, none⟩ = some (.int .i64 y.f3) ∧ w'.cell? ⟨(ad.add (j.toNat * 5)).block, (ad.add (j.toNat * 5)).off + 4, none⟩ = some (.int .i64 y.f4)) (go_keep) (first | fail)
  all_goals (clear hx y0 y1 y2 y3 y4 z0 z1 z2 z3 z4 hn0 hny hnz; by_cases c1 : x.f2 = y.f2)
  all_goals first
    | (have d1 : (x.f2 == y.f2) = true := beq_iff_eq.mpr c1; have H1 := Aside0.mk (HR.out.trans (if_pos c1)); clear c1; by_cases c2 : x.f4 = y.f4)
    | (have d1 : (x.f2 == y.f2) = false := beq_eq_false_iff_ne.mpr c1; have H1 := Aside0.mk (HR.out.trans (if_neg c1)); clear c1; go_wp2; go_ret; exact ⟨by rw [H1.out]; rfl, 1, #[_, _], by simp only [alloc_eq_grow, grow_grow]; rfl⟩)
  all_goals first
    | (have d2 : (x.f4 == y.f4) = true := beq_iff_eq.mpr c2; have H2 := Aside0.mk (H1.out.trans (if_pos c2)); clear c2; go_wp2_with (first | (go_at_call 87; go_loud (refine (Try.strings_Compare _ _ _).mono ?_); rintro e w1 ⟨rfl, rfl⟩)); go_ret; exact ⟨by rw [H2.out]; rfl, 1, #[_, _], by simp only [alloc_eq_grow, grow_grow]; rfl⟩)
    | (have d2 : (x.f4 == y.f4) = false := beq_eq_false_iff_ne.mpr c2; have H2 := Aside0.mk (H1.out.trans (if_neg c2)); clear c2; go_wp2; go_ret; exact ⟨by rw [H2.out]; rfl, 1, #[_, _], by simp only [alloc_eq_grow, grow_grow]; rfl⟩)
abbrev SMapD := DataW Unit
/-- A row of the sender's: what an item gets in a pass, and its number. -/
structure SRow where
  p : S61
  n : Int
def kRow : Kd SRow := Kd.iso (Kd.pair k61 (Kd.int .i64)) (fun x : SRow => (x.p, x.n))
theorem kRow_openM {w : World} {base : Nat} {ok : Nat → Prop} {x : SRow} {cs : List Value} (h : kRow.M w base ok x cs) : cs = [.string x.p.f0, .int .i64 x.p.f1, .int .i64 x.p.f2, .int .i64 x.p.f3, .int .i64 x.p.f4, .int .i64 x.n] := by
  obtain ⟨c1, c2, rfl, h1, h2⟩ := h
  rw [k61_openM h1, h2]
  rfl
theorem kRow_mkM (w : World) (base : Nat) (ok : Nat → Prop) (x : SRow) : kRow.M w base ok x [.string x.p.f0, .int .i64 x.p.f1, .int .i64 x.p.f2, .int .i64 x.p.f3, .int .i64 x.p.f4, .int .i64 x.n] := ⟨_, _, rfl, k61_mkM w base ok x.p, rfl⟩
/-- What the sender holds. -/
structure SX where
  ord : List Int
  sent : List Int
  done : List Int
  opn : SMapD
  rows : List SRow
  ways : List (List S81)
/-- .. and where it lies. -/
structure SV where
  Ab : Option Addr
  cb : Nat
  Aq : Option Addr
  cq : Nat
  vo : Value
  vs : Value
  vd : Value
  gm : Nat
  mn : Nat
  vr : Value
  vw : Value
  raws : List (List Value)
def isTy (t : TypeId) (W : World) (k : Nat) : Prop := ∃ cells, W.heap[k]? = some (.cells cells t (0, 0))
theorem isTy.lt {t : TypeId} {W : World} {k : Nat} (h : isTy t W k) : k < W.heap.size := by obtain ⟨c, h⟩ := h; exact blk_lt h
theorem isTy.ne {t t' : TypeId} {W : World} {k k' : Nat} (h : isTy t W k) (h' : isTy t' W k') (hn : t ≠ t') : k ≠ k' := fun e => by
  subst e
  obtain ⟨c, h⟩ := h
  obtain ⟨c', h'⟩ := h'
  rw [h] at h'
  injection h' with h'
  injection h' with _ h'
  exact hn h'
theorem flat_move {α : Type} {d : Kd α} {e base : Nat} {w w1 : World} {v : Value} {xs : List α} (hE : d.E = []) (h : d.R e w base (fun _ => True) v xs) (hm : ∀ k, v.ownBlock = some k → w1.heap[k]? = w.heap[k]?) : d.R e w1 base (fun _ => True) v xs :=
  Kd.R_mono (Kd.R_move (Kd.R_tight hE h) (fun q hq => hm q hq.symm)) (fun _ _ => trivial)
def Apart (v u : Value) : Prop := ∀ k, v.ownBlock = some k → u.ownBlock ≠ some k
theorem Apart.symm {v u : Value} (h : Apart v u) : Apart u v := fun k hk hc => h k hc hk
/-- The sender as it lies in memory: made in a call whose world was w0. -/
structure SndAt (w0 W : World) (g : Nat) (V : SV) (bk : List Int) (q : List S63) (st : SX) : Prop where
  hb : W.heap[g]? = some (.cells #[.slice V.Ab bk.length V.cb, .slice V.Aq q.length V.cq, V.vo, V.vs, V.vd, .map (some V.gm), V.vr, V.vw] 110 (0, 0))
  hg : w0.heap.size ≤ g
  bkC : (Kd.int .i64).C w0 V.Ab bk.length bk
  bkc : bk.length ≤ V.cb
  qC : k63.C w0 V.Aq q.length q
  qc : q.length ≤ V.cq
  bel : Below w0.heap.size w0 W
  o : (Kd.int .i64).R 3 W w0.heap.size (fun _ => True) V.vo st.ord
  s : (Kd.int .i64).R 3 W w0.heap.size (fun _ => True) V.vs st.sent
  d : (Kd.int .i64).R 3 W w0.heap.size (fun _ => True) V.vd st.done
  os : Apart V.vo V.vs
  od : Apart V.vo V.vd
  sd : Apart V.vs V.vd
  m : World.ownsMap (H := Unit) W Try.prog 138 (plainElem Try.prog 3) V.gm V.mn st.opn
  mg : w0.heap.size ≤ V.gm
  r : kRow.R 130 W w0.heap.size (fun _ => True) V.vr st.rows
  wy : (Kd.raw 1).R 78 W w0.heap.size (fun _ => True) V.vw V.raws
  wl : V.raws.length = st.ways.length
  ws : ∀ j, j < st.ways.length → ∃ A c, V.raws.getD j [] = [.slice A (st.ways.getD j []).length c] ∧ (st.ways.getD j []).length ≤ c ∧ Kd.F k81 W (isTy 81 W) A (st.ways.getD j []).length (st.ways.getD j [])
  mnl : V.mn ≤ st.rows.length
section
variable {w0 W W' : World} {g : Nat} {V : SV} {bk : List Int} {q : List S63} {st : SX}
theorem SndAt.ty (h : SndAt w0 W g V bk q st) : isTy 110 W g := ⟨_, h.hb⟩
theorem SndAt.mTy (h : SndAt w0 W g V bk q st) {t : TypeId} {k : Nat} (hk : isTy t W k) : V.gm ≠ k := fun e => by
  obtain ⟨es, clock, hm, _⟩ := h.m
  obtain ⟨c, hk⟩ := hk
  rw [← e, hm] at hk
  cases hk
/-- What is turned: one block at most, which is none of the sender's; or one of them, which then is told anew. -/
theorem ways_move {W W' : World} {raws : List (List Value)} {ways : List (List S81)}
    (h : ∀ j, j < ways.length → ∃ A c, raws.getD j [] = [.slice A (ways.getD j []).length c] ∧ (ways.getD j []).length ≤ c ∧ Kd.F k81 W (isTy 81 W) A (ways.getD j []).length (ways.getD j []))
    (hm : ∀ k, isTy 81 W k → W'.heap[k]? = W.heap[k]?) :
    ∀ j, j < ways.length → ∃ A c, raws.getD j [] = [.slice A (ways.getD j []).length c] ∧ (ways.getD j []).length ≤ c ∧ Kd.F k81 W' (isTy 81 W') A (ways.getD j []).length (ways.getD j []) := fun j hj => by
  obtain ⟨A, c, h1, h2, h3⟩ := h j hj
  exact ⟨A, c, h1, h2, Kd.F_mono (Kd.F_step h3 (fun k hk _ => hm k hk)) (fun k hk => by obtain ⟨cs, hk⟩ := hk; exact ⟨cs, (hm k ⟨cs, hk⟩).trans hk⟩)⟩
theorem own_ty {α : Type} {d : Kd α} {e base : Nat} {w : World} {v : Value} {xs : List α} {ok : Nat → Prop} (h : d.R e w base ok v xs) {k : Nat} (hk : v.ownBlock = some k) : isTy e w k := Kd.R_typed h k hk
theorem SndAt.grown (h : SndAt w0 W g V bk q st) {b : Option Nat} (hf : W.grownBy W' b) (hb : Below w0.heap.size w0 W')
    (hbt : ∀ k, b = some k → (∃ t, isTy t W k ∧ t ≠ 110 ∧ t ≠ 3 ∧ t ≠ 130 ∧ t ≠ 78 ∧ t ≠ 81)) : SndAt w0 W' g V bk q st := by
  have key : ∀ {t k}, isTy t W k → (t = 110 ∨ t = 3 ∨ t = 130 ∨ t = 78 ∨ t = 81) → W'.heap[k]? = W.heap[k]? := fun {t k} hk ht => hf.block k hk.lt (fun e => by
    obtain ⟨t', ht', n1, n2, n3, n4, n5⟩ := hbt k e.symm
    refine hk.ne ht' (fun e' => ?_) rfl
    subst e'
    rcases ht with e | e | e | e | e
    · exact n1 e
    · exact n2 e
    · exact n3 e
    · exact n4 e
    · exact n5 e)
  exact ⟨(key h.ty (Or.inl rfl)).trans h.hb, h.hg, h.bkC, h.bkc, h.qC, h.qc, hb, flat_move rfl h.o (fun k hk => key (own_ty h.o hk) (Or.inr (Or.inl rfl))), flat_move rfl h.s (fun k hk => key (own_ty h.s hk) (Or.inr (Or.inl rfl))), flat_move rfl h.d (fun k hk => key (own_ty h.d hk) (Or.inr (Or.inl rfl))), h.os, h.od, h.sd,
    h.m.kept hf (fun e => by obtain ⟨t, ht, _⟩ := hbt _ e.symm; exact h.mTy ht rfl), h.mg, flat_move rfl h.r (fun k hk => key (own_ty h.r hk) (Or.inr (Or.inr (Or.inl rfl)))), flat_move rfl h.wy (fun k hk => key (own_ty h.wy hk) (Or.inr (Or.inr (Or.inr (Or.inl rfl))))), h.wl, ways_move h.ws (fun k hk => key hk (Or.inr (Or.inr (Or.inr (Or.inr rfl))))), h.mnl⟩
theorem SndAt.below (h : SndAt w0 W g V bk q st) (hb : Below W.heap.size W W') : SndAt w0 W' g V bk q st := h.grown (grown_of_below hb none) (below_step h.bel hb) (fun k e => by cases e)
theorem SndAt.drewN (h : SndAt w0 W g V bk q st) (n : Nat) : SndAt w0 (W.drewN n) g V bk q st := h.below (pw_below_drewN (Below.refl _ _) n)
/-- A row of whole numbers is written: which one. -/
theorem SndAt.setSent (h : SndAt w0 W g V bk q st) {gs n c : Nat} (hv : V.vs = .slice (some ⟨gs, 0, none⟩) n c) (i : Int) (x : Int) : SndAt w0 (W.setCell ⟨gs, i.toNat, none⟩ (.int .i64 x)) g V bk q { st with sent := st.sent.set i.toNat x } := by
  have hs := h.s
  rw [hv] at hs
  obtain ⟨hs', hf⟩ := Kd.R_putg hs i x
  have hty : isTy 3 W gs := own_ty hs rfl
  have hbase : w0.heap.size ≤ gs := Kd.R_base hs gs rfl
  have other : ∀ {t k}, isTy t W k → t ≠ 3 → (W.setCell ⟨gs, i.toNat, none⟩ (.int .i64 x)).heap[k]? = W.heap[k]? := fun {t k} hk ht => hf.block k hk.lt (fun e => hk.ne hty ht (Option.some.inj e))
  have ints : ∀ {v : Value} {xs : List Int}, (Kd.int .i64).R 3 W w0.heap.size (fun _ => True) v xs → v.ownBlock ≠ some gs → (Kd.int .i64).R 3 (W.setCell ⟨gs, i.toNat, none⟩ (.int .i64 x)) w0.heap.size (fun _ => True) v xs := fun {v xs} hr hn => flat_move rfl hr (fun k hk => hf.block k (own_ty hr hk).lt (fun e => hn (by rw [hk, e])))
  exact ⟨(other h.ty (by decide)).trans h.hb, h.hg, h.bkC, h.bkc, h.qC, h.qc, pw_below_grown h.bel _ h.bel.size hf (fun k e => by cases e; exact hbase), ints h.o (fun e => h.os gs e (by rw [hv]; rfl)), by rw [hv]; exact hs', ints h.d (fun e => h.sd gs (by rw [hv]; rfl) e), h.os, h.od, h.sd,
    h.m.kept hf (fun e => h.mTy hty (Option.some.inj e)), h.mg, flat_move rfl h.r (fun k hk => other (own_ty h.r hk) (by decide)), flat_move rfl h.wy (fun k hk => other (own_ty h.wy hk) (by decide)), h.wl, ways_move h.ws (fun k hk => other hk (by decide)), h.mnl⟩
theorem SndAt.setDone (h : SndAt w0 W g V bk q st) {gs n c : Nat} (hv : V.vd = .slice (some ⟨gs, 0, none⟩) n c) (i : Int) (x : Int) : SndAt w0 (W.setCell ⟨gs, i.toNat, none⟩ (.int .i64 x)) g V bk q { st with done := st.done.set i.toNat x } := by
  have hs := h.d
  rw [hv] at hs
  obtain ⟨hs', hf⟩ := Kd.R_putg hs i x
  have hty : isTy 3 W gs := own_ty hs rfl
  have hbase : w0.heap.size ≤ gs := Kd.R_base hs gs rfl
  have other : ∀ {t k}, isTy t W k → t ≠ 3 → (W.setCell ⟨gs, i.toNat, none⟩ (.int .i64 x)).heap[k]? = W.heap[k]? := fun {t k} hk ht => hf.block k hk.lt (fun e => hk.ne hty ht (Option.some.inj e))
  have ints : ∀ {v : Value} {xs : List Int}, (Kd.int .i64).R 3 W w0.heap.size (fun _ => True) v xs → v.ownBlock ≠ some gs → (Kd.int .i64).R 3 (W.setCell ⟨gs, i.toNat, none⟩ (.int .i64 x)) w0.heap.size (fun _ => True) v xs := fun {v xs} hr hn => flat_move rfl hr (fun k hk => hf.block k (own_ty hr hk).lt (fun e => hn (by rw [hk, e])))
  exact ⟨(other h.ty (by decide)).trans h.hb, h.hg, h.bkC, h.bkc, h.qC, h.qc, pw_below_grown h.bel _ h.bel.size hf (fun k e => by cases e; exact hbase), ints h.o (fun e => h.od gs e (by rw [hv]; rfl)), ints h.s (fun e => h.sd gs e (by rw [hv]; rfl)), by rw [hv]; exact hs', h.os, h.od, h.sd,
    h.m.kept hf (fun e => h.mTy hty (Option.some.inj e)), h.mg, flat_move rfl h.r (fun k hk => other (own_ty h.r hk) (by decide)), flat_move rfl h.wy (fun k hk => other (own_ty h.wy hk) (by decide)), h.wl, ways_move h.ws (fun k hk => other hk (by decide)), h.mnl⟩
end
section
variable {w0 W W' : World} {g : Nat} {V : SV} {bk : List Int} {q : List S63} {st : SX}
theorem SndAt.c0 (h : SndAt w0 W g V bk q st) : W.cell? ⟨g, 0, none⟩ = some (.slice V.Ab bk.length V.cb) := (blk_cell h.hb 0).trans rfl
theorem SndAt.c1 (h : SndAt w0 W g V bk q st) : W.cell? ⟨g, 1, none⟩ = some (.slice V.Aq q.length V.cq) := (blk_cell h.hb 1).trans rfl
theorem SndAt.c2 (h : SndAt w0 W g V bk q st) : ∃ A c, V.vo = .slice A st.ord.length c ∧ W.cell? ⟨g, 2, none⟩ = some (.slice A st.ord.length c) ∧ (Kd.int .i64).C W A st.ord.length st.ord := by
  obtain ⟨A, c, e, _, hC⟩ := Kd.R_reads h.o
  exact ⟨A, c, e, e ▸ (blk_cell h.hb 2).trans rfl, hC⟩
theorem SndAt.c3 (h : SndAt w0 W g V bk q st) : ∃ A c, V.vs = .slice A st.sent.length c ∧ W.cell? ⟨g, 3, none⟩ = some (.slice A st.sent.length c) ∧ (Kd.int .i64).C W A st.sent.length st.sent := by
  obtain ⟨A, c, e, _, hC⟩ := Kd.R_reads h.s
  exact ⟨A, c, e, e ▸ (blk_cell h.hb 3).trans rfl, hC⟩
theorem SndAt.c4 (h : SndAt w0 W g V bk q st) : ∃ A c, V.vd = .slice A st.done.length c ∧ W.cell? ⟨g, 4, none⟩ = some (.slice A st.done.length c) ∧ (Kd.int .i64).C W A st.done.length st.done := by
  obtain ⟨A, c, e, _, hC⟩ := Kd.R_reads h.d
  exact ⟨A, c, e, e ▸ (blk_cell h.hb 4).trans rfl, hC⟩
theorem SndAt.c5 (h : SndAt w0 W g V bk q st) : W.cell? ⟨g, 5, none⟩ = some (.map (some V.gm)) := (blk_cell h.hb 5).trans rfl
theorem SndAt.c6 (h : SndAt w0 W g V bk q st) : ∃ A c, V.vr = .slice A st.rows.length c ∧ W.cell? ⟨g, 6, none⟩ = some (.slice A st.rows.length c) := by
  obtain ⟨A, c, e, _, hC⟩ := Kd.R_reads h.r
  exact ⟨A, c, e, e ▸ (blk_cell h.hb 6).trans rfl⟩
theorem SndAt.c7 (h : SndAt w0 W g V bk q st) : ∃ A c, V.vw = .slice A st.ways.length c ∧ W.cell? ⟨g, 7, none⟩ = some (.slice A st.ways.length c) ∧ (Kd.raw 1).C W A st.ways.length V.raws := by
  obtain ⟨A, c, e, _, hC⟩ := Kd.R_reads h.wy
  rw [h.wl] at e hC
  exact ⟨A, c, e, e ▸ (blk_cell h.hb 7).trans rfl, hC⟩
end
/-- The item that is sent at a moment, or -1. -/
def topGo (q : List S63) (sent : List Int) (at_ : Int) : List Int → Int
  | [] => -1
  | i :: r => if (rd_T63 q i).f3 ≤ at_ ∧ rd sent i < (rd_T63 q i).f1 then i else topGo q sent at_ r
theorem drawn_two (W : World) (n m : Nat) : ∃ k, (W.drewN n).drewN m = W.drewN k := ⟨n + m, World.drewN_drewN W n m⟩
theorem rd_of {l : List Int} {i : Nat} (hi : i < l.length) : rd l (i : Int) = l[i] := by unfold rd; simp [List.getD_eq_getElem?_getD, List.getElem?_eq_getElem hi]
set_option maxHeartbeats 4000000 in
set_option maxRecDepth 100000 in
theorem top_calls {w0 W : World} {g : Nat} {V : SV} {bk : List Int} {q : List S63} {st : SX} (at_ : Int) (h : SndAt w0 W g V bk q st) (hr : ∀ i ∈ st.ord, 0 ≤ i ∧ i < (q.length : Int)) (hs : st.sent.length = q.length) (ho : st.ord.length ≤ 1000000) :
    Calls Try.prog 90 #[.pointer (some ⟨g, 0, none⟩), .int .i64 at_] W fun e w' => e = .returned (.int .i64 (topGo q st.sent at_ st.ord)) ∧ ∃ n, w' = W.drewN n := by
  have HS := Aside0.mk h
  have HR := Aside0.mk hr
  have HL := Aside0.mk hs
  have HO := Aside0.mk ho
  obtain ⟨Ao, co, _, x2, hC2⟩ := h.c2
  have HC2 := Aside0.mk hC2
  have x2' := x2
  clear h hr hs ho hC2 x2'
  go_enter Try.func90, Try.ntmps90
  go_wp2
  clear x2
  go_loopg [12] st.ord.length (fun kq v12 w' => ∃ i : Nat, v12 = .int .i64 (i : Int) ∧ Aside0 (kq + i = st.ord.length) ∧ Aside0 (topGo q st.sent at_ (st.ord.drop i) = topGo q st.sent at_ st.ord) ∧ Aside0 (∃ n, w' = W.drewN n))
  case atStart => exact ⟨0, rfl, ⟨rfl⟩, ⟨rfl⟩, ⟨0, rfl⟩⟩
  case round =>
    obtain ⟨i, rfl, HK, HT, HW⟩ := hrel
    obtain ⟨n, rfl⟩ := HW.out
    cases gk with
    | zero =>
      have hi : i = st.ord.length := by have := HK.out; omega
      subst hi
      have H := HT.out
      rw [List.drop_length] at H
      have HF := Aside0.mk H
      clear H HT HK
      go_wp2
      go_ret
      exact ⟨by rw [← HF.out]; rfl, n, rfl⟩
    | succ d =>
      have hi : i < st.ord.length := by have := HK.out; omega
      have H := HT.out
      rw [List.drop_eq_getElem_cons hi, topGo.eq_2] at H
      obtain ⟨ii, hii⟩ : ∃ ii, ii = st.ord[i] := ⟨_, rfl⟩
      rw [← hii] at H
      obtain ⟨b0, b1⟩ := HR.out ii (by rw [hii]; exact List.getElem_mem hi)
      have hi0 : (0 : Int) ≤ (i : Int) := by omega
      have hi1 : (i : Int) < (st.ord.length : Int) := by omega
      have hd1 : decide ((i : Int) < (st.ord.length : Int)) = true := decide_eq_true hi1
      have HS2 := HS.out
      obtain ⟨ad1, e1, hx0⟩ := Kd.at_int HC2.out (i : Int) hi0 hi1
      cases e1
      rw [rd_of hi, ← hii] at hx0
      simp only [Int.toNat_natCast] at hx0
      have hx1 := HS2.c1
      obtain ⟨As, cs, _, hx3, hC3⟩ := HS2.c3
      obtain ⟨ads, es, hx4⟩ := Kd.at_int hC3 ii b0 (by have := HL.out; omega)
      cases es
      obtain ⟨adq, eq, hy0, hy1, hy2, hy3, hy4⟩ := at_T63 (Kd.C_below HS2.qC HS2.bel) ii b0 b1
      have p1 : decide (ii < (q.length : Int)) = true := decide_eq_true b1
      have p2 : decide (ii < (st.sent.length : Int)) = true := decide_eq_true (by have := HL.out; omega)
      have p0 := eq_true b0
      rw [eq] at hx1
      obtain ⟨x, hx⟩ : ∃ x, x = rd_T63 q ii := ⟨_, rfl⟩
      rw [← hx] at hy1 hy3 H
      obtain ⟨s, hss⟩ : ∃ s, s = rd st.sent ii := ⟨_, rfl⟩
      rw [← hss] at hx4 H
      have HT' := Aside0.mk H
      have hwi : wrap64 ((i : Int) + 1) = ((i + 1 : Nat) : Int) := by have := HO.out; unfold wrap64; omega
      clear hx hss hC3 HS2 hy0 hy2 hy4 eq HT H hii HC2
      have b2 : ii < (st.sent.length : Int) := by have := HL.out; omega
      by_cases hA : x.f3 ≤ at_
      · have dA : decide (x.f3 ≤ at_) = true := decide_eq_true hA
        by_cases hB : s < x.f1
        · have dB : decide (s < x.f1) = true := decide_eq_true hB
          have HF := Aside0.mk (show ii = topGo q st.sent at_ st.ord by rw [← HT'.out, if_pos ⟨hA, hB⟩])
          clear hA hB HT'
          go_wp2
          go_quiet (fail)
          go_wp2
          go_ret
          exact ⟨by rw [HF.out]; rfl, drawn_two _ _ _⟩
        · have dB : decide (s < x.f1) = false := decide_eq_false hB
          have HF := Aside0.mk (show topGo q st.sent at_ (st.ord.drop (i + 1)) = topGo q st.sent at_ st.ord by rw [← HT'.out, if_neg (fun hc => hB hc.2)])
          clear hA hB HT'
          go_wp2
          go_quiet (fail)
          go_wp2
          go_roundg d
          case measure => omega
          case rel => exact ⟨i + 1, (by first | rfl | (rw [hwi]) | (simp [hwi]; done) | (simp; done)), ⟨by have := HK.out; omega⟩, HF, ⟨_, rfl⟩⟩
      · have dA : decide (x.f3 ≤ at_) = false := decide_eq_false hA
        have HF := Aside0.mk (show topGo q st.sent at_ (st.ord.drop (i + 1)) = topGo q st.sent at_ st.ord by rw [← HT'.out, if_neg (fun hc => hA hc.1)])
        clear hA HT'
        go_wp2
        go_quiet (fail)
        go_wp2
        go_roundg d
        case measure => omega
        case rel => exact ⟨i + 1, (by first | rfl | (rw [hwi]) | (simp [hwi]; done) | (simp; done)), ⟨by have := HK.out; omega⟩, HF, ⟨_, rfl⟩⟩
/-- What a step of the sender's comes to: the sender, told anew; of the rows of whole numbers none but its own two is turned. -/
def IntsBut (V : SV) (W W' : World) : Prop := W.heap.size ≤ W'.heap.size ∧ ∀ k, isTy 3 W k → V.vs.ownBlock ≠ some k → V.vd.ownBlock ≠ some k → W'.heap[k]? = W.heap[k]?
theorem IntsBut.refl (V : SV) (W : World) : IntsBut V W W := ⟨Nat.le_refl _, fun _ _ _ _ => rfl⟩
theorem IntsBut.trans {V : SV} {W W1 W2 : World} (h : IntsBut V W W1) (k : IntsBut V W1 W2) : IntsBut V W W2 := ⟨Nat.le_trans h.1 k.1, fun b hb h1 h2 => by
  have e := h.2 b hb h1 h2
  exact (k.2 b (by obtain ⟨c, hc⟩ := hb; exact ⟨c, e.trans hc⟩) h1 h2).trans e⟩
theorem IntsBut.below {V : SV} {W W' : World} (h : Below W.heap.size W W') : IntsBut V W W' := ⟨h.size, fun k hk _ _ => h.block k hk.lt⟩
theorem IntsBut.row {V : SV} {W W' : World} {base : Nat} {v : Value} {xs : List Int} (h : IntsBut V W W') (hr : (Kd.int .i64).R 3 W base (fun _ => True) v xs) (h1 : Apart v V.vs) (h2 : Apart v V.vd) : (Kd.int .i64).R 3 W' base (fun _ => True) v xs := flat_move rfl hr (fun k hk => h.2 k (own_ty hr hk) (h1 k hk) (h2 k hk))
def SndTo (w0 W : World) (g : Nat) (V : SV) (bk : List Int) (q : List S63) (st : SX) (W' : World) : Prop :=
  ∃ V' : SV, SndAt w0 W' g V' bk q st ∧ V'.vs = V.vs ∧ V'.vd = V.vd ∧ V'.vo = V.vo ∧ IntsBut V W W'
theorem SndTo.refl {w0 W : World} {g : Nat} {V : SV} {bk : List Int} {q : List S63} {st : SX} (h : SndAt w0 W g V bk q st) : SndTo w0 W g V bk q st W := ⟨V, h, rfl, rfl, rfl, IntsBut.refl V W⟩
theorem SndTo.trans {w0 W W1 W2 : World} {g : Nat} {V V1 : SV} {bk : List Int} {q : List S63} {st2 : SX} (e1 : V1.vs = V.vs) (e2 : V1.vd = V.vd) (e3 : V1.vo = V.vo) (h : IntsBut V W W1) (k : SndTo w0 W1 g V1 bk q st2 W2) : SndTo w0 W g V bk q st2 W2 := by
  obtain ⟨V', k1, k2, k3, k4, k5⟩ := k
  refine ⟨V', k1, k2.trans e1, k3.trans e2, k4.trans e3, h.trans ⟨k5.1, fun b hb h1 h2 => k5.2 b hb (by rw [e1]; exact h1) (by rw [e2]; exact h2)⟩⟩
section
variable {w0 W W' : World} {g : Nat} {V : SV} {bk : List Int} {q : List S63} {st : SX}
theorem SndAt.way (h : SndAt w0 W g V bk q st) {j : Nat} (hj : j < st.ways.length) : ∃ aw cw A c, V.vw = .slice (some ⟨aw, 0, none⟩) st.ways.length cw ∧ W.cell? ⟨g, 7, none⟩ = some (.slice (some ⟨aw, 0, none⟩) st.ways.length cw) ∧ W.cell? ⟨aw, j, none⟩ = some (.slice A (st.ways.getD j []).length c) ∧ W.frozen? ⟨aw, j, none⟩ = false ∧ (st.ways.getD j []).length ≤ c ∧
    V.raws.getD j [] = [.slice A (st.ways.getD j []).length c] ∧ Kd.F k81 W (isTy 81 W) A (st.ways.getD j []).length (st.ways.getD j []) := by
  obtain ⟨aw, cw, e, _⟩ := Kd.R_form h.wy (by rw [h.wl]; omega)
  have hwy := h.wy
  rw [e] at hwy
  obtain ⟨c, hcl, hM, hcc, hfr⟩ := Kd.R_elem hwy [] (j : Int) (by omega) (by rw [h.wl]; omega)
  obtain ⟨A, cc, e1, e2, e3⟩ := h.ws j hj
  rw [Int.toNat_natCast] at hM hcc hfr
  have hcs : c = [.slice A (st.ways.getD j []).length cc] := hM.1.trans e1
  subst hcs
  rw [h.wl] at e
  have hc0 : W.cell? ⟨aw, j * 1 + 0, none⟩ = some (.slice A (st.ways.getD j []).length cc) := hcc 0 _ rfl
  have hf0 : W.frozen? ⟨aw, j * 1 + 0, none⟩ = false := hfr 0
  rw [Nat.mul_one, Nat.add_zero] at hc0 hf0
  exact ⟨aw, cw, A, cc, e, e ▸ (blk_cell h.hb 7).trans rfl, hc0, hf0, e2, e1, e3⟩
theorem SndAt.setWay (h : SndAt w0 W g V bk q st) {j : Nat} (hj : j < st.ways.length) {aw n cw : Nat} (hv : V.vw = .slice (some ⟨aw, 0, none⟩) n cw) {A : Option Addr} {c : Nat} {ss : List S81} (hc : ss.length ≤ c) (hF : Kd.F k81 W (isTy 81 W) A ss.length ss) :
    SndAt w0 (W.setCell ⟨aw, j, none⟩ (.slice A ss.length c)) g { V with raws := V.raws.set j [.slice A ss.length c] } bk q { st with ways := st.ways.set j ss } ∧ IntsBut V W (W.setCell ⟨aw, j, none⟩ (.slice A ss.length c)) := by
  have hwy := h.wy
  rw [hv] at hwy
  have hn : n = st.ways.length := by rw [← h.wl]; exact (Kd.R_reads' hwy).1
  obtain ⟨cs, hcl, hM, hcc, _⟩ := Kd.R_elem hwy [] (j : Int) (by omega) (by omega)
  obtain ⟨x0, hx0⟩ : ∃ x0, cs = [x0] := by
    match cs, hcl with
    | [x], _ => exact ⟨x, rfl⟩
  subst hx0
  have hseg := Kd.R_seg (okp := fun _ => False) (seg := [.slice A ss.length c]) (j := 0) (x' := [.slice A ss.length c]) hwy (j : Int) (by omega) (by omega) hcl hcc (by exact Nat.le_refl _) (show (Kd.raw 1).M W w0.heap.size (fun _ => False) _ _ from ⟨rfl, rfl, fun u hu => by have := List.mem_singleton.1 hu; subst this; rfl⟩) (fun _ hk => hk.elim)
  rw [Int.toNat_natCast] at hseg
  have e0 : W.setCells aw (j * (Kd.raw 1).sz + 0) [.slice A ss.length c] = W.setCell ⟨aw, j, none⟩ (.slice A ss.length c) := by
    show W.setCell ⟨aw, j * 1 + 0, none⟩ (.slice A ss.length c) = _
    rw [Nat.mul_one, Nat.add_zero]
  rw [e0] at hseg
  obtain ⟨hr', hf⟩ := hseg
  have hty : isTy 78 W aw := own_ty hwy rfl
  have hbase : w0.heap.size ≤ aw := Kd.R_base hwy aw rfl
  have other : ∀ {t k}, isTy t W k → t ≠ 78 → (W.setCell ⟨aw, j, none⟩ (.slice A ss.length c)).heap[k]? = W.heap[k]? := fun {t k} hk ht => hf.block k hk.lt (fun e => hk.ne hty ht (Option.some.inj e))
  refine ⟨⟨(other h.ty (by decide)).trans h.hb, h.hg, h.bkC, h.bkc, h.qC, h.qc, pw_below_grown h.bel _ h.bel.size hf (fun k e => by cases e; exact hbase), flat_move rfl h.o (fun k hk => other (own_ty h.o hk) (by decide)), flat_move rfl h.s (fun k hk => other (own_ty h.s hk) (by decide)), flat_move rfl h.d (fun k hk => other (own_ty h.d hk) (by decide)), h.os, h.od, h.sd,
    h.m.kept hf (fun e => h.mTy hty (Option.some.inj e)), h.mg, flat_move rfl h.r (fun k hk => other (own_ty h.r hk) (by decide)), by rw [hv]; exact hr', by show (V.raws.set j _).length = (st.ways.set j ss).length; rw [List.length_set, List.length_set]; exact h.wl, ?_, h.mnl⟩, ⟨hf.size, fun k hk _ _ => other hk (by decide)⟩⟩
  have hw' := ways_move h.ws (W' := W.setCell ⟨aw, j, none⟩ (.slice A ss.length c)) (fun k hk => other hk (by decide))
  intro i hi
  rw [List.length_set] at hi
  by_cases e : i = j
  · subst e
    refine ⟨A, c, ?_, ?_, ?_⟩
    · show (V.raws.set i _).getD i [] = [.slice A ((st.ways.set i ss).getD i []).length c]
      rw [List.getD_eq_getElem?_getD, List.getElem?_set_self (by rw [h.wl]; exact hj), List.getD_eq_getElem?_getD, List.getElem?_set_self hj]
      rfl
    · rw [List.getD_eq_getElem?_getD, List.getElem?_set_self hj]
      exact hc
    · rw [List.getD_eq_getElem?_getD, List.getElem?_set_self hj]
      exact Kd.F_mono (Kd.F_step hF (fun k hk _ => other hk (by decide))) (fun k hk => by obtain ⟨cs, hk⟩ := hk; exact ⟨cs, (other ⟨cs, hk⟩ (by decide)).trans hk⟩)
  · obtain ⟨A', c', g1, g2, g3⟩ := hw' i hi
    have e1 : (st.ways.set j ss).getD i [] = st.ways.getD i [] := by rw [List.getD_eq_getElem?_getD, List.getElem?_set_ne (Ne.symm e), List.getD_eq_getElem?_getD]
    have e2 : (V.raws.set j [.slice A ss.length c]).getD i [] = V.raws.getD i [] := by rw [List.getD_eq_getElem?_getD, List.getElem?_set_ne (Ne.symm e), List.getD_eq_getElem?_getD]
    show ∃ A' c', (V.raws.set j [.slice A ss.length c]).getD i [] = [.slice A' ((st.ways.set j ss).getD i []).length c'] ∧ ((st.ways.set j ss).getD i []).length ≤ c' ∧ Kd.F _ _ _ A' ((st.ways.set j ss).getD i []).length ((st.ways.set j ss).getD i [])
    rw [e1, e2]
    exact ⟨A', c', g1, g2, g3⟩
end
def popT (t : Int) (ss : List S81) : List S81 := ss.dropWhile (fun s => decide (s.f1 ≤ t))
def rateT (ss : List S81) (t : Int) : Int := match ss with
  | [] => 0
  | s :: _ => if s.f0 ≤ t then s.f2 else 0
theorem popT_keep {t : Int} {s : S81} {r : List S81} (h : ¬ s.f1 ≤ t) : popT t (s :: r) = s :: r := by
  unfold popT
  rw [List.dropWhile_cons, if_neg (by simpa using h)]
theorem popT_pop {t : Int} {s : S81} {r : List S81} (h : s.f1 ≤ t) : popT t (s :: r) = popT t r := by
  unfold popT
  rw [List.dropWhile_cons, if_pos (by simpa using h)]
theorem getD_set_same {α : Type} {l : List α} {j : Nat} {x d : α} (h : j < l.length) : (l.set j x).getD j d = x := by
  rw [List.getD_eq_getElem?_getD, List.getElem?_set_self h]
  rfl
theorem addr_zero (ad : Addr) : ad.add 0 = ad := by
  obtain ⟨b, o, x⟩ := ad
  unfold Addr.add
  split <;> simp_all
theorem st_cut (A : Option Addr) (s : S81) (r : List S81) (rl c : Nat) (hrl : rl = r.length) (hc : (s :: r).length ≤ c) :
    ∃ A' : Option Addr, (∀ W : World, (Instr.slice 78 (.slice A (rl + 1) c) (some (.int .i64 1)) none none).run Try.prog W = .ok (.slice A' rl (c - 1)) W) ∧ rl ≤ c - 1 ∧
      ∀ (W : World) (ok : Nat → Prop), Kd.F k81 W ok A (s :: r).length (s :: r) → Kd.F k81 W ok A' rl r := by
  subst hrl
  rw [List.length_cons] at hc
  obtain ⟨i, hi, hsz⟩ : ∃ i, Try.prog.info? 81 = some i ∧ i.size = 3 := by
    have := info81
    cases hq : Try.prog.info? 81 with
    | none => rw [hq] at this; cases this
    | some i =>
      rw [hq] at this
      simp only [Option.map_some, Option.some.injEq, Prod.mk.injEq] at this
      exact ⟨i, rfl, this.2.1⟩
  refine ⟨if c = 1 then A else A.map (·.add (1 * 3)), fun W => ?_, by omega, fun W ok hF => ?_⟩
  · have h := cut_from (P := Try.prog) 78 81 .i64 Try.underlying78 hi 3 hsz A (r.length + 1) c 1 (by omega) (by omega) W
    simpa using h
  · have h := Kd.F_cut (c := c) (m := 1) hF (by rw [List.length_cons]; omega) (by rw [List.length_cons]; omega)
    exact h
def stW (st : SX) (ws : List (List S81)) : SX := { st with ways := ws }
theorem stW_lt {st : SX} {j : Nat} {ss : List S81} (h : j < st.ways.length) : j < (stW st (st.ways.set j ss)).ways.length := by show j < (st.ways.set j ss).length; rw [List.length_set]; exact h
theorem stW_at {st : SX} {j : Nat} {ss : List S81} (h : j < st.ways.length) : (stW st (st.ways.set j ss)).ways.getD j [] = ss := getD_set_same h
theorem stW_len {st : SX} {j : Nat} {ss : List S81} : (stW st (st.ways.set j ss)).ways.length = st.ways.length := List.length_set ..
theorem stW_stSet {st : SX} {j : Nat} {ss ss' : List S81} : { stW st (st.ways.set j ss) with ways := (stW st (st.ways.set j ss)).ways.set j ss' } = stW st (st.ways.set j ss') := by
  unfold stW
  simp only [List.set_set]
theorem stW_self {st : SX} {j : Nat} (h : j < st.ways.length) : stW st (st.ways.set j (st.ways.getD j [])) = st := by
  unfold stW
  rw [List.getD_eq_getElem?_getD, List.getElem?_eq_getElem h]
  show { st with ways := st.ways.set j st.ways[j] } = st
  rw [List.set_getElem_self h]
set_option maxHeartbeats 8000000 in
set_option maxRecDepth 100000 in
theorem rate_calls {w0 W : World} {g : Nat} {V : SV} {bk : List Int} {q : List S63} {st : SX} (j : Nat) (at_ : Int) (ss0 : List S81) (h : SndAt w0 W g V bk q st) (hj : j < st.ways.length) (hs0 : st.ways.getD j [] = ss0) :
    Calls Try.prog 89 #[.pointer (some ⟨g, 0, none⟩), .int .i64 (j : Int), .int .i64 at_] W fun e w' => e = .returned (.int .i64 (rateT (popT at_ ss0) at_)) ∧ SndTo w0 W g V bk q (stW st (st.ways.set j (popT at_ ss0))) w' := by
  have HJ := Aside0.mk hj
  have HT := Aside0.mk (show SndTo w0 W g V bk q (stW st (st.ways.set j ss0)) W by
    rw [← hs0, stW_self hj]
    exact SndTo.refl h)
  clear h hj hs0
  go_enter Try.func89, Try.ntmps89
  go_wp2
  go_loopg [] ss0.length (fun kq w' => ∃ ss : List S81, Aside0 (ss.length ≤ kq) ∧ Aside0 (popT at_ ss = popT at_ ss0) ∧ Aside0 (SndTo w0 W g V bk q (stW st (st.ways.set j ss)) w'))
  case atStart => exact ⟨ss0, ⟨Nat.le_refl _⟩, ⟨rfl⟩, HT⟩
  case round =>
    obtain ⟨ss, HK, HP, HW⟩ := hrel
    clear HT
    rcases ss with _ | ⟨s, r⟩
    · obtain ⟨V1, h1, hv1, hv2, hv3, hib⟩ := HW.out
      have HV1 := Aside0.mk hv1
      have HV2 := Aside0.mk hv2
      have HV3 := Aside0.mk hv3
      have HIB := Aside0.mk hib
      obtain ⟨aw, cw, A, c, ev, x7, xj, fj, hcl, hraw, hF⟩ := h1.way (stW_lt HJ.out)
      rw [stW_at HJ.out] at xj hcl hraw hF
      rw [stW_len] at x7 ev
      have HEV := Aside0.mk ev
      have HCL := Aside0.mk hcl
      have HF := Aside0.mk hF
      have HS1 := Aside0.mk h1
      have hjn : (j : Int) < (st.ways.length : Int) := by have := HJ.out; omega
      have hj0 : (0 : Int) ≤ (j : Int) := by omega
      have p1 : decide ((j : Int) < (st.ways.length : Int)) = true := decide_eq_true hjn
      clear hv1 hv2 hv3 hib hraw ev hcl hF h1 HW

      have HR := Aside0.mk (show popT at_ ss0 = [] from HP.out.symm)
      have HT := Aside0.mk (show SndTo w0 W g V bk q (stW st (st.ways.set j (popT at_ ss0))) wr by rw [HR.out]; exact ⟨V1, HS1.out, HV1.out, HV2.out, HV3.out, HIB.out⟩)
      simp only [List.length_nil] at xj
      clear HP HK HCL HF HS1
      go_wp2
      go_ret
      exact ⟨by rw [HR.out]; rfl, HT.out⟩
    · obtain ⟨V1, h1, hv1, hv2, hv3, hib⟩ := HW.out
      have HV1 := Aside0.mk hv1
      have HV2 := Aside0.mk hv2
      have HV3 := Aside0.mk hv3
      have HIB := Aside0.mk hib
      obtain ⟨aw, cw, A, c, ev, x7, xj, fj, hcl, hraw, hF⟩ := h1.way (stW_lt HJ.out)
      rw [stW_at HJ.out] at xj hcl hraw hF
      rw [stW_len] at x7 ev
      have HEV := Aside0.mk ev
      have HCL := Aside0.mk hcl
      have HF := Aside0.mk hF
      have HS1 := Aside0.mk h1
      have hjn : (j : Int) < (st.ways.length : Int) := by have := HJ.out; omega
      have hj0 : (0 : Int) ≤ (j : Int) := by omega
      have p1 : decide ((j : Int) < (st.ways.length : Int)) = true := decide_eq_true hjn
      clear hv1 hv2 hv3 hib hraw ev hcl hF h1 HW

      obtain ⟨rl, hrl⟩ : ∃ rl, rl = r.length := ⟨_, rfl⟩
      have hrl1 : (s :: r).length = rl + 1 := by rw [List.length_cons, hrl]
      obtain ⟨ad, ea, y0, y1, y2⟩ := at_T81 (Kd.F_now HF.out) 0 (by omega) (by rw [hrl1]; omega)
      rw [ea, hrl1] at xj
      have hrd : rd_T81 (s :: r) 0 = s := rfl
      rw [hrd, show ad.add ((0 : Int).toNat * 3) = ad from addr_zero ad] at y0 y1 y2
      have HRL := Aside0.mk hrl
      have HEA := Aside0.mk ea
      have hc1 : 0 < rl + 1 := by omega
      clear hrl hrl1 hrd ea
      by_cases hA : s.f1 ≤ at_
      · have dA : decide (s.f1 ≤ at_) = true := decide_eq_true hA
        obtain ⟨A2, hcut, hrc, hF2⟩ := st_cut A s r rl c HRL.out HCL.out
        rw [HEA.out] at hcut
        have HP2 := Aside0.mk (show popT at_ r = popT at_ ss0 by rw [← HP.out, popT_pop hA])
        have HT2 := Aside0.mk (show SndTo w0 W g V bk q (stW st (st.ways.set j r)) (wr.drew.setCell ⟨aw, j, none⟩ (.slice A2 rl (c - 1))) by
          have h1 := (HS1.out.below (below_drew (Below.refl _ wr)))
          obtain ⟨h2, h3⟩ := h1.setWay (stW_lt HJ.out) HEV.out (A := A2) (c := c - 1) (ss := r) (by rw [← HRL.out]; exact hrc) (by rw [← HRL.out]; exact Kd.F_drew (hF2 _ _ HF.out))
          rw [stW_stSet] at h2
          rw [← HRL.out] at h2 h3
          refine SndTo.trans HV1.out HV2.out HV3.out (HIB.out.trans (IntsBut.below (below_drew (Below.refl _ wr)))) ?_
          exact ⟨_, h2, rfl, rfl, rfl, h3⟩)
        have HK2 := Aside0.mk (show rl + 1 ≤ gk by have := HK.out; rw [List.length_cons, ← HRL.out] at this; exact this)
        clear HK HP HF HCL HS1 hA hrc hF2 HEA HIB HV1 HV2 HV3 HEV
        go_wp2
        go_still_tail 14, (by kernel_rfl)
        change wpList _ _ _ _ _ wr.drew
        go_wp2
        go_roundg rl
        case measure => have := HK2.out; omega
        case rel => exact ⟨r, ⟨by rw [HRL.out]; exact Nat.le_refl _⟩, HP2, HT2⟩
      · have dA : decide (s.f1 ≤ at_) = false := decide_eq_false hA
        have HR := Aside0.mk (show popT at_ ss0 = s :: r by rw [← HP.out, popT_keep hA])
        have HT := Aside0.mk (show SndTo w0 W g V bk q (stW st (st.ways.set j (popT at_ ss0))) wr by rw [HR.out]; exact ⟨V1, HS1.out, HV1.out, HV2.out, HV3.out, HIB.out⟩)
        clear HP HK HCL HF HS1 hA
        by_cases hB : s.f0 ≤ at_
        · have dB : decide (s.f0 ≤ at_) = true := decide_eq_true hB
          have HE := Aside0.mk (show rateT (popT at_ ss0) at_ = s.f2 by rw [HR.out]; show (if s.f0 ≤ at_ then s.f2 else 0) = s.f2; rw [if_pos hB])
          clear hB
          go_wp2
          go_ret
          exact ⟨by rw [HE.out]; rfl, HT.out⟩
        · have dB : decide (s.f0 ≤ at_) = false := decide_eq_false hB
          have HE := Aside0.mk (show rateT (popT at_ ss0) at_ = 0 by rw [HR.out]; show (if s.f0 ≤ at_ then s.f2 else 0) = 0; rw [if_neg hB])
          clear hB
          go_wp2
          go_ret
          exact ⟨by rw [HE.out]; rfl, HT.out⟩
end Go.Proofs.Ytbngmblgkkdhpaa.Q
