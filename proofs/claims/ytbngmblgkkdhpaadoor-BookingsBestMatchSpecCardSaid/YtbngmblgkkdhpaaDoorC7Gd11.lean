-- Made by wip/tools/claimp.py of this session's texts; Lean checks it.
import Derived.Test.YtbngmblgkkdhpaaDoorC7Q0
import Derived.Test.YtbngmblgkkdhpaaDoorC7Gd9
namespace Go.Proofs.YtbngmblgkkdhpaaDoor.Q
open Go.RowKit Go.Proofs.YtbngmblgkkdhpaaDoorW.PrintWords Go.Proofs.YtbngmblgkkdhpaaDoorW.PrintLast Go.Proofs.YtbngmblgkkdhpaaDoorW.PrintMore
attribute [local go_sem] max2_int min2_int max_two min_two max_three min_three max_four min_four
open Go.Proofs.YtbngmblgkkdhpaaDoor.Base
attribute [local go_sem high] str_leq str_gtr str_geq
set_option linter.unusedVariables false
set_option linter.unusedSimpArgs false
mutual
def contact_clash.l0 : Nat → List (S55) → Int → List Int → List Int → Int → Int → Option (Bool)
  | 0, _, _, _, _, _, _ => none
  | k + 1, x0, x1, x2, x11, x12, x13 => if x13 < x12 then (if 0 ≤ x13 then (if x13 < (x11.length : Int) then (if x13 ≤ (x2.length : Int) then (contact_clash.l1 k x0 x1 x2 (rd x11 x13) x11 x12 x13 (x2.take (x13 : Int).toNat) ((x2.take (x13 : Int).toNat).length : Int) 0) else (none)) else (none)) else (none)) else (some false)
def contact_clash.l1 : Nat → List (S55) → Int → List Int → Int → List Int → Int → Int → List Int → Int → Int → Option (Bool)
  | 0, _, _, _, _, _, _, _, _, _, _ => none
  | k + 1, x0, x1, x2, x8, x11, x12, x13, x20, x21, x22 => if x22 < x21 then (if 0 ≤ x22 then (if x22 < (x20.length : Int) then (if 0 ≤ (rd x20 x22) then (if (rd x20 x22) < (x0.length : Int) then (if 0 ≤ x8 then (if x8 < (x0.length : Int) then ((contact_exclude.f ((rd_T55 x0 (rd x20 x22)).f0) ((rd_T55 x0 (rd x20 x22)).f1) ((rd_T55 x0 (rd x20 x22)).f2) ((rd_T55 x0 (rd x20 x22)).f3) ((rd_T55 x0 x8).f0) ((rd_T55 x0 x8).f1) ((rd_T55 x0 x8).f2) ((rd_T55 x0 x8).f3) x1).bind fun t106 => (if t106 = true then (some true) else (contact_clash.l1 k x0 x1 x2 x8 x11 x12 x13 x20 x21 (wrap64 (x22 + 1))))) else (none)) else (none)) else (none)) else (none)) else (none)) else (none)) else (contact_clash.l0 k x0 x1 x2 x11 x12 (wrap64 (x13 + 1)))
end
def contact_clash.f (k : Nat) (l0 : List (S55)) (a1 : Int) (l2 : List Int) : Option (Bool) := contact_clash.l0 k l0 a1 l2 l2 (l2.length : Int) 0
def contact_clash.T7 : Bool × List (List Nat × List Nat) := (true, [([], []), ([], []), ([0, 1], [0, 1]), ([2], [2]), ([], []), ([], []), ([4, 5], [4, 5]), ([6], [6]), ([], []), ([3, 7, 8], [3, 7, 8])])
def contact_clash.B7 : List Nat := [0, 0, 3, 7, 0, 0, 48, 112, 0, 511]
theorem contact_clash.tab7 : rtab .any (opsOf Tryd.f60 7) = contact_clash.T7 := by kernel_rfl
theorem contact_clash.bits7 : waitsOk contact_clash.T7.2 contact_clash.B7 = true := by kernel_rfl
theorem d60a {p : Prop} (h : p := by repeat (first | (with_reducible first | exact HB.out | apply below_alloc | apply pw_below_drewN | apply below_drew1) | exact HB.out)) : p := h
theorem d60b {p : Prop} (h : p := by first | (with_reducible assumption) | assumption) : p := h
theorem d60c {p : Prop} (h : p := by first | rfl | (simp; done) | (simp [*]; done)) : p := h
set_option maxHeartbeats 8000000 in
set_option maxRecDepth 100000 in
theorem contact_clash.calls (k : Nat) (A0 : Option Addr) (c0 : Nat) (l0 : List (S55)) (a1 : Int) (A2 : Option Addr) (c2 : Nat) (l2 : List Int) (r : Bool) (w : World) (hr0 : Kd.C k55 w A0 l0.length l0) (hc0 : l0.length ≤ c0) (hr2 : Kd.C (Kd.int .i64) w A2 l2.length l2) (hc2 : l2.length ≤ c2) (h : contact_clash.f k l0 a1 l2 = some r) :
 Calls Tryd.prog 60 #[.slice A0 l0.length c0, .int .i64 a1, .slice A2 l2.length c2] w fun e w' => e = .returned (.bool r) ∧ Below w.heap.size w w' := by
 have hu55 := Tryd.underlying55
 have HR0 := Aside0.mk hr0
 have HC0 := Aside0.mk hc0
 clear hr0 hc0
 have HR2 := Aside0.mk hr2
 have HC2 := Aside0.mk hc2
 clear hr2 hc2
 have HB := Aside0.mk (Below.refl w.heap.size w)
 have H : (contact_clash.l0 k l0 a1 l2 l2 (l2.length : Int) 0) = some r := h
 clear h
 have H' := Aside0.mk H
 clear H
 go_enter Tryd.func60, Tryd.ntmps60
 go_wp2
 go_loopg [13] k (fun kq v13 w' => ∃ (x13_1 : Int), v13 = .int .i64 x13_1 ∧ Aside0 (contact_clash.l0 kq l0 a1 l2 l2 (l2.length : Int) x13_1 = some r) ∧ Aside0 (kq ≤ k) ∧ Aside0 (Below w.heap.size w w'))
 case atStart => exact ⟨(0), d60c, H', ⟨Nat.le_refl _⟩, ⟨d60a⟩⟩
 case round =>
  clear H'
  obtain ⟨x13_1, rfl, HA, HK1, HB⟩ := hrel
  cases gk with
  | zero => exact absurd HA.out (by simp [contact_clash.l0])
  | succ k1 =>
   have H := HA.out
   clear HA
   simp only [contact_clash.l0] at H
   by_cases c4 : x13_1 < (l2.length : Int)
   · rw [if_pos c4] at H
     have c4b0 : decide (x13_1 < (l2.length : Int)) = true := decide_eq_true c4
     clear c4
     replace H := guardT H; obtain ⟨c5, H⟩ := H
     have c5b0 : decide (0 ≤ x13_1) = true := decide_eq_true c5
     clear c5
     replace H := guardT H; obtain ⟨c6, H⟩ := H
     have c6b0 : decide (x13_1 < (l2.length : Int)) = true := decide_eq_true c6
     clear c6
     have c7b0 := eq_true (of_decide_eq_true d60b : 0 ≤ x13_1)
     replace H := guardT H; obtain ⟨c8, H⟩ := H
     have c8b0 := eq_true c8
     have c8b1 : decide (x13_1 ≤ (l2.length : Int)) = true := decide_eq_true c8
     clear c8
     have H' := Aside0.mk H
     clear H
     have p101 : 0 ≤ (x13_1 : Int) := of_decide_eq_true d60b
     have q101 : x13_1 < (l2.length : Int) := of_decide_eq_true d60b
     obtain ⟨ad101, e101, hx101_0⟩ := Kd.at_int HR2.out x13_1 p101 q101
     cases e101
     replace hx101_0 := cellB HB.out hx101_0
     replace p101 := eq_true p101
     replace q101 := eq_true q101
     obtain ⟨i09, hi09, _, hsz9, _⟩ := info_parts info3
     obtain ⟨hcut9, hA9, hC9⟩ := print_take_of (P := Tryd.prog) (Value.int .i64) 0 31 3 .i64 Tryd.underlying31 hi09 hsz9 (some ad101) c2 l2 x13_1 (of_decide_eq_true d60b) (of_decide_eq_true d60b) HC2.out
     obtain ⟨tk9, htk9⟩ : ∃ tk_ : List _, (l2.take (x13_1 : Int).toNat) = tk_ := ⟨_, rfl⟩
     rw [htk9] at hcut9 hA9 hC9
     (try rw [htk9] at H)
     (try rw [htk9] at H')
     have Htk9 := Aside0.mk htk9
     clear htk9
     have HR102 := Aside0.mk (Kd.C_of_reads (h1 := fun _ => rfl) (hA9 _ (Kd.reads_of_C HR2.out)))
     have HC102 := Aside0.mk hC9
     clear hA9 hC9 hi09 hsz9
     go_wp2
     go_loopg [22] k1 (fun kq v22 w' => ∃ (x22_2 : Int), v22 = .int .i64 x22_2 ∧ Aside0 (contact_clash.l1 kq l0 a1 l2 (rd l2 x13_1) l2 (l2.length : Int) x13_1 tk9 (tk9.length : Int) x22_2 = some r) ∧ Aside0 (kq ≤ k1) ∧ Aside0 (Below w.heap.size w w'))
     case atStart => exact ⟨(0), d60c, H', ⟨Nat.le_refl _⟩, ⟨d60a⟩⟩
     case round =>
      clear H'
      try clear c4b0
      try clear c5b0
      try clear c6b0
      try clear c7b0
      try clear c8b0
      try clear c8b1
      try clear hx101_0
      try clear p101
      try clear q101
      obtain ⟨x22_2, rfl, HA, HK2, HB⟩ := hrel
      cases gk with
      | zero => exact absurd HA.out (by simp [contact_clash.l1])
      | succ k2 =>
       have H := HA.out
       clear HA
       simp only [contact_clash.l1] at H
       by_cases c10 : x22_2 < (tk9.length : Int)
       · rw [if_pos c10] at H
         have c10b0 : decide (x22_2 < (tk9.length : Int)) = true := decide_eq_true c10
         clear c10
         replace H := guardT H; obtain ⟨c11, H⟩ := H
         have c11b0 : decide (0 ≤ x22_2) = true := decide_eq_true c11
         clear c11
         replace H := guardT H; obtain ⟨c12, H⟩ := H
         have c12b0 : decide (x22_2 < (tk9.length : Int)) = true := decide_eq_true c12
         clear c12
         replace H := guardT H; obtain ⟨c13, H⟩ := H
         have c13b0 : decide (0 ≤ (rd tk9 x22_2)) = true := decide_eq_true c13
         clear c13
         replace H := guardT H; obtain ⟨c14, H⟩ := H
         have c14b0 : decide ((rd tk9 x22_2) < (l0.length : Int)) = true := decide_eq_true c14
         clear c14
         replace H := guardT H; obtain ⟨c15, H⟩ := H
         have c15b0 : decide (0 ≤ (rd l2 x13_1)) = true := decide_eq_true c15
         clear c15
         replace H := guardT H; obtain ⟨c16, H⟩ := H
         have c16b0 : decide ((rd l2 x13_1) < (l0.length : Int)) = true := decide_eq_true c16
         clear c16
         replace H := bindS H; obtain ⟨t106, A17, H⟩ := H
         by_cases c18 : t106 = true
         · subst c18
           replace H := iteT H
           obtain rfl := Option.some.inj H
           have p103 : 0 ≤ (x22_2 : Int) := of_decide_eq_true d60b
           have q103 : x22_2 < (tk9.length : Int) := of_decide_eq_true d60b
           obtain ⟨ad103, e103, hx103_0⟩ := Kd.at_int HR102.out x22_2 p103 q103
           obtain rfl : ad101 = ad103 := (by injection e103)
           replace hx103_0 := cellB HB.out hx103_0
           replace p103 := eq_true p103
           replace q103 := eq_true q103
           try go_wp2
           have n0_ := Aside0.mk (below_drew1 HB.out)
           clear HB
           have HB := n0_
           clear n0_
           have p104 : 0 ≤ ((rd tk9 x22_2) : Int) := of_decide_eq_true d60b
           have q104 : (rd tk9 x22_2) < (l0.length : Int) := of_decide_eq_true d60b
           obtain ⟨ad104, A104_3, c104_3, e104, hx104_0, hx104_1, hx104_2, hx104_3, hl104_3, hi104_3⟩ := at_T55 HR0.out (rd tk9 x22_2) p104 q104
           have hw104_3 := hx104_3
           have hw104_2 := hx104_2
           have hw104_1 := hx104_1
           have hw104_0 := hx104_0
           cases e104
           replace hx104_0 := cellB HB.out hx104_0
           replace hx104_1 := cellB HB.out hx104_1
           replace hx104_2 := cellB HB.out hx104_2
           replace hx104_3 := cellB HB.out hx104_3
           have HR104_3 := Aside0.mk hi104_3
           have HC104_3 := Aside0.mk hl104_3
           clear hi104_3 hl104_3
           replace p104 := eq_true p104
           replace q104 := eq_true q104
           have p105 : 0 ≤ ((rd l2 x13_1) : Int) := of_decide_eq_true d60b
           have q105 : (rd l2 x13_1) < (l0.length : Int) := of_decide_eq_true d60b
           obtain ⟨ad105, A105_3, c105_3, e105, hx105_0, hx105_1, hx105_2, hx105_3, hl105_3, hi105_3⟩ := at_T55 HR0.out (rd l2 x13_1) p105 q105
           have hw105_3 := hx105_3
           have hw105_2 := hx105_2
           have hw105_1 := hx105_1
           have hw105_0 := hx105_0
           obtain rfl : ad104 = ad105 := (by injection e105)
           replace hx105_0 := cellB HB.out hx105_0
           replace hx105_1 := cellB HB.out hx105_1
           replace hx105_2 := cellB HB.out hx105_2
           replace hx105_3 := cellB HB.out hx105_3
           have HR105_3 := Aside0.mk hi105_3
           have HC105_3 := Aside0.mk hl105_3
           clear hi105_3 hl105_3
           replace p105 := eq_true p105
           replace q105 := eq_true q105
           refine start_ (n := 10) (S := fun w' => w'.cell? (ad104.add (((rd tk9 x22_2)).toNat * 4)) = some (.string ((rd_T55 l0 (rd tk9 x22_2)).f0)) ∧ w'.cell? ⟨(ad104.add (((rd tk9 x22_2)).toNat * 4)).block, (ad104.add (((rd tk9 x22_2)).toNat * 4)).off + 1, none⟩ = some (.int .i64 ((rd_T55 l0 (rd tk9 x22_2)).f1)) ∧ w'.cell? ⟨(ad104.add (((rd tk9 x22_2)).toNat * 4)).block, (ad104.add (((rd tk9 x22_2)).toNat * 4)).off + 2, none⟩ = some (.int .i64 ((rd_T55 l0 (rd tk9 x22_2)).f2)) ∧ w'.cell? ⟨(ad104.add (((rd tk9 x22_2)).toNat * 4)).block, (ad104.add (((rd tk9 x22_2)).toNat * 4)).off + 3, none⟩ = some (.slice A104_3 ((rd_T55 l0 (rd tk9 x22_2)).f3).length c104_3) ∧ w'.cell? (ad104.add (((rd l2 x13_1)).toNat * 4)) = some (.string ((rd_T55 l0 (rd l2 x13_1)).f0)) ∧ w'.cell? ⟨(ad104.add (((rd l2 x13_1)).toNat * 4)).block, (ad104.add (((rd l2 x13_1)).toNat * 4)).off + 1, none⟩ = some (.int .i64 ((rd_T55 l0 (rd l2 x13_1)).f1)) ∧ w'.cell? ⟨(ad104.add (((rd l2 x13_1)).toNat * 4)).block, (ad104.add (((rd l2 x13_1)).toNat * 4)).off + 2, none⟩ = some (.int .i64 ((rd_T55 l0 (rd l2 x13_1)).f2)) ∧ w'.cell? ⟨(ad104.add (((rd l2 x13_1)).toNat * 4)).block, (ad104.add (((rd l2 x13_1)).toNat * 4)).off + 3, none⟩ = some (.slice A105_3 ((rd_T55 l0 (rd l2 x13_1)).f3).length c105_3)) (ds := []) #[false, false, false, false, false, false, false, false, false, false] (by kernel_rfl) rfl rfl ⟨((HB.out.cell (World.block_lt_of_cell? w _ hw104_0)).trans hw104_0), ((HB.out.cell (World.block_lt_of_cell? w _ hw104_1)).trans hw104_1), ((HB.out.cell (World.block_lt_of_cell? w _ hw104_2)).trans hw104_2), ((HB.out.cell (World.block_lt_of_cell? w _ hw104_3)).trans hw104_3), ((HB.out.cell (World.block_lt_of_cell? w _ hw105_0)).trans hw105_0), ((HB.out.cell (World.block_lt_of_cell? w _ hw105_1)).trans hw105_1), ((HB.out.cell (World.block_lt_of_cell? w _ hw105_2)).trans hw105_2), ((HB.out.cell (World.block_lt_of_cell? w _ hw105_3)).trans hw105_3)⟩ (fun hHeld => ?_); refine with_tabW contact_clash.tab7 contact_clash.bits7 (fun HT_ HW_ => ?_)
           generalize wr.drew = w19 at HB HR104_3 HR105_3 hx104_0 hx104_1 hx104_2 hx104_3 hx105_0 hx105_1 hx105_2 hx105_3 hHeld ⊢
           refine pure_ (i := 0) (N := some 26) (v := ?_) (a' := ?_) #[true, false, false, false, false, false, false, false, false, false] rfl rfl (any_of HT_.out (by kernel_rfl)) (fun _ _ _ h => h) (Or.inl ⟨by rfl, ?_⟩) ?_ ?_
           rotate_left
           · intro w'
             go_simp
             with_reducible rfl
           rotate_left
           · simp only [Act.put, List.setIfInBounds_toArray, List.set_cons_zero, List.set_cons_succ, i64_w, i32_w]
             rfl
           refine pure_ (i := 1) (N := some 27) (v := ?_) (a' := ?_) #[true, true, false, false, false, false, false, false, false, false] rfl rfl (any_of HT_.out (by kernel_rfl)) (fun _ _ _ h => h) (Or.inl ⟨by rfl, ?_⟩) ?_ ?_
           rotate_left
           · intro w'
             go_simp
             with_reducible rfl
           rotate_left
           · simp only [Act.put, List.setIfInBounds_toArray, List.set_cons_zero, List.set_cons_succ, i64_w, i32_w]
             rfl
           refine pure_ (i := 2) (N := some 28) (v := ?_) (a' := ?_) #[true, true, true, false, false, false, false, false, false, false] rfl rfl (any_of HT_.out (by kernel_rfl)) (fun _ _ _ h => h) (Or.inl ⟨by rfl, ?_⟩) ?_ ?_
           rotate_left
           · intro w'
             go_simp
             with_reducible rfl
           rotate_left
           · simp only [Act.put, List.setIfInBounds_toArray, List.set_cons_zero, List.set_cons_succ, i64_w, i32_w]
             rfl
           refine pure_ (i := 4) (N := some 30) (v := ?_) (a' := ?_) #[true, true, true, false, true, false, false, false, false, false] rfl rfl (any_of HT_.out (by kernel_rfl)) (fun _ _ _ h => h) (Or.inl ⟨by rfl, ?_⟩) ?_ ?_
           rotate_left
           · intro w'
             go_simp
             with_reducible rfl
           rotate_left
           · simp only [Act.put, List.setIfInBounds_toArray, List.set_cons_zero, List.set_cons_succ, i64_w, i32_w]
             rfl
           refine pure_ (i := 5) (N := some 31) (v := ?_) (a' := ?_) #[true, true, true, false, true, true, false, false, false, false] rfl rfl (any_of HT_.out (by kernel_rfl)) (fun _ _ _ h => h) (Or.inl ⟨by rfl, ?_⟩) ?_ ?_
           rotate_left
           · intro w'
             go_simp
             with_reducible rfl
           rotate_left
           · simp only [Act.put, List.setIfInBounds_toArray, List.set_cons_zero, List.set_cons_succ, i64_w, i32_w]
             rfl
           refine pure_ (i := 6) (N := some 32) (v := ?_) (a' := ?_) #[true, true, true, false, true, true, true, false, false, false] rfl rfl (any_of HT_.out (by kernel_rfl)) (fun _ _ _ h => h) (Or.inl ⟨by rfl, ?_⟩) ?_ ?_
           rotate_left
           · intro w'
             go_simp
             with_reducible rfl
           rotate_left
           · simp only [Act.put, List.setIfInBounds_toArray, List.set_cons_zero, List.set_cons_succ, i64_w, i32_w]
             rfl
           refine pure_ (i := 8) (N := some 34) (v := ?_) (a' := ?_) #[true, true, true, false, true, true, true, false, true, false] rfl rfl (any_of HT_.out (by kernel_rfl)) (fun _ _ _ h => h) (Or.inl ⟨by rfl, ?_⟩) ?_ ?_
           rotate_left
           · intro w'
             go_simp
             with_reducible rfl
           rotate_left
           · simp only [Act.put, List.setIfInBounds_toArray, List.set_cons_zero, List.set_cons_succ, i64_w, i32_w]
             rfl
           refine take_ (i := 3) (N := some 29) (v := ?_) (a' := ?_) #[true, true, true, true, true, true, true, false, true, false] rfl rfl (take_ofW HT_.out HW_.out (by kernel_rfl)) (fun _ _ _ h => h) (Or.inl ⟨by rfl, ?_⟩) hHeld ?_ ?_
           rotate_left
           · rintro w' ⟨s0, s1, s2, s3, s4, s5, s6, s7⟩
             go_simp
             with_reducible rfl
           rotate_left
           · simp only [Act.put, List.setIfInBounds_toArray, List.set_cons_zero, List.set_cons_succ, i64_w, i32_w]
             rfl
           refine take_ (i := 7) (N := some 33) (v := ?_) (a' := ?_) #[true, true, true, true, true, true, true, true, true, false] rfl rfl (take_ofW HT_.out HW_.out (by kernel_rfl)) (fun _ _ _ h => h) (Or.inl ⟨by rfl, ?_⟩) hHeld ?_ ?_
           rotate_left
           · rintro w' ⟨s0, s1, s2, s3, s4, s5, s6, s7⟩
             go_simp
             with_reducible rfl
           rotate_left
           · simp only [Act.put, List.setIfInBounds_toArray, List.set_cons_zero, List.set_cons_succ, i64_w, i32_w]
             rfl
           refine one_ (i := 9) (N := some 35) #[true, true, true, true, true, true, true, true, true, true] rfl rfl (one_of HT_.out (by kernel_rfl)) (by decide) (fun K hK => ?_)
           refine goes_ Tryd.func40 (by kernel_rfl) rfl #[.agg #[.string ((rd_T55 l0 (rd tk9 x22_2)).f0), .int .i64 ((rd_T55 l0 (rd tk9 x22_2)).f1), .int .i64 ((rd_T55 l0 (rd tk9 x22_2)).f2), .slice A104_3 ((rd_T55 l0 (rd tk9 x22_2)).f3).length c104_3], .agg #[.string ((rd_T55 l0 (rd l2 x13_1)).f0), .int .i64 ((rd_T55 l0 (rd l2 x13_1)).f1), .int .i64 ((rd_T55 l0 (rd l2 x13_1)).f2), .slice A105_3 ((rd_T55 l0 (rd l2 x13_1)).f3).length c105_3], .int .i64 a1] (by rfl) rfl rfl (by (try simp only [List.map_toArray, List.map_cons, List.map_nil]); first | done | rfl | (simp only [List.length_drop, List.length_take]; rfl)) ?_
           with_reducible refine (contact_exclude.calls ((rd_T55 l0 (rd tk9 x22_2)).f0) ((rd_T55 l0 (rd tk9 x22_2)).f1) ((rd_T55 l0 (rd tk9 x22_2)).f2) _ _ ((rd_T55 l0 (rd tk9 x22_2)).f3) ((rd_T55 l0 (rd l2 x13_1)).f0) ((rd_T55 l0 (rd l2 x13_1)).f1) ((rd_T55 l0 (rd l2 x13_1)).f2) _ _ ((rd_T55 l0 (rd l2 x13_1)).f3) a1 true _ ?side1 ?side2 ?side3 ?side4 A17.out).mono ?_
           (case side1 => exact C_go (Kd.C_below HR104_3.out HB.out))
           (case side2 => exact HC104_3.out)
           (case side3 => exact C_go (Kd.C_below HR105_3.out HB.out))
           (case side4 => exact HC105_3.out)
           rintro e w20 ⟨rfl, hb⟩
           refine ⟨_, rfl, ?_⟩
           have n0_ := Aside0.mk (below_step d60a hb)
           clear HB
           have HB := n0_
           clear n0_
           (try clear hb)
           skip
           skip
           skip
           refine hK.out _ _ ⟨((HB.out.cell (World.block_lt_of_cell? w _ hw104_0)).trans hw104_0), ((HB.out.cell (World.block_lt_of_cell? w _ hw104_1)).trans hw104_1), ((HB.out.cell (World.block_lt_of_cell? w _ hw104_2)).trans hw104_2), ((HB.out.cell (World.block_lt_of_cell? w _ hw104_3)).trans hw104_3), ((HB.out.cell (World.block_lt_of_cell? w _ hw105_0)).trans hw105_0), ((HB.out.cell (World.block_lt_of_cell? w _ hw105_1)).trans hw105_1), ((HB.out.cell (World.block_lt_of_cell? w _ hw105_2)).trans hw105_2), ((HB.out.cell (World.block_lt_of_cell? w _ hw105_3)).trans hw105_3)⟩ (fun hHeld => ?_)
           clear hK K
           refine norm_ (a' := ?_) ?_ ?_
           rotate_left
           · show Act.put _ (some 35) _ = _
             simp only [Act.put, List.setIfInBounds_toArray, List.set_cons_zero, List.set_cons_succ, i64_w, i32_w]
             rfl
           refine done_ (done_of HT_.out (by kernel_rfl)) ?_
           try go_wp2
           go_ret
           exact ⟨by first | rfl | (simp [errW_none, errW_some] <;> rfl) | (simp [*, errW_none, errW_some] <;> rfl), d60a⟩
         · replace c18 := Bool.eq_false_iff.mpr c18
           subst c18
           replace H := iteF H
           have H' := Aside0.mk H
           clear H
           have p103 : 0 ≤ (x22_2 : Int) := of_decide_eq_true d60b
           have q103 : x22_2 < (tk9.length : Int) := of_decide_eq_true d60b
           obtain ⟨ad103, e103, hx103_0⟩ := Kd.at_int HR102.out x22_2 p103 q103
           obtain rfl : ad101 = ad103 := (by injection e103)
           replace hx103_0 := cellB HB.out hx103_0
           replace p103 := eq_true p103
           replace q103 := eq_true q103
           try go_wp2
           have n0_ := Aside0.mk (below_drew1 HB.out)
           clear HB
           have HB := n0_
           clear n0_
           have p104 : 0 ≤ ((rd tk9 x22_2) : Int) := of_decide_eq_true d60b
           have q104 : (rd tk9 x22_2) < (l0.length : Int) := of_decide_eq_true d60b
           obtain ⟨ad104, A104_3, c104_3, e104, hx104_0, hx104_1, hx104_2, hx104_3, hl104_3, hi104_3⟩ := at_T55 HR0.out (rd tk9 x22_2) p104 q104
           have hw104_3 := hx104_3
           have hw104_2 := hx104_2
           have hw104_1 := hx104_1
           have hw104_0 := hx104_0
           cases e104
           replace hx104_0 := cellB HB.out hx104_0
           replace hx104_1 := cellB HB.out hx104_1
           replace hx104_2 := cellB HB.out hx104_2
           replace hx104_3 := cellB HB.out hx104_3
           have HR104_3 := Aside0.mk hi104_3
           have HC104_3 := Aside0.mk hl104_3
           clear hi104_3 hl104_3
           replace p104 := eq_true p104
           replace q104 := eq_true q104
           have p105 : 0 ≤ ((rd l2 x13_1) : Int) := of_decide_eq_true d60b
           have q105 : (rd l2 x13_1) < (l0.length : Int) := of_decide_eq_true d60b
           obtain ⟨ad105, A105_3, c105_3, e105, hx105_0, hx105_1, hx105_2, hx105_3, hl105_3, hi105_3⟩ := at_T55 HR0.out (rd l2 x13_1) p105 q105
           have hw105_3 := hx105_3
           have hw105_2 := hx105_2
           have hw105_1 := hx105_1
           have hw105_0 := hx105_0
           obtain rfl : ad104 = ad105 := (by injection e105)
           replace hx105_0 := cellB HB.out hx105_0
           replace hx105_1 := cellB HB.out hx105_1
           replace hx105_2 := cellB HB.out hx105_2
           replace hx105_3 := cellB HB.out hx105_3
           have HR105_3 := Aside0.mk hi105_3
           have HC105_3 := Aside0.mk hl105_3
           clear hi105_3 hl105_3
           replace p105 := eq_true p105
           replace q105 := eq_true q105
           refine start_ (n := 10) (S := fun w' => w'.cell? (ad104.add (((rd tk9 x22_2)).toNat * 4)) = some (.string ((rd_T55 l0 (rd tk9 x22_2)).f0)) ∧ w'.cell? ⟨(ad104.add (((rd tk9 x22_2)).toNat * 4)).block, (ad104.add (((rd tk9 x22_2)).toNat * 4)).off + 1, none⟩ = some (.int .i64 ((rd_T55 l0 (rd tk9 x22_2)).f1)) ∧ w'.cell? ⟨(ad104.add (((rd tk9 x22_2)).toNat * 4)).block, (ad104.add (((rd tk9 x22_2)).toNat * 4)).off + 2, none⟩ = some (.int .i64 ((rd_T55 l0 (rd tk9 x22_2)).f2)) ∧ w'.cell? ⟨(ad104.add (((rd tk9 x22_2)).toNat * 4)).block, (ad104.add (((rd tk9 x22_2)).toNat * 4)).off + 3, none⟩ = some (.slice A104_3 ((rd_T55 l0 (rd tk9 x22_2)).f3).length c104_3) ∧ w'.cell? (ad104.add (((rd l2 x13_1)).toNat * 4)) = some (.string ((rd_T55 l0 (rd l2 x13_1)).f0)) ∧ w'.cell? ⟨(ad104.add (((rd l2 x13_1)).toNat * 4)).block, (ad104.add (((rd l2 x13_1)).toNat * 4)).off + 1, none⟩ = some (.int .i64 ((rd_T55 l0 (rd l2 x13_1)).f1)) ∧ w'.cell? ⟨(ad104.add (((rd l2 x13_1)).toNat * 4)).block, (ad104.add (((rd l2 x13_1)).toNat * 4)).off + 2, none⟩ = some (.int .i64 ((rd_T55 l0 (rd l2 x13_1)).f2)) ∧ w'.cell? ⟨(ad104.add (((rd l2 x13_1)).toNat * 4)).block, (ad104.add (((rd l2 x13_1)).toNat * 4)).off + 3, none⟩ = some (.slice A105_3 ((rd_T55 l0 (rd l2 x13_1)).f3).length c105_3)) (ds := []) #[false, false, false, false, false, false, false, false, false, false] (by kernel_rfl) rfl rfl ⟨((HB.out.cell (World.block_lt_of_cell? w _ hw104_0)).trans hw104_0), ((HB.out.cell (World.block_lt_of_cell? w _ hw104_1)).trans hw104_1), ((HB.out.cell (World.block_lt_of_cell? w _ hw104_2)).trans hw104_2), ((HB.out.cell (World.block_lt_of_cell? w _ hw104_3)).trans hw104_3), ((HB.out.cell (World.block_lt_of_cell? w _ hw105_0)).trans hw105_0), ((HB.out.cell (World.block_lt_of_cell? w _ hw105_1)).trans hw105_1), ((HB.out.cell (World.block_lt_of_cell? w _ hw105_2)).trans hw105_2), ((HB.out.cell (World.block_lt_of_cell? w _ hw105_3)).trans hw105_3)⟩ (fun hHeld => ?_); refine with_tabW contact_clash.tab7 contact_clash.bits7 (fun HT_ HW_ => ?_)
           generalize wr.drew = w21 at HB HR104_3 HR105_3 hx104_0 hx104_1 hx104_2 hx104_3 hx105_0 hx105_1 hx105_2 hx105_3 hHeld ⊢
           refine pure_ (i := 0) (N := some 26) (v := ?_) (a' := ?_) #[true, false, false, false, false, false, false, false, false, false] rfl rfl (any_of HT_.out (by kernel_rfl)) (fun _ _ _ h => h) (Or.inl ⟨by rfl, ?_⟩) ?_ ?_
           rotate_left
           · intro w'
             go_simp
             with_reducible rfl
           rotate_left
           · simp only [Act.put, List.setIfInBounds_toArray, List.set_cons_zero, List.set_cons_succ, i64_w, i32_w]
             rfl
           refine pure_ (i := 1) (N := some 27) (v := ?_) (a' := ?_) #[true, true, false, false, false, false, false, false, false, false] rfl rfl (any_of HT_.out (by kernel_rfl)) (fun _ _ _ h => h) (Or.inl ⟨by rfl, ?_⟩) ?_ ?_
           rotate_left
           · intro w'
             go_simp
             with_reducible rfl
           rotate_left
           · simp only [Act.put, List.setIfInBounds_toArray, List.set_cons_zero, List.set_cons_succ, i64_w, i32_w]
             rfl
           refine pure_ (i := 2) (N := some 28) (v := ?_) (a' := ?_) #[true, true, true, false, false, false, false, false, false, false] rfl rfl (any_of HT_.out (by kernel_rfl)) (fun _ _ _ h => h) (Or.inl ⟨by rfl, ?_⟩) ?_ ?_
           rotate_left
           · intro w'
             go_simp
             with_reducible rfl
           rotate_left
           · simp only [Act.put, List.setIfInBounds_toArray, List.set_cons_zero, List.set_cons_succ, i64_w, i32_w]
             rfl
           refine pure_ (i := 4) (N := some 30) (v := ?_) (a' := ?_) #[true, true, true, false, true, false, false, false, false, false] rfl rfl (any_of HT_.out (by kernel_rfl)) (fun _ _ _ h => h) (Or.inl ⟨by rfl, ?_⟩) ?_ ?_
           rotate_left
           · intro w'
             go_simp
             with_reducible rfl
           rotate_left
           · simp only [Act.put, List.setIfInBounds_toArray, List.set_cons_zero, List.set_cons_succ, i64_w, i32_w]
             rfl
           refine pure_ (i := 5) (N := some 31) (v := ?_) (a' := ?_) #[true, true, true, false, true, true, false, false, false, false] rfl rfl (any_of HT_.out (by kernel_rfl)) (fun _ _ _ h => h) (Or.inl ⟨by rfl, ?_⟩) ?_ ?_
           rotate_left
           · intro w'
             go_simp
             with_reducible rfl
           rotate_left
           · simp only [Act.put, List.setIfInBounds_toArray, List.set_cons_zero, List.set_cons_succ, i64_w, i32_w]
             rfl
           refine pure_ (i := 6) (N := some 32) (v := ?_) (a' := ?_) #[true, true, true, false, true, true, true, false, false, false] rfl rfl (any_of HT_.out (by kernel_rfl)) (fun _ _ _ h => h) (Or.inl ⟨by rfl, ?_⟩) ?_ ?_
           rotate_left
           · intro w'
             go_simp
             with_reducible rfl
           rotate_left
           · simp only [Act.put, List.setIfInBounds_toArray, List.set_cons_zero, List.set_cons_succ, i64_w, i32_w]
             rfl
           refine pure_ (i := 8) (N := some 34) (v := ?_) (a' := ?_) #[true, true, true, false, true, true, true, false, true, false] rfl rfl (any_of HT_.out (by kernel_rfl)) (fun _ _ _ h => h) (Or.inl ⟨by rfl, ?_⟩) ?_ ?_
           rotate_left
           · intro w'
             go_simp
             with_reducible rfl
           rotate_left
           · simp only [Act.put, List.setIfInBounds_toArray, List.set_cons_zero, List.set_cons_succ, i64_w, i32_w]
             rfl
           refine take_ (i := 3) (N := some 29) (v := ?_) (a' := ?_) #[true, true, true, true, true, true, true, false, true, false] rfl rfl (take_ofW HT_.out HW_.out (by kernel_rfl)) (fun _ _ _ h => h) (Or.inl ⟨by rfl, ?_⟩) hHeld ?_ ?_
           rotate_left
           · rintro w' ⟨s0, s1, s2, s3, s4, s5, s6, s7⟩
             go_simp
             with_reducible rfl
           rotate_left
           · simp only [Act.put, List.setIfInBounds_toArray, List.set_cons_zero, List.set_cons_succ, i64_w, i32_w]
             rfl
           refine take_ (i := 7) (N := some 33) (v := ?_) (a' := ?_) #[true, true, true, true, true, true, true, true, true, false] rfl rfl (take_ofW HT_.out HW_.out (by kernel_rfl)) (fun _ _ _ h => h) (Or.inl ⟨by rfl, ?_⟩) hHeld ?_ ?_
           rotate_left
           · rintro w' ⟨s0, s1, s2, s3, s4, s5, s6, s7⟩
             go_simp
             with_reducible rfl
           rotate_left
           · simp only [Act.put, List.setIfInBounds_toArray, List.set_cons_zero, List.set_cons_succ, i64_w, i32_w]
             rfl
           refine one_ (i := 9) (N := some 35) #[true, true, true, true, true, true, true, true, true, true] rfl rfl (one_of HT_.out (by kernel_rfl)) (by decide) (fun K hK => ?_)
           refine goes_ Tryd.func40 (by kernel_rfl) rfl #[.agg #[.string ((rd_T55 l0 (rd tk9 x22_2)).f0), .int .i64 ((rd_T55 l0 (rd tk9 x22_2)).f1), .int .i64 ((rd_T55 l0 (rd tk9 x22_2)).f2), .slice A104_3 ((rd_T55 l0 (rd tk9 x22_2)).f3).length c104_3], .agg #[.string ((rd_T55 l0 (rd l2 x13_1)).f0), .int .i64 ((rd_T55 l0 (rd l2 x13_1)).f1), .int .i64 ((rd_T55 l0 (rd l2 x13_1)).f2), .slice A105_3 ((rd_T55 l0 (rd l2 x13_1)).f3).length c105_3], .int .i64 a1] (by rfl) rfl rfl (by (try simp only [List.map_toArray, List.map_cons, List.map_nil]); first | done | rfl | (simp only [List.length_drop, List.length_take]; rfl)) ?_
           with_reducible refine (contact_exclude.calls ((rd_T55 l0 (rd tk9 x22_2)).f0) ((rd_T55 l0 (rd tk9 x22_2)).f1) ((rd_T55 l0 (rd tk9 x22_2)).f2) _ _ ((rd_T55 l0 (rd tk9 x22_2)).f3) ((rd_T55 l0 (rd l2 x13_1)).f0) ((rd_T55 l0 (rd l2 x13_1)).f1) ((rd_T55 l0 (rd l2 x13_1)).f2) _ _ ((rd_T55 l0 (rd l2 x13_1)).f3) a1 false _ ?side1 ?side2 ?side3 ?side4 A17.out).mono ?_
           (case side1 => exact C_go (Kd.C_below HR104_3.out HB.out))
           (case side2 => exact HC104_3.out)
           (case side3 => exact C_go (Kd.C_below HR105_3.out HB.out))
           (case side4 => exact HC105_3.out)
           rintro e w22 ⟨rfl, hb⟩
           refine ⟨_, rfl, ?_⟩
           have n0_ := Aside0.mk (below_step d60a hb)
           clear HB
           have HB := n0_
           clear n0_
           (try clear hb)
           skip
           skip
           skip
           refine hK.out _ _ ⟨((HB.out.cell (World.block_lt_of_cell? w _ hw104_0)).trans hw104_0), ((HB.out.cell (World.block_lt_of_cell? w _ hw104_1)).trans hw104_1), ((HB.out.cell (World.block_lt_of_cell? w _ hw104_2)).trans hw104_2), ((HB.out.cell (World.block_lt_of_cell? w _ hw104_3)).trans hw104_3), ((HB.out.cell (World.block_lt_of_cell? w _ hw105_0)).trans hw105_0), ((HB.out.cell (World.block_lt_of_cell? w _ hw105_1)).trans hw105_1), ((HB.out.cell (World.block_lt_of_cell? w _ hw105_2)).trans hw105_2), ((HB.out.cell (World.block_lt_of_cell? w _ hw105_3)).trans hw105_3)⟩ (fun hHeld => ?_)
           clear hK K
           refine norm_ (a' := ?_) ?_ ?_
           rotate_left
           · show Act.put _ (some 35) _ = _
             simp only [Act.put, List.setIfInBounds_toArray, List.set_cons_zero, List.set_cons_succ, i64_w, i32_w]
             rfl
           refine done_ (done_of HT_.out (by kernel_rfl)) ?_
           try go_wp2
           go_roundg k2
           case measure => have := HK1.out; have := HK2.out; omega
           case rel => exact ⟨(wrap64 (x22_2 + 1)), d60c, H', ⟨by have := HK1.out; have := HK2.out; omega⟩, ⟨d60a⟩⟩
       · rw [if_neg c10] at H
         have c10b0 : decide (x22_2 < (tk9.length : Int)) = false := decide_eq_false c10
         clear c10
         have H' := Aside0.mk H
         clear H
         go_wp2
         go_roundg k2
         case measure => have := HK1.out; have := HK2.out; omega
         case rel => exact ⟨(wrap64 (x13_1 + 1)), d60c, H', ⟨by have := HK1.out; have := HK2.out; omega⟩, ⟨d60a⟩⟩
   · rw [if_neg c4] at H
     have c4b0 : decide (x13_1 < (l2.length : Int)) = false := decide_eq_false c4
     clear c4
     obtain rfl := Option.some.inj H
     go_wp2
     go_ret
     exact ⟨by first | rfl | (simp [errW_none, errW_some] <;> rfl) | (simp [*, errW_none, errW_some] <;> rfl), d60a⟩
mutual
def contact_bookings.l0 : Nat → List (S55) → Int → List (List Int) → Int → Int → Option ((List (List Int)))
  | 0, _, _, _, _, _ => none
  | k + 1, x0, x1, x5, x11, x12 => if x12 < x11 then (contact_bookings.l1 k x0 x1 x5 x12 ([] : List Int) x11 x12 (x0.length : Int) 0) else (some x5)
def contact_bookings.l1 : Nat → List (S55) → Int → List (List Int) → Int → List Int → Int → Int → Int → Int → Option ((List (List Int)))
  | 0, _, _, _, _, _, _, _, _, _ => none
  | k + 1, x0, x1, x5, x6, x7, x11, x12, x16, x17 => if x17 < x16 then (if 0 ≤ x17 then (if (Go.bits .and .i64 (shr .i64 x6 x17) 1) = 1 then (if x7.length < 17592186044416 then (contact_bookings.l1 k x0 x1 x5 x6 (x7 ++ [x17]) x11 x12 x16 (wrap64 (x17 + 1))) else (none)) else (contact_bookings.l1 k x0 x1 x5 x6 x7 x11 x12 x16 (wrap64 (x17 + 1)))) else (none)) else ((contact_clash.f k x0 x1 x7).bind fun t104 => (if t104 = true then (contact_bookings.l0 k x0 x1 x5 x11 (wrap64 (x12 + 1))) else (if x5.length < 5864062014805 then (contact_bookings.l0 k x0 x1 (x5 ++ [x7]) x11 (wrap64 (x12 + 1))) else (none))))
end
def contact_bookings.f (k : Nat) (l0 : List (S55)) (a1 : Int) : Option ((List (List Int))) := contact_bookings.l0 k l0 a1 ([] : List (List Int)) (shl .i64 1 (l0.length : Int)) 0
theorem d48a {p : Prop} (h : p := by repeat (first | (with_reducible first | exact HB.out | apply below_alloc | apply pw_below_drewN | apply below_drew1) | exact HB.out)) : p := h
theorem d48b {p : Prop} (h : p := by (with_reducible repeat (first | apply Kd.R_alloc | apply Kd.R_drewN | apply Kd.R_drew)); exact HO_7.out) : p := h
theorem d48c {p : Prop} (h : p := by (with_reducible repeat (first | apply Kd.S_alloc | apply Kd.S_drewN | apply Kd.S_drew)); exact HO_5.out) : p := h
theorem d48d {p : Prop} (h : p := by first | rfl | (simp; done) | (simp [*]; done)) : p := h
set_option maxHeartbeats 8000000 in
set_option maxRecDepth 100000 in
theorem contact_bookings.calls (k : Nat) (A0 : Option Addr) (c0 : Nat) (l0 : List (S55)) (a1 : Int) (r : List (List Int)) (w : World) (hr0 : Kd.C k55 w A0 l0.length l0) (hc0 : l0.length ≤ c0) (h : contact_bookings.f k l0 a1 = some r) :
 Calls Tryd.prog 48 #[.slice A0 l0.length c0, .int .i64 a1] w fun e w' => ∃ v0_ : Value, e = .returned (v0_) ∧ Kd.S (Kd.slice 3 (Kd.int .i64)) 31 w' w.heap.size (fun _ => True) v0_ r ∧ Below w.heap.size w w' := by
 have HR0 := Aside0.mk hr0
 have HC0 := Aside0.mk hc0
 clear hr0 hc0
 have HB := Aside0.mk (Below.refl w.heap.size w)
 have H : (contact_bookings.l0 k l0 a1 ([] : List (List Int)) (shl .i64 1 (l0.length : Int)) 0) = some r := h
 clear h
 obtain ⟨ji3, hji3⟩ : ∃ j_ : Int, (shl .i64 1 (l0.length : Int)) = j_ := ⟨_, rfl⟩
 replace H : (contact_bookings.l0 k l0 a1 ([] : List (List Int)) ji3 0) = some r := by first | (rw [hji3] at H; exact H) | (simp only [hji3] at H ⊢; exact H)
 have hji3_ : (IntKind.i64.wrap (1 * 2 ^ min (l0.length : Int).toNat 64)) = ji3 := hji3
 have hji3z : (l0.length : Int) ≤ 64 → (IntKind.i64.wrap (1 * 2 ^ (l0.length : Int).toNat)) = ji3 := shl_small hji3
 have hji3p : (IntKind.i64.wrap (1 * 2 ^ min l0.length 64)) = ji3 := hji3_
 have hji3q : (l0.length : Int) ≤ 64 → (IntKind.i64.wrap (1 * 2 ^ l0.length)) = ji3 := hji3z
 have hji3r : (IntKind.i64.wrap (2 ^ min l0.length 64)) = ji3 := by have h_ := hji3p; rw [Int.one_mul] at h_; exact h_
 have hji3s : (l0.length : Int) ≤ 64 → (IntKind.i64.wrap (2 ^ l0.length)) = ji3 := fun hle_ => by have h_ := hji3q hle_; rw [Int.one_mul] at h_; exact h_
 have hji3u : (IntKind.i64.wrap (2 ^ min (l0.length : Int).toNat 64)) = ji3 := by have h_ := hji3_; rw [Int.one_mul] at h_; exact h_
 have hji3v : (l0.length : Int) ≤ 64 → (IntKind.i64.wrap (2 ^ (l0.length : Int).toNat)) = ji3 := fun hle_ => by have h_ := hji3z hle_; rw [Int.one_mul] at h_; exact h_
 have hji3y : (wrap64 (1 * 2 ^ min (l0.length : Int).toNat 64)) = ji3 := (i64_w _).symm.trans hji3_
 have hji3x : (l0.length : Int) ≤ 64 → (wrap64 (1 * 2 ^ (l0.length : Int).toNat)) = ji3 := fun h_ => (i64_w _).symm.trans (hji3z h_)
 have H' := Aside0.mk H
 clear H
 go_enter Tryd.func48, Tryd.ntmps48
 go_wp2
 go_loopg [5, 12] k (fun kq v5 v12 w' => ∃ (x5_1 : List (List Int)) (x12_1 : Int), v12 = .int .i64 x12_1 ∧ Aside0 (contact_bookings.l0 kq l0 a1 x5_1 ji3 x12_1 = some r) ∧ Aside0 (kq ≤ k) ∧ Aside0 (Kd.S (Kd.slice 3 (Kd.int .i64)) 31 w' w.heap.size (fun _ => True) v5 x5_1) ∧ Aside0 (Below w.heap.size w w'))
 case atStart => exact ⟨(([] : List (List Int))), (0), d48d, H', ⟨Nat.le_refl _⟩, ⟨by first | exact Kd.S_nil _ _ _ _ _ | exact Kd.N_nil _ _ _ _ _ | exact Kd.V_nil _ _ _ _ _ | exact Kd.Q_nil _ _ _ _ _ | exact Kd.R_nil _ _ _ _ _⟩, ⟨d48a⟩⟩
 case round =>
  clear H'
  obtain ⟨x5_1, x12_1, rfl, HA, HK1, HO_5, HB⟩ := hrel
  cases gk with
  | zero => exact absurd HA.out (by simp [contact_bookings.l0])
  | succ k1 =>
   have H := HA.out
   clear HA
   simp only [contact_bookings.l0] at H
   by_cases c4 : x12_1 < ji3
   · rw [if_pos c4] at H
     have c4b0 : decide (x12_1 < ji3) = true := decide_eq_true c4
     clear c4
     have H' := Aside0.mk H
     clear H
     go_wp2
     go_loopg [7, 17] k1 (fun kq v7 v17 w' => ∃ (x7_2 : List Int) (x17_2 : Int), v17 = .int .i64 x17_2 ∧ Aside0 (contact_bookings.l1 kq l0 a1 x5_1 x12_1 x7_2 ji3 x12_1 (l0.length : Int) x17_2 = some r) ∧ Aside0 (kq ≤ k1) ∧ Aside0 (Kd.S (Kd.slice 3 (Kd.int .i64)) 31 w' w.heap.size (fun k_ => some k_ ≠ (v7 : Value).ownBlock) u5 x5_1) ∧ Aside0 (Kd.R (Kd.int .i64) 3 w' w.heap.size (fun _ => True) v7 x7_2) ∧ Aside0 (Below w.heap.size w w'))
     case atStart => exact ⟨(([] : List Int)), (0), d48d, H', ⟨Nat.le_refl _⟩, ⟨by (with_reducible repeat (first | apply Kd.S_alloc | apply Kd.S_drewN | apply Kd.S_drew)); exact Kd.S_mono HO_5.out (fun _ hk => (by simp [Value.ownBlock]))⟩, ⟨by first | exact Kd.R_nil _ _ _ _ _ | exact Kd.N_nil _ _ _ _ _ | exact Kd.V_nil _ _ _ _ _ | exact Kd.Q_nil _ _ _ _ _ | exact Kd.S_nil _ _ _ _ _⟩, ⟨d48a⟩⟩
     case round =>
      clear H'
      try clear c4b0
      obtain ⟨x7_2, x17_2, rfl, HA, HK2, HO_5, HO_7, HB⟩ := hrel
      cases gk with
      | zero => exact absurd HA.out (by simp [contact_bookings.l1])
      | succ k2 =>
       have H := HA.out
       clear HA
       simp only [contact_bookings.l1] at H
       by_cases c5 : x17_2 < (l0.length : Int)
       · rw [if_pos c5] at H
         have c5b0 : decide (x17_2 < (l0.length : Int)) = true := decide_eq_true c5
         clear c5
         replace H := guardT H; obtain ⟨c6, H⟩ := H
         have c6b0 := eq_true c6
         have c6b1 : decide (0 ≤ x17_2) = true := decide_eq_true c6
         clear c6
         obtain ⟨ji7, hji7⟩ : ∃ j_ : Int, (shr .i64 x12_1 x17_2) = j_ := ⟨_, rfl⟩
         replace H : (if (Go.bits .and .i64 (ji7) 1) = 1 then (if x7_2.length < 17592186044416 then (contact_bookings.l1 k2 l0 a1 x5_1 x12_1 (x7_2 ++ [x17_2]) ji3 x12_1 (l0.length : Int) (wrap64 (x17_2 + 1))) else (none)) else (contact_bookings.l1 k2 l0 a1 x5_1 x12_1 x7_2 ji3 x12_1 (l0.length : Int) (wrap64 (x17_2 + 1)))) = some r := by first | (rw [hji7] at H; exact H) | (simp only [hji7] at H ⊢; exact H)
         have hji7_ : (x12_1 / 2 ^ min x17_2.toNat 64) = ji7 := hji7
         have hji7z : x17_2 ≤ 64 → (x12_1 / 2 ^ x17_2.toNat) = ji7 := shr_small hji7
         by_cases c8 : (Go.bits .and .i64 (ji7) 1) = 1
         · rw [if_pos c8] at H
           have c8b0 : ((Go.bits .and .i64 (ji7) 1) == 1) = true := beq_iff_eq.mpr c8
           have c8b1 : ((Go.bits .and .i64 (ji7) 1) != 1) = false := bne_eq_false_iff_eq.mpr c8
           clear c8
           replace H := guardT H; obtain ⟨c9, H⟩ := H
           have LMc9 := Aside0.mk c9
           clear c9
           obtain ⟨y101, hy101⟩ : ∃ y_ : List Int, y_ = (x7_2 ++ [x17_2]) := ⟨_, rfl⟩
           replace H : (contact_bookings.l1 k2 l0 a1 x5_1 x12_1 y101 ji3 x12_1 (l0.length : Int) (wrap64 (x17_2 + 1))) = some r := by first | (rw [hy101]; with_reducible exact H) | (have H2_ := (Option.bind_some _ _).symm.trans H; rw [hy101]; with_reducible exact H2_) | (have H2_ := (Option.bind_some _ _).symm.trans H; with_reducible exact H2_) | with_reducible exact H | (rw [hy101]; exact H) | exact H
           have Ny101 := Aside0.mk hy101
           clear hy101
           have H' := Aside0.mk H
           clear H
           go_wp2_with ((with_reducible refine gate_builtin (b := .append) (xs := #[.tmp 25, .tmp 27]) rfl ?_); at_builtin; refine Kd.R_append (Kd.int .i64) (w0 := w) w.heap.size rfl (.tmp 25) (.tmp 27) 31 3 (.int .i64 0) 8 rfl Tryd.underlying31 info3 rfl (by decide) (by omega) u7 x7_2 x17_2 [.int .i64 x17_2] (fun _ => True) (fun _ => False) rfl rfl ?aP (fun _ hk => hk.elim) ?aF ?aO ?aB ?aS ?aL ?_; (case aP => exact rfl); (case aB => exact d48a); (case aF => exact (fun _ _ => trivial)); (case aO => exact d48b); (case aS => exact (below_size d48a)); (case aL => have := LMc9.out; omega); intro v102 w10 ho hb hg hat; rw [← Ny101.out] at ho; have n0_ := Aside0.mk (Kd.S_after (ok := (fun _ => True)) (by (with_reducible repeat (first | apply Kd.S_alloc | apply Kd.S_drewN | apply Kd.S_drew)); exact Kd.S_mono HO_5.out (fun _ hk => ⟨trivial, hk⟩)) hg hat); have n1_ := Aside0.mk (hb); have n2_ := Aside0.mk (ho); clear HO_5; clear HB; clear HO_7; have HO_5 := n0_; have HB := n1_; have HO103 := n2_; clear n0_ n1_ n2_; clear ho hb hg hat)
           go_roundg k2
           case measure => have := HK1.out; have := HK2.out; omega
           case rel => exact ⟨(y101), (wrap64 (x17_2 + 1)), d48d, H', ⟨by have := HK1.out; have := HK2.out; omega⟩, ⟨by (with_reducible repeat (first | apply Kd.S_alloc | apply Kd.S_drewN | apply Kd.S_drew)); exact Kd.S_mono HO_5.out (fun _ hk => hk.2)⟩, ⟨by (with_reducible repeat (first | apply Kd.R_alloc | apply Kd.R_drewN | apply Kd.R_drew)); exact HO103.out⟩, ⟨d48a⟩⟩
         · rw [if_neg c8] at H
           have c8b0 : ((Go.bits .and .i64 (ji7) 1) == 1) = false := beq_eq_false_iff_ne.mpr c8
           have c8b1 : ((Go.bits .and .i64 (ji7) 1) != 1) = true := bne_iff_ne.mpr c8
           have H' := Aside0.mk H
           clear H
           go_wp2
           go_roundg k2
           case measure => have := HK1.out; have := HK2.out; omega
           case rel => exact ⟨(x7_2), (wrap64 (x17_2 + 1)), d48d, H', ⟨by have := HK1.out; have := HK2.out; omega⟩, ⟨d48c⟩, ⟨d48b⟩, ⟨d48a⟩⟩
       · rw [if_neg c5] at H
         have c5b0 : decide (x17_2 < (l0.length : Int)) = false := decide_eq_false c5
         clear c5
         replace H := bindS H; obtain ⟨t104, A11, H⟩ := H
         by_cases c12 : t104 = true
         · subst c12
           replace H := iteT H
           have H' := Aside0.mk H
           clear H
           obtain ⟨Ao13, co13, eo13⟩ := Kd.R_slice HO_7.out
           subst eo13
           go_wp2_with ((with_reducible refine gate_callee (f := 60) rfl ?_); refine goesL_ (some 33) rfl rfl Tryd.func60 (by kernel_rfl) rfl #[.slice A0 l0.length c0, .int .i64 a1, .slice Ao13 x7_2.length co13] rfl (by (try simp only [List.map_toArray, List.map_cons, List.map_nil]); first | done | rfl | (simp only [List.length_drop, List.length_take]; rfl)) ?_; (with_reducible refine (contact_clash.calls k2 _ _ l0 a1 _ _ x7_2 true _ ?side1 ?side2 ?side3 ?side4 A11.out).mono ?_); (case side1 => exact C_go (Kd.C_below HR0.out HB.out)); (case side2 => exact HC0.out); (case side3 => exact C_go (Kd.R_reads' HO_7.out).2.2); (case side4 => exact (Kd.R_reads' HO_7.out).2.1); rintro e w14 ⟨rfl, hb⟩; refine ⟨_, rfl, ?_⟩; have n0_ := Aside0.mk (Kd.S_below d48c hb); have n1_ := Aside0.mk (Kd.R_below d48b hb); have n2_ := Aside0.mk (below_step d48a hb); clear HO_5; clear HO_7; clear HB; have HO_5 := n0_; have HO_7 := n1_; have HB := n2_; clear n0_ n1_ n2_; (try clear hb))
           go_roundg k2
           case measure => have := HK1.out; have := HK2.out; omega
           case rel => exact ⟨(x5_1), (wrap64 (x12_1 + 1)), d48d, H', ⟨by have := HK1.out; have := HK2.out; omega⟩, ⟨by (with_reducible repeat (first | apply Kd.S_alloc | apply Kd.S_drewN | apply Kd.S_drew)); exact Kd.S_mono HO_5.out (fun _ hk => trivial)⟩, ⟨d48a⟩⟩
         · replace c12 := Bool.eq_false_iff.mpr c12
           subst c12
           replace H := iteF H
           replace H := guardT H; obtain ⟨c15, H⟩ := H
           have LMc15 := Aside0.mk c15
           clear c15
           obtain ⟨y105, hy105⟩ : ∃ y_ : List (List Int), y_ = (x5_1 ++ [x7_2]) := ⟨_, rfl⟩
           replace H : (contact_bookings.l0 k2 l0 a1 y105 ji3 (wrap64 (x12_1 + 1))) = some r := by first | (rw [hy105]; with_reducible exact H) | (have H2_ := (Option.bind_some _ _).symm.trans H; rw [hy105]; with_reducible exact H2_) | (have H2_ := (Option.bind_some _ _).symm.trans H; with_reducible exact H2_) | with_reducible exact H | (rw [hy105]; exact H) | exact H
           have Ny105 := Aside0.mk hy105
           clear hy105
           have H' := Aside0.mk H
           clear H
           obtain ⟨Ao16, co16, eo16⟩ := Kd.R_slice HO_7.out
           subst eo16
           go_wp2_with (first | ((with_reducible refine gate_callee (f := 60) rfl ?_); refine goesL_ (some 33) rfl rfl Tryd.func60 (by kernel_rfl) rfl #[.slice A0 l0.length c0, .int .i64 a1, .slice Ao16 x7_2.length co16] rfl (by (try simp only [List.map_toArray, List.map_cons, List.map_nil]); first | done | rfl | (simp only [List.length_drop, List.length_take]; rfl)) ?_; (with_reducible refine (contact_clash.calls k2 _ _ l0 a1 _ _ x7_2 false _ ?side1 ?side2 ?side3 ?side4 A11.out).mono ?_); (case side1 => exact C_go (Kd.C_below HR0.out HB.out)); (case side2 => exact HC0.out); (case side3 => exact C_go (Kd.R_reads' HO_7.out).2.2); (case side4 => exact (Kd.R_reads' HO_7.out).2.1); rintro e w17 ⟨rfl, hb⟩; refine ⟨_, rfl, ?_⟩; have n0_ := Aside0.mk (Kd.S_below d48c hb); have n1_ := Aside0.mk (Kd.R_below d48b hb); have n2_ := Aside0.mk (below_step d48a hb); clear HO_5; clear HO_7; clear HB; have HO_5 := n0_; have HO_7 := n1_; have HB := n2_; clear n0_ n1_ n2_; (try clear hb)) | ((with_reducible refine gate_builtin (b := .append) (xs := #[.tmp 35, .tmp 37]) rfl ?_); at_builtin; refine Kd.S_append (Kd.slice 3 (Kd.int .i64)) (w0 := w) w.heap.size rfl (.tmp 35) (.tmp 37) 91 31 (.slice none 0 0) 24 rfl Tryd.underlying91 info31 rfl (by decide) (by omega) u5 x5_1 x7_2 [.slice Ao16 x7_2.length co16] (fun _ => True) (fun k_ => some k_ = (.slice Ao16 x7_2.length co16 : Value).ownBlock) rfl rfl ?aP (fun k_ hk_ => ((Kd.R_mono (ok' := fun k_ => ((fun _ => True)) k_ ∧ some k_ ≠ (u5 : Value).ownBlock) (Kd.R_apart' (HO_7.out) (Kd.S_typed HO_5.out) (by decide)) (fun k_ hk => ⟨trivial, hk.2⟩))).1 k_ hk_.symm) ?aF ?aO ?aB ?aS ?aL ?_; (case aP => exact Kd.M_row (Kd.R_mono (Kd.R_tight rfl (Kd.R_mono (ok' := fun k_ => ((fun _ => True)) k_ ∧ some k_ ≠ (u5 : Value).ownBlock) (Kd.R_apart' (HO_7.out) (Kd.S_typed HO_5.out) (by decide)) (fun k_ hk => ⟨trivial, hk.2⟩))) (fun _ h_ => h_))); (case aB => exact d48a); (case aF => exact (fun _ _ => trivial)); (case aO => exact (by (with_reducible repeat (first | apply Kd.S_alloc | apply Kd.S_drewN | apply Kd.S_drew)); exact Kd.S_mono HO_5.out (fun k_ hk => ⟨trivial, fun e_ => hk e_⟩))); (case aS => exact (below_size d48a)); (case aL => have := LMc15.out; omega); intro v106 w18 ho hb hg hat; rw [← Ny105.out] at ho; have n0_ := Aside0.mk (hb); have n1_ := Aside0.mk (ho); clear HB; clear HO_5; clear HO_7; have HB := n0_; have HO107 := n1_; clear n0_ n1_; clear ho hb hg hat))
           go_roundg k2
           case measure => have := HK1.out; have := HK2.out; omega
           case rel => exact ⟨(y105), (wrap64 (x12_1 + 1)), d48d, H', ⟨by have := HK1.out; have := HK2.out; omega⟩, ⟨by (with_reducible repeat (first | apply Kd.S_alloc | apply Kd.S_drewN | apply Kd.S_drew)); exact HO107.out⟩, ⟨d48a⟩⟩
   · rw [if_neg c4] at H
     have c4b0 : decide (x12_1 < ji3) = false := decide_eq_false c4
     clear c4
     obtain rfl := Option.some.inj H
     go_wp2
     go_ret
     exact ⟨_, by first | rfl | (simp [errW_none, errW_some] <;> rfl) | (simp only [← hji3]; first | rfl | (simp [errW_none, errW_some] <;> rfl)) | (simp [*, errW_none, errW_some] <;> rfl), d48c, d48a⟩
def contact_total.l0 : Nat → List (S55) → Int → List Int → Int → Int → Option (Int)
  | 0, _, _, _, _, _ => none
  | k + 1, x0, x5, x8, x9, x10 => if x10 < x9 then (if 0 ≤ x10 then (if x10 < (x8.length : Int) then (if 0 ≤ (rd x8 x10) then (if (rd x8 x10) < (x0.length : Int) then ((contact_whole.f k ((rd_T55 x0 (rd x8 x10)).f0) ((rd_T55 x0 (rd x8 x10)).f1) ((rd_T55 x0 (rd x8 x10)).f2) ((rd_T55 x0 (rd x8 x10)).f3)).bind fun t103 => (contact_total.l0 k x0 (wrap64 (x5 + t103)) x8 x9 (wrap64 (x10 + 1)))) else (none)) else (none)) else (none)) else (none)) else (some x5)
def contact_total.f (k : Nat) (l0 : List (S55)) (l1 : List Int) : Option (Int) := contact_total.l0 k l0 0 l1 (l1.length : Int) 0
theorem d50a {p : Prop} (h : p := by repeat (first | (with_reducible first | exact HB.out | apply below_alloc | apply pw_below_drewN | apply below_drew1) | exact HB.out)) : p := h
theorem d50b {p : Prop} (h : p := by first | (with_reducible assumption) | assumption) : p := h
theorem d50c {p : Prop} (h : p := by first | rfl | (simp; done) | (simp [*]; done)) : p := h
set_option maxHeartbeats 8000000 in
set_option maxRecDepth 100000 in
theorem contact_total.calls (k : Nat) (A0 : Option Addr) (c0 : Nat) (l0 : List (S55)) (A1 : Option Addr) (c1 : Nat) (l1 : List Int) (r : Int) (w : World) (hr0 : Kd.C k55 w A0 l0.length l0) (hc0 : l0.length ≤ c0) (hr1 : Kd.C (Kd.int .i64) w A1 l1.length l1) (hc1 : l1.length ≤ c1) (h : contact_total.f k l0 l1 = some r) :
 Calls Tryd.prog 50 #[.slice A0 l0.length c0, .slice A1 l1.length c1] w fun e w' => e = .returned (.int .i64 r) ∧ Below w.heap.size w w' := by
 have hu55 := Tryd.underlying55
 have HR0 := Aside0.mk hr0
 have HC0 := Aside0.mk hc0
 clear hr0 hc0
 have HR1 := Aside0.mk hr1
 have HC1 := Aside0.mk hc1
 clear hr1 hc1
 have HB := Aside0.mk (Below.refl w.heap.size w)
 have H : (contact_total.l0 k l0 0 l1 (l1.length : Int) 0) = some r := h
 clear h
 have H' := Aside0.mk H
 clear H
 go_enter Tryd.func50, Tryd.ntmps50
 go_wp2
 go_loopg [5, 10] k (fun kq v5 v10 w' => ∃ (x5_1 : Int) (x10_1 : Int), v5 = .int .i64 x5_1 ∧ v10 = .int .i64 x10_1 ∧ Aside0 (contact_total.l0 kq l0 x5_1 l1 (l1.length : Int) x10_1 = some r) ∧ Aside0 (kq ≤ k) ∧ Aside0 (Below w.heap.size w w'))
 case atStart => exact ⟨(0), (0), d50c, d50c, H', ⟨Nat.le_refl _⟩, ⟨d50a⟩⟩
 case round =>
  clear H'
  obtain ⟨x5_1, x10_1, rfl, rfl, HA, HK1, HB⟩ := hrel
  cases gk with
  | zero => exact absurd HA.out (by simp [contact_total.l0])
  | succ k1 =>
   have H := HA.out
   clear HA
   simp only [contact_total.l0] at H
   by_cases c3 : x10_1 < (l1.length : Int)
   · rw [if_pos c3] at H
     have c3b0 : decide (x10_1 < (l1.length : Int)) = true := decide_eq_true c3
     clear c3
     replace H := guardT H; obtain ⟨c4, H⟩ := H
     have c4b0 : decide (0 ≤ x10_1) = true := decide_eq_true c4
     clear c4
     replace H := guardT H; obtain ⟨c5, H⟩ := H
     have c5b0 : decide (x10_1 < (l1.length : Int)) = true := decide_eq_true c5
     clear c5
     replace H := guardT H; obtain ⟨c6, H⟩ := H
     have c6b0 : decide (0 ≤ (rd l1 x10_1)) = true := decide_eq_true c6
     clear c6
     replace H := guardT H; obtain ⟨c7, H⟩ := H
     have c7b0 : decide ((rd l1 x10_1) < (l0.length : Int)) = true := decide_eq_true c7
     clear c7
     replace H := bindS H; obtain ⟨t103, A8, H⟩ := H
     have H' := Aside0.mk H
     clear H
     have p101 : 0 ≤ (x10_1 : Int) := of_decide_eq_true d50b
     have q101 : x10_1 < (l1.length : Int) := of_decide_eq_true d50b
     obtain ⟨ad101, e101, hx101_0⟩ := Kd.at_int HR1.out x10_1 p101 q101
     cases e101
     replace hx101_0 := cellB HB.out hx101_0
     replace p101 := eq_true p101
     replace q101 := eq_true q101
     have p102 : 0 ≤ ((rd l1 x10_1) : Int) := of_decide_eq_true d50b
     have q102 : (rd l1 x10_1) < (l0.length : Int) := of_decide_eq_true d50b
     obtain ⟨ad102, A102_3, c102_3, e102, hx102_0, hx102_1, hx102_2, hx102_3, hl102_3, hi102_3⟩ := at_T55 HR0.out (rd l1 x10_1) p102 q102
     cases e102
     replace hx102_0 := cellB HB.out hx102_0
     replace hx102_1 := cellB HB.out hx102_1
     replace hx102_2 := cellB HB.out hx102_2
     replace hx102_3 := cellB HB.out hx102_3
     have HR102_3 := Aside0.mk hi102_3
     have HC102_3 := Aside0.mk hl102_3
     clear hi102_3 hl102_3
     replace p102 := eq_true p102
     replace q102 := eq_true q102
     go_wp2_with ((with_reducible refine gate_callee (f := 43) rfl ?_); refine goesL_ (some 19) rfl rfl Tryd.func43 (by kernel_rfl) rfl #[.agg #[.string ((rd_T55 l0 (rd l1 x10_1)).f0), .int .i64 ((rd_T55 l0 (rd l1 x10_1)).f1), .int .i64 ((rd_T55 l0 (rd l1 x10_1)).f2), .slice A102_3 ((rd_T55 l0 (rd l1 x10_1)).f3).length c102_3]] rfl (by (try simp only [List.map_toArray, List.map_cons, List.map_nil]); first | done | rfl | (simp only [List.length_drop, List.length_take]; rfl)) ?_; (with_reducible refine (contact_whole.calls k1 ((rd_T55 l0 (rd l1 x10_1)).f0) ((rd_T55 l0 (rd l1 x10_1)).f1) ((rd_T55 l0 (rd l1 x10_1)).f2) _ _ ((rd_T55 l0 (rd l1 x10_1)).f3) t103 _ ?side1 ?side2 A8.out).mono ?_); (case side1 => exact C_go (Kd.C_below HR102_3.out HB.out)); (case side2 => exact HC102_3.out); rintro e w9 ⟨rfl, hb⟩; refine ⟨_, rfl, ?_⟩; replace HB := Aside0.mk (below_step d50a hb); (try clear hb))
     go_roundg k1
     case measure => have := HK1.out; omega
     case rel => exact ⟨(wrap64 (x5_1 + t103)), (wrap64 (x10_1 + 1)), d50c, d50c, H', ⟨by have := HK1.out; omega⟩, ⟨d50a⟩⟩
   · rw [if_neg c3] at H
     have c3b0 : decide (x10_1 < (l1.length : Int)) = false := decide_eq_false c3
     clear c3
     obtain rfl := Option.some.inj H
     go_wp2
     go_ret
     exact ⟨by first | rfl | (simp [errW_none, errW_some] <;> rfl) | (simp [*, errW_none, errW_some] <;> rfl), d50a⟩
end Go.Proofs.YtbngmblgkkdhpaaDoor.Q
