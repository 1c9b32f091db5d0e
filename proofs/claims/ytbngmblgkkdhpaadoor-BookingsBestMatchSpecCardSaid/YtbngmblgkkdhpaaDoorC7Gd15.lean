-- Made by wip/tools/claimp.py of this session's texts; Lean checks it.
import Derived.Test.YtbngmblgkkdhpaaDoorC7Q0
import Derived.Test.YtbngmblgkkdhpaaDoorC7Gd14
namespace Go.Proofs.YtbngmblgkkdhpaaDoor.Q
open Go.RowKit Go.Proofs.YtbngmblgkkdhpaaDoorW.PrintWords Go.Proofs.YtbngmblgkkdhpaaDoorW.PrintLast Go.Proofs.YtbngmblgkkdhpaaDoorW.PrintMore
attribute [local go_sem] max2_int min2_int max_two min_two max_three min_three max_four min_four
open Go.Proofs.YtbngmblgkkdhpaaDoor.Base
attribute [local go_sem high] str_leq str_gtr str_geq
set_option linter.unusedVariables false
set_option linter.unusedSimpArgs false
mutual
def perigeeref10_apart.l0 : Nat → List (S55) → List Int → Int → Int → Option (Bool)
  | 0, _, _, _, _ => none
  | k + 1, x0, x1, x2, x7 => if x7 < (x1.length : Int) then (perigeeref10_apart.l1 k x0 x1 x2 x7 0) else (some true)
def perigeeref10_apart.l1 : Nat → List (S55) → List Int → Int → Int → Int → Option (Bool)
  | 0, _, _, _, _, _ => none
  | k + 1, x0, x1, x2, x7, x8 => if x8 < x7 then (if 0 ≤ x7 then (if x7 < (x1.length : Int) then (if 0 ≤ (rd x1 x7) then (if (rd x1 x7) < (x0.length : Int) then (if 0 ≤ x8 then (if x8 < (x1.length : Int) then (if 0 ≤ (rd x1 x8) then (if (rd x1 x8) < (x0.length : Int) then ((perigeeref10_exclude.f ((rd_T55 x0 (rd x1 x7)).f0) ((rd_T55 x0 (rd x1 x7)).f1) ((rd_T55 x0 (rd x1 x7)).f2) ((rd_T55 x0 (rd x1 x7)).f3) ((rd_T55 x0 (rd x1 x8)).f0) ((rd_T55 x0 (rd x1 x8)).f1) ((rd_T55 x0 (rd x1 x8)).f2) ((rd_T55 x0 (rd x1 x8)).f3) x2).bind fun t105 => (if t105 = true then (some false) else (perigeeref10_apart.l1 k x0 x1 x2 x7 (wrap64 (x8 + 1))))) else (none)) else (none)) else (none)) else (none)) else (none)) else (none)) else (none)) else (none)) else (perigeeref10_apart.l0 k x0 x1 x2 (wrap64 (x7 + 1)))
end
def perigeeref10_apart.f (k : Nat) (l0 : List (S55)) (l1 : List Int) (a2 : Int) : Option (Bool) := perigeeref10_apart.l0 k l0 l1 a2 0
def perigeeref10_apart.T7 : Bool × List (List Nat × List Nat) := (true, [([], []), ([], []), ([], []), ([1, 2], [1, 2]), ([3], [3]), ([0, 4], [0, 4]), ([5], [5]), ([], []), ([], []), ([], []), ([8, 9], [8, 9]), ([10], [10]), ([7, 11], [7, 11]), ([12], [12]), ([], []), ([6, 13, 14], [6, 13, 14])])
def perigeeref10_apart.B7 : List Nat := [0, 0, 0, 6, 14, 31, 63, 0, 0, 0, 768, 1792, 3968, 8064, 0, 32767]
theorem perigeeref10_apart.tab7 : rtab .any (opsOf Tryd.f53 7) = perigeeref10_apart.T7 := by kernel_rfl
theorem perigeeref10_apart.bits7 : waitsOk perigeeref10_apart.T7.2 perigeeref10_apart.B7 = true := by kernel_rfl
theorem d53a {p : Prop} (h : p := by repeat (first | (with_reducible first | exact HB.out | apply below_alloc | apply pw_below_drewN | apply below_drew1) | exact HB.out)) : p := h
theorem d53b {p : Prop} (h : p := by first | (with_reducible assumption) | assumption) : p := h
theorem d53c {p : Prop} (h : p := by first | rfl | (simp; done) | (simp [*]; done)) : p := h
set_option maxHeartbeats 8000000 in
set_option maxRecDepth 100000 in
theorem perigeeref10_apart.calls (k : Nat) (A0 : Option Addr) (c0 : Nat) (l0 : List (S55)) (A1 : Option Addr) (c1 : Nat) (l1 : List Int) (a2 : Int) (r : Bool) (w : World) (hr0 : Kd.C k55 w A0 l0.length l0) (hc0 : l0.length ≤ c0) (hr1 : Kd.C (Kd.int .i64) w A1 l1.length l1) (hc1 : l1.length ≤ c1) (h : perigeeref10_apart.f k l0 l1 a2 = some r) :
 Calls Tryd.prog 53 #[.slice A0 l0.length c0, .slice A1 l1.length c1, .int .i64 a2] w fun e w' => e = .returned (.bool r) ∧ Below w.heap.size w w' := by
 have hu55 := Tryd.underlying55
 have HR0 := Aside0.mk hr0
 have HC0 := Aside0.mk hc0
 clear hr0 hc0
 have HR1 := Aside0.mk hr1
 have HC1 := Aside0.mk hc1
 clear hr1 hc1
 have HB := Aside0.mk (Below.refl w.heap.size w)
 have H : (perigeeref10_apart.l0 k l0 l1 a2 0) = some r := h
 clear h
 have H' := Aside0.mk H
 clear H
 go_enter Tryd.func53, Tryd.ntmps53
 go_wp2
 go_loopg [7] k (fun kq v7 w' => ∃ (x7_1 : Int), v7 = .int .i64 x7_1 ∧ Aside0 (perigeeref10_apart.l0 kq l0 l1 a2 x7_1 = some r) ∧ Aside0 (kq ≤ k) ∧ Aside0 (Below w.heap.size w w'))
 case atStart => exact ⟨(0), d53c, H', ⟨Nat.le_refl _⟩, ⟨d53a⟩⟩
 case round =>
  clear H'
  obtain ⟨x7_1, rfl, HA, HK1, HB⟩ := hrel
  cases gk with
  | zero => exact absurd HA.out (by simp [perigeeref10_apart.l0])
  | succ k1 =>
   have H := HA.out
   clear HA
   simp only [perigeeref10_apart.l0] at H
   by_cases c4 : x7_1 < (l1.length : Int)
   · rw [if_pos c4] at H
     have c4b0 : decide (x7_1 < (l1.length : Int)) = true := decide_eq_true c4
     clear c4
     have H' := Aside0.mk H
     clear H
     go_wp2
     go_loopg [8] k1 (fun kq v8 w' => ∃ (x8_2 : Int), v8 = .int .i64 x8_2 ∧ Aside0 (perigeeref10_apart.l1 kq l0 l1 a2 x7_1 x8_2 = some r) ∧ Aside0 (kq ≤ k1) ∧ Aside0 (Below w.heap.size w w'))
     case atStart => exact ⟨(0), d53c, H', ⟨Nat.le_refl _⟩, ⟨d53a⟩⟩
     case round =>
      clear H'
      try clear c4b0
      obtain ⟨x8_2, rfl, HA, HK2, HB⟩ := hrel
      cases gk with
      | zero => exact absurd HA.out (by simp [perigeeref10_apart.l1])
      | succ k2 =>
       have H := HA.out
       clear HA
       simp only [perigeeref10_apart.l1] at H
       by_cases c5 : x8_2 < x7_1
       · rw [if_pos c5] at H
         have c5b0 : decide (x8_2 < x7_1) = true := decide_eq_true c5
         clear c5
         replace H := guardT H; obtain ⟨c6, H⟩ := H
         have c6b0 : decide (0 ≤ x7_1) = true := decide_eq_true c6
         clear c6
         replace H := guardT H; obtain ⟨c7, H⟩ := H
         have c7b0 : decide (x7_1 < (l1.length : Int)) = true := decide_eq_true c7
         clear c7
         replace H := guardT H; obtain ⟨c8, H⟩ := H
         have c8b0 : decide (0 ≤ (rd l1 x7_1)) = true := decide_eq_true c8
         clear c8
         replace H := guardT H; obtain ⟨c9, H⟩ := H
         have c9b0 : decide ((rd l1 x7_1) < (l0.length : Int)) = true := decide_eq_true c9
         clear c9
         replace H := guardT H; obtain ⟨c10, H⟩ := H
         have c10b0 : decide (0 ≤ x8_2) = true := decide_eq_true c10
         clear c10
         replace H := guardT H; obtain ⟨c11, H⟩ := H
         have c11b0 : decide (x8_2 < (l1.length : Int)) = true := decide_eq_true c11
         clear c11
         replace H := guardT H; obtain ⟨c12, H⟩ := H
         have c12b0 : decide (0 ≤ (rd l1 x8_2)) = true := decide_eq_true c12
         clear c12
         replace H := guardT H; obtain ⟨c13, H⟩ := H
         have c13b0 : decide ((rd l1 x8_2) < (l0.length : Int)) = true := decide_eq_true c13
         clear c13
         replace H := bindS H; obtain ⟨t105, A14, H⟩ := H
         by_cases c15 : t105 = true
         · subst c15
           replace H := iteT H
           obtain rfl := Option.some.inj H
           try go_wp2
           have n0_ := Aside0.mk (below_drew1 HB.out)
           clear HB
           have HB := n0_
           clear n0_
           have p101 : 0 ≤ (x7_1 : Int) := of_decide_eq_true d53b
           have q101 : x7_1 < (l1.length : Int) := of_decide_eq_true d53b
           obtain ⟨ad101, e101, hx101_0⟩ := Kd.at_int HR1.out x7_1 p101 q101
           have hw101_0 := hx101_0
           cases e101
           replace hx101_0 := cellB HB.out hx101_0
           replace p101 := eq_true p101
           replace q101 := eq_true q101
           have p102 : 0 ≤ ((rd l1 x7_1) : Int) := of_decide_eq_true d53b
           have q102 : (rd l1 x7_1) < (l0.length : Int) := of_decide_eq_true d53b
           obtain ⟨ad102, A102_3, c102_3, e102, hx102_0, hx102_1, hx102_2, hx102_3, hl102_3, hi102_3⟩ := at_T55 HR0.out (rd l1 x7_1) p102 q102
           have hw102_3 := hx102_3
           have hw102_2 := hx102_2
           have hw102_1 := hx102_1
           have hw102_0 := hx102_0
           cases e102
           replace hx102_0 := cellB HB.out hx102_0
           replace hx102_1 := cellB HB.out hx102_1
           replace hx102_2 := cellB HB.out hx102_2
           replace hx102_3 := cellB HB.out hx102_3
           have HR102_3 := Aside0.mk hi102_3
           have HC102_3 := Aside0.mk hl102_3
           clear hi102_3 hl102_3
           replace p102 := eq_true p102
           replace q102 := eq_true q102
           have p103 : 0 ≤ (x8_2 : Int) := of_decide_eq_true d53b
           have q103 : x8_2 < (l1.length : Int) := of_decide_eq_true d53b
           obtain ⟨ad103, e103, hx103_0⟩ := Kd.at_int HR1.out x8_2 p103 q103
           have hw103_0 := hx103_0
           obtain rfl : ad101 = ad103 := (by injection e103)
           replace hx103_0 := cellB HB.out hx103_0
           replace p103 := eq_true p103
           replace q103 := eq_true q103
           have p104 : 0 ≤ ((rd l1 x8_2) : Int) := of_decide_eq_true d53b
           have q104 : (rd l1 x8_2) < (l0.length : Int) := of_decide_eq_true d53b
           obtain ⟨ad104, A104_3, c104_3, e104, hx104_0, hx104_1, hx104_2, hx104_3, hl104_3, hi104_3⟩ := at_T55 HR0.out (rd l1 x8_2) p104 q104
           have hw104_3 := hx104_3
           have hw104_2 := hx104_2
           have hw104_1 := hx104_1
           have hw104_0 := hx104_0
           obtain rfl : ad102 = ad104 := (by injection e104)
           replace hx104_0 := cellB HB.out hx104_0
           replace hx104_1 := cellB HB.out hx104_1
           replace hx104_2 := cellB HB.out hx104_2
           replace hx104_3 := cellB HB.out hx104_3
           have HR104_3 := Aside0.mk hi104_3
           have HC104_3 := Aside0.mk hl104_3
           clear hi104_3 hl104_3
           replace p104 := eq_true p104
           replace q104 := eq_true q104
           refine start_ (n := 16) (S := fun w' => w'.cell? (ad101.add (x7_1).toNat) = some (.int .i64 (rd l1 x7_1)) ∧ w'.cell? (ad102.add (((rd l1 x7_1)).toNat * 4)) = some (.string ((rd_T55 l0 (rd l1 x7_1)).f0)) ∧ w'.cell? ⟨(ad102.add (((rd l1 x7_1)).toNat * 4)).block, (ad102.add (((rd l1 x7_1)).toNat * 4)).off + 1, none⟩ = some (.int .i64 ((rd_T55 l0 (rd l1 x7_1)).f1)) ∧ w'.cell? ⟨(ad102.add (((rd l1 x7_1)).toNat * 4)).block, (ad102.add (((rd l1 x7_1)).toNat * 4)).off + 2, none⟩ = some (.int .i64 ((rd_T55 l0 (rd l1 x7_1)).f2)) ∧ w'.cell? ⟨(ad102.add (((rd l1 x7_1)).toNat * 4)).block, (ad102.add (((rd l1 x7_1)).toNat * 4)).off + 3, none⟩ = some (.slice A102_3 ((rd_T55 l0 (rd l1 x7_1)).f3).length c102_3) ∧ w'.cell? (ad101.add (x8_2).toNat) = some (.int .i64 (rd l1 x8_2)) ∧ w'.cell? (ad102.add (((rd l1 x8_2)).toNat * 4)) = some (.string ((rd_T55 l0 (rd l1 x8_2)).f0)) ∧ w'.cell? ⟨(ad102.add (((rd l1 x8_2)).toNat * 4)).block, (ad102.add (((rd l1 x8_2)).toNat * 4)).off + 1, none⟩ = some (.int .i64 ((rd_T55 l0 (rd l1 x8_2)).f1)) ∧ w'.cell? ⟨(ad102.add (((rd l1 x8_2)).toNat * 4)).block, (ad102.add (((rd l1 x8_2)).toNat * 4)).off + 2, none⟩ = some (.int .i64 ((rd_T55 l0 (rd l1 x8_2)).f2)) ∧ w'.cell? ⟨(ad102.add (((rd l1 x8_2)).toNat * 4)).block, (ad102.add (((rd l1 x8_2)).toNat * 4)).off + 3, none⟩ = some (.slice A104_3 ((rd_T55 l0 (rd l1 x8_2)).f3).length c104_3)) (ds := []) #[false, false, false, false, false, false, false, false, false, false, false, false, false, false, false, false] (by kernel_rfl) rfl rfl ⟨((HB.out.cell (World.block_lt_of_cell? w _ hw101_0)).trans hw101_0), ((HB.out.cell (World.block_lt_of_cell? w _ hw102_0)).trans hw102_0), ((HB.out.cell (World.block_lt_of_cell? w _ hw102_1)).trans hw102_1), ((HB.out.cell (World.block_lt_of_cell? w _ hw102_2)).trans hw102_2), ((HB.out.cell (World.block_lt_of_cell? w _ hw102_3)).trans hw102_3), ((HB.out.cell (World.block_lt_of_cell? w _ hw103_0)).trans hw103_0), ((HB.out.cell (World.block_lt_of_cell? w _ hw104_0)).trans hw104_0), ((HB.out.cell (World.block_lt_of_cell? w _ hw104_1)).trans hw104_1), ((HB.out.cell (World.block_lt_of_cell? w _ hw104_2)).trans hw104_2), ((HB.out.cell (World.block_lt_of_cell? w _ hw104_3)).trans hw104_3)⟩ (fun hHeld => ?_); refine with_tabW perigeeref10_apart.tab7 perigeeref10_apart.bits7 (fun HT_ HW_ => ?_)
           generalize wr.drew = w16 at HB HR102_3 HR104_3 hx101_0 hx102_0 hx102_1 hx102_2 hx102_3 hx103_0 hx104_0 hx104_1 hx104_2 hx104_3 hHeld ⊢
           refine pure_ (i := 0) (N := some 20) (v := ?_) (a' := ?_) #[true, false, false, false, false, false, false, false, false, false, false, false, false, false, false, false] rfl rfl (any_of HT_.out (by kernel_rfl)) (fun _ _ _ h => h) (Or.inl ⟨by rfl, ?_⟩) ?_ ?_
           rotate_left
           · intro w'
             go_simp
             with_reducible rfl
           rotate_left
           · simp only [Act.put, List.setIfInBounds_toArray, List.set_cons_zero, List.set_cons_succ, i64_w, i32_w]
             rfl
           refine pure_ (i := 1) (N := some 21) (v := ?_) (a' := ?_) #[true, true, false, false, false, false, false, false, false, false, false, false, false, false, false, false] rfl rfl (any_of HT_.out (by kernel_rfl)) (fun _ _ _ h => h) (Or.inl ⟨by rfl, ?_⟩) ?_ ?_
           rotate_left
           · intro w'
             go_simp
             with_reducible rfl
           rotate_left
           · simp only [Act.put, List.setIfInBounds_toArray, List.set_cons_zero, List.set_cons_succ, i64_w, i32_w]
             rfl
           refine pure_ (i := 2) (N := some 22) (v := ?_) (a' := ?_) #[true, true, true, false, false, false, false, false, false, false, false, false, false, false, false, false] rfl rfl (any_of HT_.out (by kernel_rfl)) (fun _ _ _ h => h) (Or.inl ⟨by rfl, ?_⟩) ?_ ?_
           rotate_left
           · intro w'
             go_simp
             with_reducible rfl
           rotate_left
           · simp only [Act.put, List.setIfInBounds_toArray, List.set_cons_zero, List.set_cons_succ, i64_w, i32_w]
             rfl
           refine pure_ (i := 3) (N := some 23) (v := ?_) (a' := ?_) #[true, true, true, true, false, false, false, false, false, false, false, false, false, false, false, false] rfl rfl (any_of HT_.out (by kernel_rfl)) (fun _ _ _ h => h) (Or.inl ⟨by rfl, ?_⟩) ?_ ?_
           rotate_left
           · intro w'
             go_simp
             with_reducible rfl
           rotate_left
           · simp only [Act.put, List.setIfInBounds_toArray, List.set_cons_zero, List.set_cons_succ, i64_w, i32_w]
             rfl
           refine pure_ (i := 7) (N := some 27) (v := ?_) (a' := ?_) #[true, true, true, true, false, false, false, true, false, false, false, false, false, false, false, false] rfl rfl (any_of HT_.out (by kernel_rfl)) (fun _ _ _ h => h) (Or.inl ⟨by rfl, ?_⟩) ?_ ?_
           rotate_left
           · intro w'
             go_simp
             with_reducible rfl
           rotate_left
           · simp only [Act.put, List.setIfInBounds_toArray, List.set_cons_zero, List.set_cons_succ, i64_w, i32_w]
             rfl
           refine pure_ (i := 8) (N := some 28) (v := ?_) (a' := ?_) #[true, true, true, true, false, false, false, true, true, false, false, false, false, false, false, false] rfl rfl (any_of HT_.out (by kernel_rfl)) (fun _ _ _ h => h) (Or.inl ⟨by rfl, ?_⟩) ?_ ?_
           rotate_left
           · intro w'
             go_simp
             with_reducible rfl
           rotate_left
           · simp only [Act.put, List.setIfInBounds_toArray, List.set_cons_zero, List.set_cons_succ, i64_w, i32_w]
             rfl
           refine pure_ (i := 9) (N := some 29) (v := ?_) (a' := ?_) #[true, true, true, true, false, false, false, true, true, true, false, false, false, false, false, false] rfl rfl (any_of HT_.out (by kernel_rfl)) (fun _ _ _ h => h) (Or.inl ⟨by rfl, ?_⟩) ?_ ?_
           rotate_left
           · intro w'
             go_simp
             with_reducible rfl
           rotate_left
           · simp only [Act.put, List.setIfInBounds_toArray, List.set_cons_zero, List.set_cons_succ, i64_w, i32_w]
             rfl
           refine pure_ (i := 10) (N := some 30) (v := ?_) (a' := ?_) #[true, true, true, true, false, false, false, true, true, true, true, false, false, false, false, false] rfl rfl (any_of HT_.out (by kernel_rfl)) (fun _ _ _ h => h) (Or.inl ⟨by rfl, ?_⟩) ?_ ?_
           rotate_left
           · intro w'
             go_simp
             with_reducible rfl
           rotate_left
           · simp only [Act.put, List.setIfInBounds_toArray, List.set_cons_zero, List.set_cons_succ, i64_w, i32_w]
             rfl
           refine pure_ (i := 14) (N := some 34) (v := ?_) (a' := ?_) #[true, true, true, true, false, false, false, true, true, true, true, false, false, false, true, false] rfl rfl (any_of HT_.out (by kernel_rfl)) (fun _ _ _ h => h) (Or.inl ⟨by rfl, ?_⟩) ?_ ?_
           rotate_left
           · intro w'
             go_simp
             with_reducible rfl
           rotate_left
           · simp only [Act.put, List.setIfInBounds_toArray, List.set_cons_zero, List.set_cons_succ, i64_w, i32_w]
             rfl
           refine take_ (i := 4) (N := some 24) (v := ?_) (a' := ?_) #[true, true, true, true, true, false, false, true, true, true, true, false, false, false, true, false] rfl rfl (take_ofW HT_.out HW_.out (by kernel_rfl)) (fun _ _ _ h => h) (Or.inl ⟨by rfl, ?_⟩) hHeld ?_ ?_
           rotate_left
           · rintro w' ⟨s0, s1, s2, s3, s4, s5, s6, s7, s8, s9⟩
             go_simp
             with_reducible rfl
           rotate_left
           · simp only [Act.put, List.setIfInBounds_toArray, List.set_cons_zero, List.set_cons_succ, i64_w, i32_w]
             rfl
           refine pure_ (i := 5) (N := some 25) (v := ?_) (a' := ?_) #[true, true, true, true, true, true, false, true, true, true, true, false, false, false, true, false] rfl rfl (any_of HT_.out (by kernel_rfl)) (fun _ _ _ h => h) (Or.inl ⟨by rfl, ?_⟩) ?_ ?_
           rotate_left
           · intro w'
             go_simp
             with_reducible rfl
           rotate_left
           · simp only [Act.put, List.setIfInBounds_toArray, List.set_cons_zero, List.set_cons_succ, i64_w, i32_w]
             rfl
           refine take_ (i := 6) (N := some 26) (v := ?_) (a' := ?_) #[true, true, true, true, true, true, true, true, true, true, true, false, false, false, true, false] rfl rfl (take_ofW HT_.out HW_.out (by kernel_rfl)) (fun _ _ _ h => h) (Or.inl ⟨by rfl, ?_⟩) hHeld ?_ ?_
           rotate_left
           · rintro w' ⟨s0, s1, s2, s3, s4, s5, s6, s7, s8, s9⟩
             go_simp
             with_reducible rfl
           rotate_left
           · simp only [Act.put, List.setIfInBounds_toArray, List.set_cons_zero, List.set_cons_succ, i64_w, i32_w]
             rfl
           refine take_ (i := 11) (N := some 31) (v := ?_) (a' := ?_) #[true, true, true, true, true, true, true, true, true, true, true, true, false, false, true, false] rfl rfl (take_ofW HT_.out HW_.out (by kernel_rfl)) (fun _ _ _ h => h) (Or.inl ⟨by rfl, ?_⟩) hHeld ?_ ?_
           rotate_left
           · rintro w' ⟨s0, s1, s2, s3, s4, s5, s6, s7, s8, s9⟩
             go_simp
             with_reducible rfl
           rotate_left
           · simp only [Act.put, List.setIfInBounds_toArray, List.set_cons_zero, List.set_cons_succ, i64_w, i32_w]
             rfl
           refine pure_ (i := 12) (N := some 32) (v := ?_) (a' := ?_) #[true, true, true, true, true, true, true, true, true, true, true, true, true, false, true, false] rfl rfl (any_of HT_.out (by kernel_rfl)) (fun _ _ _ h => h) (Or.inl ⟨by rfl, ?_⟩) ?_ ?_
           rotate_left
           · intro w'
             go_simp
             with_reducible rfl
           rotate_left
           · simp only [Act.put, List.setIfInBounds_toArray, List.set_cons_zero, List.set_cons_succ, i64_w, i32_w]
             rfl
           refine take_ (i := 13) (N := some 33) (v := ?_) (a' := ?_) #[true, true, true, true, true, true, true, true, true, true, true, true, true, true, true, false] rfl rfl (take_ofW HT_.out HW_.out (by kernel_rfl)) (fun _ _ _ h => h) (Or.inl ⟨by rfl, ?_⟩) hHeld ?_ ?_
           rotate_left
           · rintro w' ⟨s0, s1, s2, s3, s4, s5, s6, s7, s8, s9⟩
             go_simp
             with_reducible rfl
           rotate_left
           · simp only [Act.put, List.setIfInBounds_toArray, List.set_cons_zero, List.set_cons_succ, i64_w, i32_w]
             rfl
           refine one_ (i := 15) (N := some 35) #[true, true, true, true, true, true, true, true, true, true, true, true, true, true, true, true] rfl rfl (one_of HT_.out (by kernel_rfl)) (by decide) (fun K hK => ?_)
           refine goes_ Tryd.func45 (by kernel_rfl) rfl #[.agg #[.string ((rd_T55 l0 (rd l1 x7_1)).f0), .int .i64 ((rd_T55 l0 (rd l1 x7_1)).f1), .int .i64 ((rd_T55 l0 (rd l1 x7_1)).f2), .slice A102_3 ((rd_T55 l0 (rd l1 x7_1)).f3).length c102_3], .agg #[.string ((rd_T55 l0 (rd l1 x8_2)).f0), .int .i64 ((rd_T55 l0 (rd l1 x8_2)).f1), .int .i64 ((rd_T55 l0 (rd l1 x8_2)).f2), .slice A104_3 ((rd_T55 l0 (rd l1 x8_2)).f3).length c104_3], .int .i64 a2] (by rfl) rfl rfl (by (try simp only [List.map_toArray, List.map_cons, List.map_nil]); first | done | rfl | (simp only [List.length_drop, List.length_take]; rfl)) ?_
           with_reducible refine (perigeeref10_exclude.calls ((rd_T55 l0 (rd l1 x7_1)).f0) ((rd_T55 l0 (rd l1 x7_1)).f1) ((rd_T55 l0 (rd l1 x7_1)).f2) _ _ ((rd_T55 l0 (rd l1 x7_1)).f3) ((rd_T55 l0 (rd l1 x8_2)).f0) ((rd_T55 l0 (rd l1 x8_2)).f1) ((rd_T55 l0 (rd l1 x8_2)).f2) _ _ ((rd_T55 l0 (rd l1 x8_2)).f3) a2 true _ ?side1 ?side2 ?side3 ?side4 A14.out).mono ?_
           (case side1 => exact C_go (Kd.C_below HR102_3.out HB.out))
           (case side2 => exact HC102_3.out)
           (case side3 => exact C_go (Kd.C_below HR104_3.out HB.out))
           (case side4 => exact HC104_3.out)
           rintro e w17 ⟨rfl, hb⟩
           refine ⟨_, rfl, ?_⟩
           have n0_ := Aside0.mk (below_step d53a hb)
           clear HB
           have HB := n0_
           clear n0_
           (try clear hb)
           skip
           skip
           skip
           refine hK.out _ _ ⟨((HB.out.cell (World.block_lt_of_cell? w _ hw101_0)).trans hw101_0), ((HB.out.cell (World.block_lt_of_cell? w _ hw102_0)).trans hw102_0), ((HB.out.cell (World.block_lt_of_cell? w _ hw102_1)).trans hw102_1), ((HB.out.cell (World.block_lt_of_cell? w _ hw102_2)).trans hw102_2), ((HB.out.cell (World.block_lt_of_cell? w _ hw102_3)).trans hw102_3), ((HB.out.cell (World.block_lt_of_cell? w _ hw103_0)).trans hw103_0), ((HB.out.cell (World.block_lt_of_cell? w _ hw104_0)).trans hw104_0), ((HB.out.cell (World.block_lt_of_cell? w _ hw104_1)).trans hw104_1), ((HB.out.cell (World.block_lt_of_cell? w _ hw104_2)).trans hw104_2), ((HB.out.cell (World.block_lt_of_cell? w _ hw104_3)).trans hw104_3)⟩ (fun hHeld => ?_)
           clear hK K
           refine norm_ (a' := ?_) ?_ ?_
           rotate_left
           · show Act.put _ (some 35) _ = _
             simp only [Act.put, List.setIfInBounds_toArray, List.set_cons_zero, List.set_cons_succ, i64_w, i32_w]
             rfl
           refine done_ (done_of HT_.out (by kernel_rfl)) ?_
           try go_wp2
           go_ret
           exact ⟨by first | rfl | (simp [errW_none, errW_some] <;> rfl) | (simp [*, errW_none, errW_some] <;> rfl), d53a⟩
         · replace c15 := Bool.eq_false_iff.mpr c15
           subst c15
           replace H := iteF H
           have H' := Aside0.mk H
           clear H
           try go_wp2
           have n0_ := Aside0.mk (below_drew1 HB.out)
           clear HB
           have HB := n0_
           clear n0_
           have p101 : 0 ≤ (x7_1 : Int) := of_decide_eq_true d53b
           have q101 : x7_1 < (l1.length : Int) := of_decide_eq_true d53b
           obtain ⟨ad101, e101, hx101_0⟩ := Kd.at_int HR1.out x7_1 p101 q101
           have hw101_0 := hx101_0
           cases e101
           replace hx101_0 := cellB HB.out hx101_0
           replace p101 := eq_true p101
           replace q101 := eq_true q101
           have p102 : 0 ≤ ((rd l1 x7_1) : Int) := of_decide_eq_true d53b
           have q102 : (rd l1 x7_1) < (l0.length : Int) := of_decide_eq_true d53b
           obtain ⟨ad102, A102_3, c102_3, e102, hx102_0, hx102_1, hx102_2, hx102_3, hl102_3, hi102_3⟩ := at_T55 HR0.out (rd l1 x7_1) p102 q102
           have hw102_3 := hx102_3
           have hw102_2 := hx102_2
           have hw102_1 := hx102_1
           have hw102_0 := hx102_0
           cases e102
           replace hx102_0 := cellB HB.out hx102_0
           replace hx102_1 := cellB HB.out hx102_1
           replace hx102_2 := cellB HB.out hx102_2
           replace hx102_3 := cellB HB.out hx102_3
           have HR102_3 := Aside0.mk hi102_3
           have HC102_3 := Aside0.mk hl102_3
           clear hi102_3 hl102_3
           replace p102 := eq_true p102
           replace q102 := eq_true q102
           have p103 : 0 ≤ (x8_2 : Int) := of_decide_eq_true d53b
           have q103 : x8_2 < (l1.length : Int) := of_decide_eq_true d53b
           obtain ⟨ad103, e103, hx103_0⟩ := Kd.at_int HR1.out x8_2 p103 q103
           have hw103_0 := hx103_0
           obtain rfl : ad101 = ad103 := (by injection e103)
           replace hx103_0 := cellB HB.out hx103_0
           replace p103 := eq_true p103
           replace q103 := eq_true q103
           have p104 : 0 ≤ ((rd l1 x8_2) : Int) := of_decide_eq_true d53b
           have q104 : (rd l1 x8_2) < (l0.length : Int) := of_decide_eq_true d53b
           obtain ⟨ad104, A104_3, c104_3, e104, hx104_0, hx104_1, hx104_2, hx104_3, hl104_3, hi104_3⟩ := at_T55 HR0.out (rd l1 x8_2) p104 q104
           have hw104_3 := hx104_3
           have hw104_2 := hx104_2
           have hw104_1 := hx104_1
           have hw104_0 := hx104_0
           obtain rfl : ad102 = ad104 := (by injection e104)
           replace hx104_0 := cellB HB.out hx104_0
           replace hx104_1 := cellB HB.out hx104_1
           replace hx104_2 := cellB HB.out hx104_2
           replace hx104_3 := cellB HB.out hx104_3
           have HR104_3 := Aside0.mk hi104_3
           have HC104_3 := Aside0.mk hl104_3
           clear hi104_3 hl104_3
           replace p104 := eq_true p104
           replace q104 := eq_true q104
           refine start_ (n := 16) (S := fun w' => w'.cell? (ad101.add (x7_1).toNat) = some (.int .i64 (rd l1 x7_1)) ∧ w'.cell? (ad102.add (((rd l1 x7_1)).toNat * 4)) = some (.string ((rd_T55 l0 (rd l1 x7_1)).f0)) ∧ w'.cell? ⟨(ad102.add (((rd l1 x7_1)).toNat * 4)).block, (ad102.add (((rd l1 x7_1)).toNat * 4)).off + 1, none⟩ = some (.int .i64 ((rd_T55 l0 (rd l1 x7_1)).f1)) ∧ w'.cell? ⟨(ad102.add (((rd l1 x7_1)).toNat * 4)).block, (ad102.add (((rd l1 x7_1)).toNat * 4)).off + 2, none⟩ = some (.int .i64 ((rd_T55 l0 (rd l1 x7_1)).f2)) ∧ w'.cell? ⟨(ad102.add (((rd l1 x7_1)).toNat * 4)).block, (ad102.add (((rd l1 x7_1)).toNat * 4)).off + 3, none⟩ = some (.slice A102_3 ((rd_T55 l0 (rd l1 x7_1)).f3).length c102_3) ∧ w'.cell? (ad101.add (x8_2).toNat) = some (.int .i64 (rd l1 x8_2)) ∧ w'.cell? (ad102.add (((rd l1 x8_2)).toNat * 4)) = some (.string ((rd_T55 l0 (rd l1 x8_2)).f0)) ∧ w'.cell? ⟨(ad102.add (((rd l1 x8_2)).toNat * 4)).block, (ad102.add (((rd l1 x8_2)).toNat * 4)).off + 1, none⟩ = some (.int .i64 ((rd_T55 l0 (rd l1 x8_2)).f1)) ∧ w'.cell? ⟨(ad102.add (((rd l1 x8_2)).toNat * 4)).block, (ad102.add (((rd l1 x8_2)).toNat * 4)).off + 2, none⟩ = some (.int .i64 ((rd_T55 l0 (rd l1 x8_2)).f2)) ∧ w'.cell? ⟨(ad102.add (((rd l1 x8_2)).toNat * 4)).block, (ad102.add (((rd l1 x8_2)).toNat * 4)).off + 3, none⟩ = some (.slice A104_3 ((rd_T55 l0 (rd l1 x8_2)).f3).length c104_3)) (ds := []) #[false, false, false, false, false, false, false, false, false, false, false, false, false, false, false, false] (by kernel_rfl) rfl rfl ⟨((HB.out.cell (World.block_lt_of_cell? w _ hw101_0)).trans hw101_0), ((HB.out.cell (World.block_lt_of_cell? w _ hw102_0)).trans hw102_0), ((HB.out.cell (World.block_lt_of_cell? w _ hw102_1)).trans hw102_1), ((HB.out.cell (World.block_lt_of_cell? w _ hw102_2)).trans hw102_2), ((HB.out.cell (World.block_lt_of_cell? w _ hw102_3)).trans hw102_3), ((HB.out.cell (World.block_lt_of_cell? w _ hw103_0)).trans hw103_0), ((HB.out.cell (World.block_lt_of_cell? w _ hw104_0)).trans hw104_0), ((HB.out.cell (World.block_lt_of_cell? w _ hw104_1)).trans hw104_1), ((HB.out.cell (World.block_lt_of_cell? w _ hw104_2)).trans hw104_2), ((HB.out.cell (World.block_lt_of_cell? w _ hw104_3)).trans hw104_3)⟩ (fun hHeld => ?_); refine with_tabW perigeeref10_apart.tab7 perigeeref10_apart.bits7 (fun HT_ HW_ => ?_)
           generalize wr.drew = w18 at HB HR102_3 HR104_3 hx101_0 hx102_0 hx102_1 hx102_2 hx102_3 hx103_0 hx104_0 hx104_1 hx104_2 hx104_3 hHeld ⊢
           refine pure_ (i := 0) (N := some 20) (v := ?_) (a' := ?_) #[true, false, false, false, false, false, false, false, false, false, false, false, false, false, false, false] rfl rfl (any_of HT_.out (by kernel_rfl)) (fun _ _ _ h => h) (Or.inl ⟨by rfl, ?_⟩) ?_ ?_
           rotate_left
           · intro w'
             go_simp
             with_reducible rfl
           rotate_left
           · simp only [Act.put, List.setIfInBounds_toArray, List.set_cons_zero, List.set_cons_succ, i64_w, i32_w]
             rfl
           refine pure_ (i := 1) (N := some 21) (v := ?_) (a' := ?_) #[true, true, false, false, false, false, false, false, false, false, false, false, false, false, false, false] rfl rfl (any_of HT_.out (by kernel_rfl)) (fun _ _ _ h => h) (Or.inl ⟨by rfl, ?_⟩) ?_ ?_
           rotate_left
           · intro w'
             go_simp
             with_reducible rfl
           rotate_left
           · simp only [Act.put, List.setIfInBounds_toArray, List.set_cons_zero, List.set_cons_succ, i64_w, i32_w]
             rfl
           refine pure_ (i := 2) (N := some 22) (v := ?_) (a' := ?_) #[true, true, true, false, false, false, false, false, false, false, false, false, false, false, false, false] rfl rfl (any_of HT_.out (by kernel_rfl)) (fun _ _ _ h => h) (Or.inl ⟨by rfl, ?_⟩) ?_ ?_
           rotate_left
           · intro w'
             go_simp
             with_reducible rfl
           rotate_left
           · simp only [Act.put, List.setIfInBounds_toArray, List.set_cons_zero, List.set_cons_succ, i64_w, i32_w]
             rfl
           refine pure_ (i := 3) (N := some 23) (v := ?_) (a' := ?_) #[true, true, true, true, false, false, false, false, false, false, false, false, false, false, false, false] rfl rfl (any_of HT_.out (by kernel_rfl)) (fun _ _ _ h => h) (Or.inl ⟨by rfl, ?_⟩) ?_ ?_
           rotate_left
           · intro w'
             go_simp
             with_reducible rfl
           rotate_left
           · simp only [Act.put, List.setIfInBounds_toArray, List.set_cons_zero, List.set_cons_succ, i64_w, i32_w]
             rfl
           refine pure_ (i := 7) (N := some 27) (v := ?_) (a' := ?_) #[true, true, true, true, false, false, false, true, false, false, false, false, false, false, false, false] rfl rfl (any_of HT_.out (by kernel_rfl)) (fun _ _ _ h => h) (Or.inl ⟨by rfl, ?_⟩) ?_ ?_
           rotate_left
           · intro w'
             go_simp
             with_reducible rfl
           rotate_left
           · simp only [Act.put, List.setIfInBounds_toArray, List.set_cons_zero, List.set_cons_succ, i64_w, i32_w]
             rfl
           refine pure_ (i := 8) (N := some 28) (v := ?_) (a' := ?_) #[true, true, true, true, false, false, false, true, true, false, false, false, false, false, false, false] rfl rfl (any_of HT_.out (by kernel_rfl)) (fun _ _ _ h => h) (Or.inl ⟨by rfl, ?_⟩) ?_ ?_
           rotate_left
           · intro w'
             go_simp
             with_reducible rfl
           rotate_left
           · simp only [Act.put, List.setIfInBounds_toArray, List.set_cons_zero, List.set_cons_succ, i64_w, i32_w]
             rfl
           refine pure_ (i := 9) (N := some 29) (v := ?_) (a' := ?_) #[true, true, true, true, false, false, false, true, true, true, false, false, false, false, false, false] rfl rfl (any_of HT_.out (by kernel_rfl)) (fun _ _ _ h => h) (Or.inl ⟨by rfl, ?_⟩) ?_ ?_
           rotate_left
           · intro w'
             go_simp
             with_reducible rfl
           rotate_left
           · simp only [Act.put, List.setIfInBounds_toArray, List.set_cons_zero, List.set_cons_succ, i64_w, i32_w]
             rfl
           refine pure_ (i := 10) (N := some 30) (v := ?_) (a' := ?_) #[true, true, true, true, false, false, false, true, true, true, true, false, false, false, false, false] rfl rfl (any_of HT_.out (by kernel_rfl)) (fun _ _ _ h => h) (Or.inl ⟨by rfl, ?_⟩) ?_ ?_
           rotate_left
           · intro w'
             go_simp
             with_reducible rfl
           rotate_left
           · simp only [Act.put, List.setIfInBounds_toArray, List.set_cons_zero, List.set_cons_succ, i64_w, i32_w]
             rfl
           refine pure_ (i := 14) (N := some 34) (v := ?_) (a' := ?_) #[true, true, true, true, false, false, false, true, true, true, true, false, false, false, true, false] rfl rfl (any_of HT_.out (by kernel_rfl)) (fun _ _ _ h => h) (Or.inl ⟨by rfl, ?_⟩) ?_ ?_
           rotate_left
           · intro w'
             go_simp
             with_reducible rfl
           rotate_left
           · simp only [Act.put, List.setIfInBounds_toArray, List.set_cons_zero, List.set_cons_succ, i64_w, i32_w]
             rfl
           refine take_ (i := 4) (N := some 24) (v := ?_) (a' := ?_) #[true, true, true, true, true, false, false, true, true, true, true, false, false, false, true, false] rfl rfl (take_ofW HT_.out HW_.out (by kernel_rfl)) (fun _ _ _ h => h) (Or.inl ⟨by rfl, ?_⟩) hHeld ?_ ?_
           rotate_left
           · rintro w' ⟨s0, s1, s2, s3, s4, s5, s6, s7, s8, s9⟩
             go_simp
             with_reducible rfl
           rotate_left
           · simp only [Act.put, List.setIfInBounds_toArray, List.set_cons_zero, List.set_cons_succ, i64_w, i32_w]
             rfl
           refine pure_ (i := 5) (N := some 25) (v := ?_) (a' := ?_) #[true, true, true, true, true, true, false, true, true, true, true, false, false, false, true, false] rfl rfl (any_of HT_.out (by kernel_rfl)) (fun _ _ _ h => h) (Or.inl ⟨by rfl, ?_⟩) ?_ ?_
           rotate_left
           · intro w'
             go_simp
             with_reducible rfl
           rotate_left
           · simp only [Act.put, List.setIfInBounds_toArray, List.set_cons_zero, List.set_cons_succ, i64_w, i32_w]
             rfl
           refine take_ (i := 6) (N := some 26) (v := ?_) (a' := ?_) #[true, true, true, true, true, true, true, true, true, true, true, false, false, false, true, false] rfl rfl (take_ofW HT_.out HW_.out (by kernel_rfl)) (fun _ _ _ h => h) (Or.inl ⟨by rfl, ?_⟩) hHeld ?_ ?_
           rotate_left
           · rintro w' ⟨s0, s1, s2, s3, s4, s5, s6, s7, s8, s9⟩
             go_simp
             with_reducible rfl
           rotate_left
           · simp only [Act.put, List.setIfInBounds_toArray, List.set_cons_zero, List.set_cons_succ, i64_w, i32_w]
             rfl
           refine take_ (i := 11) (N := some 31) (v := ?_) (a' := ?_) #[true, true, true, true, true, true, true, true, true, true, true, true, false, false, true, false] rfl rfl (take_ofW HT_.out HW_.out (by kernel_rfl)) (fun _ _ _ h => h) (Or.inl ⟨by rfl, ?_⟩) hHeld ?_ ?_
           rotate_left
           · rintro w' ⟨s0, s1, s2, s3, s4, s5, s6, s7, s8, s9⟩
             go_simp
             with_reducible rfl
           rotate_left
           · simp only [Act.put, List.setIfInBounds_toArray, List.set_cons_zero, List.set_cons_succ, i64_w, i32_w]
             rfl
           refine pure_ (i := 12) (N := some 32) (v := ?_) (a' := ?_) #[true, true, true, true, true, true, true, true, true, true, true, true, true, false, true, false] rfl rfl (any_of HT_.out (by kernel_rfl)) (fun _ _ _ h => h) (Or.inl ⟨by rfl, ?_⟩) ?_ ?_
           rotate_left
           · intro w'
             go_simp
             with_reducible rfl
           rotate_left
           · simp only [Act.put, List.setIfInBounds_toArray, List.set_cons_zero, List.set_cons_succ, i64_w, i32_w]
             rfl
           refine take_ (i := 13) (N := some 33) (v := ?_) (a' := ?_) #[true, true, true, true, true, true, true, true, true, true, true, true, true, true, true, false] rfl rfl (take_ofW HT_.out HW_.out (by kernel_rfl)) (fun _ _ _ h => h) (Or.inl ⟨by rfl, ?_⟩) hHeld ?_ ?_
           rotate_left
           · rintro w' ⟨s0, s1, s2, s3, s4, s5, s6, s7, s8, s9⟩
             go_simp
             with_reducible rfl
           rotate_left
           · simp only [Act.put, List.setIfInBounds_toArray, List.set_cons_zero, List.set_cons_succ, i64_w, i32_w]
             rfl
           refine one_ (i := 15) (N := some 35) #[true, true, true, true, true, true, true, true, true, true, true, true, true, true, true, true] rfl rfl (one_of HT_.out (by kernel_rfl)) (by decide) (fun K hK => ?_)
           refine goes_ Tryd.func45 (by kernel_rfl) rfl #[.agg #[.string ((rd_T55 l0 (rd l1 x7_1)).f0), .int .i64 ((rd_T55 l0 (rd l1 x7_1)).f1), .int .i64 ((rd_T55 l0 (rd l1 x7_1)).f2), .slice A102_3 ((rd_T55 l0 (rd l1 x7_1)).f3).length c102_3], .agg #[.string ((rd_T55 l0 (rd l1 x8_2)).f0), .int .i64 ((rd_T55 l0 (rd l1 x8_2)).f1), .int .i64 ((rd_T55 l0 (rd l1 x8_2)).f2), .slice A104_3 ((rd_T55 l0 (rd l1 x8_2)).f3).length c104_3], .int .i64 a2] (by rfl) rfl rfl (by (try simp only [List.map_toArray, List.map_cons, List.map_nil]); first | done | rfl | (simp only [List.length_drop, List.length_take]; rfl)) ?_
           with_reducible refine (perigeeref10_exclude.calls ((rd_T55 l0 (rd l1 x7_1)).f0) ((rd_T55 l0 (rd l1 x7_1)).f1) ((rd_T55 l0 (rd l1 x7_1)).f2) _ _ ((rd_T55 l0 (rd l1 x7_1)).f3) ((rd_T55 l0 (rd l1 x8_2)).f0) ((rd_T55 l0 (rd l1 x8_2)).f1) ((rd_T55 l0 (rd l1 x8_2)).f2) _ _ ((rd_T55 l0 (rd l1 x8_2)).f3) a2 false _ ?side1 ?side2 ?side3 ?side4 A14.out).mono ?_
           (case side1 => exact C_go (Kd.C_below HR102_3.out HB.out))
           (case side2 => exact HC102_3.out)
           (case side3 => exact C_go (Kd.C_below HR104_3.out HB.out))
           (case side4 => exact HC104_3.out)
           rintro e w19 ⟨rfl, hb⟩
           refine ⟨_, rfl, ?_⟩
           have n0_ := Aside0.mk (below_step d53a hb)
           clear HB
           have HB := n0_
           clear n0_
           (try clear hb)
           skip
           skip
           skip
           refine hK.out _ _ ⟨((HB.out.cell (World.block_lt_of_cell? w _ hw101_0)).trans hw101_0), ((HB.out.cell (World.block_lt_of_cell? w _ hw102_0)).trans hw102_0), ((HB.out.cell (World.block_lt_of_cell? w _ hw102_1)).trans hw102_1), ((HB.out.cell (World.block_lt_of_cell? w _ hw102_2)).trans hw102_2), ((HB.out.cell (World.block_lt_of_cell? w _ hw102_3)).trans hw102_3), ((HB.out.cell (World.block_lt_of_cell? w _ hw103_0)).trans hw103_0), ((HB.out.cell (World.block_lt_of_cell? w _ hw104_0)).trans hw104_0), ((HB.out.cell (World.block_lt_of_cell? w _ hw104_1)).trans hw104_1), ((HB.out.cell (World.block_lt_of_cell? w _ hw104_2)).trans hw104_2), ((HB.out.cell (World.block_lt_of_cell? w _ hw104_3)).trans hw104_3)⟩ (fun hHeld => ?_)
           clear hK K
           refine norm_ (a' := ?_) ?_ ?_
           rotate_left
           · show Act.put _ (some 35) _ = _
             simp only [Act.put, List.setIfInBounds_toArray, List.set_cons_zero, List.set_cons_succ, i64_w, i32_w]
             rfl
           refine done_ (done_of HT_.out (by kernel_rfl)) ?_
           try go_wp2
           go_roundg k2
           case measure => have := HK1.out; have := HK2.out; omega
           case rel => exact ⟨(wrap64 (x8_2 + 1)), d53c, H', ⟨by have := HK1.out; have := HK2.out; omega⟩, ⟨d53a⟩⟩
       · rw [if_neg c5] at H
         have c5b0 : decide (x8_2 < x7_1) = false := decide_eq_false c5
         clear c5
         have H' := Aside0.mk H
         clear H
         go_wp2
         go_roundg k2
         case measure => have := HK1.out; have := HK2.out; omega
         case rel => exact ⟨(wrap64 (x7_1 + 1)), d53c, H', ⟨by have := HK1.out; have := HK2.out; omega⟩, ⟨d53a⟩⟩
   · rw [if_neg c4] at H
     have c4b0 : decide (x7_1 < (l1.length : Int)) = false := decide_eq_false c4
     clear c4
     obtain rfl := Option.some.inj H
     go_wp2
     go_ret
     exact ⟨by first | rfl | (simp [errW_none, errW_some] <;> rfl) | (simp [*, errW_none, errW_some] <;> rfl), d53a⟩
def perigeeref10_carried.l0 : Nat → List (S55) → List Int → ByteArray → Int → Bool → Int → Option (Int × Bool)
  | 0, _, _, _, _, _, _ => none
  | k + 1, x0, x1, x2, x8, x9, x10 => if x10 < (x1.length : Int) then (if 0 ≤ x10 then (if 0 ≤ (rd x1 x10) then (if (rd x1 x10) < (x0.length : Int) then (if ((rd_T55 x0 (rd x1 x10)).f0).toList = x2.toList then ((perigeeref10_whole.f k ((rd_T55 x0 (rd x1 x10)).f0) ((rd_T55 x0 (rd x1 x10)).f1) ((rd_T55 x0 (rd x1 x10)).f2) ((rd_T55 x0 (rd x1 x10)).f3)).bind fun t104 => (perigeeref10_carried.l0 k x0 x1 x2 (wrap64 (x8 + t104)) true (wrap64 (x10 + 1)))) else (perigeeref10_carried.l0 k x0 x1 x2 x8 x9 (wrap64 (x10 + 1)))) else (none)) else (none)) else (none)) else (some (x8, x9))
def perigeeref10_carried.f (k : Nat) (l0 : List (S55)) (l1 : List Int) (a2 : ByteArray) : Option (Int × Bool) := perigeeref10_carried.l0 k l0 l1 a2 0 false 0
theorem d54a {p : Prop} (h : p := by repeat (first | (with_reducible first | exact HB.out | apply below_alloc | apply pw_below_drewN | apply below_drew1 | refine below_set ?_ GE103.out) | exact HB.out)) : p := h
theorem d54b {p : Prop} (h : p := by repeat (first | (with_reducible first | exact HB.out | apply below_alloc | apply pw_below_drewN | apply below_drew1) | exact HB.out)) : p := h
theorem d54c {p : Prop} (h : p := by first | (with_reducible assumption) | assumption) : p := h
theorem d54d {p : Prop} (h : p := by first | rfl | (simp; done) | (simp [*]; done)) : p := h
set_option maxHeartbeats 8000000 in
set_option maxRecDepth 100000 in
theorem perigeeref10_carried.calls (k : Nat) (A0 : Option Addr) (c0 : Nat) (l0 : List (S55)) (A1 : Option Addr) (c1 : Nat) (l1 : List Int) (a2 : ByteArray) (r1 : Int) (r2 : Bool) (w : World) (hr0 : Kd.C k55 w A0 l0.length l0) (hc0 : l0.length ≤ c0) (hr1 : Kd.C (Kd.int .i64) w A1 l1.length l1) (hc1 : l1.length ≤ c1) (h : perigeeref10_carried.f k l0 l1 a2 = some (r1, r2)) :
 Calls Tryd.prog 54 #[.slice A0 l0.length c0, .slice A1 l1.length c1, .string a2] w fun e w' => e = .returned (.tuple #[.int .i64 r1, .bool r2]) ∧ Below w.heap.size w w' := by
 have hu55 := Tryd.underlying55
 have HR0 := Aside0.mk hr0
 have HC0 := Aside0.mk hc0
 clear hr0 hc0
 have HR1 := Aside0.mk hr1
 have HC1 := Aside0.mk hc1
 clear hr1 hc1
 have HB := Aside0.mk (Below.refl w.heap.size w)
 have H : (perigeeref10_carried.l0 k l0 l1 a2 0 false 0) = some (r1, r2) := h
 clear h
 have H' := Aside0.mk H
 clear H
 go_enter Tryd.func54, Tryd.ntmps54
 go_wp2
 go_loopg [8, 9, 10] k (fun kq v8 v9 v10 w' => ∃ (x8_1 : Int) (x9_1 : Bool) (x10_1 : Int), v8 = .int .i64 x8_1 ∧ v9 = .bool x9_1 ∧ v10 = .int .i64 x10_1 ∧ Aside0 (perigeeref10_carried.l0 kq l0 l1 a2 x8_1 x9_1 x10_1 = some (r1, r2)) ∧ Aside0 (kq ≤ k) ∧ Aside0 (Below w.heap.size w w'))
 case atStart => exact ⟨(0), (false), (0), d54d, d54d, d54d, H', ⟨Nat.le_refl _⟩, ⟨d54b⟩⟩
 case round =>
  clear H'
  obtain ⟨x8_1, x9_1, x10_1, rfl, rfl, rfl, HA, HK1, HB⟩ := hrel
  cases gk with
  | zero => exact absurd HA.out (by simp [perigeeref10_carried.l0])
  | succ k1 =>
   have H := HA.out
   clear HA
   simp only [perigeeref10_carried.l0] at H
   by_cases c4 : x10_1 < (l1.length : Int)
   · rw [if_pos c4] at H
     have c4b0 : decide (x10_1 < (l1.length : Int)) = true := decide_eq_true c4
     clear c4
     replace H := guardT H; obtain ⟨c5, H⟩ := H
     have c5b0 : decide (0 ≤ x10_1) = true := decide_eq_true c5
     clear c5
     replace H := guardT H; obtain ⟨c6, H⟩ := H
     have c6b0 : decide (0 ≤ (rd l1 x10_1)) = true := decide_eq_true c6
     clear c6
     replace H := guardT H; obtain ⟨c7, H⟩ := H
     have c7b0 : decide ((rd l1 x10_1) < (l0.length : Int)) = true := decide_eq_true c7
     clear c7
     by_cases c8 : ((rd_T55 l0 (rd l1 x10_1)).f0).toList = a2.toList
     · rw [if_pos c8] at H
       have c8b0 : (((rd_T55 l0 (rd l1 x10_1)).f0).toList == a2.toList) = true := beq_iff_eq.mpr c8
       have c8b1 : (((rd_T55 l0 (rd l1 x10_1)).f0).toList != a2.toList) = false := bne_eq_false_iff_eq.mpr c8
       clear c8
       replace H := bindS H; obtain ⟨t104, A9, H⟩ := H
       have H' := Aside0.mk H
       clear H
       have p101 : 0 ≤ (x10_1 : Int) := of_decide_eq_true d54c
       have q101 : x10_1 < (l1.length : Int) := of_decide_eq_true d54c
       obtain ⟨ad101, e101, hx101_0⟩ := Kd.at_int HR1.out x10_1 p101 q101
       cases e101
       replace hx101_0 := cellB HB.out hx101_0
       replace p101 := eq_true p101
       replace q101 := eq_true q101
       have p102 : 0 ≤ ((rd l1 x10_1) : Int) := of_decide_eq_true d54c
       have q102 : (rd l1 x10_1) < (l0.length : Int) := of_decide_eq_true d54c
       obtain ⟨ad102, A102_3, c102_3, e102, hx102_0, hx102_1, hx102_2, hx102_3, hl102_3, hi102_3⟩ := at_T55 HR0.out (rd l1 x10_1) p102 q102
       cases e102
       replace hx102_0 := cellB HB.out hx102_0
       replace hx102_1 := cellB HB.out hx102_1
       replace hx102_2 := cellB HB.out hx102_2
       replace hx102_3 := cellB HB.out hx102_3
       have HR102_3 := Aside0.mk hi102_3
       have HC102_3 := Aside0.mk hl102_3
       clear hi102_3 hl102_3
       replace p102 := eq_true p102
       replace q102 := eq_true q102
       go_wp2_with (first | ((with_reducible refine gate_dst (N := 11) rfl ?_); refine box_event ?hg (N := 11) ?hd (cs := #[.string (⟨#[]⟩ : ByteArray), .int .i64 0, .int .i64 0, .slice none 0 0]) (t := 55) ?hr ?_; (case hd => rfl); (case hg => rfl); (case hr => first | (go_simp; done) | (go_simp; rfl)); intro gb103 hg w10 hbox hb; have n0_ := Aside0.mk (below_step d54b hb); have n1_ := Aside0.mk (hbox); have n2_ := Aside0.mk ((by rw [hg]; exact (below_size d54b) : w.heap.size ≤ gb103)); have n3_ := Aside0.mk ((by rw [hg]; exact (below_size d54b) : w.heap.size ≤ gb103)); clear HB; have HB := n0_; have BK103 := n1_; have GW103 := n2_; have GE103 := n3_; clear n0_ n1_ n2_ n3_; clear hb hbox hg; have hcz11_0 : w10.cell? ⟨gb103, 0, none⟩ = some (.string (⟨#[]⟩ : ByteArray)) := (blk_cell BK103.out 0).trans rfl; have hcz11_1 : w10.cell? ⟨gb103, 1, none⟩ = some (.int .i64 0) := (blk_cell BK103.out 1).trans rfl; have hcz11_2 : w10.cell? ⟨gb103, 2, none⟩ = some (.int .i64 0) := (blk_cell BK103.out 2).trans rfl; have hcz11_3 : w10.cell? ⟨gb103, 3, none⟩ = some (.slice none 0 0) := (blk_cell BK103.out 3).trans rfl; have hfz11_0 := blk_frozen BK103.out 0; have hfz11_1 := blk_frozen BK103.out 1; have hfz11_2 := blk_frozen BK103.out 2; have hfz11_3 := blk_frozen BK103.out 3) | ((with_reducible refine gate_callee (f := 46) rfl ?_); refine goesL_ (some 31) rfl rfl Tryd.func46 (by kernel_rfl) rfl #[.agg #[.string ((rd_T55 l0 (rd l1 x10_1)).f0), .int .i64 ((rd_T55 l0 (rd l1 x10_1)).f1), .int .i64 ((rd_T55 l0 (rd l1 x10_1)).f2), .slice A102_3 ((rd_T55 l0 (rd l1 x10_1)).f3).length c102_3]] rfl (by (try simp only [List.map_toArray, List.map_cons, List.map_nil]); first | done | rfl | (simp only [List.length_drop, List.length_take]; rfl)) ?_; (with_reducible refine (perigeeref10_whole.calls k1 ((rd_T55 l0 (rd l1 x10_1)).f0) ((rd_T55 l0 (rd l1 x10_1)).f1) ((rd_T55 l0 (rd l1 x10_1)).f2) _ _ ((rd_T55 l0 (rd l1 x10_1)).f3) t104 _ ?side1 ?side2 A9.out).mono ?_); (case side1 => exact Kd.C_below HR102_3.out d54a); (case side2 => exact HC102_3.out); rintro e w12 ⟨rfl, hb⟩; refine ⟨_, rfl, ?_⟩; have n0_ := Aside0.mk (blk_below (g := gb103) (o := .cells #[.string ((rd_T55 l0 (rd l1 x10_1)).f0), .int .i64 ((rd_T55 l0 (rd l1 x10_1)).f1), .int .i64 ((rd_T55 l0 (rd l1 x10_1)).f2), .slice A102_3 ((rd_T55 l0 (rd l1 x10_1)).f3).length c102_3] 55 (0, 0)) (by (with_reducible repeat (first | refine blk_drewN ?_ _ | refine blk_drew ?_ | refine blk_alloc ?_ _)); refine blk_put (cs := #[.string ((rd_T55 l0 (rd l1 x10_1)).f0), .int .i64 ((rd_T55 l0 (rd l1 x10_1)).f1), .int .i64 ((rd_T55 l0 (rd l1 x10_1)).f2), .slice none 0 0]) ?_ 3 _ rfl; (with_reducible repeat (first | refine blk_drewN ?_ _ | refine blk_drew ?_ | refine blk_alloc ?_ _)); refine blk_put (cs := #[.string ((rd_T55 l0 (rd l1 x10_1)).f0), .int .i64 ((rd_T55 l0 (rd l1 x10_1)).f1), .int .i64 0, .slice none 0 0]) ?_ 2 _ rfl; (with_reducible repeat (first | refine blk_drewN ?_ _ | refine blk_drew ?_ | refine blk_alloc ?_ _)); refine blk_put (cs := #[.string ((rd_T55 l0 (rd l1 x10_1)).f0), .int .i64 0, .int .i64 0, .slice none 0 0]) ?_ 1 _ rfl; (with_reducible repeat (first | refine blk_drewN ?_ _ | refine blk_drew ?_ | refine blk_alloc ?_ _)); refine blk_put (cs := #[.string (⟨#[]⟩ : ByteArray), .int .i64 0, .int .i64 0, .slice none 0 0]) ?_ 0 _ rfl; (with_reducible repeat (first | refine blk_drewN ?_ _ | refine blk_drew ?_ | refine blk_alloc ?_ _)); exact BK103.out) hb); have n1_ := Aside0.mk (below_step d54a hb); clear BK103; clear HB; have BK103 := n0_; have HB := n1_; clear n0_ n1_; (try clear hb)))
       go_roundg k1
       case measure => have := HK1.out; omega
       case rel => exact ⟨(wrap64 (x8_1 + t104)), (true), (wrap64 (x10_1 + 1)), d54d, d54d, d54d, H', ⟨by have := HK1.out; omega⟩, ⟨d54a⟩⟩
     · rw [if_neg c8] at H
       have c8b0 : (((rd_T55 l0 (rd l1 x10_1)).f0).toList == a2.toList) = false := beq_eq_false_iff_ne.mpr c8
       have c8b1 : (((rd_T55 l0 (rd l1 x10_1)).f0).toList != a2.toList) = true := bne_iff_ne.mpr c8
       have H' := Aside0.mk H
       clear H
       have p101 : 0 ≤ (x10_1 : Int) := of_decide_eq_true d54c
       have q101 : x10_1 < (l1.length : Int) := of_decide_eq_true d54c
       obtain ⟨ad101, e101, hx101_0⟩ := Kd.at_int HR1.out x10_1 p101 q101
       cases e101
       replace hx101_0 := cellB HB.out hx101_0
       replace p101 := eq_true p101
       replace q101 := eq_true q101
       have p102 : 0 ≤ ((rd l1 x10_1) : Int) := of_decide_eq_true d54c
       have q102 : (rd l1 x10_1) < (l0.length : Int) := of_decide_eq_true d54c
       obtain ⟨ad102, A102_3, c102_3, e102, hx102_0, hx102_1, hx102_2, hx102_3, hl102_3, hi102_3⟩ := at_T55 HR0.out (rd l1 x10_1) p102 q102
       cases e102
       replace hx102_0 := cellB HB.out hx102_0
       replace hx102_1 := cellB HB.out hx102_1
       replace hx102_2 := cellB HB.out hx102_2
       replace hx102_3 := cellB HB.out hx102_3
       have HR102_3 := Aside0.mk hi102_3
       have HC102_3 := Aside0.mk hl102_3
       clear hi102_3 hl102_3
       replace p102 := eq_true p102
       replace q102 := eq_true q102
       go_wp2_with ((with_reducible refine gate_dst (N := 11) rfl ?_); refine box_event ?hg (N := 11) ?hd (cs := #[.string (⟨#[]⟩ : ByteArray), .int .i64 0, .int .i64 0, .slice none 0 0]) (t := 55) ?hr ?_; (case hd => rfl); (case hg => rfl); (case hr => first | (go_simp; done) | (go_simp; rfl)); intro gb103 hg w13 hbox hb; have n0_ := Aside0.mk (below_step d54b hb); have n1_ := Aside0.mk (hbox); have n2_ := Aside0.mk ((by rw [hg]; exact (below_size d54b) : w.heap.size ≤ gb103)); have n3_ := Aside0.mk ((by rw [hg]; exact (below_size d54b) : w.heap.size ≤ gb103)); clear HB; have HB := n0_; have BK103 := n1_; have GW103 := n2_; have GE103 := n3_; clear n0_ n1_ n2_ n3_; clear hb hbox hg; have hcz14_0 : w13.cell? ⟨gb103, 0, none⟩ = some (.string (⟨#[]⟩ : ByteArray)) := (blk_cell BK103.out 0).trans rfl; have hcz14_1 : w13.cell? ⟨gb103, 1, none⟩ = some (.int .i64 0) := (blk_cell BK103.out 1).trans rfl; have hcz14_2 : w13.cell? ⟨gb103, 2, none⟩ = some (.int .i64 0) := (blk_cell BK103.out 2).trans rfl; have hcz14_3 : w13.cell? ⟨gb103, 3, none⟩ = some (.slice none 0 0) := (blk_cell BK103.out 3).trans rfl; have hfz14_0 := blk_frozen BK103.out 0; have hfz14_1 := blk_frozen BK103.out 1; have hfz14_2 := blk_frozen BK103.out 2; have hfz14_3 := blk_frozen BK103.out 3)
       go_roundg k1
       case measure => have := HK1.out; omega
       case rel => exact ⟨(x8_1), (x9_1), (wrap64 (x10_1 + 1)), d54d, d54d, d54d, H', ⟨by have := HK1.out; omega⟩, ⟨d54a⟩⟩
   · rw [if_neg c4] at H
     have c4b0 : decide (x10_1 < (l1.length : Int)) = false := decide_eq_false c4
     clear c4
     simp only [Option.some.injEq, Prod.mk.injEq] at H
     obtain ⟨rfl, rfl⟩ := H
     go_wp2
     go_ret2
     exact ⟨by first | rfl | (simp [errW_none, errW_some] <;> rfl) | (simp [*, errW_none, errW_some] <;> rfl), d54b⟩
def perigeeref10_total.l0 : Nat → List (S55) → List Int → Int → Int → Option (Int)
  | 0, _, _, _, _ => none
  | k + 1, x0, x1, x5, x6 => if x6 < (x1.length : Int) then (if 0 ≤ x6 then (if 0 ≤ (rd x1 x6) then (if (rd x1 x6) < (x0.length : Int) then ((perigeeref10_whole.f k ((rd_T55 x0 (rd x1 x6)).f0) ((rd_T55 x0 (rd x1 x6)).f1) ((rd_T55 x0 (rd x1 x6)).f2) ((rd_T55 x0 (rd x1 x6)).f3)).bind fun t103 => (perigeeref10_total.l0 k x0 x1 (wrap64 (x5 + t103)) (wrap64 (x6 + 1)))) else (none)) else (none)) else (none)) else (some x5)
def perigeeref10_total.f (k : Nat) (l0 : List (S55)) (l1 : List Int) : Option (Int) := perigeeref10_total.l0 k l0 l1 0 0
theorem d55a {p : Prop} (h : p := by repeat (first | (with_reducible first | exact HB.out | apply below_alloc | apply pw_below_drewN | apply below_drew1) | exact HB.out)) : p := h
theorem d55b {p : Prop} (h : p := by first | (with_reducible assumption) | assumption) : p := h
theorem d55c {p : Prop} (h : p := by first | rfl | (simp; done) | (simp [*]; done)) : p := h
set_option maxHeartbeats 8000000 in
set_option maxRecDepth 100000 in
theorem perigeeref10_total.calls (k : Nat) (A0 : Option Addr) (c0 : Nat) (l0 : List (S55)) (A1 : Option Addr) (c1 : Nat) (l1 : List Int) (r : Int) (w : World) (hr0 : Kd.C k55 w A0 l0.length l0) (hc0 : l0.length ≤ c0) (hr1 : Kd.C (Kd.int .i64) w A1 l1.length l1) (hc1 : l1.length ≤ c1) (h : perigeeref10_total.f k l0 l1 = some r) :
 Calls Tryd.prog 55 #[.slice A0 l0.length c0, .slice A1 l1.length c1] w fun e w' => e = .returned (.int .i64 r) ∧ Below w.heap.size w w' := by
 have hu55 := Tryd.underlying55
 have HR0 := Aside0.mk hr0
 have HC0 := Aside0.mk hc0
 clear hr0 hc0
 have HR1 := Aside0.mk hr1
 have HC1 := Aside0.mk hc1
 clear hr1 hc1
 have HB := Aside0.mk (Below.refl w.heap.size w)
 have H : (perigeeref10_total.l0 k l0 l1 0 0) = some r := h
 clear h
 have H' := Aside0.mk H
 clear H
 go_enter Tryd.func55, Tryd.ntmps55
 go_wp2
 go_loopg [5, 6] k (fun kq v5 v6 w' => ∃ (x5_1 : Int) (x6_1 : Int), v5 = .int .i64 x5_1 ∧ v6 = .int .i64 x6_1 ∧ Aside0 (perigeeref10_total.l0 kq l0 l1 x5_1 x6_1 = some r) ∧ Aside0 (kq ≤ k) ∧ Aside0 (Below w.heap.size w w'))
 case atStart => exact ⟨(0), (0), d55c, d55c, H', ⟨Nat.le_refl _⟩, ⟨d55a⟩⟩
 case round =>
  clear H'
  obtain ⟨x5_1, x6_1, rfl, rfl, HA, HK1, HB⟩ := hrel
  cases gk with
  | zero => exact absurd HA.out (by simp [perigeeref10_total.l0])
  | succ k1 =>
   have H := HA.out
   clear HA
   simp only [perigeeref10_total.l0] at H
   by_cases c3 : x6_1 < (l1.length : Int)
   · rw [if_pos c3] at H
     have c3b0 : decide (x6_1 < (l1.length : Int)) = true := decide_eq_true c3
     clear c3
     replace H := guardT H; obtain ⟨c4, H⟩ := H
     have c4b0 : decide (0 ≤ x6_1) = true := decide_eq_true c4
     clear c4
     replace H := guardT H; obtain ⟨c5, H⟩ := H
     have c5b0 : decide (0 ≤ (rd l1 x6_1)) = true := decide_eq_true c5
     clear c5
     replace H := guardT H; obtain ⟨c6, H⟩ := H
     have c6b0 : decide ((rd l1 x6_1) < (l0.length : Int)) = true := decide_eq_true c6
     clear c6
     replace H := bindS H; obtain ⟨t103, A7, H⟩ := H
     have H' := Aside0.mk H
     clear H
     have p101 : 0 ≤ (x6_1 : Int) := of_decide_eq_true d55b
     have q101 : x6_1 < (l1.length : Int) := of_decide_eq_true d55b
     obtain ⟨ad101, e101, hx101_0⟩ := Kd.at_int HR1.out x6_1 p101 q101
     cases e101
     replace hx101_0 := cellB HB.out hx101_0
     replace p101 := eq_true p101
     replace q101 := eq_true q101
     have p102 : 0 ≤ ((rd l1 x6_1) : Int) := of_decide_eq_true d55b
     have q102 : (rd l1 x6_1) < (l0.length : Int) := of_decide_eq_true d55b
     obtain ⟨ad102, A102_3, c102_3, e102, hx102_0, hx102_1, hx102_2, hx102_3, hl102_3, hi102_3⟩ := at_T55 HR0.out (rd l1 x6_1) p102 q102
     cases e102
     replace hx102_0 := cellB HB.out hx102_0
     replace hx102_1 := cellB HB.out hx102_1
     replace hx102_2 := cellB HB.out hx102_2
     replace hx102_3 := cellB HB.out hx102_3
     have HR102_3 := Aside0.mk hi102_3
     have HC102_3 := Aside0.mk hl102_3
     clear hi102_3 hl102_3
     replace p102 := eq_true p102
     replace q102 := eq_true q102
     go_wp2_with ((with_reducible refine gate_callee (f := 46) rfl ?_); refine goesL_ (some 21) rfl rfl Tryd.func46 (by kernel_rfl) rfl #[.agg #[.string ((rd_T55 l0 (rd l1 x6_1)).f0), .int .i64 ((rd_T55 l0 (rd l1 x6_1)).f1), .int .i64 ((rd_T55 l0 (rd l1 x6_1)).f2), .slice A102_3 ((rd_T55 l0 (rd l1 x6_1)).f3).length c102_3]] rfl (by (try simp only [List.map_toArray, List.map_cons, List.map_nil]); first | done | rfl | (simp only [List.length_drop, List.length_take]; rfl)) ?_; (with_reducible refine (perigeeref10_whole.calls k1 ((rd_T55 l0 (rd l1 x6_1)).f0) ((rd_T55 l0 (rd l1 x6_1)).f1) ((rd_T55 l0 (rd l1 x6_1)).f2) _ _ ((rd_T55 l0 (rd l1 x6_1)).f3) t103 _ ?side1 ?side2 A7.out).mono ?_); (case side1 => exact C_go (Kd.C_below HR102_3.out HB.out)); (case side2 => exact HC102_3.out); rintro e w8 ⟨rfl, hb⟩; refine ⟨_, rfl, ?_⟩; replace HB := Aside0.mk (below_step d55a hb); (try clear hb))
     go_roundg k1
     case measure => have := HK1.out; omega
     case rel => exact ⟨(wrap64 (x5_1 + t103)), (wrap64 (x6_1 + 1)), d55c, d55c, H', ⟨by have := HK1.out; omega⟩, ⟨d55a⟩⟩
   · rw [if_neg c3] at H
     have c3b0 : decide (x6_1 < (l1.length : Int)) = false := decide_eq_false c3
     clear c3
     obtain rfl := Option.some.inj H
     go_wp2
     go_ret
     exact ⟨by first | rfl | (simp [errW_none, errW_some] <;> rfl) | (simp [*, errW_none, errW_some] <;> rfl), d55a⟩
end Go.Proofs.YtbngmblgkkdhpaaDoor.Q
