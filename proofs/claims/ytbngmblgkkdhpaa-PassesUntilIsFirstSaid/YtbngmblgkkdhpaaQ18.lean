-- Made by wip/tools/pp.py (this session's) over the kit's print program; Lean checks it.
import Derived.Test.YtbngmblgkkdhpaaQ0
import Derived.Test.YtbngmblgkkdhpaaQ47
import Derived.Test.YtbngmblgkkdhpaaQ78
namespace Go.Proofs.Ytbngmblgkkdhpaa.Q
open Go.RowKit Go.Proofs.YtbngmblgkkdhpaaW.PrintWords Go.Proofs.YtbngmblgkkdhpaaW.PrintLast Go.Proofs.YtbngmblgkkdhpaaW.PrintMore
attribute [local go_sem] max2_int min2_int max_two min_two max_three min_three max_four min_four
open Go.Proofs.Ytbngmblgkkdhpaa.Base
attribute [local go_sem high] str_leq str_gtr str_geq
set_option linter.unusedVariables false
set_option linter.unusedSimpArgs false

/-! ### contact_CheckPasses: function 18 -/
/-- A string among others, once. -/
def keyB (p : S33) : Lit := .string p.f0.data.toList
/-- How many stations passes have. -/
def stationsB (l : List S33) : Nat := ((l.map keyB).foldl Maps.addKey []).length
/-- A pass that may not follow another one. -/
def passAfter (a b : S33) : Bool := decide (b.f1 < a.f1) || (decide (b.f1 = a.f1) && !Op.bytesLess a.f0.toList b.f0.toList)
def contact_CheckPasses.l0 : Nat → List S33 → Int → Option Int
  | 0, _, _ => none
  | k + 1, x0, i => if i < (x0.length : Int) then ((contact_checkPass.f k (rd_T33 x0 i).f0 (rd_T33 x0 i).f1 (rd_T33 x0 i).f2 (rd_T33 x0 i).f3).bind fun t => if t = 0 then (if 0 < i ∧ passAfter (rd_T33 x0 (i - 1)) (rd_T33 x0 i) = true then some 8 else contact_CheckPasses.l0 k x0 (i + 1)) else some t) else some (if stationsB x0 > 50 then 2 else 0)
def contact_CheckPasses.f (k : Nat) (l0 : List S33) : Option Int := if (l0.length : Int) > 100 then some 2 else contact_CheckPasses.l0 k l0 0
theorem contact_CheckPasses.mono_l : ∀ k, (∀ y0 y1, LeO (contact_CheckPasses.l0 k y0 y1) (contact_CheckPasses.l0 (k + 1) y0 y1))
  | 0 => fun _ _ r h => by simp [contact_CheckPasses.l0] at h
  | k + 1 => by
    have ih0 := contact_CheckPasses.mono_l k
    intro y0 y1
    unfold contact_CheckPasses.l0
    repeat' first
      | (with_reducible exact ih0 _ _)
      | (with_reducible exact contact_checkPass.mono _ _ _ _ _)
      | (with_reducible exact LeO.refl _)
      | (with_reducible refine LeO.ite ?_ ?_)
      | (with_reducible refine LeO.bind ?_ (fun _ => ?_))
      | exact LeO.refl _
theorem contact_CheckPasses.mono : ∀ a0 k, LeO (contact_CheckPasses.f k a0) (contact_CheckPasses.f (k + 1) a0) := by
  intro a0 k
  unfold contact_CheckPasses.f
  exact LeO.ite (LeO.refl _) (contact_CheckPasses.mono_l k _ _)
theorem lawStr : Maps.Keyed Try.prog 9 := Maps.string_keyed Try.underlying9
/-- The map of the stations: block g; the passes before i have been put in. -/
def StationsIn (l : List S33) (g : Nat) (i : Int) (W : World) : Prop :=
  W.ownsMap (H := Unit) Try.prog 9 (plainElem Try.prog 4) g i.toNat (Maps.setOf (.lit (.bool true)) ((l.take i.toNat).map keyB))
theorem StationsIn.step {l : List S33} {g : Nat} {i : Int} {W : World} (h0 : 0 ≤ i) (h1 : i < (l.length : Int))
    (h : W.ownsMap (H := Unit) Try.prog 9 (plainElem Try.prog 4) g (i.toNat + 1) ((Maps.setOf (.lit (.bool true)) ((l.take i.toNat).map keyB)).put (.string (rd_T33 l i).f0.data.toList) (.lit (.bool true)))) : StationsIn l g (i + 1) W := by
  unfold StationsIn
  rw [show (i + 1).toNat = i.toNat + 1 by omega, List.take_succ_eq_append_getElem (by omega), List.map_append, List.map_cons, List.map_nil, Maps.setOf_snoc]
  have e : keyB (l[i.toNat]'(by omega)) = .string (rd_T33 l i).f0.data.toList := by
    unfold keyB rd_T33
    rw [List.getD_eq_getElem?_getD, List.getElem?_eq_getElem (by omega)]
    rfl
  rw [e]
  exact h
theorem isName_short {k : Nat} {s : ByteArray} (h : monitor_IsName.f k s = some true) : s.size ≤ 40 := by
  have key : ∀ b : Bool, monitor_IsName.j0 k s b = some true → b = false := by
    intro b hb
    cases k with
    | zero => simp [monitor_IsName.j0] at hb
    | succ k =>
      cases b
      · rfl
      · simp [monitor_IsName.j0] at hb
  unfold monitor_IsName.f at h
  split at h
  · exact absurd (key _ h) (by simp)
  · have := of_decide_eq_false (key _ h)
    omega
theorem checkPass_short {k : Nat} {s : ByteArray} {a b : Int} {l : List S75} (h : contact_checkPass.f k s a b l = some 0) : s.size ≤ 40 := by
  unfold contact_checkPass.f at h
  obtain ⟨t, h1, h2⟩ := Option.bind_eq_some_iff.1 h
  cases t
  · simp at h2
  · exact isName_short h1
set_option maxHeartbeats 8000000 in
set_option maxRecDepth 100000 in
theorem contact_CheckPasses.calls (k : Nat) (A0 : Option Addr) (c0 : Nat) (l0 : List S33) (r : Int) (w : World) (hr0 : Kd.C k33 w A0 l0.length l0) (hc0 : l0.length ≤ c0) (h : contact_CheckPasses.f k l0 = some r) :
    Calls Try.prog 18 #[.slice A0 l0.length c0] w fun e w' => e = .returned (.int .i64 r) ∧ Below w.heap.size w w' := by
  have hu33 := Try.underlying33
  have HR0 := Aside0.mk hr0
  have HC0 := Aside0.mk hc0
  clear hr0 hc0
  have HB := Aside0.mk (Below.refl w.heap.size w)
  have H : (if (l0.length : Int) > 100 then some 2 else contact_CheckPasses.l0 k l0 0) = some r := h
  clear h
  have hmm := @run_makeMap Try.prog
  by_cases c2 : (l0.length : Int) > 100
  · rw [if_pos c2] at H
    have c2b0 : decide (100 < (l0.length : Int)) = true := decide_eq_true c2
    have c2b1 : decide (100 < l0.length) = true := decide_eq_true (by omega)
    clear c2
    obtain rfl := Option.some.inj H
    go_enter Try.func18, Try.ntmps18
    go_wp2
    go_ret
    exact ⟨rfl, HB.out⟩
  · rw [if_neg c2] at H
    have c2b0 : decide (100 < (l0.length : Int)) = false := decide_eq_false c2
    have c2b1 : decide (100 < l0.length) = false := decide_eq_false (by omega)
    have H' := Aside0.mk H
    have HL := Aside0.mk c2
    clear H c2
    go_enter Try.func18, Try.ntmps18
    go_wp2
    go_loopg [13] k (fun kq v13 w' => ∃ (i : Int), v13 = .int .i64 i ∧ Aside0 (contact_CheckPasses.l0 kq l0 i = some r) ∧ Aside0 (kq ≤ k) ∧ Aside0 (0 ≤ i) ∧ Aside0 (StationsIn l0 w.heap.size i w') ∧ Aside0 (Below w.heap.size w w'))
    case atStart => exact ⟨0, rfl, H', ⟨Nat.le_refl _⟩, ⟨Int.le_refl _⟩, ⟨World.ownsMap_made _ _ _ _⟩, ⟨below_alloc HB.out _⟩⟩
    case round =>
      clear H' HB c2b0 c2b1
      obtain ⟨i, rfl, HA, HK1, HI, HM, HB⟩ := hrel
      cases gk with
      | zero => exact absurd HA.out (by simp [contact_CheckPasses.l0])
      | succ k1 =>
        have H := HA.out
        clear HA
        simp only [contact_CheckPasses.l0] at H
        by_cases c3 : i < (l0.length : Int)
        · rw [if_pos c3] at H
          replace H := Option.bind_eq_some_iff.mp H
          obtain ⟨t, ht, H⟩ := H
          have A5 := Aside0.mk ht
          have HH := Aside0.mk H
          clear ht H
          have hi0 : 0 ≤ i := HI.out
          obtain ⟨ad, A3, c3', e3, hx0, hx1, hx2, hx3, hl3, hi3⟩ := at_T33 HR0.out i hi0 c3
          cases e3
          replace hx0 := (HB.out.cell (World.block_lt_of_cell? w _ hx0)).trans hx0
          replace hx1 := (HB.out.cell (World.block_lt_of_cell? w _ hx1)).trans hx1
          replace hx2 := (HB.out.cell (World.block_lt_of_cell? w _ hx2)).trans hx2
          replace hx3 := (HB.out.cell (World.block_lt_of_cell? w _ hx3)).trans hx3
          have HR3 := Aside0.mk hi3
          have HC3 := Aside0.mk hl3
          have c3b0 : decide (i < (l0.length : Int)) = true := decide_eq_true c3
          clear hi3 hl3
          go_wp2_with fail
          refine (contact_checkPass.calls k1 _ _ _ _ _ _ t _ (Kd.C_alloc (Kd.C_below HR3.out HB.out) _) HC3.out A5.out).mono ?_
          rintro e w12 ⟨rfl, hb⟩
          have HM2 := Aside0.mk (World.ownsMap.kept (World.ownsMap.alloc HM.out _) (grown_of_below hb none) (by simp))
          have HB2 := Aside0.mk (below_step (below_alloc HB.out _) hb)
          have hbk := (hb.block wr.heap.size (by simp)).trans (heap_alloc_new wr _)
          have hb0 : w12.cell? ⟨wr.heap.size, 0, none⟩ = some (.string (rd_T33 l0 i).f0) := (blk_cell hbk 0).trans rfl
          have hb1 : w12.cell? ⟨wr.heap.size, 1, none⟩ = some (.int .i64 (rd_T33 l0 i).f1) := (blk_cell hbk 1).trans rfl
          clear hbk hb hx0 hx1 hx2 hx3 HB HM
          have H := HH.out
          clear HH
          by_cases ht : t = 0
          · rw [if_pos ht] at H
            have t0 : (t != 0) = false := bne_eq_false_iff_eq.mpr ht
            have HT := Aside0.mk ht
            clear ht
            by_cases hbad : 0 < i ∧ passAfter (rd_T33 l0 (i - 1)) (rd_T33 l0 i) = true
            · rw [if_pos hbad] at H
              obtain rfl := Option.some.inj H
              clear H
              obtain ⟨hpos, hbad⟩ := hbad
              obtain ⟨j, hj⟩ : ∃ j, i - 1 = j := ⟨_, rfl⟩
              rw [hj] at hbad
              have hjw : IntKind.i64.wrap (i - 1) = j := by rw [i64_w]; unfold wrap64; have := HL.out; omega
              have p1 : 0 ≤ j := by omega
              have p2 : j < (l0.length : Int) := by omega
              clear hj
              obtain ⟨ad2, A4, c4', e4, hy0, hy1, hy2, hy3, hl4, hi4⟩ := at_T33 HR0.out j p1 p2
              obtain rfl : ad = ad2 := by injection e4
              replace hy0 := (HB2.out.cell (World.block_lt_of_cell? w _ hy0)).trans hy0
              replace hy1 := (HB2.out.cell (World.block_lt_of_cell? w _ hy1)).trans hy1
              clear hy2 hy3 hl4 hi4 e4
              have hb2 : decide ((rd_T33 l0 i).f1 < (rd_T33 l0 j).f1) = true ∨ (decide ((rd_T33 l0 i).f1 < (rd_T33 l0 j).f1) = false ∧ ((rd_T33 l0 i).f1 == (rd_T33 l0 j).f1) = true ∧ Op.bytesLess (rd_T33 l0 j).f0.toList (rd_T33 l0 i).f0.toList = false) := by
                unfold passAfter at hbad
                rcases Bool.or_eq_true_iff.mp hbad with h | h
                · exact .inl h
                · obtain ⟨h1, h2⟩ := Bool.and_eq_true_iff.mp h
                  have h1 := of_decide_eq_true h1
                  exact .inr ⟨decide_eq_false (by omega), beq_iff_eq.mpr h1, by simpa using h2⟩
              have hposb : decide (0 < i) = true := decide_eq_true hpos
              replace p1 := eq_true p1
              replace p2 := eq_true p2
              clear hbad
              rcases hb2 with d1 | ⟨d1, d2, d3⟩
              all_goals
                go_wp2
                repeat (go_quiet (fail); try go_wp2)
                go_ret
                exact ⟨rfl, pw_below_drewN HB2.out _⟩
            · rw [if_neg hbad] at H
              have H' := Aside0.mk H
              clear H
              have hok : ¬ 0 < i ∨ (0 < i ∧ passAfter (rd_T33 l0 (i - 1)) (rd_T33 l0 i) = false) := by
                by_cases h : 0 < i
                · exact .inr ⟨h, by simpa [h] using hbad⟩
                · exact .inl h
              clear hbad
              have hkey : keyOf Try.prog 9 (.string (rd_T33 l0 i).f0) = some (.string (rd_T33 l0 i).f0.data.toList) := Go.WideMaps.keyOf_string_mk Try.underlying9 (by have := checkPass_short (HT.out ▸ A5.out); unfold maxLen; omega)
              have HK := Aside0.mk hkey
              clear hkey
              have hLx := HL.out
              rcases hok with hpos | ⟨hpos, hbad⟩
              · have hposb : decide (0 < i) = false := decide_eq_false hpos
                clear hpos
                go_wp2
                repeat (go_quiet (fail); try go_wp2_with (at_mapUpdate; refine wpList_mapUpdate_own _ rfl _ _ _ 83 rfl 9 4 lawStr Try.underlying83 _ w.heap.size i.toNat _ rfl HM2.out (by have := HL.out; unfold maxLen; omega) _ _ _ rfl rfl HK.out _ [] (plainElem_bool Try.underlying4 true) ?_; intro w13 hown1 hgrow1))
                go_roundg k1
                case measure => have := HK1.out; omega
                case rel => exact ⟨i + 1, by first | rfl | (simp; done), H', ⟨by have := HK1.out; omega⟩, ⟨by omega⟩, ⟨StationsIn.step hi0 c3 hown1⟩, ⟨pw_below_grown (pw_below_drewN HB2.out _) _ (pw_below_drewN HB2.out _).size hgrow1 (fun j hj => by cases hj; exact Nat.le_refl _)⟩⟩
              · obtain ⟨j, hj⟩ : ∃ j, i - 1 = j := ⟨_, rfl⟩
                rw [hj] at hbad
                have hjw : IntKind.i64.wrap (i - 1) = j := by rw [i64_w]; unfold wrap64; omega
                have p1 : 0 ≤ j := by omega
                have p2 : j < (l0.length : Int) := by omega
                clear hj
                obtain ⟨ad2, A4, c4', e4, hy0, hy1, hy2, hy3, hl4, hi4⟩ := at_T33 HR0.out j p1 p2
                obtain rfl : ad = ad2 := by injection e4
                replace hy0 := (HB2.out.cell (World.block_lt_of_cell? w _ hy0)).trans hy0
                replace hy1 := (HB2.out.cell (World.block_lt_of_cell? w _ hy1)).trans hy1
                clear hy2 hy3 hl4 hi4 e4
                have hb2 : (decide ((rd_T33 l0 i).f1 < (rd_T33 l0 j).f1) = false ∧ ((rd_T33 l0 i).f1 == (rd_T33 l0 j).f1) = false) ∨ (decide ((rd_T33 l0 i).f1 < (rd_T33 l0 j).f1) = false ∧ ((rd_T33 l0 i).f1 == (rd_T33 l0 j).f1) = true ∧ Op.bytesLess (rd_T33 l0 j).f0.toList (rd_T33 l0 i).f0.toList = true) := by
                  unfold passAfter at hbad
                  obtain ⟨h1, h2⟩ := Bool.or_eq_false_iff.mp hbad
                  by_cases h : (rd_T33 l0 i).f1 = (rd_T33 l0 j).f1
                  · exact .inr ⟨h1, beq_iff_eq.mpr h, by simpa [h] using h2⟩
                  · exact .inl ⟨h1, beq_eq_false_iff_ne.mpr h⟩
                have hposb : decide (0 < i) = true := decide_eq_true hpos
                replace p1 := eq_true p1
                replace p2 := eq_true p2
                clear hbad
                rcases hb2 with ⟨d1, d2⟩ | ⟨d1, d2, d3⟩
                all_goals
                  go_wp2
                  repeat (go_quiet (fail); try go_wp2_with (at_mapUpdate; refine wpList_mapUpdate_own _ rfl _ _ _ 83 rfl 9 4 lawStr Try.underlying83 _ w.heap.size i.toNat _ rfl HM2.out (by have := HL.out; unfold maxLen; omega) _ _ _ rfl rfl HK.out _ [] (plainElem_bool Try.underlying4 true) ?_; intro w13 hown1 hgrow1))
                  go_roundg k1
                  case measure => have := HK1.out; omega
                  case rel => exact ⟨i + 1, by first | rfl | (simp; done), H', ⟨by have := HK1.out; omega⟩, ⟨by omega⟩, ⟨StationsIn.step hi0 c3 hown1⟩, ⟨pw_below_grown (pw_below_drewN HB2.out _) _ (pw_below_drewN HB2.out _).size hgrow1 (fun j hj => by cases hj; exact Nat.le_refl _)⟩⟩
          · rw [if_neg ht] at H
            obtain rfl := Option.some.inj H
            have t0 : (t != 0) = true := bne_iff_ne.mpr ht
            go_wp2
            go_ret
            exact ⟨rfl, HB2.out⟩
        · rw [if_neg c3] at H
          have c3b0 : decide (i < (l0.length : Int)) = false := decide_eq_false c3
          have hsz : Maps.size (H := Unit) (Maps.setOf (.lit (.bool true)) ((l0.take i.toNat).map keyB)) = stationsB l0 := by
            rw [Maps.size_setOf _ _ (fun x hx => by obtain ⟨p, _, rfl⟩ := List.mem_map.1 hx; exact trivial), List.take_of_length_le (by have := HI.out; omega)]
            rfl
          have hlen := World.ownsMap.len HM.out Try.underlying83 3
          rw [hsz] at hlen
          clear hsz
          by_cases c4 : stationsB l0 > 50
          · rw [if_pos c4] at H
            obtain rfl := Option.some.inj H
            have d1 : decide ((50 : Int) < (stationsB l0 : Int)) = true := decide_eq_true (by omega)
            go_wp2
            go_ret
            exact ⟨rfl, HB.out⟩
          · rw [if_neg c4] at H
            obtain rfl := Option.some.inj H
            have d1 : decide ((50 : Int) < (stationsB l0 : Int)) = false := decide_eq_false (by omega)
            go_wp2
            go_ret
            exact ⟨rfl, HB.out⟩

end Go.Proofs.Ytbngmblgkkdhpaa.Q
