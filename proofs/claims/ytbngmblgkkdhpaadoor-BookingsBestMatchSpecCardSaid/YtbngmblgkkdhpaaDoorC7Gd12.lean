-- Made by wip/tools/claimp.py of this session's texts; Lean checks it.
import Derived.Test.YtbngmblgkkdhpaaDoorC7Q0
import Derived.Test.YtbngmblgkkdhpaaDoorC7Gd1
import Derived.Test.YtbngmblgkkdhpaaDoorC7Gd10
import Derived.Test.YtbngmblgkkdhpaaDoorC7Gd11
import Derived.Test.YtbngmblgkkdhpaaDoorC7Gd4
import Derived.Test.YtbngmblgkkdhpaaDoorC7Gd9
namespace Go.Proofs.YtbngmblgkkdhpaaDoor.Q
open Go.RowKit Go.Proofs.YtbngmblgkkdhpaaDoorW.PrintWords Go.Proofs.YtbngmblgkkdhpaaDoorW.PrintLast Go.Proofs.YtbngmblgkkdhpaaDoorW.PrintMore
attribute [local go_sem] max2_int min2_int max_two min_two max_three min_three max_four min_four
open Go.Proofs.YtbngmblgkkdhpaaDoor.Base
attribute [local go_sem high] str_leq str_gtr str_geq
set_option linter.unusedVariables false
set_option linter.unusedSimpArgs false
abbrev MapD := DataW Unit
def keyL (s : ByteArray) : Lit := .string s.data.toList
def litI (n : Int) : MapD := .lit (.int .i64 n)
/-- What a map holds for a name. -/
def valD (D : MapD) (s : ByteArray) : Int := match D.atKey (keyL s) (litI 0) with
  | .lit (.int .i64 c) => c
  | _ => 0
/-- What booked passes of each station can carry. -/
def byD (k : Nat) (l : List S55) : List Int → MapD → Option MapD
  | [], m => some m
  | b :: r, m => if 0 ≤ b ∧ b < (l.length : Int) ∧ (rd_T55 l b).f0.size ≤ 1000 then (contact_whole.f k (rd_T55 l b).f0 (rd_T55 l b).f1 (rd_T55 l b).f2 (rd_T55 l b).f3).bind fun n => if -9223372036854775808 ≤ n ∧ n ≤ 9223372036854775807 then byD k l r (m.put (keyL (rd_T55 l b).f0) (litI (wrap64 (valD m (rd_T55 l b).f0 + n)))) else none else none
theorem lawStr2 : Maps.Keyed Tryd.prog 9 := Maps.string_keyed Tryd.underlying9
theorem fr_store_step {PP : Program} {ops : Array Oper} {o : Oper} {a : Act} {Q : Exit → Act → World → Prop} {Kc : Act → World → Prop} {W w1 : World} (hw : Region.wanted o (yielded ops a.tmps) = true) (hN : o.dst = none) (hrun : (execOp a.eval o).run PP W = .ok .skip w1) (h : Kc (a.put none undef) w1) : if Region.wanted o (yielded ops a.tmps) = true then Oper.wp PP o a W Kc Q else Kc (a.put none undef) W := by
  rw [if_pos hw]
  unfold Oper.wp
  rw [hrun]
  show Kc (a.put o.dst undef) w1
  rw [hN]
  exact h
theorem fr_world {PP : Program} {md : Region.Mode} {ops : Array Oper} {Q : Exit → Act → World → Prop} {S : World → Prop} {ds : List Nat} {fuel : Nat} {l : Array Bool} {a : Act} {w : World} (R : World → Prop) (hR : R w) (hS : S w) (h : ∀ w', R w' → S w' → wpAnyLast PP md ops Q S ds fuel l a w') : wpAnyLast PP md ops Q S ds fuel l a w := h w hR hS
theorem map_below {g n : Nat} {m : MapD} {W W2 : World} (h : World.ownsMap (H := Unit) W Tryd.prog 9 (plainElem Tryd.prog 3) g n m) (hb : Below W.heap.size W W2) : World.ownsMap (H := Unit) W2 Tryd.prog 9 (plainElem Tryd.prog 3) g n m :=
  World.ownsMap.kept h (grown_of_below hb none) (by simp)
theorem map_look {g n : Nat} {m : MapD} {W : World} (h : World.ownsMap (H := Unit) W Tryd.prog 9 (plainElem Tryd.prog 3) g n m) {s : ByteArray} (hs : s.size ≤ 1000) : (Instr.lookup 93 (.map (some g)) (.string s) false).run Tryd.prog W = .ok (.int .i64 (valD m s)) W := by
  obtain ⟨c, hrun, hat, _⟩ := World.ownsMap.lookup_int h lawStr2 (Tryd.underlying93) (Tryd.underlying3) (Tryd.zeroValue3 _) (Go.WideMaps.keyOf_string_mk Tryd.underlying9 (by unfold maxLen; omega) : keyOf Tryd.prog 9 (.string s) = some (.string s.data.toList))
  have e : valD m s = c := by
    unfold valD keyL litI
    rw [hat]
  rw [e]
  exact hrun
set_option maxHeartbeats 8000000 in
set_option maxRecDepth 100000 in
theorem byStation_calls (k : Nat) (A0 : Option Addr) (c0 : Nat) (l0 : List S55) (A1 : Option Addr) (c1 : Nat) (l1 : List Int) (r : MapD) (w : World) (hr0 : Kd.C k55 w A0 l0.length l0) (hc0 : l0.length ≤ c0) (hr1 : Kd.C (Kd.int .i64) w A1 l1.length l1) (hc1 : l1.length ≤ c1) (hl : l1.length < 1000000000) (h : byD k l0 l1 (.map []) = some r) :
    Calls Tryd.prog 49 #[.slice A0 l0.length c0, .slice A1 l1.length c1] w fun e w' => ∃ g, e = .returned (.map (some g)) ∧ w.heap.size ≤ g ∧ World.ownsMap (H := Unit) w' Tryd.prog 9 (plainElem Tryd.prog 3) g l1.length r ∧ Below w.heap.size w w' := by
  have HR0 := Aside0.mk hr0
  have HC0 := Aside0.mk hc0
  have HR1 := Aside0.mk hr1
  have HC1 := Aside0.mk hc1
  have HL1 := Aside0.mk hl
  clear hr0 hc0 hr1 hc1 hl
  have HB := Aside0.mk (Below.refl w.heap.size w)
  have H' := Aside0.mk h
  clear h
  have hmm := @run_makeMap Tryd.prog
  go_enter Tryd.func49, Tryd.ntmps49
  go_wp2
  go_loopg [11] l1.length (fun kq v11 w' => ∃ (i : Nat) (m : MapD), v11 = .int .i64 (i : Int) ∧ Aside0 (kq + i = l1.length) ∧ Aside0 (byD k l0 (l1.drop i) m = some r) ∧ Aside0 (World.ownsMap (H := Unit) w' Tryd.prog 9 (plainElem Tryd.prog 3) w.heap.size i m) ∧ Aside0 (Below w.heap.size w w'))
  case atStart => exact ⟨0, .map [], rfl, ⟨rfl⟩, H', ⟨World.ownsMap_made _ _ _ _⟩, ⟨below_alloc HB.out _⟩⟩
  case round =>
    clear H' HB
    obtain ⟨i, m, rfl, HK, HA, HM, HB⟩ := hrel
    cases gk with
    | zero =>
      have hi : i = l1.length := by have := HK.out; omega
      subst hi
      have H := HA.out
      rw [List.drop_length] at H
      obtain rfl := Option.some.inj (show some m = some r from H)
      clear H HA HK
      go_wp2
      go_ret
      exact ⟨_, rfl, Nat.le_refl _, HM.out, HB.out⟩
    | succ d =>
      have hi : i < l1.length := by have := HK.out; omega
      have H := HA.out
      rw [List.drop_eq_getElem_cons hi] at H
      unfold byD at H
      obtain ⟨⟨b0, b1, b2⟩, H⟩ := guardT H
      replace H := Option.bind_eq_some_iff.mp H
      obtain ⟨n, hn, H⟩ := H
      obtain ⟨hn1, H⟩ := guardT H
      have A5 := Aside0.mk hn
      have H' := Aside0.mk H
      have HW := Aside0.mk hn1
      clear H HA hn hn1
      have hi0 : (0 : Int) ≤ (i : Int) := by omega
      have hi1 : (i : Int) < (l1.length : Int) := by omega
      have hd1 : decide ((i : Int) < (l1.length : Int)) = true := decide_eq_true hi1
      obtain ⟨bk, hbk⟩ : ∃ bk, bk = l1[i] := ⟨_, rfl⟩
      have hx0 := Kd.at_int HR1.out (i : Int) hi0 hi1
      obtain ⟨ad1, e1, hx0⟩ := hx0
      cases e1
      replace hx0 := cellB HB.out hx0
      have hrd : rd l1 (i : Int) = bk := by rw [hbk]; unfold rd; simp [List.getD_eq_getElem?_getD, List.getElem?_eq_getElem hi]
      rw [hrd] at hx0
      simp only [Int.toNat_natCast] at hx0
      rw [← hbk] at b0 b1 b2 A5 H'
      clear hbk hrd
      obtain ⟨ad, A3, c3, e, hy0, hy1, hy2, hy3, hl3, hi3⟩ := at_T55 HR0.out bk b0 b1
      cases e
      replace hy0 := cellB HB.out hy0
      replace hy1 := cellB HB.out hy1
      replace hy2 := cellB HB.out hy2
      replace hy3 := cellB HB.out hy3
      have HR3 := Aside0.mk hi3
      have HC3 := Aside0.mk hl3
      have p0 := eq_true b0
      have p1 := eq_true b1
      have HS := Aside0.mk b2
      clear hi3 hl3 b0 b1 b2
      obtain ⟨x, hx⟩ : ∃ x, x = rd_T55 l0 bk := ⟨_, rfl⟩
      rw [← hx] at hy0 hy1 hy2 hy3 HR3 HC3 HS A5 H'
      clear hx
      go_wp2
      refine start_ (n := 14) (S := fun w' => World.ownsMap (H := Unit) w' Tryd.prog 9 (plainElem Tryd.prog 3) w.heap.size i m ∧ w'.cell? (ad.add (bk.toNat * 4)) = some (.string x.f0) ∧ w'.cell? ⟨(ad.add (bk.toNat * 4)).block, (ad.add (bk.toNat * 4)).off + 1, none⟩ = some (.int .i64 x.f1) ∧ w'.cell? ⟨(ad.add (bk.toNat * 4)).block, (ad.add (bk.toNat * 4)).off + 2, none⟩ = some (.int .i64 x.f2) ∧ w'.cell? ⟨(ad.add (bk.toNat * 4)).block, (ad.add (bk.toNat * 4)).off + 3, none⟩ = some (.slice A3 x.f3.length c3)) (ds := [13]) #[false, false, false, false, false, false, false, false, false, false, false, false, false, false] (by kernel_rfl) rfl rfl ⟨HM.out, hy0, hy1, hy2, hy3⟩ (fun hHeld => ?_)
      refine fr_world (R := fun W2 => Below w.heap.size w W2) (below_drew HB.out) hHeld (fun W2 hR2 hHeld => ?_)
      have HW2 := Aside0.mk hR2
      clear hR2
      refine pure_ (i := 0) (N := some 15) (v := ?_) (a' := ?_) #[true, false, false, false, false, false, false, false, false, false, false, false, false, false] rfl rfl (by kernel_rfl) (fun _ _ _ h => h) (Or.inl ⟨by rfl, ?_⟩) ?_ ?_
      rotate_left
      · intro w'
        go_simp
        with_reducible rfl
      rotate_left
      · simp only [Act.put, List.setIfInBounds_toArray, List.set_cons_zero, List.set_cons_succ, i64_w, i32_w]
        rfl
      refine pure_ (i := 1) (N := some 16) (v := ?_) (a' := ?_) #[true, true, false, false, false, false, false, false, false, false, false, false, false, false] rfl rfl (by kernel_rfl) (fun _ _ _ h => h) (Or.inl ⟨by rfl, ?_⟩) ?_ ?_
      rotate_left
      · intro w'
        go_simp
        with_reducible rfl
      rotate_left
      · simp only [Act.put, List.setIfInBounds_toArray, List.set_cons_zero, List.set_cons_succ, i64_w, i32_w]
        rfl
      refine pure_ (i := 2) (N := some 17) (v := ?_) (a' := ?_) #[true, true, true, false, false, false, false, false, false, false, false, false, false, false] rfl rfl (by kernel_rfl) (fun _ _ _ h => h) (Or.inl ⟨by rfl, ?_⟩) ?_ ?_
      rotate_left
      · intro w'
        go_simp
        with_reducible rfl
      rotate_left
      · simp only [Act.put, List.setIfInBounds_toArray, List.set_cons_zero, List.set_cons_succ, i64_w, i32_w]
        rfl
      refine pure_ (i := 3) (N := some 18) (v := ?_) (a' := ?_) #[true, true, true, true, false, false, false, false, false, false, false, false, false, false] rfl rfl (by kernel_rfl) (fun _ _ _ h => h) (Or.inl ⟨by rfl, ?_⟩) ?_ ?_
      rotate_left
      · intro w'
        go_simp
        with_reducible rfl
      rotate_left
      · simp only [Act.put, List.setIfInBounds_toArray, List.set_cons_zero, List.set_cons_succ, i64_w, i32_w]
        rfl
      refine pure_ (i := 4) (N := some 19) (v := ?_) (a' := ?_) #[true, true, true, true, true, false, false, false, false, false, false, false, false, false] rfl rfl (by kernel_rfl) (fun _ _ _ h => h) (Or.inl ⟨by rfl, ?_⟩) ?_ ?_
      rotate_left
      · intro w'
        go_simp
        with_reducible rfl
      rotate_left
      · simp only [Act.put, List.setIfInBounds_toArray, List.set_cons_zero, List.set_cons_succ, i64_w, i32_w]
        rfl
      refine take_ (i := 5) (N := some 20) (v := ?_) (a' := ?_) #[true, true, true, true, true, true, false, false, false, false, false, false, false, false] rfl rfl (by kernel_rfl) (fun _ _ _ h => h) (Or.inl ⟨by rfl, ?_⟩) hHeld ?_ ?_
      rotate_left
      · rintro w' ⟨s0, s1, s2, s3, s4⟩
        go_simp
        with_reducible rfl
      rotate_left
      · simp only [Act.put, List.setIfInBounds_toArray, List.set_cons_zero, List.set_cons_succ, i64_w, i32_w]
        rfl
      refine take_ (i := 6) (N := some 21) (v := .int .i64 (valD m x.f0)) (a' := ?_) #[true, true, true, true, true, true, true, false, false, false, false, false, false, false] rfl rfl (by kernel_rfl) (fun _ _ _ h => h) (Or.inl ⟨by rfl, ?_⟩) hHeld ?_ ?_
      · rintro w' ⟨s0, _, _, _, _⟩
        show (execOp _ _).run Tryd.prog w' = _
        simp only [execOp]
        have hl := map_look s0 HS.out
        go_simp
        all_goals (first | exact hl | (simp [hl, Result.andThen]; done))
      rotate_left
      · simp only [Act.put, List.setIfInBounds_toArray, List.set_cons_zero, List.set_cons_succ, i64_w, i32_w]
        rfl
      refine pure_ (i := 7) (N := some 22) (v := ?_) (a' := ?_) #[true, true, true, true, true, true, true, true, false, false, false, false, false, false] rfl rfl (by kernel_rfl) (fun _ _ _ h => h) (Or.inl ⟨by rfl, ?_⟩) ?_ ?_
      rotate_left
      · intro w'
        go_simp
        with_reducible rfl
      rotate_left
      · simp only [Act.put, List.setIfInBounds_toArray, List.set_cons_zero, List.set_cons_succ, i64_w, i32_w]
        rfl
      refine pure_ (i := 8) (N := some 23) (v := ?_) (a' := ?_) #[true, true, true, true, true, true, true, true, true, false, false, false, false, false] rfl rfl (by kernel_rfl) (fun _ _ _ h => h) (Or.inl ⟨by rfl, ?_⟩) ?_ ?_
      rotate_left
      · intro w'
        go_simp
        with_reducible rfl
      rotate_left
      · simp only [Act.put, List.setIfInBounds_toArray, List.set_cons_zero, List.set_cons_succ, i64_w, i32_w]
        rfl
      refine pure_ (i := 9) (N := some 24) (v := ?_) (a' := ?_) #[true, true, true, true, true, true, true, true, true, true, false, false, false, false] rfl rfl (by kernel_rfl) (fun _ _ _ h => h) (Or.inl ⟨by rfl, ?_⟩) ?_ ?_
      rotate_left
      · intro w'
        go_simp
        with_reducible rfl
      rotate_left
      · simp only [Act.put, List.setIfInBounds_toArray, List.set_cons_zero, List.set_cons_succ, i64_w, i32_w]
        rfl
      refine take_ (i := 10) (N := some 25) (v := ?_) (a' := ?_) #[true, true, true, true, true, true, true, true, true, true, true, false, false, false] rfl rfl (by kernel_rfl) (fun _ _ _ h => h) (Or.inl ⟨by rfl, ?_⟩) hHeld ?_ ?_
      rotate_left
      · rintro w' ⟨s0, s1, s2, s3, s4⟩
        go_simp
        with_reducible rfl
      rotate_left
      · simp only [Act.put, List.setIfInBounds_toArray, List.set_cons_zero, List.set_cons_succ, i64_w, i32_w]
        rfl
      refine one_ (i := 11) (N := some 26) #[true, true, true, true, true, true, true, true, true, true, true, true, false, false] rfl rfl (by kernel_rfl) (by decide) (fun K hK => ?_)
      refine goes_ Tryd.func43 (by kernel_rfl) rfl #[.agg #[.string x.f0, .int .i64 x.f1, .int .i64 x.f2, .slice A3 x.f3.length c3]] (by rfl) rfl rfl (by (try simp only [List.map_toArray, List.map_cons, List.map_nil]); first | done | rfl) ?_
      refine (contact_whole.calls k x.f0 x.f1 x.f2 A3 c3 x.f3 n _ (Kd.C_below HR3.out HW2.out) HC3.out A5.out).mono ?_
      rintro e W3 ⟨rfl, hb⟩
      refine ⟨_, rfl, ?_⟩
      have HW3 := Aside0.mk (below_step HW2.out hb)
      have hH3 := hHeld
      have hH4 := And.intro (map_below hH3.1 hb) (And.intro (cellB hb hH3.2.1) (And.intro (cellB hb hH3.2.2.1) (And.intro (cellB hb hH3.2.2.2.1) (cellB hb hH3.2.2.2.2))))
      clear hb HW2 hHeld hH3
      refine hK.out _ _ hH4 (fun hHeld => ?_)
      clear hK K
      refine norm_ (a' := ?_) ?_ ?_
      rotate_left
      · show Act.put _ (some 26) _ = _
        simp only [Act.put, List.setIfInBounds_toArray, List.set_cons_zero, List.set_cons_succ, i64_w, i32_w]
        rfl
      refine pure_ (i := 12) (N := some 27) (v := ?_) (a' := ?_) #[true, true, true, true, true, true, true, true, true, true, true, true, true, false] rfl rfl (by kernel_rfl) (fun _ _ _ h => h) (Or.inl ⟨by rfl, ?_⟩) ?_ ?_
      rotate_left
      · intro w'
        go_simp
        with_reducible rfl
      rotate_left
      · simp only [Act.put, List.setIfInBounds_toArray, List.set_cons_zero, List.set_cons_succ, i64_w, i32_w]
        rfl
      obtain ⟨W4, hrun, ho4, ht4⟩ := World.ownsMap.store hHeld.1 lawStr2 (Tryd.underlying93) (by have := HL1.out; have := HK.out; unfold maxLen; omega) (Go.WideMaps.keyOf_string_mk Tryd.underlying9 (by have := HS.out; unfold maxLen; omega) : keyOf Tryd.prog 9 (.string x.f0) = some (.string x.f0.data.toList)) (plainElem_int Tryd.underlying3 (wrap64_wf _) : plainElem Tryd.prog 3 (.int .i64 (wrap64 (valD m x.f0 + n))) = some (litI (wrap64 (valD m x.f0 + n)), []))
      refine last_ (i := 13) (N := none) #[true, true, true, true, true, true, true, true, true, true, true, true, true, true] rfl rfl (by kernel_rfl) (by decide) (fun K hK => ?_)
      refine fr_store_step (w1 := W4) (by rfl) rfl ?hr ?_
      (case hr => show (execOp _ _).run Tryd.prog W3 = _; simp only [execOp]; go_simp; all_goals (first | exact hrun | (simp [hrun, Result.andThen]; done)))
      refine hK.out _ _ ?_
      clear hK K
      refine norm_ (a' := ?_) ?_ ?_
      rotate_left
      · show Act.put _ none undef = _
        simp only [Act.put]
        rfl
      refine done_ (by kernel_rfl) ?_
      have HM4 := Aside0.mk ho4
      have HB4 := Aside0.mk (show Below w.heap.size w W4 from pw_below_grown HW3.out _ HW3.out.size ht4.grown (fun j hj => by cases hj; exact Nat.le_refl _))
      clear hrun ho4 ht4 hHeld HW3 HM HB hx0 hy0 hy1 hy2 hy3
      have hwi : wrap64 ((i : Int) + 1) = ((i + 1 : Nat) : Int) := by have := HL1.out; have := HK.out; unfold wrap64; omega
      go_wp2
      go_roundg d
      case measure => omega
      case rel => exact ⟨i + 1, _, (by first | rfl | (rw [hwi]) | (simp [hwi]; done) | (simp; done)), ⟨by have := HK.out; omega⟩, H', HM4, HB4⟩
theorem look_step {ops : Array Oper} {rest : List Oper} {o : Oper} {a : Act} {Q : Exit → Act → World → Prop} {W : World} {g n : Nat} {m : MapD} {s : ByteArray} (mm x : Operand) (hg : o.guard = none) (hop : o.op = Op.lookup 93 mm x false) (hm : a.eval mm = .map (some g)) (hx : a.eval x = .string s) (hs : s.size ≤ 1000) (how : World.ownsMap (H := Unit) W Tryd.prog 9 (plainElem Tryd.prog 3) g n m)
    (h : wpList Tryd.prog ops Q rest (a.put o.dst (.int .i64 (valD m s))) W) : wpList Tryd.prog ops Q (o :: rest) a W := by
  refine wpList_plain hg fun K' hK' => ?_
  have hrun := map_look how hs
  unfold Oper.wp
  simp [execOp, hop, hm, hx, hrun, Result.andThen]
  exact hK' _ _ h
/-- The least that a station has. -/
def leastGo (m : MapD) (l : List S55) : Nat → Nat → Int → Int
  | 0, _, le => le
  | d + 1, i, le => leastGo m l d (i + 1) (if i = 0 ∨ valD m (rd_T55 l (i : Int)).f0 < le then valD m (rd_T55 l (i : Int)).f0 else le)
def fairGo (k : Nat) (l : List S55) : List (List Int) → S80 → Int → Option (S80 × Int)
  | [], b, wv => some (b, wv)
  | s :: r, b, wv => (byD k l s (.map [])).bind fun m => (contact_total.f k l s).bind fun t => if s.length < 1000000 then
      if leastGo m l l.length 0 0 > wv then fairGo k l r ⟨s, t⟩ (leastGo m l l.length 0 0)
      else if leastGo m l l.length 0 0 = wv then (contact_choice_better.f k s t b.f0 b.f1).bind fun q => if q = true then fairGo k l r ⟨s, t⟩ (leastGo m l l.length 0 0) else fairGo k l r b wv
      else fairGo k l r b wv
    else none
def contact_Fair.f (k : Nat) (l0 : List S55) (a1 : Int) : Option (List Int × Int × Bool × Int) :=
  (contact_CheckPasses.f k l0).bind fun p => (kit_Range.f a1 0 10000000).bind fun q => (kit_First.f k [p, q]).bind fun f => if f = 0 then (if (l0.length : Int) > 12 then some ([], 0, false, 0) else if (l0.all fun x => decide (x.f0.size ≤ 1000)) = true then (contact_bookings.f k l0 a1).bind fun bs => if bs.length < 1000000000 then (fairGo k l0 bs z80 (-1)).bind fun r => some (r.1.f0, r.2, true, 0) else none else none) else some ([], 0, false, f)
/-- The bookings and the best one so far, as they lie in memory. -/
structure FI (w W : World) (g : Nat) (v : Value) (bs : List (List Int)) (b : S80) (vb : Value) : Prop where
  s : Kd.S (Kd.slice 3 (Kd.int .i64)) 31 W w.heap.size (fun _ => True) v bs
  bx : W.heap[g]? = some (.cells #[vb, .int .i64 b.f1] 80 (0, 0))
  r : Kd.R (Kd.int .i64) 3 W w.heap.size (fun _ => True) vb b.f0
  bel : Below w.heap.size w W
  g0 : w.heap.size ≤ g
theorem FI.below {w W W2 : World} {g : Nat} {v vb : Value} {bs : List (List Int)} {b : S80} (h : FI w W g v bs b vb) (hb : Below W.heap.size W W2) : FI w W2 g v bs b vb := ⟨Kd.S_below h.s hb, blk_below h.bx hb, Kd.R_below h.r hb, below_step h.bel hb, h.g0⟩
theorem FI.drewN {w W : World} {g : Nat} {v vb : Value} {bs : List (List Int)} {b : S80} (h : FI w W g v bs b vb) (n : Nat) : FI w (W.drewN n) g v bs b vb := h.below (pw_below_drewN (Below.refl _ _) n)
theorem FI.drew {w W : World} {g : Nat} {v vb : Value} {bs : List (List Int)} {b : S80} (h : FI w W g v bs b vb) : FI w W.drew g v bs b vb := h.below (below_drew (Below.refl _ _))
theorem FI.put {w W : World} {g : Nat} {v vb vc : Value} {bs : List (List Int)} {b c : S80} (h : FI w W g v bs b vb) (hr : Kd.R (Kd.int .i64) 3 W w.heap.size (fun _ => True) vc c.f0) : FI w ((W.setCell ⟨g, 0, none⟩ vc).setCell ⟨g, 1, none⟩ (.int .i64 c.f1)) g v bs c vc := by
  have b1 := blk_set h.bx 0 vc
  have hi : IntsKept W ((W.setCell ⟨g, 0, none⟩ vc).setCell ⟨g, 1, none⟩ (.int .i64 c.f1)) := (IntsKept.set h.bx).trans (IntsKept.set b1)
  exact ⟨Kd.S_set (Kd.S_set h.s h.bx (by decide) 0 vc) b1 (by decide) 1 _, blk_set b1 1 _, row_kept hr hi, below_set (below_set h.bel h.g0) h.g0, h.g0⟩
set_option maxHeartbeats 16000000 in
set_option maxRecDepth 100000 in
theorem contact_Fair.calls (k : Nat) (A0 : Option Addr) (c0 : Nat) (l0 : List S55) (a1 : Int) (r1 : List Int) (r2 : Int) (r3 : Bool) (r4 : Int) (w : World) (hr0 : Kd.C k55 w A0 l0.length l0) (hc0 : l0.length ≤ c0) (h : contact_Fair.f k l0 a1 = some (r1, r2, r3, r4)) :
    Calls Tryd.prog 16 #[.slice A0 l0.length c0, .int .i64 a1] w fun e w' => ∃ v0_ : Value, e = .returned (.tuple #[v0_, .int .i64 r2, .bool r3, .int .i64 r4]) ∧ Kd.R (Kd.int .i64) 3 w' w.heap.size (fun _ => True) v0_ r1 ∧ Below w.heap.size w w' := by
  have HR0 := Aside0.mk hr0
  have HC0 := Aside0.mk hc0
  have HB := Aside0.mk (Below.refl w.heap.size w)
  clear hr0 hc0
  unfold contact_Fair.f at h
  replace h := Option.bind_eq_some_iff.mp h
  obtain ⟨p, hp, h⟩ := h
  replace h := Option.bind_eq_some_iff.mp h
  obtain ⟨q, hq, h⟩ := h
  replace h := Option.bind_eq_some_iff.mp h
  obtain ⟨ff, hf, h⟩ := h
  obtain ⟨y, hy⟩ : ∃ y, y = [p, q] := ⟨_, rfl⟩
  rw [← hy] at hf
  have HP := Aside0.mk hp
  have HQ := Aside0.mk hq
  have HF := Aside0.mk hf
  have HY := Aside0.mk hy
  clear hp hq hf hy
  by_cases hf0 : ff = 0
  · subst hf0
    rw [if_pos rfl] at h
    by_cases hl : (l0.length : Int) > 12
    · rw [if_pos hl] at h
      simp only [Option.some.injEq, Prod.mk.injEq] at h
      obtain ⟨rfl, rfl, rfl, rfl⟩ := h
      have d1 : decide (12 < (l0.length : Int)) = true := decide_eq_true hl
      have d2 : decide (12 < l0.length) = true := decide_eq_true (by omega)
      clear hl
      go_enter Tryd.func16, Tryd.ntmps16
      go_wp2_with (first | (go_at_call 24; go_loud (with_reducible refine (contact_CheckPasses.calls k _ _ l0 p _ HR0.out HC0.out HP.out).mono ?_); rintro e wp ⟨rfl, hb⟩; have n0_ := Aside0.mk (below_step HB.out hb); clear HB hb; have HB := n0_; clear n0_) | (go_at_call 39; go_loud (with_reducible refine (kit_Range.calls a1 0 10000000 q _ HQ.out).mono ?_); rintro e wq ⟨rfl, ⟨nd, rfl⟩⟩) | ((with_reducible refine gate_dst (N := 23) rfl ?_); go_loud (refine Kd.R_lit (Kd.int .i64) _ 23 ?hg (N := 23) ?hd (xs := ([p, q] : List Int)) (inner := [.int .i64 p, .int .i64 q]) (ok := fun _ => True) (okp := fun _ => True) ?hr ?hp (fun _ hk => hk) trivial (Below.refl _ _) (Nat.le_refl _) (by simp) ?_); (case hd => rfl); (case hg => rfl); (case hr => first | (go_simp; done) | (go_simp; rfl)); (case hp => exact (Reps.one (show Kd.M (Kd.int .i64) _ _ _ p [.int .i64 p] from rfl) (Reps.one (show Kd.M (Kd.int .i64) _ _ _ q [.int .i64 q] from rfl) (Reps.none _ _)))); intro vy wy ho14 hb hg_ hnew_; clear hg_ hnew_; rw [← HY.out] at ho14; have HOY := Aside0.mk ho14; have n1_ := Aside0.mk (below_step (pw_below_drewN HB.out _) hb); clear HB; have HB := n1_; clear n1_ hb ho14; obtain ⟨Ay, cy, ey⟩ := Kd.R_slice HOY.out; subst ey) | (go_at_call 38; go_loud (with_reducible refine (kit_First.calls k _ _ y _ _ (Kd.R_reads' HOY.out).2.2 (Kd.R_reads' HOY.out).2.1 HF.out).mono ?_); rintro e wf ⟨rfl, ⟨nd2, rfl⟩⟩))
      refine bodyPost_ret (results_list (rs := [.tmp 4, .tmp 5, .tmp 6, .tmp 7]) rfl (by simp) (.tmp (.tmp (.tmp (.tmp .nil))))) rfl ?_
      exact ⟨_, rfl, Kd.R_nil _ _ _ _ _, by repeat (first | exact HB.out | apply pw_below_drewN | apply below_drew)⟩
    · rw [if_neg hl] at h
      have d1 : decide (12 < (l0.length : Int)) = false := decide_eq_false hl
      have d2 : decide (12 < l0.length) = false := decide_eq_false (by omega)
      have HL12 := Aside0.mk (show l0.length ≤ 12 by omega)
      clear hl
      obtain ⟨hall, h⟩ := guardT h
      replace h := Option.bind_eq_some_iff.mp h
      obtain ⟨bs, hbs, h⟩ := h
      obtain ⟨hbl, h⟩ := guardT h
      replace h := Option.bind_eq_some_iff.mp h
      obtain ⟨⟨br, bw⟩, hG, h⟩ := h
      simp only [Option.some.injEq, Prod.mk.injEq] at h
      obtain ⟨rfl, rfl, rfl, rfl⟩ := h
      have HALL := Aside0.mk (show ∀ x ∈ l0, x.f0.size ≤ 1000 by simpa only [List.all_eq_true, decide_eq_true_eq] using hall)
      have HBS := Aside0.mk hbs
      have HBL := Aside0.mk hbl
      have HG := Aside0.mk hG
      clear hall hbs hbl hG
      go_enter Tryd.func16, Tryd.ntmps16
      go_wp2_with (first | (go_at_call 24; go_loud (with_reducible refine (contact_CheckPasses.calls k _ _ l0 p _ HR0.out HC0.out HP.out).mono ?_); rintro e wp ⟨rfl, hb⟩; have n0_ := Aside0.mk (below_step HB.out hb); clear HB hb; have HB := n0_; clear n0_) | (go_at_call 39; go_loud (with_reducible refine (kit_Range.calls a1 0 10000000 q _ HQ.out).mono ?_); rintro e wq ⟨rfl, ⟨nd, rfl⟩⟩) | ((with_reducible refine gate_dst (N := 23) rfl ?_); go_loud (refine Kd.R_lit (Kd.int .i64) _ 23 ?hg (N := 23) ?hd (xs := ([p, q] : List Int)) (inner := [.int .i64 p, .int .i64 q]) (ok := fun _ => True) (okp := fun _ => True) ?hr ?hp (fun _ hk => hk) trivial (Below.refl _ _) (Nat.le_refl _) (by simp) ?_); (case hd => rfl); (case hg => rfl); (case hr => first | (go_simp; done) | (go_simp; rfl)); (case hp => exact (Reps.one (show Kd.M (Kd.int .i64) _ _ _ p [.int .i64 p] from rfl) (Reps.one (show Kd.M (Kd.int .i64) _ _ _ q [.int .i64 q] from rfl) (Reps.none _ _)))); intro vy wy ho14 hb hg_ hnew_; clear hg_ hnew_; rw [← HY.out] at ho14; have HOY := Aside0.mk ho14; have n1_ := Aside0.mk (below_step (pw_below_drewN HB.out _) hb); clear HB; have HB := n1_; clear n1_ hb ho14; obtain ⟨Ay, cy, ey⟩ := Kd.R_slice HOY.out; subst ey) | (go_at_call 38; go_loud (with_reducible refine (kit_First.calls k _ _ y _ _ (Kd.R_reads' HOY.out).2.2 (Kd.R_reads' HOY.out).2.1 HF.out).mono ?_); rintro e wf ⟨rfl, ⟨nd2, rfl⟩⟩) | ((with_reducible refine gate_dst (N := 9) rfl ?_); refine box_event ?hg (N := 9) ?hd (cs := #[.slice none 0 0, .int .i64 0]) (t := 80) ?hr ?_; (case hd => rfl); (case hg => rfl); (case hr => first | (go_simp; done) | (go_simp; rfl)); intro g9 hg_ w9 hbox hb; have G9 := Aside0.mk (show w.heap.size ≤ g9 by rw [hg_]; exact below_size (by repeat (first | exact HB.out | apply pw_below_drewN | apply below_drew))); have BK9 := Aside0.mk hbox; have n1_ := Aside0.mk (below_step (by repeat (first | exact HB.out | apply pw_below_drewN | apply below_drew) : Below w.heap.size w _) hb); clear HB; have HB := n1_; clear n1_; clear hbox hb hg_) | (go_at_call 48; go_loud (with_reducible refine (contact_bookings.calls k _ _ l0 a1 bs _ (Kd.C_below HR0.out HB.out) HC0.out HBS.out).mono ?_); rintro e wb ⟨vB, rfl, hS, hb⟩; have HI0 : Aside0 (FI w wb g9 vB bs z80 (.slice none 0 0)) := ⟨⟨Kd.S_lower hS HB.out.size, blk_below BK9.out hb, Kd.R_nil _ _ _ _ _, below_step HB.out hb, G9.out⟩⟩; obtain ⟨AB, cB, eB⟩ := Kd.S_slice hS; subst eB; clear hS hb BK9 HB G9))
      go_loopg [10, 35] bs.length (fun kq v10 v35 w' => ∃ (i : Nat) (b : S80) (wv : Int) (vb : Value), v10 = .int .i64 wv ∧ v35 = .int .i64 (i : Int) ∧ Aside0 (kq + i = bs.length) ∧ Aside0 (fairGo k l0 (bs.drop i) b wv = some (br, bw)) ∧ Aside0 (FI w w' g9 (.slice AB bs.length cB) bs b vb))
      case atStart => exact ⟨0, z80, -1, _, rfl, rfl, ⟨rfl⟩, HG, ⟨by repeat (first | exact HI0.out | apply FI.drewN | apply FI.drew)⟩⟩
      case round =>
        clear HG HI0 HOY HP HQ HF HY
        obtain ⟨i, b, wv, vb, rfl, rfl, HK, HA, HI⟩ := hrel
        obtain ⟨Ab, cb, eb⟩ := Kd.R_slice HI.out.r
        subst eb
        have hu0 : wr.cell? ⟨g9, 0, none⟩ = some (.slice Ab b.f0.length cb) := (blk_cell HI.out.bx 0).trans rfl
        have hu1 : wr.cell? ⟨g9, 1, none⟩ = some (.int .i64 b.f1) := (blk_cell HI.out.bx 1).trans rfl
        cases gk with
        | zero =>
          have hi : i = bs.length := by have := HK.out; omega
          subst hi
          have H := HA.out
          rw [List.drop_length] at H
          simp only [fairGo, Option.some.injEq, Prod.mk.injEq] at H
          obtain ⟨rfl, rfl⟩ := H
          clear HA HK
          go_wp2
          refine bodyPost_ret (results_list (rs := [.tmp 4, .tmp 5, .tmp 6, .tmp 7]) rfl (by simp) (.tmp (.tmp (.tmp (.tmp .nil))))) rfl ?_
          exact ⟨_, rfl, by (with_reducible repeat (first | apply Kd.R_alloc | apply Kd.R_drewN | apply Kd.R_drew)); exact HI.out.r, by repeat (first | exact HI.out.bel | apply pw_below_drewN | apply below_drew | apply below_drew1)⟩
        | succ d =>
          have hi : i < bs.length := by have := HK.out; omega
          have H := HA.out
          rw [List.drop_eq_getElem_cons hi] at H
          obtain ⟨sm, hsm⟩ : ∃ sm, sm = bs[i] := ⟨_, rfl⟩
          rw [← hsm] at H
          unfold fairGo at H
          replace H := Option.bind_eq_some_iff.mp H
          obtain ⟨m, hm, H⟩ := H
          replace H := Option.bind_eq_some_iff.mp H
          obtain ⟨t, ht, H⟩ := H
          obtain ⟨hsl, H⟩ := guardT H
          obtain ⟨LE, hLE⟩ : ∃ LE, LE = leastGo m l0 l0.length 0 0 := ⟨_, rfl⟩
          rw [← hLE] at H
          have HH := Aside0.mk H
          have HLE := Aside0.mk hLE.symm
          have HM0 := Aside0.mk hm
          have HT0 := Aside0.mk ht
          have HSL := Aside0.mk hsl
          have hi0 : (0 : Int) ≤ (i : Int) := by omega
          have hi1 : (i : Int) < (bs.length : Int) := by omega
          have hd1 : decide ((i : Int) < (bs.length : Int)) = true := decide_eq_true hi1
          have hAB : ∃ ad, AB = some ad := by obtain ⟨g_, c_, e_, _⟩ := Kd.S_form HI.out.s (by omega); injection e_ with e_ _ _; exact ⟨_, e_⟩
          obtain ⟨ad, eAB⟩ := hAB
          subst eAB
          obtain ⟨cc, hcl, hM, hcc⟩ := Kd.S_get HI.out.s ([] : List Int) (i : Int) hi0 hi1
          obtain ⟨vs, ecc, hRs⟩ := hM
          subst ecc
          have hgd : bs.getD (i : Int).toNat ([] : List Int) = sm := by rw [hsm, Int.toNat_natCast, List.getD_eq_getElem?_getD, List.getElem?_eq_getElem hi]; rfl
          rw [hgd] at hRs
          have hRs2 : Kd.R (Kd.int .i64) 3 wr w.heap.size (fun _ => True) vs sm := Kd.R_mono hRs (fun _ _ => trivial)
          obtain ⟨As, cs, es⟩ := Kd.R_slice hRs2
          subst es
          have hx0 : wr.cell? (ad.add i) = some (.slice As sm.length cs) := by have := hcc 0 _ rfl; rwa [show (i : Int).toNat * (Kd.slice 3 (Kd.int .i64)).sz + 0 = i by rw [Int.toNat_natCast]; show i * 1 + 0 = i; omega] at this
          have HRS := Aside0.mk hRs2
          clear H HA hm ht hsl hLE hRs hRs2 hcc hcl hgd hsm
          go_wp2_with (first | (go_at_call 49; go_loud (refine (byStation_calls k _ _ l0 _ _ sm m _ (Kd.C_below HR0.out (by repeat (first | exact HI.out.bel | apply pw_below_drewN | apply below_drew))) HC0.out (Kd.R_reads' (by (with_reducible repeat (first | apply Kd.R_drewN | apply Kd.R_drew)); exact HRS.out)).2.2 (Kd.R_reads' HRS.out).2.1 (by have := HSL.out; omega) HM0.out).mono ?_); rintro e w3 ⟨gm, rfl, hgm, hom, hb3⟩; have HM := Aside0.mk hom; have HI3 := Aside0.mk ((by repeat (first | exact HI.out | apply FI.drewN | apply FI.drew) : FI w _ g9 _ bs b _).below hb3); have HRS3 := Aside0.mk (Kd.R_below (by (with_reducible repeat (first | apply Kd.R_drewN | apply Kd.R_drew)); exact HRS.out) hb3); clear hom hb3 hgm hu0 hu1 hx0))
          go_loopg [14, 44] l0.length (fun kq v14 v44 w' => ∃ (j : Nat) (le : Int), v14 = .int .i64 le ∧ v44 = .int .i64 (j : Int) ∧ Aside0 (kq + j = l0.length) ∧ Aside0 (leastGo m l0 kq j le = LE) ∧ Aside0 (FI w w' g9 (.slice (some ad) bs.length cB) bs b (.slice Ab b.f0.length cb)) ∧ Aside0 (World.ownsMap (H := Unit) w' Tryd.prog 9 (plainElem Tryd.prog 3) gm sm.length m) ∧ Aside0 (Kd.R (Kd.int .i64) 3 w' w.heap.size (fun _ => True) (.slice As sm.length cs) sm))
          case atStart => exact ⟨0, 0, rfl, rfl, ⟨rfl⟩, HLE, ⟨by repeat (first | exact HI3.out | apply FI.drewN | apply FI.drew)⟩, ⟨by first | exact HM.out | exact map_below HM.out (pw_below_drewN (Below.refl _ _) _)⟩, ⟨by (with_reducible repeat (first | apply Kd.R_drewN | apply Kd.R_drew)); exact HRS3.out⟩⟩
          case round =>
            clear HI HRS HI3 HRS3 HM HLE
            obtain ⟨j, le, rfl, rfl, HKj, HLE, HI, HM, HRS⟩ := hrel
            cases gk with
            | zero =>
              have hj : j = l0.length := by have := HKj.out; omega
              subst hj
              obtain rfl : le = LE := HLE.out
              clear HKj HLE HM
              have H := HH.out
              clear HH
              by_cases g1 : le > wv
              · rw [if_pos g1] at H
                have H' := Aside0.mk H
                have e1 : decide (wv < le) = true := decide_eq_true g1
                clear g1 H
                go_wp2_with (first | (go_at_call 50; go_loud (with_reducible refine (contact_total.calls k _ _ l0 _ _ sm t _ (Kd.C_below HR0.out (by repeat (first | exact HI.out.bel | apply pw_below_drewN | apply below_drew))) HC0.out (Kd.R_reads' (by (with_reducible repeat (first | apply Kd.R_drewN | apply Kd.R_drew)); exact HRS.out)).2.2 (Kd.R_reads' HRS.out).2.1 HT0.out).mono ?_); rintro e w4 ⟨rfl, hb4⟩; have HI4 := Aside0.mk ((by repeat (first | exact HI.out | apply FI.drewN | apply FI.drew) : FI w _ g9 _ bs b _).below hb4); have HRS4 := Aside0.mk (Kd.R_below (by (with_reducible repeat (first | apply Kd.R_drewN | apply Kd.R_drew)); exact HRS.out) hb4); clear hb4) | ((with_reducible refine gate_dst (N := 18) rfl ?_); refine box_event ?hg (N := 18) ?hd (cs := #[.slice none 0 0, .int .i64 0]) (t := 80) ?hr ?_; (case hd => rfl); (case hg => rfl); (case hr => first | (go_simp; done) | (go_simp; rfl)); intro gc hg_ w5 hbox hb; have BK := Aside0.mk hbox; have HWc : Aside0 (Below w4.heap.size w4 w5) := ⟨by first | exact hb | exact undrew hb⟩; have HGc : Aside0 (w4.heap.size ≤ gc) := ⟨Nat.le_of_eq hg_.symm⟩; have hy0 : w5.cell? ⟨gc, 0, none⟩ = some (.slice none 0 0) := (blk_cell hbox 0).trans rfl; have hy1 : w5.cell? ⟨gc, 1, none⟩ = some (.int .i64 0) := (blk_cell hbox 1).trans rfl; have hf0 := blk_frozen hbox 0; have hf1 := blk_frozen hbox 1; clear hbox hb hg_) | ((with_reducible refine gate_store (t := 80) (p := 18) rfl ?_); refine store_event (t := 80) (p := 18) (v := ?vo_c) (w1 := ((w5.setCell ⟨gc, 0, none⟩ (.slice As sm.length cs)).setCell ⟨gc, 1, none⟩ (.int .i64 t))) ?hg ?ho ?hn ?hr ?_; (case ho => rfl); (case hg => rfl); (case hn => rfl); (case hr => first | (go_simp; done) | (go_simp; rfl)); intro w6 hw; have hb6 : Below w4.heap.size w4 w6 := (by rw [hw]; exact below_set (below_set HWc.out HGc.out) HGc.out); have HBKc : Aside0 (w6.heap[gc]? = some (.cells #[.slice As sm.length cs, .int .i64 t] 80 (0, 0))) := ⟨by rw [hw]; exact blk_set (blk_set BK.out 0 _) 1 _⟩; have HI6 := Aside0.mk (HI4.out.below hb6); have HRS6 := Aside0.mk (Kd.R_below HRS4.out hb6); have hc0 : w6.cell? ⟨gc, 0, none⟩ = some (.slice As sm.length cs) := (blk_cell HBKc.out 0).trans rfl; have hc1 : w6.cell? ⟨gc, 1, none⟩ = some (.int .i64 t) := (blk_cell HBKc.out 1).trans rfl; have hu0 : w6.cell? ⟨g9, 0, none⟩ = some (.slice Ab b.f0.length cb) := (blk_cell HI6.out.bx 0).trans rfl; have hu1 : w6.cell? ⟨g9, 1, none⟩ = some (.int .i64 b.f1) := (blk_cell HI6.out.bx 1).trans rfl; have hfu0 := blk_frozen HI6.out.bx 0; have hfu1 := blk_frozen HI6.out.bx 1; clear hw hb6 hy0 hy1 hf0 hf1 HWc HGc BK))
                have hwi : wrap64 ((i : Int) + 1) = ((i + 1 : Nat) : Int) := by have := HBL.out; have := HK.out; unfold wrap64; omega
                go_roundg d
                case measure => omega
                case rel => exact ⟨i + 1, ⟨sm, t⟩, le, (.slice As sm.length cs), rfl, (by first | rfl | (rw [hwi]) | (simp [hwi]; done) | (simp; done)), ⟨by have := HK.out; omega⟩, H', ⟨by repeat (first | exact (by repeat (first | exact HI6.out | apply FI.drewN | apply FI.drew) : FI w _ g9 _ bs b _).put (c := ⟨sm, t⟩) (by (with_reducible repeat (first | apply Kd.R_drewN | apply Kd.R_drew)); exact HRS6.out) | apply FI.drewN | apply FI.drew)⟩⟩
              · rw [if_neg g1] at H
                have e1 : decide (wv < le) = false := decide_eq_false g1
                clear g1
                by_cases g2 : le = wv
                · rw [if_pos g2] at H
                  have e2 : (le == wv) = true := beq_iff_eq.mpr g2
                  clear g2
                  replace H := Option.bind_eq_some_iff.mp H
                  obtain ⟨qq, hqq, H⟩ := H
                  have HQQ := Aside0.mk hqq
                  clear hqq
                  cases qq with
                  | true =>
                    rw [if_pos rfl] at H
                    have H' := Aside0.mk H
                    clear H
                    go_wp2_with (first | (go_at_call 50; go_loud (with_reducible refine (contact_total.calls k _ _ l0 _ _ sm t _ (Kd.C_below HR0.out (by repeat (first | exact HI.out.bel | apply pw_below_drewN | apply below_drew))) HC0.out (Kd.R_reads' (by (with_reducible repeat (first | apply Kd.R_drewN | apply Kd.R_drew)); exact HRS.out)).2.2 (Kd.R_reads' HRS.out).2.1 HT0.out).mono ?_); rintro e w4 ⟨rfl, hb4⟩; have HI4 := Aside0.mk ((by repeat (first | exact HI.out | apply FI.drewN | apply FI.drew) : FI w _ g9 _ bs b _).below hb4); have HRS4 := Aside0.mk (Kd.R_below (by (with_reducible repeat (first | apply Kd.R_drewN | apply Kd.R_drew)); exact HRS.out) hb4); clear hb4) | ((with_reducible refine gate_dst (N := 18) rfl ?_); refine box_event ?hg (N := 18) ?hd (cs := #[.slice none 0 0, .int .i64 0]) (t := 80) ?hr ?_; (case hd => rfl); (case hg => rfl); (case hr => first | (go_simp; done) | (go_simp; rfl)); intro gc hg_ w5 hbox hb; have BK := Aside0.mk hbox; have HWc : Aside0 (Below w4.heap.size w4 w5) := ⟨by first | exact hb | exact undrew hb⟩; have HGc : Aside0 (w4.heap.size ≤ gc) := ⟨Nat.le_of_eq hg_.symm⟩; have hy0 : w5.cell? ⟨gc, 0, none⟩ = some (.slice none 0 0) := (blk_cell hbox 0).trans rfl; have hy1 : w5.cell? ⟨gc, 1, none⟩ = some (.int .i64 0) := (blk_cell hbox 1).trans rfl; have hf0 := blk_frozen hbox 0; have hf1 := blk_frozen hbox 1; clear hbox hb hg_) | ((with_reducible refine gate_store (t := 80) (p := 18) rfl ?_); refine store_event (t := 80) (p := 18) (v := ?vo_c) (w1 := ((w5.setCell ⟨gc, 0, none⟩ (.slice As sm.length cs)).setCell ⟨gc, 1, none⟩ (.int .i64 t))) ?hg ?ho ?hn ?hr ?_; (case ho => rfl); (case hg => rfl); (case hn => rfl); (case hr => first | (go_simp; done) | (go_simp; rfl)); intro w6 hw; have hb6 : Below w4.heap.size w4 w6 := (by rw [hw]; exact below_set (below_set HWc.out HGc.out) HGc.out); have HBKc : Aside0 (w6.heap[gc]? = some (.cells #[.slice As sm.length cs, .int .i64 t] 80 (0, 0))) := ⟨by rw [hw]; exact blk_set (blk_set BK.out 0 _) 1 _⟩; have HI6 := Aside0.mk (HI4.out.below hb6); have HRS6 := Aside0.mk (Kd.R_below HRS4.out hb6); have hc0 : w6.cell? ⟨gc, 0, none⟩ = some (.slice As sm.length cs) := (blk_cell HBKc.out 0).trans rfl; have hc1 : w6.cell? ⟨gc, 1, none⟩ = some (.int .i64 t) := (blk_cell HBKc.out 1).trans rfl; have hu0 : w6.cell? ⟨g9, 0, none⟩ = some (.slice Ab b.f0.length cb) := (blk_cell HI6.out.bx 0).trans rfl; have hu1 : w6.cell? ⟨g9, 1, none⟩ = some (.int .i64 b.f1) := (blk_cell HI6.out.bx 1).trans rfl; have hfu0 := blk_frozen HI6.out.bx 0; have hfu1 := blk_frozen HI6.out.bx 1; clear hw hb6 hy0 hy1 hf0 hf1 HWc HGc BK) | (go_at_call 41; go_loud (with_reducible refine (contact_choice_better.calls k _ _ sm t _ _ b.f0 b.f1 _ _ (Kd.R_reads' (by (with_reducible repeat (first | apply Kd.R_drewN | apply Kd.R_drew)); exact HRS6.out)).2.2 (Kd.R_reads' HRS6.out).2.1 (Kd.R_reads' (by (with_reducible repeat (first | apply Kd.R_drewN | apply Kd.R_drew)); exact HI6.out.r)).2.2 (Kd.R_reads' HI6.out.r).2.1 HQQ.out).mono ?_); rintro e w7 ⟨rfl, hb7⟩; have HI7 := Aside0.mk ((by repeat (first | exact HI6.out | apply FI.drewN | apply FI.drew) : FI w _ g9 _ bs b _).below hb7); have HRS7 := Aside0.mk (Kd.R_below (by (with_reducible repeat (first | apply Kd.R_drewN | apply Kd.R_drew)); exact HRS6.out) hb7); have hbk7 := blk_below (by first | exact HBKc.out | exact blk_drewN HBKc.out _ | exact blk_drew HBKc.out) hb7; have hc0 : w7.cell? ⟨gc, 0, none⟩ = some (.slice As sm.length cs) := (blk_cell hbk7 0).trans rfl; have hc1 : w7.cell? ⟨gc, 1, none⟩ = some (.int .i64 t) := (blk_cell hbk7 1).trans rfl; have hu0 : w7.cell? ⟨g9, 0, none⟩ = some (.slice Ab b.f0.length cb) := (blk_cell HI7.out.bx 0).trans rfl; have hu1 : w7.cell? ⟨g9, 1, none⟩ = some (.int .i64 b.f1) := (blk_cell HI7.out.bx 1).trans rfl; have hfu0 := blk_frozen HI7.out.bx 0; have hfu1 := blk_frozen HI7.out.bx 1; clear hb7 hbk7))
                    have hwi : wrap64 ((i : Int) + 1) = ((i + 1 : Nat) : Int) := by have := HBL.out; have := HK.out; unfold wrap64; omega
                    go_roundg d
                    case measure => omega
                    case rel => exact ⟨i + 1, ⟨sm, t⟩, le, (.slice As sm.length cs), rfl, (by first | rfl | (rw [hwi]) | (simp [hwi]; done) | (simp; done)), ⟨by have := HK.out; omega⟩, H', ⟨by repeat (first | exact (by repeat (first | exact HI7.out | apply FI.drewN | apply FI.drew) : FI w _ g9 _ bs b _).put (c := ⟨sm, t⟩) (by (with_reducible repeat (first | apply Kd.R_drewN | apply Kd.R_drew)); exact HRS7.out) | apply FI.drewN | apply FI.drew)⟩⟩
                  | false =>
                    rw [if_neg (by decide)] at H
                    have H' := Aside0.mk H
                    clear H
                    go_wp2_with (first | (go_at_call 50; go_loud (with_reducible refine (contact_total.calls k _ _ l0 _ _ sm t _ (Kd.C_below HR0.out (by repeat (first | exact HI.out.bel | apply pw_below_drewN | apply below_drew))) HC0.out (Kd.R_reads' (by (with_reducible repeat (first | apply Kd.R_drewN | apply Kd.R_drew)); exact HRS.out)).2.2 (Kd.R_reads' HRS.out).2.1 HT0.out).mono ?_); rintro e w4 ⟨rfl, hb4⟩; have HI4 := Aside0.mk ((by repeat (first | exact HI.out | apply FI.drewN | apply FI.drew) : FI w _ g9 _ bs b _).below hb4); have HRS4 := Aside0.mk (Kd.R_below (by (with_reducible repeat (first | apply Kd.R_drewN | apply Kd.R_drew)); exact HRS.out) hb4); clear hb4) | ((with_reducible refine gate_dst (N := 18) rfl ?_); refine box_event ?hg (N := 18) ?hd (cs := #[.slice none 0 0, .int .i64 0]) (t := 80) ?hr ?_; (case hd => rfl); (case hg => rfl); (case hr => first | (go_simp; done) | (go_simp; rfl)); intro gc hg_ w5 hbox hb; have BK := Aside0.mk hbox; have HWc : Aside0 (Below w4.heap.size w4 w5) := ⟨by first | exact hb | exact undrew hb⟩; have HGc : Aside0 (w4.heap.size ≤ gc) := ⟨Nat.le_of_eq hg_.symm⟩; have hy0 : w5.cell? ⟨gc, 0, none⟩ = some (.slice none 0 0) := (blk_cell hbox 0).trans rfl; have hy1 : w5.cell? ⟨gc, 1, none⟩ = some (.int .i64 0) := (blk_cell hbox 1).trans rfl; have hf0 := blk_frozen hbox 0; have hf1 := blk_frozen hbox 1; clear hbox hb hg_) | ((with_reducible refine gate_store (t := 80) (p := 18) rfl ?_); refine store_event (t := 80) (p := 18) (v := ?vo_c) (w1 := ((w5.setCell ⟨gc, 0, none⟩ (.slice As sm.length cs)).setCell ⟨gc, 1, none⟩ (.int .i64 t))) ?hg ?ho ?hn ?hr ?_; (case ho => rfl); (case hg => rfl); (case hn => rfl); (case hr => first | (go_simp; done) | (go_simp; rfl)); intro w6 hw; have hb6 : Below w4.heap.size w4 w6 := (by rw [hw]; exact below_set (below_set HWc.out HGc.out) HGc.out); have HBKc : Aside0 (w6.heap[gc]? = some (.cells #[.slice As sm.length cs, .int .i64 t] 80 (0, 0))) := ⟨by rw [hw]; exact blk_set (blk_set BK.out 0 _) 1 _⟩; have HI6 := Aside0.mk (HI4.out.below hb6); have HRS6 := Aside0.mk (Kd.R_below HRS4.out hb6); have hc0 : w6.cell? ⟨gc, 0, none⟩ = some (.slice As sm.length cs) := (blk_cell HBKc.out 0).trans rfl; have hc1 : w6.cell? ⟨gc, 1, none⟩ = some (.int .i64 t) := (blk_cell HBKc.out 1).trans rfl; have hu0 : w6.cell? ⟨g9, 0, none⟩ = some (.slice Ab b.f0.length cb) := (blk_cell HI6.out.bx 0).trans rfl; have hu1 : w6.cell? ⟨g9, 1, none⟩ = some (.int .i64 b.f1) := (blk_cell HI6.out.bx 1).trans rfl; have hfu0 := blk_frozen HI6.out.bx 0; have hfu1 := blk_frozen HI6.out.bx 1; clear hw hb6 hy0 hy1 hf0 hf1 HWc HGc BK) | (go_at_call 41; go_loud (with_reducible refine (contact_choice_better.calls k _ _ sm t _ _ b.f0 b.f1 _ _ (Kd.R_reads' (by (with_reducible repeat (first | apply Kd.R_drewN | apply Kd.R_drew)); exact HRS6.out)).2.2 (Kd.R_reads' HRS6.out).2.1 (Kd.R_reads' (by (with_reducible repeat (first | apply Kd.R_drewN | apply Kd.R_drew)); exact HI6.out.r)).2.2 (Kd.R_reads' HI6.out.r).2.1 HQQ.out).mono ?_); rintro e w7 ⟨rfl, hb7⟩; have HI7 := Aside0.mk ((by repeat (first | exact HI6.out | apply FI.drewN | apply FI.drew) : FI w _ g9 _ bs b _).below hb7); have HRS7 := Aside0.mk (Kd.R_below (by (with_reducible repeat (first | apply Kd.R_drewN | apply Kd.R_drew)); exact HRS6.out) hb7); have hbk7 := blk_below (by first | exact HBKc.out | exact blk_drewN HBKc.out _ | exact blk_drew HBKc.out) hb7; have hc0 : w7.cell? ⟨gc, 0, none⟩ = some (.slice As sm.length cs) := (blk_cell hbk7 0).trans rfl; have hc1 : w7.cell? ⟨gc, 1, none⟩ = some (.int .i64 t) := (blk_cell hbk7 1).trans rfl; have hu0 : w7.cell? ⟨g9, 0, none⟩ = some (.slice Ab b.f0.length cb) := (blk_cell HI7.out.bx 0).trans rfl; have hu1 : w7.cell? ⟨g9, 1, none⟩ = some (.int .i64 b.f1) := (blk_cell HI7.out.bx 1).trans rfl; have hfu0 := blk_frozen HI7.out.bx 0; have hfu1 := blk_frozen HI7.out.bx 1; clear hb7 hbk7))
                    have hwi : wrap64 ((i : Int) + 1) = ((i + 1 : Nat) : Int) := by have := HBL.out; have := HK.out; unfold wrap64; omega
                    go_roundg d
                    case measure => omega
                    case rel => exact ⟨i + 1, b, wv, (.slice Ab b.f0.length cb), rfl, (by first | rfl | (rw [hwi]) | (simp [hwi]; done) | (simp; done)), ⟨by have := HK.out; omega⟩, H', ⟨by repeat (first | exact HI7.out | apply FI.drewN | apply FI.drew)⟩⟩
                · rw [if_neg g2] at H
                  have e2 : (le == wv) = false := beq_eq_false_iff_ne.mpr g2
                  have H' := Aside0.mk H
                  clear g2 H
                  go_wp2_with (first | (go_at_call 50; go_loud (with_reducible refine (contact_total.calls k _ _ l0 _ _ sm t _ (Kd.C_below HR0.out (by repeat (first | exact HI.out.bel | apply pw_below_drewN | apply below_drew))) HC0.out (Kd.R_reads' (by (with_reducible repeat (first | apply Kd.R_drewN | apply Kd.R_drew)); exact HRS.out)).2.2 (Kd.R_reads' HRS.out).2.1 HT0.out).mono ?_); rintro e w4 ⟨rfl, hb4⟩; have HI4 := Aside0.mk ((by repeat (first | exact HI.out | apply FI.drewN | apply FI.drew) : FI w _ g9 _ bs b _).below hb4); have HRS4 := Aside0.mk (Kd.R_below (by (with_reducible repeat (first | apply Kd.R_drewN | apply Kd.R_drew)); exact HRS.out) hb4); clear hb4) | ((with_reducible refine gate_dst (N := 18) rfl ?_); refine box_event ?hg (N := 18) ?hd (cs := #[.slice none 0 0, .int .i64 0]) (t := 80) ?hr ?_; (case hd => rfl); (case hg => rfl); (case hr => first | (go_simp; done) | (go_simp; rfl)); intro gc hg_ w5 hbox hb; have BK := Aside0.mk hbox; have HWc : Aside0 (Below w4.heap.size w4 w5) := ⟨by first | exact hb | exact undrew hb⟩; have HGc : Aside0 (w4.heap.size ≤ gc) := ⟨Nat.le_of_eq hg_.symm⟩; have hy0 : w5.cell? ⟨gc, 0, none⟩ = some (.slice none 0 0) := (blk_cell hbox 0).trans rfl; have hy1 : w5.cell? ⟨gc, 1, none⟩ = some (.int .i64 0) := (blk_cell hbox 1).trans rfl; have hf0 := blk_frozen hbox 0; have hf1 := blk_frozen hbox 1; clear hbox hb hg_) | ((with_reducible refine gate_store (t := 80) (p := 18) rfl ?_); refine store_event (t := 80) (p := 18) (v := ?vo_c) (w1 := ((w5.setCell ⟨gc, 0, none⟩ (.slice As sm.length cs)).setCell ⟨gc, 1, none⟩ (.int .i64 t))) ?hg ?ho ?hn ?hr ?_; (case ho => rfl); (case hg => rfl); (case hn => rfl); (case hr => first | (go_simp; done) | (go_simp; rfl)); intro w6 hw; have hb6 : Below w4.heap.size w4 w6 := (by rw [hw]; exact below_set (below_set HWc.out HGc.out) HGc.out); have HBKc : Aside0 (w6.heap[gc]? = some (.cells #[.slice As sm.length cs, .int .i64 t] 80 (0, 0))) := ⟨by rw [hw]; exact blk_set (blk_set BK.out 0 _) 1 _⟩; have HI6 := Aside0.mk (HI4.out.below hb6); have HRS6 := Aside0.mk (Kd.R_below HRS4.out hb6); have hc0 : w6.cell? ⟨gc, 0, none⟩ = some (.slice As sm.length cs) := (blk_cell HBKc.out 0).trans rfl; have hc1 : w6.cell? ⟨gc, 1, none⟩ = some (.int .i64 t) := (blk_cell HBKc.out 1).trans rfl; have hu0 : w6.cell? ⟨g9, 0, none⟩ = some (.slice Ab b.f0.length cb) := (blk_cell HI6.out.bx 0).trans rfl; have hu1 : w6.cell? ⟨g9, 1, none⟩ = some (.int .i64 b.f1) := (blk_cell HI6.out.bx 1).trans rfl; have hfu0 := blk_frozen HI6.out.bx 0; have hfu1 := blk_frozen HI6.out.bx 1; clear hw hb6 hy0 hy1 hf0 hf1 HWc HGc BK))
                  have hwi : wrap64 ((i : Int) + 1) = ((i + 1 : Nat) : Int) := by have := HBL.out; have := HK.out; unfold wrap64; omega
                  go_roundg d
                  case measure => omega
                  case rel => exact ⟨i + 1, b, wv, (.slice Ab b.f0.length cb), rfl, (by first | rfl | (rw [hwi]) | (simp [hwi]; done) | (simp; done)), ⟨by have := HK.out; omega⟩, H', ⟨by repeat (first | exact HI6.out | apply FI.drewN | apply FI.drew)⟩⟩
            | succ d2 =>
              have hj : j < l0.length := by have := HKj.out; omega
              have hj0 : (0 : Int) ≤ (j : Int) := by omega
              have hj1 : (j : Int) < (l0.length : Int) := by omega
              have hdj : decide ((j : Int) < (l0.length : Int)) = true := decide_eq_true hj1
              obtain ⟨ad2, A3, c3, e, hx0, hx1, hx2, hx3, hl3, hi3⟩ := at_T55 HR0.out (j : Int) hj0 hj1
              cases e
              replace hx0 := cellB HI.out.bel hx0
              replace hx1 := cellB HI.out.bel hx1
              replace hx2 := cellB HI.out.bel hx2
              replace hx3 := cellB HI.out.bel hx3
              simp only [Int.toNat_natCast] at hx0 hx1 hx2 hx3
              have hsx := HALL.out (rd_T55 l0 (j : Int)) (by unfold rd_T55; simp [List.getD_eq_getElem?_getD, List.getElem?_eq_getElem hj])
              have HLE2 := HLE.out
              unfold leastGo at HLE2
              obtain ⟨x, hx⟩ : ∃ x, x = rd_T55 l0 (j : Int) := ⟨_, rfl⟩
              rw [← hx] at hx0 hx1 hx2 hx3 hsx HLE2
              have HSX := Aside0.mk hsx
              clear hi3 hl3 hsx hx hj HLE
              have hwj : wrap64 ((j : Int) + 1) = ((j + 1 : Nat) : Int) := by have := HL12.out; have := HKj.out; unfold wrap64; omega
              by_cases hz : j = 0
              · rw [if_pos (Or.inl hz)] at HLE2
                have HLE3 := Aside0.mk HLE2
                have e0 : ((j : Int) == 0) = true := beq_iff_eq.mpr (by omega)
                clear hz HLE2
                go_wp2_with (first | ((with_reducible refine gate_dst (N := 16) rfl ?_); refine box_event ?hg (N := 16) ?hd (cs := #[.string ByteArray.empty, .int .i64 0, .int .i64 0, .slice none 0 0]) (t := 55) ?hr ?_; (case hd => rfl); (case hg => rfl); (case hr => first | (go_simp; done) | (go_simp; rfl)); intro gx hg_ w8 hbox hb; have HGx : Aside0 (wr.heap.size ≤ gx) := ⟨Nat.le_of_eq hg_.symm⟩; have BK := Aside0.mk hbox; have HWx : Aside0 (Below wr.heap.size wr w8) := ⟨by first | exact hb | exact undrew hb⟩; have hy0 : w8.cell? ⟨gx, 0, none⟩ = some (.string ByteArray.empty) := (blk_cell hbox 0).trans rfl; have hf0 := blk_frozen hbox 0; have hy1 : w8.cell? ⟨gx, 1, none⟩ = some (.int .i64 0) := (blk_cell hbox 1).trans rfl; have hf1 := blk_frozen hbox 1; have hy2 : w8.cell? ⟨gx, 2, none⟩ = some (.int .i64 0) := (blk_cell hbox 2).trans rfl; have hf2 := blk_frozen hbox 2; have hy3 : w8.cell? ⟨gx, 3, none⟩ = some (.slice none 0 0) := (blk_cell hbox 3).trans rfl; have hf3 := blk_frozen hbox 3; clear hbox hb hg_) | ((with_reducible refine gate_store (t := 55) (p := 16) rfl ?_); refine store_event (t := 55) (p := 16) (v := ?vo_x) (w1 := ((((w8.setCell ⟨gx, 0, none⟩ (.string x.f0)).setCell ⟨gx, 1, none⟩ (.int .i64 x.f1)).setCell ⟨gx, 2, none⟩ (.int .i64 x.f2)).setCell ⟨gx, 3, none⟩ (.slice A3 x.f3.length c3))) ?hg ?ho ?hn ?hr ?_; (case ho => rfl); (case hg => rfl); (case hn => rfl); (case hr => first | (go_simp; done) | (go_simp; rfl)); intro w9 hw; have hb9 : Below wr.heap.size wr w9 := (by rw [hw]; exact below_set (below_set (below_set (below_set HWx.out HGx.out) HGx.out) HGx.out) HGx.out); have hbk9 : w9.heap[gx]? = some (.cells #[.string x.f0, .int .i64 x.f1, .int .i64 x.f2, .slice A3 x.f3.length c3] 55 (0, 0)) := (by rw [hw]; exact blk_set (blk_set (blk_set (blk_set BK.out 0 _) 1 _) 2 _) 3 _); have HI9 := Aside0.mk (HI.out.below hb9); have HRS9 := Aside0.mk (Kd.R_below HRS.out hb9); have HM9 := Aside0.mk (map_below HM.out hb9); have hcx : w9.cell? ⟨gx, 0, none⟩ = some (.string x.f0) := (blk_cell hbk9 0).trans rfl; clear hw hb9 hbk9 hy0 hy1 hy2 hy3 hf0 hf1 hf2 hf3 HWx HGx BK hx0 hx1 hx2 hx3) | (at_lookup; refine look_step (g := gm) (n := sm.length) (m := m) (s := x.f0) _ _ rfl rfl rfl rfl HSX.out (by first | exact HM9.out | exact map_below HM9.out (pw_below_drewN (Below.refl _ _) _)) ?_))
                go_roundg d2
                case measure => omega
                case rel => exact ⟨j + 1, _, rfl, (by first | rfl | (rw [hwj]) | (simp [hwj]; done) | (simp; done)), ⟨by have := HKj.out; omega⟩, HLE3, ⟨by repeat (first | exact HI9.out | apply FI.drewN | apply FI.drew)⟩, ⟨by first | exact HM9.out | exact map_below HM9.out (pw_below_drewN (Below.refl _ _) _)⟩, ⟨by (with_reducible repeat (first | apply Kd.R_drewN | apply Kd.R_drew)); exact HRS9.out⟩⟩
              · have e0 : ((j : Int) == 0) = false := beq_eq_false_iff_ne.mpr (by omega)
                by_cases hv : valD m x.f0 < le
                · rw [if_pos (Or.inr hv)] at HLE2
                  have HLE3 := Aside0.mk HLE2
                  have e1 : decide (valD m x.f0 < le) = true := decide_eq_true hv
                  clear hz HLE2 hv
                  go_wp2_with (first | ((with_reducible refine gate_dst (N := 16) rfl ?_); refine box_event ?hg (N := 16) ?hd (cs := #[.string ByteArray.empty, .int .i64 0, .int .i64 0, .slice none 0 0]) (t := 55) ?hr ?_; (case hd => rfl); (case hg => rfl); (case hr => first | (go_simp; done) | (go_simp; rfl)); intro gx hg_ w8 hbox hb; have HGx : Aside0 (wr.heap.size ≤ gx) := ⟨Nat.le_of_eq hg_.symm⟩; have BK := Aside0.mk hbox; have HWx : Aside0 (Below wr.heap.size wr w8) := ⟨by first | exact hb | exact undrew hb⟩; have hy0 : w8.cell? ⟨gx, 0, none⟩ = some (.string ByteArray.empty) := (blk_cell hbox 0).trans rfl; have hf0 := blk_frozen hbox 0; have hy1 : w8.cell? ⟨gx, 1, none⟩ = some (.int .i64 0) := (blk_cell hbox 1).trans rfl; have hf1 := blk_frozen hbox 1; have hy2 : w8.cell? ⟨gx, 2, none⟩ = some (.int .i64 0) := (blk_cell hbox 2).trans rfl; have hf2 := blk_frozen hbox 2; have hy3 : w8.cell? ⟨gx, 3, none⟩ = some (.slice none 0 0) := (blk_cell hbox 3).trans rfl; have hf3 := blk_frozen hbox 3; clear hbox hb hg_) | ((with_reducible refine gate_store (t := 55) (p := 16) rfl ?_); refine store_event (t := 55) (p := 16) (v := ?vo_x) (w1 := ((((w8.setCell ⟨gx, 0, none⟩ (.string x.f0)).setCell ⟨gx, 1, none⟩ (.int .i64 x.f1)).setCell ⟨gx, 2, none⟩ (.int .i64 x.f2)).setCell ⟨gx, 3, none⟩ (.slice A3 x.f3.length c3))) ?hg ?ho ?hn ?hr ?_; (case ho => rfl); (case hg => rfl); (case hn => rfl); (case hr => first | (go_simp; done) | (go_simp; rfl)); intro w9 hw; have hb9 : Below wr.heap.size wr w9 := (by rw [hw]; exact below_set (below_set (below_set (below_set HWx.out HGx.out) HGx.out) HGx.out) HGx.out); have hbk9 : w9.heap[gx]? = some (.cells #[.string x.f0, .int .i64 x.f1, .int .i64 x.f2, .slice A3 x.f3.length c3] 55 (0, 0)) := (by rw [hw]; exact blk_set (blk_set (blk_set (blk_set BK.out 0 _) 1 _) 2 _) 3 _); have HI9 := Aside0.mk (HI.out.below hb9); have HRS9 := Aside0.mk (Kd.R_below HRS.out hb9); have HM9 := Aside0.mk (map_below HM.out hb9); have hcx : w9.cell? ⟨gx, 0, none⟩ = some (.string x.f0) := (blk_cell hbk9 0).trans rfl; clear hw hb9 hbk9 hy0 hy1 hy2 hy3 hf0 hf1 hf2 hf3 HWx HGx BK hx0 hx1 hx2 hx3) | (at_lookup; refine look_step (g := gm) (n := sm.length) (m := m) (s := x.f0) _ _ rfl rfl rfl rfl HSX.out (by first | exact HM9.out | exact map_below HM9.out (pw_below_drewN (Below.refl _ _) _)) ?_))
                  go_roundg d2
                  case measure => omega
                  case rel => exact ⟨j + 1, _, rfl, (by first | rfl | (rw [hwj]) | (simp [hwj]; done) | (simp; done)), ⟨by have := HKj.out; omega⟩, HLE3, ⟨by repeat (first | exact HI9.out | apply FI.drewN | apply FI.drew)⟩, ⟨by first | exact HM9.out | exact map_below HM9.out (pw_below_drewN (Below.refl _ _) _)⟩, ⟨by (with_reducible repeat (first | apply Kd.R_drewN | apply Kd.R_drew)); exact HRS9.out⟩⟩
                · rw [if_neg (fun q => q.elim hz hv)] at HLE2
                  have HLE3 := Aside0.mk HLE2
                  have e1 : decide (valD m x.f0 < le) = false := decide_eq_false hv
                  clear hz HLE2 hv
                  go_wp2_with (first | ((with_reducible refine gate_dst (N := 16) rfl ?_); refine box_event ?hg (N := 16) ?hd (cs := #[.string ByteArray.empty, .int .i64 0, .int .i64 0, .slice none 0 0]) (t := 55) ?hr ?_; (case hd => rfl); (case hg => rfl); (case hr => first | (go_simp; done) | (go_simp; rfl)); intro gx hg_ w8 hbox hb; have HGx : Aside0 (wr.heap.size ≤ gx) := ⟨Nat.le_of_eq hg_.symm⟩; have BK := Aside0.mk hbox; have HWx : Aside0 (Below wr.heap.size wr w8) := ⟨by first | exact hb | exact undrew hb⟩; have hy0 : w8.cell? ⟨gx, 0, none⟩ = some (.string ByteArray.empty) := (blk_cell hbox 0).trans rfl; have hf0 := blk_frozen hbox 0; have hy1 : w8.cell? ⟨gx, 1, none⟩ = some (.int .i64 0) := (blk_cell hbox 1).trans rfl; have hf1 := blk_frozen hbox 1; have hy2 : w8.cell? ⟨gx, 2, none⟩ = some (.int .i64 0) := (blk_cell hbox 2).trans rfl; have hf2 := blk_frozen hbox 2; have hy3 : w8.cell? ⟨gx, 3, none⟩ = some (.slice none 0 0) := (blk_cell hbox 3).trans rfl; have hf3 := blk_frozen hbox 3; clear hbox hb hg_) | ((with_reducible refine gate_store (t := 55) (p := 16) rfl ?_); refine store_event (t := 55) (p := 16) (v := ?vo_x) (w1 := ((((w8.setCell ⟨gx, 0, none⟩ (.string x.f0)).setCell ⟨gx, 1, none⟩ (.int .i64 x.f1)).setCell ⟨gx, 2, none⟩ (.int .i64 x.f2)).setCell ⟨gx, 3, none⟩ (.slice A3 x.f3.length c3))) ?hg ?ho ?hn ?hr ?_; (case ho => rfl); (case hg => rfl); (case hn => rfl); (case hr => first | (go_simp; done) | (go_simp; rfl)); intro w9 hw; have hb9 : Below wr.heap.size wr w9 := (by rw [hw]; exact below_set (below_set (below_set (below_set HWx.out HGx.out) HGx.out) HGx.out) HGx.out); have hbk9 : w9.heap[gx]? = some (.cells #[.string x.f0, .int .i64 x.f1, .int .i64 x.f2, .slice A3 x.f3.length c3] 55 (0, 0)) := (by rw [hw]; exact blk_set (blk_set (blk_set (blk_set BK.out 0 _) 1 _) 2 _) 3 _); have HI9 := Aside0.mk (HI.out.below hb9); have HRS9 := Aside0.mk (Kd.R_below HRS.out hb9); have HM9 := Aside0.mk (map_below HM.out hb9); have hcx : w9.cell? ⟨gx, 0, none⟩ = some (.string x.f0) := (blk_cell hbk9 0).trans rfl; clear hw hb9 hbk9 hy0 hy1 hy2 hy3 hf0 hf1 hf2 hf3 HWx HGx BK hx0 hx1 hx2 hx3) | (at_lookup; refine look_step (g := gm) (n := sm.length) (m := m) (s := x.f0) _ _ rfl rfl rfl rfl HSX.out (by first | exact HM9.out | exact map_below HM9.out (pw_below_drewN (Below.refl _ _) _)) ?_))
                  go_roundg d2
                  case measure => omega
                  case rel => exact ⟨j + 1, le, rfl, (by first | rfl | (rw [hwj]) | (simp [hwj]; done) | (simp; done)), ⟨by have := HKj.out; omega⟩, HLE3, ⟨by repeat (first | exact HI9.out | apply FI.drewN | apply FI.drew)⟩, ⟨by first | exact HM9.out | exact map_below HM9.out (pw_below_drewN (Below.refl _ _) _)⟩, ⟨by (with_reducible repeat (first | apply Kd.R_drewN | apply Kd.R_drew)); exact HRS9.out⟩⟩
  · rw [if_neg hf0] at h
    have c4 : (ff != 0) = true := bne_iff_ne.mpr hf0
    have c5 : (ff == 0) = false := beq_eq_false_iff_ne.mpr hf0
    clear hf0
    simp only [Option.some.injEq, Prod.mk.injEq] at h
    obtain ⟨rfl, rfl, rfl, rfl⟩ := h
    go_enter Tryd.func16, Tryd.ntmps16
    go_wp2_with (first | (go_at_call 24; go_loud (with_reducible refine (contact_CheckPasses.calls k _ _ l0 p _ HR0.out HC0.out HP.out).mono ?_); rintro e wp ⟨rfl, hb⟩; have n0_ := Aside0.mk (below_step HB.out hb); clear HB hb; have HB := n0_; clear n0_) | (go_at_call 39; go_loud (with_reducible refine (kit_Range.calls a1 0 10000000 q _ HQ.out).mono ?_); rintro e wq ⟨rfl, ⟨nd, rfl⟩⟩) | ((with_reducible refine gate_dst (N := 23) rfl ?_); go_loud (refine Kd.R_lit (Kd.int .i64) _ 23 ?hg (N := 23) ?hd (xs := ([p, q] : List Int)) (inner := [.int .i64 p, .int .i64 q]) (ok := fun _ => True) (okp := fun _ => True) ?hr ?hp (fun _ hk => hk) trivial (Below.refl _ _) (Nat.le_refl _) (by simp) ?_); (case hd => rfl); (case hg => rfl); (case hr => first | (go_simp; done) | (go_simp; rfl)); (case hp => exact (Reps.one (show Kd.M (Kd.int .i64) _ _ _ p [.int .i64 p] from rfl) (Reps.one (show Kd.M (Kd.int .i64) _ _ _ q [.int .i64 q] from rfl) (Reps.none _ _)))); intro vy wy ho14 hb hg_ hnew_; clear hg_ hnew_; rw [← HY.out] at ho14; have HOY := Aside0.mk ho14; have n1_ := Aside0.mk (below_step (pw_below_drewN HB.out _) hb); clear HB; have HB := n1_; clear n1_ hb ho14; obtain ⟨Ay, cy, ey⟩ := Kd.R_slice HOY.out; subst ey) | (go_at_call 38; go_loud (with_reducible refine (kit_First.calls k _ _ y _ _ (Kd.R_reads' HOY.out).2.2 (Kd.R_reads' HOY.out).2.1 HF.out).mono ?_); rintro e wf ⟨rfl, ⟨nd2, rfl⟩⟩))
    refine bodyPost_ret (results_list (rs := [.tmp 4, .tmp 5, .tmp 6, .tmp 7]) rfl (by simp) (.tmp (.tmp (.tmp (.tmp .nil))))) rfl ?_
    exact ⟨_, rfl, Kd.R_nil _ _ _ _ _, by repeat (first | exact HB.out | apply pw_below_drewN | apply below_drew)⟩
mutual
def contact_checkBooked.l0 : Nat → List (S55) → List Int → List Int → Int → Int → Option (Int)
  | 0, _, _, _, _, _ => none
  | k + 1, x0, x1, x7, x8, x9 => if x9 < x8 then (if 0 ≤ x9 then (if x9 < (x7.length : Int) then (if (rd x7 x9) < 0 then (contact_checkBooked.j1 k x0 x1 x9 (rd x7 x9) x7 x8 x9 true) else (contact_checkBooked.j1 k x0 x1 x9 (rd x7 x9) x7 x8 x9 (decide ((rd x7 x9) ≥ (x0.length : Int))))) else (none)) else (none)) else (some 0)
def contact_checkBooked.j1 : Nat → List (S55) → List Int → Int → Int → List Int → Int → Int → Bool → Option (Int)
  | 0, _, _, _, _, _, _, _, _ => none
  | k + 1, x0, x1, x5, x6, x7, x8, x9, x21 => if x21 = true then (some 9) else (if x5 > 0 then (if 0 ≤ (wrap64 (x5 - 1)) then (if (wrap64 (x5 - 1)) < (x1.length : Int) then (if x6 ≤ (rd x1 (wrap64 (x5 - 1))) then (some 8) else (contact_checkBooked.l0 k x0 x1 x7 x8 (wrap64 (x9 + 1)))) else (none)) else (none)) else (contact_checkBooked.l0 k x0 x1 x7 x8 (wrap64 (x9 + 1))))
end
def contact_checkBooked.f (k : Nat) (l0 : List (S55)) (l1 : List Int) : Option (Int) := contact_checkBooked.l0 k l0 l1 l1 (l1.length : Int) 0
theorem d59a {p : Prop} (h : p := by repeat (first | exact Drawn0.refl _ | apply Drawn0.step)) : p := h
theorem d59b {p : Prop} (h : p := by first | (with_reducible assumption) | assumption) : p := h
theorem d59c {p : Prop} (h : p := by first | rfl | (simp; done) | (simp [*]; done)) : p := h
set_option maxHeartbeats 8000000 in
set_option maxRecDepth 100000 in
theorem contact_checkBooked.calls (k : Nat) (A0 : Option Addr) (c0 : Nat) (l0 : List (S55)) (A1 : Option Addr) (c1 : Nat) (l1 : List Int) (r : Int) (w : World) (hr0 : Kd.C k55 w A0 l0.length l0) (hc0 : l0.length ≤ c0) (hr1 : Kd.C (Kd.int .i64) w A1 l1.length l1) (hc1 : l1.length ≤ c1) (h : contact_checkBooked.f k l0 l1 = some r) :
 Calls Tryd.prog 59 #[.slice A0 l0.length c0, .slice A1 l1.length c1] w fun e w' => e = .returned (.int .i64 r) ∧ Drawn0 w w' := by
 have HR0 := Aside0.mk hr0
 have HC0 := Aside0.mk hc0
 clear hr0 hc0
 have HR1 := Aside0.mk hr1
 have HC1 := Aside0.mk hc1
 clear hr1 hc1
 have H : (contact_checkBooked.l0 k l0 l1 l1 (l1.length : Int) 0) = some r := h
 clear h
 have H' := Aside0.mk H
 clear H
 go_enter Tryd.func59, Tryd.ntmps59
 go_wp2
 go_loopg [9] k (fun kq v9 w' => ∃ (x9_1 : Int), v9 = .int .i64 x9_1 ∧ Aside0 (contact_checkBooked.l0 kq l0 l1 l1 (l1.length : Int) x9_1 = some r) ∧ Aside0 (kq ≤ k) ∧ Drawn0 w w')
 case atStart => exact ⟨(0), d59c, H', ⟨Nat.le_refl _⟩, d59a⟩
 case round =>
  clear H'
  obtain ⟨x9_1, rfl, HA, HK1, ⟨m1, rfl⟩⟩ := hrel
  cases gk with
  | zero => exact absurd HA.out (by simp [contact_checkBooked.l0])
  | succ k1 =>
   have H := HA.out
   clear HA
   simp only [contact_checkBooked.l0] at H
   by_cases c3 : x9_1 < (l1.length : Int)
   · rw [if_pos c3] at H
     have c3b0 : decide (x9_1 < (l1.length : Int)) = true := decide_eq_true c3
     clear c3
     replace H := guardT H; obtain ⟨c4, H⟩ := H
     have c4b0 : decide (0 ≤ x9_1) = true := decide_eq_true c4
     clear c4
     replace H := guardT H; obtain ⟨c5, H⟩ := H
     have c5b0 : decide (x9_1 < (l1.length : Int)) = true := decide_eq_true c5
     clear c5
     have HC6 := Aside0.mk H
     clear H
     have p101 : 0 ≤ (x9_1 : Int) := of_decide_eq_true d59b
     have q101 : x9_1 < (l1.length : Int) := of_decide_eq_true d59b
     obtain ⟨ad101, e101, hx101_0⟩ := Kd.at_int HR1.out x9_1 p101 q101
     cases e101
     replace p101 := eq_true p101
     replace q101 := eq_true q101
     go_upto_region 4 with (fail)
     go_cut [21] (fun v21 wc => ∃ (kq : Nat) (x21_5 : Bool), v21 = .bool x21_5 ∧ Aside0 (contact_checkBooked.j1 kq l0 l1 x9_1 (rd l1 x9_1) l1 (l1.length : Int) x9_1 x21_5 = some r) ∧ Aside0 (kq ≤ k1) ∧ Drawn0 w wc)
     case first =>
      have H := HC6.out
      clear HC6
      by_cases c7 : (rd l1 x9_1) < 0
      · rw [if_pos c7] at H
        have c7b0 : decide ((rd l1 x9_1) < 0) = true := decide_eq_true c7
        clear c7
        (first | rw [c7b0] | (simp only [i64_w, i32_w]; rw [c7b0]) | skip)
        have H' := Aside0.mk H
        clear H
        go_wp2
        go_meet
        case rel => exact ⟨_, (true), d59c, H', ⟨by have := HK1.out; first | omega | exact Nat.le_refl _⟩, d59a⟩
      · rw [if_neg c7] at H
        have c7b0 : decide ((rd l1 x9_1) < 0) = false := decide_eq_false c7
        clear c7
        (first | rw [c7b0] | (simp only [i64_w, i32_w]; rw [c7b0]) | skip)
        have H' := Aside0.mk H
        clear H
        go_wp2
        go_meet
        case rel => exact ⟨_, (decide ((rd l1 x9_1) ≥ (l0.length : Int))), d59c, H', ⟨by have := HK1.out; first | omega | exact Nat.le_refl _⟩, d59a⟩
     case rest =>
      clear HC6
      try clear c3b0
      try clear c4b0
      try clear c5b0
      try clear hx101_0
      try clear p101
      try clear q101
      obtain ⟨kq, x21_5, rfl, HA, HJ5, ⟨mc5, rfl⟩⟩ := hcut
      cases kq with
      | zero => exact absurd HA.out (by simp [contact_checkBooked.j1])
      | succ kj5 =>
       have H := HA.out
       clear HA
       simp only [contact_checkBooked.j1] at H
       by_cases c8 : x21_5 = true
       · subst c8
         replace H := iteT H
         obtain rfl := Option.some.inj H
         go_wp2
         go_ret
         exact ⟨d59c, d59a⟩
       · replace c8 := Bool.eq_false_iff.mpr c8
         subst c8
         replace H := iteF H
         by_cases c9 : x9_1 > 0
         · rw [if_pos c9] at H
           have c9b0 : decide (0 < x9_1) = true := decide_eq_true c9
           clear c9
           obtain ⟨ji10, hji10⟩ : ∃ j_ : Int, (wrap64 (x9_1 - 1)) = j_ := ⟨_, rfl⟩
           replace H : (if 0 ≤ (ji10) then (if (ji10) < (l1.length : Int) then (if (rd l1 x9_1) ≤ (rd l1 (ji10)) then (some 8) else (contact_checkBooked.l0 kj5 l0 l1 l1 (l1.length : Int) (wrap64 (x9_1 + 1)))) else (none)) else (none)) = some r := by first | (rw [hji10] at H; exact H) | (simp only [hji10] at H ⊢; exact H)
           have hji10w : (IntKind.i64.wrap (x9_1 - 1)) = ji10 := (i64_w _).trans hji10
           replace H := guardT H; obtain ⟨c11, H⟩ := H
           have c11b0 : decide (0 ≤ (ji10)) = true := decide_eq_true c11
           clear c11
           replace H := guardT H; obtain ⟨c12, H⟩ := H
           have c12b0 : decide ((ji10) < (l1.length : Int)) = true := decide_eq_true c12
           clear c12
           by_cases c13 : (rd l1 x9_1) ≤ (rd l1 (ji10))
           · rw [if_pos c13] at H
             have c13b0 : decide ((rd l1 x9_1) ≤ (rd l1 (ji10))) = true := decide_eq_true c13
             clear c13
             obtain rfl := Option.some.inj H
             have p102 : 0 ≤ ((ji10) : Int) := of_decide_eq_true d59b
             have q102 : (ji10) < (l1.length : Int) := of_decide_eq_true d59b
             obtain ⟨ad102, e102, hx102_0⟩ := Kd.at_int HR1.out (ji10) p102 q102
             obtain rfl : ad101 = ad102 := (by injection e102)
             replace p102 := eq_true p102
             replace q102 := eq_true q102
             go_wp2
             go_ret
             exact ⟨by first | rfl | (simp; done) | (simp only [← hji10] <;> (first | rfl | simp)) | (simp [*]; done), d59a⟩
           · rw [if_neg c13] at H
             have c13b0 : decide ((rd l1 x9_1) ≤ (rd l1 (ji10))) = false := decide_eq_false c13
             clear c13
             have H' := Aside0.mk H
             clear H
             have p102 : 0 ≤ ((ji10) : Int) := of_decide_eq_true d59b
             have q102 : (ji10) < (l1.length : Int) := of_decide_eq_true d59b
             obtain ⟨ad102, e102, hx102_0⟩ := Kd.at_int HR1.out (ji10) p102 q102
             obtain rfl : ad101 = ad102 := (by injection e102)
             replace p102 := eq_true p102
             replace q102 := eq_true q102
             go_wp2
             go_roundg kj5
             case measure => have := HK1.out; have := HJ5.out; omega
             case rel => exact ⟨(wrap64 (x9_1 + 1)), d59c, H', ⟨by have := HK1.out; have := HJ5.out; omega⟩, d59a⟩
         · rw [if_neg c9] at H
           have c9b0 : decide (0 < x9_1) = false := decide_eq_false c9
           clear c9
           have H' := Aside0.mk H
           clear H
           go_wp2
           go_roundg kj5
           case measure => have := HK1.out; have := HJ5.out; omega
           case rel => exact ⟨(wrap64 (x9_1 + 1)), d59c, H', ⟨by have := HK1.out; have := HJ5.out; omega⟩, d59a⟩
   · rw [if_neg c3] at H
     have c3b0 : decide (x9_1 < (l1.length : Int)) = false := decide_eq_false c3
     clear c3
     obtain rfl := Option.some.inj H
     go_wp2
     go_ret
     exact ⟨d59c, d59a⟩
end Go.Proofs.YtbngmblgkkdhpaaDoor.Q
