-- Made by wip/tools/claimp.py of this session's texts; Lean checks it.
import Derived.Test.YtbngmblgkkdhpaaC10Q0
import Derived.Test.YtbngmblgkkdhpaaC10Gs2
import Derived.Test.YtbngmblgkkdhpaaC10Gs3
import Derived.Test.YtbngmblgkkdhpaaC10Gs5
import Derived.Test.YtbngmblgkkdhpaaC10Gs6
import Derived.Test.YtbngmblgkkdhpaaC10Gs7
namespace Go.Proofs.Ytbngmblgkkdhpaa.Q
open Go.RowKit Go.Proofs.YtbngmblgkkdhpaaW.PrintWords Go.Proofs.YtbngmblgkkdhpaaW.PrintLast Go.Proofs.YtbngmblgkkdhpaaW.PrintMore
attribute [local go_sem] max2_int min2_int max_two min_two max_three min_three max_four min_four
open Go.Proofs.Ytbngmblgkkdhpaa.Base
attribute [local go_sem high] str_leq str_gtr str_geq
set_option linter.unusedVariables false
set_option linter.unusedSimpArgs false
def momS (ss : List S81) : List Int := ss.flatMap fun s => [s.f0, s.f1]
def momW (ways : List (List S81)) : List Int := ways.flatMap momS
def momAll (q : List S63) (ways : List (List S81)) : List Int := momW ways ++ q.map (·.f3)
def momV (q : List S63) (ways : List (List S81)) : List Int := Lib.compact ((momAll q ways).mergeSort fun x y => decide (x ≤ y))
theorem getD_drop {α : Type} {l : List α} {d : α} {i : Nat} (h : i < l.length) : l.drop i = l.getD i d :: l.drop (i + 1) := by
  rw [List.drop_eq_getElem_cons h, List.getD_eq_getElem?_getD, List.getElem?_eq_getElem h]
  rfl
theorem momS_len (ss : List S81) : (momS ss).length = 2 * ss.length := by
  induction ss with
  | nil => rfl
  | cons s r ih => unfold momS at ih ⊢; rw [List.flatMap_cons, List.length_append, ih, List.length_cons]; simp; omega
theorem lit_C (W : World) (xs : List Int) (hx : xs.length ≤ 1000000 := by simp) : (Kd.int .i64).C (W.alloc (.cells (xs.map (Value.int .i64)).toArray 3)) (some ⟨W.heap.size, 0, none⟩) xs.length xs := by
  have h := World.ownsRow_lit (base := 0) (e := 3) (size := 1) W (xs.map (Value.int .i64)).toArray xs.length (Nat.zero_le _) (by unfold maxLen; omega) (by simp)
  have hr : (Kd.int .i64).R 3 _ 0 (fun _ => True) (.slice (some ⟨W.heap.size, 0, none⟩) xs.length xs.length) xs := Kd.R_of_own (by simpa [encs] using h) (fun _ _ => trivial)
  exact (Kd.R_reads' hr).2.2
theorem d88a {p : Prop} (h : p := by repeat (first | exact HB.out | apply below_alloc | apply pw_below_drewN)) : p := h
set_option maxHeartbeats 8000000 in
set_option maxRecDepth 100000 in
theorem moments_calls {w0 W : World} {g : Nat} {V : SV} {bk : List Int} {q : List S63} {st : SX} (h : SndAt w0 W g V bk q st) (hl : (momAll q st.ways).length ≤ 1000000) (hq : q.length ≤ 1000000) (hw : st.ways.length ≤ 1000000) :
    Calls Try.prog 88 #[.pointer (some ⟨g, 0, none⟩)] W fun e w' => ∃ v : Value, e = .returned v ∧ (Kd.int .i64).R 3 w' W.heap.size (fun _ => True) v (momV q st.ways) ∧ Below W.heap.size W w' := by
  obtain ⟨Aw, cw, evw, x7, hCw⟩ := h.c7
  have HS := Aside0.mk h
  have HL := Aside0.mk hl
  have HQ := Aside0.mk hq
  have HWL := Aside0.mk hw
  have HEV := Aside0.mk evw
  obtain ⟨Aq', hAq⟩ : ∃ A, V.Aq = A := ⟨_, rfl⟩
  have HAQ := Aside0.mk hAq
  clear h hl hCw hq hw evw hAq
  go_enter Try.func88, Try.ntmps88
  go_wp2
  clear x7
  go_loopg [3, 15] st.ways.length (fun kq v3 v15 w' => ∃ (i : Nat) (acc : List Int), v15 = .int .i64 (i : Int) ∧ Aside0 (kq + i = st.ways.length) ∧ Aside0 (acc ++ (momW (st.ways.drop i) ++ q.map (·.f3)) = momAll q st.ways) ∧ Aside0 ((Kd.int .i64).R 3 w' W.heap.size (fun _ => True) v3 acc) ∧ Aside0 (Below W.heap.size W w'))
  case atStart => exact ⟨0, [], rfl, ⟨rfl⟩, ⟨rfl⟩, ⟨Kd.R_nil _ _ _ _ _⟩, ⟨Below.refl _ _⟩⟩
  case round =>
    obtain ⟨i, acc, rfl, HK, HA, HR, HB⟩ := hrel
    cases gk with
    | zero =>
      have hi : i = st.ways.length := by have := HK.out; omega
      subst hi
      have HA0 := Aside0.mk (show acc ++ q.map (·.f3) = momAll q st.ways by have := HA.out; rw [List.drop_length] at this; exact this)
      obtain ⟨A0, c0, e0⟩ := Kd.R_slice HR.out
      subst e0
      have x1 := (HS.out.below HB.out).c1
      rw [HAQ.out] at x1
      clear HA HK
      go_wp2
      clear x1
      go_loopg [3, 39] q.length (fun kq v3 v39 w' => ∃ (i : Nat) (acc : List Int), v39 = .int .i64 (i : Int) ∧ Aside0 (kq + i = q.length) ∧ Aside0 (acc ++ (q.drop i).map (·.f3) = momAll q st.ways) ∧ Aside0 ((Kd.int .i64).R 3 w' W.heap.size (fun _ => True) v3 acc) ∧ Aside0 (Below W.heap.size W w'))
      case atStart => exact ⟨0, acc, rfl, ⟨rfl⟩, HA0, HR, HB⟩
      case round =>
        clear HA0 HR HB
        obtain ⟨i, acc2, rfl, HK, HA, HR, HB⟩ := hrel
        cases gk with
        | zero =>
          have hi : i = q.length := by have := HK.out; omega
          subst hi
          have HF := Aside0.mk (show acc2 = momAll q st.ways by have := HA.out; rw [List.drop_length, List.map_nil, List.append_nil] at this; exact this)
          have HSRT := Aside0.mk (show slices_Sort_int_int.f acc2 = some (acc2.mergeSort fun x y => decide (x ≤ y)) by unfold slices_Sort_int_int.f; rw [if_pos (by rw [HF.out]; have := HL.out; omega)])
          clear HK HA
          go_wp2_with (first | (go_at_call 101; go_loud (refine (slices_Sort_int_int.calls (fun _ => True) _ acc2 (acc2.mergeSort fun x y => decide (x ≤ y)) W _ HB.out HR.out HSRT.out).mono ?_); rintro e w2 ⟨rfl, hr2, hb2, _⟩; have HR2 := Aside0.mk (Kd.R_mono hr2 (fun _ _ => trivial)); have HB2 := Aside0.mk hb2; clear hr2 hb2) | (go_at_call 102; go_loud (refine (slices_Compact_int_int.calls (fun _ => True) _ (acc2.mergeSort fun x y => decide (x ≤ y)) _ W _ HB2.out HR2.out rfl).mono ?_); rintro e w3 ⟨v3_, rfl, hr3, hb3, _⟩; have HR3 := Aside0.mk (Kd.R_mono hr3 (fun _ _ => trivial)); have HB3 := Aside0.mk hb3; clear hr3 hb3))
          go_ret
          refine ⟨_, rfl, ?_, HB3.out⟩
          unfold momV
          rw [← HF.out]
          exact HR3.out
        | succ d =>
          have hi : i < q.length := by have := HK.out; omega
          have hi0 : (0 : Int) ≤ (i : Int) := by omega
          have hi1 : (i : Int) < (q.length : Int) := by omega
          have hd1 : decide ((i : Int) < (q.length : Int)) = true := decide_eq_true hi1
          have hsn := (HS.out.below HB.out)
          obtain ⟨adq, eq, y0, y1, y2, y3, y4⟩ := at_T63 (Kd.C_below hsn.qC hsn.bel) (i : Int) hi0 hi1
          simp only [Int.toNat_natCast] at y0 y1 y2 y3 y4
          obtain ⟨x, hx⟩ : ∃ x, x = rd_T63 q (i : Int) := ⟨_, rfl⟩
          rw [← hx] at y0 y1 y2 y3 y4
          have HA2 := Aside0.mk (show (acc2 ++ [x.f3]) ++ (q.drop (i + 1)).map (·.f3) = momAll q st.ways by rw [← HA.out, List.append_assoc, List.drop_eq_getElem_cons hi, List.map_cons, List.singleton_append, hx]; unfold rd_T63; rw [Int.toNat_natCast, List.getD_eq_getElem?_getD, List.getElem?_eq_getElem hi]; rfl)
          have HLA := Aside0.mk (show acc2.length + 1 ≤ 1000000 by have e := congrArg List.length HA2.out; simp only [List.length_append, List.length_cons, List.length_nil] at e; have := HL.out; omega)
          have hwi : wrap64 ((i : Int) + 1) = ((i + 1 : Nat) : Int) := by have := HQ.out; unfold wrap64; omega
          have eq2 : Aq' = some adq := HAQ.out.symm.trans eq
          subst eq2
          clear hsn hx HA eq
          obtain ⟨A2, c2, e2⟩ := Kd.R_slice HR.out
          subst e2
          obtain ⟨z, hz⟩ : ∃ z, z = x.f3 := ⟨_, rfl⟩
          rw [← hz] at y3 HA2
          clear hz
          go_wp2_with (first | ((with_reducible refine gate_builtin (b := .append) (xs := #[.tmp 43, .tmp 46]) rfl ?_); at_builtin; go_loud (refine Kd.R_append (Kd.int .i64) (w0 := W) (W := wr.alloc (.cells #[.string x.f0, .int .i64 x.f1, .int .i64 x.f2, .int .i64 z, .int .i64 x.f4] 63)) W.heap.size rfl (.tmp 43) (.tmp 46) 35 3 (.int .i64 0) 8 rfl Try.underlying35 info3 rfl (by decide) (by omega) (.slice A2 acc2.length c2) acc2 (z : Int) [.int .i64 z] (fun _ => True) (fun _ => False) rfl (by first | rfl | (go_simp; done) | (simp [World.alloc]; done)) (show Kd.M (Kd.int .i64) _ _ _ z [.int .i64 z] from rfl) (fun _ h => h.elim) (fun _ _ => trivial) (by (with_reducible repeat (first | exact HR.out | refine Kd.R_alloc ?_ _ | refine Kd.R_drewN ?_ _))) d88a (below_size d88a) (by have := HLA.out; omega) ?_); go_loud (intro vx wx ho hb _ _; have HRx := Aside0.mk ho; have HBx := Aside0.mk hb; clear ho hb)))
          go_roundg d
          case measure => omega
          case rel => exact ⟨i + 1, _, (by first | rfl | (rw [hwi]) | (simp [hwi]; done) | (simp; done)), ⟨by have := HK.out; omega⟩, HA2, HRx, HBx⟩
    | succ d =>
      have hi : i < st.ways.length := by have := HK.out; omega
      have hi0 : (0 : Int) ≤ (i : Int) := by omega
      have hi1 : (i : Int) < (st.ways.length : Int) := by omega
      have hd1 : decide ((i : Int) < (st.ways.length : Int)) = true := decide_eq_true hi1
      obtain ⟨aw, cw2, A, c, ev, x7, xj, _, hcl, hraw, hF⟩ := (HS.out.below HB.out).way hi
      have e2 : Value.slice Aw st.ways.length cw = Value.slice (some ⟨aw, 0, none⟩) st.ways.length cw2 := HEV.out.symm.trans ev
      injection e2 with e2 _ e3
      subst e2
      subst e3
      obtain ⟨ss, hss⟩ : ∃ ss, ss = st.ways.getD i [] := ⟨_, rfl⟩
      rw [← hss] at xj hraw
      have HA0 := Aside0.mk (show acc ++ (momS ss ++ (momW (st.ways.drop (i + 1)) ++ q.map (·.f3))) = momAll q st.ways by rw [← HA.out, getD_drop hi, hss]; show _ = acc ++ (momW (_ :: _) ++ _); unfold momW; rw [List.flatMap_cons, List.append_assoc])
      have HSS := Aside0.mk hss
      have HRAW := Aside0.mk hraw
      have hwi : wrap64 ((i : Int) + 1) = ((i + 1 : Nat) : Int) := by have := HWL.out; unfold wrap64; omega
      have HSL := Aside0.mk (show ss.length ≤ 1000000 by have e := congrArg List.length HA0.out; simp only [List.length_append, momS_len] at e; have := HL.out; omega)
      have ea : (⟨aw, 0, none⟩ : Addr).add i = ⟨aw, i, none⟩ := add_plain _ _
      obtain ⟨A0, c0, e0⟩ := Kd.R_slice HR.out
      subst e0
      clear hss hcl hF x7 ev HA hraw
      go_wp2
      clear xj
      go_loopg [3, 21] ss.length (fun kq v3 v21 w' => ∃ (j : Nat) (acc : List Int), v21 = .int .i64 (j : Int) ∧ Aside0 (kq + j = ss.length) ∧ Aside0 (acc ++ (momS (ss.drop j) ++ (momW (st.ways.drop (i + 1)) ++ q.map (·.f3))) = momAll q st.ways) ∧ Aside0 ((Kd.int .i64).R 3 w' W.heap.size (fun _ => True) v3 acc) ∧ Aside0 (Below W.heap.size W w'))
      case atStart => exact ⟨0, acc, rfl, ⟨rfl⟩, HA0, HR, HB⟩
      case round =>
        clear HA0 HR HB
        obtain ⟨j, acc2, rfl, HKj, HA, HR, HB⟩ := hrel
        cases gk with
        | zero =>
          have hj : j = ss.length := by have := HKj.out; omega
          subst hj
          have HA1 := Aside0.mk (show acc2 ++ (momW (st.ways.drop (i + 1)) ++ q.map (·.f3)) = momAll q st.ways by have := HA.out; rw [List.drop_length] at this; exact this)
          obtain ⟨A1, c1, e1⟩ := Kd.R_slice HR.out
          subst e1
          clear HA HKj
          go_wp2
          go_roundg d
          case measure => omega
          case rel => exact ⟨i + 1, acc2, (by first | rfl | (rw [hwi]) | (simp [hwi]; done) | (simp; done)), ⟨by have := HK.out; omega⟩, HA1, HR, HB⟩
        | succ e =>
          have hj : j < ss.length := by have := HKj.out; omega
          have hj0 : (0 : Int) ≤ (j : Int) := by omega
          have hj1 : (j : Int) < (ss.length : Int) := by omega
          have hd2 : decide ((j : Int) < (ss.length : Int)) = true := decide_eq_true hj1
          obtain ⟨_, _, A9, c9, _, _, _, _, _, hraw9, hF9⟩ := (HS.out.below HB.out).way hi
          rw [← HSS.out, HRAW.out] at hraw9
          rw [← HSS.out] at hF9
          have e9 := List.head_eq_of_cons_eq hraw9
          injection e9 with e9 _ e10
          subst e9
          subst e10
          obtain ⟨ads, es, y0, y1, y2⟩ := at_T81 (Kd.F_now hF9) (j : Int) hj0 hj1
          simp only [Int.toNat_natCast] at y0 y1 y2
          obtain ⟨x, hx⟩ : ∃ x, x = rd_T81 ss (j : Int) := ⟨_, rfl⟩
          rw [← hx] at y0 y1 y2
          have HA2 := Aside0.mk (show (acc2 ++ [x.f0, x.f1]) ++ (momS (ss.drop (j + 1)) ++ (momW (st.ways.drop (i + 1)) ++ q.map (·.f3))) = momAll q st.ways by rw [← HA.out, List.append_assoc, List.drop_eq_getElem_cons hj, hx]; unfold rd_T81 momS; rw [Int.toNat_natCast, List.getD_eq_getElem?_getD, List.getElem?_eq_getElem hj, List.flatMap_cons]; rfl)
          have HLA := Aside0.mk (show acc2.length + 2 ≤ 1000000 by have e := congrArg List.length HA2.out; simp only [List.length_append, List.length_cons, List.length_nil] at e; have := HL.out; omega)
          have hwj : wrap64 ((j : Int) + 1) = ((j + 1 : Nat) : Int) := by have := HSL.out; unfold wrap64; omega
          subst es
          obtain ⟨z0, hz0⟩ : ∃ z, z = x.f0 := ⟨_, rfl⟩
          obtain ⟨z1, hz1⟩ : ∃ z, z = x.f1 := ⟨_, rfl⟩
          obtain ⟨z2, hz2⟩ : ∃ z, z = x.f2 := ⟨_, rfl⟩
          rw [← hz0] at y0 HA2
          rw [← hz1] at y1 HA2
          rw [← hz2] at y2
          clear hz0 hz1 hz2 hx HA hF9 hraw9
          obtain ⟨A2, c2, e2⟩ := Kd.R_slice HR.out
          subst e2
          have HWR := Aside0.mk (show wr.heap.size ≤ wr.heap.size from Nat.le_refl _)
          go_wp2_with (first | ((with_reducible refine gate_builtin (b := .append) (xs := #[.tmp 25, .tmp 30]) rfl ?_); at_builtin; go_loud (refine Kd.R_append_rows (Kd.int .i64) (w0 := W) (W := (wr.alloc (.cells #[.int .i64 z0, .int .i64 z1, .int .i64 z2] 81)).alloc (.cells #[.int .i64 z0, .int .i64 z1] 3)) W.heap.size rfl (.tmp 25) (.tmp 30) 35 3 (.int .i64 0) 8 rfl Try.underlying35 info3 rfl (by decide) (by omega) (.slice A2 acc2.length c2) acc2 [z0, z1] (some ⟨((wr.alloc (.cells #[.int .i64 z0, .int .i64 z1, .int .i64 z2] 81))).heap.size, 0, none⟩) 2 2 (fun _ => True) (fun _ => False) rfl (by first | rfl | (go_simp; done) | (simp [World.alloc]; done)) (by (with_reducible repeat (first | exact HR.out | refine Kd.R_alloc ?_ _ | refine Kd.R_drewN ?_ _))) (lit_C _ [z0, z1]) (fun _ _ h => h) (fun _ h => h.elim) (fun _ _ => trivial) d88a (below_size d88a) (by have := HLA.out; simp; omega) ?_); intro vx wx ho hb _ _; have HRx := Aside0.mk ho; have HBx := Aside0.mk hb; clear ho hb))
          go_roundg e
          case measure => omega
          case rel => exact ⟨j + 1, _, (by first | rfl | (rw [hwj]) | (simp [hwj]; done) | (simp; done)), ⟨by have := HKj.out; omega⟩, HA2, HRx, HBx⟩
theorem Apart.nil (u : Value) : Apart (.slice none 0 0) u := fun k hk => by cases hk
theorem Apart.after {v v1 u : Value} {n : Nat} (h : Apart v u) (hu : ∀ k, u.ownBlock = some k → k < n) (hat : v1.ownBlock = v.ownBlock ∨ ∃ b, v1.ownBlock = some b ∧ n ≤ b) : Apart v1 u := fun k hk hc => by
  rcases hat with e | ⟨b, e, hb⟩
  · exact h k (by rw [← e]; exact hk) hc
  · rw [e] at hk
    cases hk
    have := hu _ hc
    omega
/-- A row of whole numbers of the call's own (the call began in W). -/
structure RowX (w0 W W' : World) (v : Value) (xs : List Int) : Prop where
  r : (Kd.int .i64).R 3 W' w0.heap.size (fun _ => True) v xs
  new : ∀ k, v.ownBlock = some k → W.heap.size ≤ k
section
variable {w0 W W1 W2 : World} {g : Nat} {V V1 : SV} {bk : List Int} {q : List S63} {st st2 : SX} {v u v1 : Value} {xs ys : List Int}
theorem RowX.nil (w0 W W' : World) : RowX w0 W W' (.slice none 0 0) [] := ⟨Kd.R_nil _ _ _ _ _, fun k hk => by cases hk⟩
theorem RowX.lt (h : RowX w0 W W1 v xs) : ∀ k, v.ownBlock = some k → k < W1.heap.size := Kd.R_lt h.r
theorem RowX.apart (h : RowX w0 W W1 v xs) (hu : ∀ k, u.ownBlock = some k → k < W.heap.size) : Apart v u := fun k hk hc => by
  have := h.new k hk
  have := hu k hc
  omega
theorem RowX.slice (h : RowX w0 W W1 v xs) : ∃ A c, v = .slice A xs.length c := Kd.R_slice h.r
theorem SndAt.ltS (h : SndAt w0 W g V bk q st) : (∀ k, V.vs.ownBlock = some k → k < W.heap.size) ∧ (∀ k, V.vd.ownBlock = some k → k < W.heap.size) ∧ (∀ k, V.vo.ownBlock = some k → k < W.heap.size) := ⟨Kd.R_lt h.s, Kd.R_lt h.d, Kd.R_lt h.o⟩
/-- What the sender does leaves the call's rows as they are. -/
theorem RowX.sent (hr : RowX w0 W W1 v xs) (h : SndTo w0 W1 g V1 bk q st2 W2) (e1 : V1.vs = V.vs) (e2 : V1.vd = V.vd) (hl : (∀ k, V.vs.ownBlock = some k → k < W.heap.size) ∧ (∀ k, V.vd.ownBlock = some k → k < W.heap.size) ∧ (∀ k, V.vo.ownBlock = some k → k < W.heap.size)) : RowX w0 W W2 v xs := by
  obtain ⟨V2, _, _, _, _, hi⟩ := h
  exact ⟨hi.row hr.r (by rw [e1]; exact hr.apart hl.1) (by rw [e2]; exact hr.apart hl.2.1), hr.new⟩
theorem RowX.below (hr : RowX w0 W W1 v xs) (h : Below W1.heap.size W1 W2) : RowX w0 W W2 v xs := ⟨Kd.R_below hr.r h, hr.new⟩
theorem RowX.other (hr : RowX w0 W W1 v xs) (ha : Apart v u) (hg : W1.grownBy W2 u.ownBlock) : RowX w0 W W2 v xs := ⟨flat_move rfl hr.r (fun k hk => hg.block k (Kd.R_lt hr.r k hk) (fun e => ha k hk e.symm)), hr.new⟩
theorem RowX.appended (hr : RowX w0 W W1 v xs) (h1 : (Kd.int .i64).R 3 W2 w0.heap.size (fun _ => True) v1 ys) (hat : v1.ownBlock = v.ownBlock ∨ ∃ b, v1.ownBlock = some b ∧ W1.heap.size ≤ b) (hs : W.heap.size ≤ W1.heap.size) : RowX w0 W W2 v1 ys := ⟨h1, fun k hk => by
  rcases hat with e | ⟨b, e, hb⟩
  · exact hr.new k (by rw [← e]; exact hk)
  · rw [e] at hk
    cases hk
    omega⟩
theorem SndTo.bel (h : SndTo w0 W g V bk q st W1) : Below w0.heap.size w0 W1 := by obtain ⟨_, h1, _⟩ := h; exact h1.bel
theorem SndTo.lower (h : SndTo w0 W g V bk q st W1) (hb : Below W1.heap.size W1 W2) : SndTo w0 W g V bk q st W2 := by
  obtain ⟨V1, h1, e1, e2, e3, hi⟩ := h
  exact ⟨V1, h1.below hb, e1, e2, e3, hi.trans (IntsBut.below hb)⟩
theorem SndTo.size (h : SndTo w0 W g V bk q st W1) : W.heap.size ≤ W1.heap.size := by obtain ⟨_, _, _, _, _, hi⟩ := h; exact hi.1
/-- A row of the call's own is written: the sender lives on. -/
theorem SndTo.own (h : SndTo w0 W g V bk q st W1) (hr : RowX w0 W W1 v xs) (hl : (∀ k, V.vs.ownBlock = some k → k < W.heap.size) ∧ (∀ k, V.vd.ownBlock = some k → k < W.heap.size) ∧ (∀ k, V.vo.ownBlock = some k → k < W.heap.size)) (hf : W1.grownBy W2 v.ownBlock) : SndTo w0 W g V bk q st W2 := by
  obtain ⟨V1, h1, e1, e2, e3, hi⟩ := h
  have hty : ∀ k, v.ownBlock = some k → isTy 3 W1 k := fun k hk => own_ty hr.r hk
  have other : ∀ {t k}, isTy t W1 k → t ≠ 3 → W2.heap[k]? = W1.heap[k]? := fun {t k} hk ht => hf.block k hk.lt (fun e => hk.ne (hty k e.symm) ht rfl)
  have ints : ∀ {u : Value} {xs : List Int}, (Kd.int .i64).R 3 W1 w0.heap.size (fun _ => True) u xs → Apart v u → (Kd.int .i64).R 3 W2 w0.heap.size (fun _ => True) u xs := fun {u xs} hr' hn => flat_move rfl hr' (fun k hk => hf.block k (own_ty hr' hk).lt (fun e => hn k e.symm hk))
  refine ⟨V1, ⟨(other h1.ty (by decide)).trans h1.hb, h1.hg, h1.bkC, h1.bkc, h1.qC, h1.qc, pw_below_grown h1.bel _ h1.bel.size hf (fun k e => Kd.R_base hr.r k e), ints h1.o (by rw [e3]; exact hr.apart hl.2.2), ints h1.s (by rw [e1]; exact hr.apart hl.1), ints h1.d (by rw [e2]; exact hr.apart hl.2.1), h1.os, h1.od, h1.sd,
    h1.m.kept hf (fun e => h1.mTy (hty _ e.symm) rfl), h1.mg, flat_move rfl h1.r (fun k hk => other (own_ty h1.r hk) (by decide)), flat_move rfl h1.wy (fun k hk => other (own_ty h1.wy hk) (by decide)), h1.wl, ways_move h1.ws (fun k hk => other hk (by decide)), h1.mnl⟩, e1, e2, e3, ?_⟩
  exact ⟨Nat.le_trans hi.1 hf.size, fun k hk h2 h3 => (hf.block k (Nat.lt_of_lt_of_le hk.lt hi.1) (fun e => by
    have := hr.new k e.symm
    have := hk.lt
    omega)).trans (hi.2 k hk h2 h3)⟩
end
def topOK (q : List S63) (st : SX) : Prop := (∀ i ∈ st.ord, 0 ≤ i ∧ i < (q.length : Int)) ∧ st.sent.length = q.length ∧ st.ord.length ≤ 1000000
instance (q : List S63) (st : SX) : Decidable (topOK q st) := by unfold topOK; infer_instance
def giveOK (q : List S63) (st : SX) (item pass : Int) : Prop := (0 ≤ item ∧ item < (q.length : Int)) ∧ st.sent.length = q.length ∧ st.done.length = q.length ∧ (Maps.has st.opn (keyK item pass) = true → 0 ≤ openD st.opn item pass ∧ openD st.opn item pass < (st.rows.length : Int)) ∧ st.rows.length < 1000000000 ∧ (Lit.int .i64 pass).wf = true
instance (q : List S63) (st : SX) (item pass : Int) : Decidable (giveOK q st item pass) := by unfold giveOK; infer_instance
def topV (q : List S63) (st : SX) (at_ : Int) : Int := topGo q st.sent at_ st.ord
def leftV (q : List S63) (st : SX) (i : Int) : Int := wrap64 ((rd_T63 q i).f1 - rd st.sent i)
def stepV (q : List S63) (st : SX) (i at_ to_ all : Int) : Int := mn (wrap64 (to_ - at_)) (wrap64 ((wrap64 (leftV q st i - 1)).tdiv all))
/-- Loop 6: what one pass takes in a millisecond. -/
def serveX (q : List S63) (pass at_ : Int) : Nat → SX → Int → Option SX
  | 0, _, _ => none
  | k + 1, st, left => if left > 0 then (if topOK q st then (if topV q st at_ < 0 then some st else if giveOK q st (topV q st at_) pass then
      serveX q pass at_ k (giveX q st (topV q st at_) pass at_ (wrap64 (at_ + 1)) (mn left (leftV q st (topV q st at_)))) (wrap64 (left - mn left (leftV q st (topV q st at_))))
      else none) else none) else some st
/-- Loop 5. -/
def serveAllX (q : List S63) (k : Nat) (at_ : Int) : List (Int × Int) → SX → Option SX
  | [], st => some st
  | pr :: A, st => (serveX q pr.1 at_ k st pr.2).bind fun st' => serveAllX q k at_ A st'
/-- Loop 4. -/
def giveAllX (q : List S63) (item at_ to_ n : Int) : List (Int × Int) → SX → Option SX
  | [], st => some st
  | pr :: A, st => if giveOK q st item pr.1 then giveAllX q item at_ to_ n A (giveX q st item pr.1 at_ to_ (wrap64 (n * pr.2))) else none
/-- Loop 3: a stretch. -/
def stretchX (q : List S63) (A : List (Int × Int)) (all to_ : Int) : Nat → SX → Int → Option SX
  | 0, _, _ => none
  | k + 1, st, at_ => if at_ < to_ then (if all > 0 then (if topOK q st then (if topV q st at_ < 0 then some st else if topV q st at_ < (q.length : Int) then
      (if stepV q st (topV q st at_) at_ to_ all > 0 then
        (giveAllX q (topV q st at_) at_ (wrap64 (at_ + stepV q st (topV q st at_) at_ to_ all)) (stepV q st (topV q st at_) at_ to_ all) A st).bind fun st' =>
          stretchX q A all to_ k st' (wrap64 (at_ + stepV q st (topV q st at_) at_ to_ all))
      else (serveAllX q k at_ A st).bind fun st' => stretchX q A all to_ k st' (wrap64 (at_ + 1)))
      else none) else none) else some st) else some st
/-- Loop 2: the passes that are open. -/
def openX (from_ : Int) : List Int → Nat → SX → List (Int × Int) → Int → Option (SX × List (Int × Int) × Int)
  | [], _, st, A, all => some (st, A, all)
  | k :: r, j, st, A, all => if j < st.ways.length then (if rateT (popT from_ (st.ways.getD j [])) from_ > 0 then openX from_ r (j + 1) (stW st (st.ways.set j (popT from_ (st.ways.getD j [])))) (A ++ [(k, rateT (popT from_ (st.ways.getD j [])) from_)]) (wrap64 (all + rateT (popT from_ (st.ways.getD j [])) from_))
      else openX from_ r (j + 1) (stW st (st.ways.set j (popT from_ (st.ways.getD j [])))) A all) else none
/-- Loop 1. -/
def runGo (q : List S63) (bk : List Int) (until_ : Int) (k : Nat) (l : List Int) : Nat → Nat → SX → Option SX
  | 0, _, st => some st
  | d + 1, i, st => (openX (rd l (i : Int)) bk 0 st [] 0).bind fun r =>
      (stretchX q r.2.1 r.2.2 (if (i : Int) + 1 < (l.length : Int) then mn until_ (rd l ((i : Int) + 1)) else until_) k r.1 (rd l (i : Int))).bind fun st' => runGo q bk until_ k l d (i + 1) st'
def runX (q : List S63) (bk : List Int) (until_ : Int) (k : Nat) (st : SX) : Option SX :=
  if (momAll q st.ways).length ≤ 1000000 ∧ q.length ≤ 1000000 ∧ st.ways.length ≤ 1000000 ∧ bk.length ≤ 1000000 then runGo q bk until_ k (momV q st.ways) (momV q st.ways).length 0 st else none
theorem rd_map {α : Type} {l : List α} {f : α → Int} {i : Nat} (hi : i < l.length) : rd (l.map f) (i : Int) = f l[i] := by
  unfold rd
  rw [Int.toNat_natCast, List.getD_eq_getElem?_getD, List.getElem?_map, List.getElem?_eq_getElem hi]
  rfl
theorem add_succ (ad : Addr) (n : Nat) : ad.add (n + 1) = ⟨ad.block, ad.off + (n + 1), none⟩ := by
  unfold Addr.add
  rw [if_neg (by omega)]
theorem momV_len (q : List S63) (ways : List (List S81)) : (momV q ways).length ≤ (momAll q ways).length := by
  unfold momV
  exact Nat.le_trans (slices_Compact_int_int.short _) (by rw [(List.mergeSort_perm _ _).length_eq]; exact Nat.le_refl _)
/-- The loops of a code, as they come. -/
def loopsOf : Code → List Code
  | .loop c => .loop c :: loopsOf c
  | .seq a b => loopsOf a ++ loopsOf b
  | .block _ c => loopsOf c
  | .scope c => loopsOf c
  | .cond _ a b => loopsOf a ++ loopsOf b
  | _ => []
noncomputable def L3 : Code := ((Try.f70.body.map loopsOf).getD []).getD 2 .skip
set_option maxHeartbeats 32000000 in
set_option maxRecDepth 1000000 in
theorem loop3 {w0 W wr : World} {g : Nat} {V : SV} {bk : List Int} {q : List S63} {k : Nat} {A0 : List (Int × Int)} {al to_ fr : Int} {stj st9 : SX} {ps rs l : List Int} {adl : Addr} {cl cp cr : Nat} {Ap Ar : Option Addr} {c1 c2 c3 c4 c5 c6 c11 c12 c13 c15 c16 c17 c18 c19 c20 c21 c22 c23 c24 c25 c26 c27 c28 c29 c30 c31 c32 c33 c34 c35 c36 c37 c38 c39 c40 c41 c42 c43 c44 c45 c46 c47 c48 c49 c50 c51 c52 c53 c54 c55 c56 c57 c58 c59 c60 c61 c62 c63 c64 c65 c66 c67 c68 c69 c70 c71 c72 c73 c74 c75 c76 c77 c78 c79 c80 c81 c82 c83 c84 c85 c86 c87 c88 c89 c90 c91 c92 c93 c94 c95 c96 c97 c98 c99 c100 c101 c102 c103 c104 c105 c106 c107 c108 c109 c110 c111 c112 c113 c114 c115 c116 c117 c118 c119 c120 c121 c122 c123 c124 c125 c126 c127 c128 c129 c130 c131 c132 c133 c134 c135 c136 c137 c138 c139 c140 c141 c142 c143 c144 c145 c146 c147 c148 c149 c150 c151 c152 c153 c154 c155 c156 c157 c158 c159 c160 c161 c162 c163 c164 c165 c166 c167 c168 c169 c170 c171 c172 c173 c174 c175 c176 c177 c178 c179 c180 c181 c182 c183 c184 c185 c186 c187 : Value} {Q0 : Exit → Act → World → Prop}
    (HST : Aside0 (stretchX q A0 al to_ k stj fr = some st9)) (HT : Aside0 (SndTo w0 W g V bk q stj wr)) (HR : Aside0 (RowX w0 W wr (.slice (some adl) l.length cl) l)) (HPS : Aside0 (RowX w0 W wr (.slice Ap ps.length cp) ps)) (HRS : Aside0 (RowX w0 W wr (.slice Ar rs.length cr) rs))
    (HPE : Aside0 (ps = List.map (fun x => x.fst) A0)) (HRE : Aside0 (rs = List.map (fun x => x.snd) A0)) (HPL : Aside0 (ps.length = A0.length)) (HRL : Aside0 (rs.length = A0.length)) (HAL : Aside0 (A0.length ≤ 1000000))
    (HL : Aside0 ((∀ (k : Nat), V.vs.ownBlock = some k → k < W.heap.size) ∧ (∀ (k : Nat), V.vd.ownBlock = some k → k < W.heap.size) ∧ ∀ (k : Nat), V.vo.ownBlock = some k → k < W.heap.size)) (HSB : Aside0 (w0.heap.size ≤ W.heap.size)) (HB2 : Aside0 (q.length ≤ 1000000)) (HB4 : Aside0 (bk.length ≤ 1000000))
    (hexit : ∀ (u14 u15 u16 u17 u18 u19 u20 u21 u22 u23 u75 u76 u77 u78 u79 u80 u81 u82 u83 u84 u85 u86 u87 u88 u89 u90 u91 u92 u93 u94 u95 u96 u97 u98 u99 u100 u101 u102 u103 u104 u105 u106 u107 u108 u109 u110 u111 u112 u113 u114 u115 u116 u117 u118 u119 u120 u121 u122 u123 u124 u125 u126 u127 u128 u129 u130 u131 u132 u133 u134 u135 u136 u137 u138 u139 u140 u141 u142 u143 u144 u145 u146 u147 u148 u149 u150 u151 u152 u153 u154 u155 u156 u157 u158 u159 u160 u161 u162 u163 u164 u165 u166 u167 u168 u169 u170 u171 u172 u173 u174 u175 u176 u177 u178 u179 u180 u181 u182 u183 u184 u185 u186 : Value) (w' : World), SndTo w0 W g V bk q st9 w' ∧ RowX w0 W w' (.slice (some adl) l.length cl) l → Q0 (.exit 4) ⟨List.toArray ((.pointer (some ⟨g, 0, none⟩)) :: c1 :: c2 :: c3 :: c4 :: c5 :: c6 :: (.int .i64 to_) :: (.slice Ap ps.length cp) :: (.slice Ar rs.length cr) :: (.int .i64 al) :: c11 :: c12 :: c13 :: u14 :: u15 :: u16 :: u17 :: u18 :: u19 :: u20 :: u21 :: u22 :: u23 :: c24 :: c25 :: c26 :: c27 :: c28 :: c29 :: c30 :: c31 :: c32 :: c33 :: c34 :: c35 :: c36 :: c37 :: c38 :: c39 :: c40 :: c41 :: c42 :: c43 :: c44 :: c45 :: c46 :: c47 :: c48 :: c49 :: c50 :: c51 :: c52 :: c53 :: c54 :: c55 :: c56 :: c57 :: c58 :: c59 :: c60 :: c61 :: c62 :: c63 :: c64 :: c65 :: c66 :: c67 :: c68 :: c69 :: c70 :: c71 :: c72 :: c73 :: c74 :: u75 :: u76 :: u77 :: u78 :: u79 :: u80 :: u81 :: u82 :: u83 :: u84 :: u85 :: u86 :: u87 :: u88 :: u89 :: u90 :: u91 :: u92 :: u93 :: u94 :: u95 :: u96 :: u97 :: u98 :: u99 :: u100 :: u101 :: u102 :: u103 :: u104 :: u105 :: u106 :: u107 :: u108 :: u109 :: u110 :: u111 :: u112 :: u113 :: u114 :: u115 :: u116 :: u117 :: u118 :: u119 :: u120 :: u121 :: u122 :: u123 :: u124 :: u125 :: u126 :: u127 :: u128 :: u129 :: u130 :: u131 :: u132 :: u133 :: u134 :: u135 :: u136 :: u137 :: u138 :: u139 :: u140 :: u141 :: u142 :: u143 :: u144 :: u145 :: u146 :: u147 :: u148 :: u149 :: u150 :: u151 :: u152 :: u153 :: u154 :: u155 :: u156 :: u157 :: u158 :: u159 :: u160 :: u161 :: u162 :: u163 :: u164 :: u165 :: u166 :: u167 :: u168 :: u169 :: u170 :: u171 :: u172 :: u173 :: u174 :: u175 :: u176 :: u177 :: u178 :: u179 :: u180 :: u181 :: u182 :: u183 :: u184 :: u185 :: u186 :: c187 :: []), []⟩ w') :
    Code.wp Try.prog L3 Q0 ⟨List.toArray ((.pointer (some ⟨g, 0, none⟩)) :: c1 :: c2 :: c3 :: c4 :: c5 :: c6 :: (.int .i64 to_) :: (.slice Ap ps.length cp) :: (.slice Ar rs.length cr) :: (.int .i64 al) :: c11 :: c12 :: c13 :: (.int .i64 fr) :: c15 :: c16 :: c17 :: c18 :: c19 :: c20 :: c21 :: c22 :: c23 :: c24 :: c25 :: c26 :: c27 :: c28 :: c29 :: c30 :: c31 :: c32 :: c33 :: c34 :: c35 :: c36 :: c37 :: c38 :: c39 :: c40 :: c41 :: c42 :: c43 :: c44 :: c45 :: c46 :: c47 :: c48 :: c49 :: c50 :: c51 :: c52 :: c53 :: c54 :: c55 :: c56 :: c57 :: c58 :: c59 :: c60 :: c61 :: c62 :: c63 :: c64 :: c65 :: c66 :: c67 :: c68 :: c69 :: c70 :: c71 :: c72 :: c73 :: c74 :: c75 :: c76 :: c77 :: c78 :: c79 :: c80 :: c81 :: c82 :: c83 :: c84 :: c85 :: c86 :: c87 :: c88 :: c89 :: c90 :: c91 :: c92 :: c93 :: c94 :: c95 :: c96 :: c97 :: c98 :: c99 :: c100 :: c101 :: c102 :: c103 :: c104 :: c105 :: c106 :: c107 :: c108 :: c109 :: c110 :: c111 :: c112 :: c113 :: c114 :: c115 :: c116 :: c117 :: c118 :: c119 :: c120 :: c121 :: c122 :: c123 :: c124 :: c125 :: c126 :: c127 :: c128 :: c129 :: c130 :: c131 :: c132 :: c133 :: c134 :: c135 :: c136 :: c137 :: c138 :: c139 :: c140 :: c141 :: c142 :: c143 :: c144 :: c145 :: c146 :: c147 :: c148 :: c149 :: c150 :: c151 :: c152 :: c153 :: c154 :: c155 :: c156 :: c157 :: c158 :: c159 :: c160 :: c161 :: c162 :: c163 :: c164 :: c165 :: c166 :: c167 :: c168 :: c169 :: c170 :: c171 :: c172 :: c173 :: c174 :: c175 :: c176 :: c177 :: c178 :: c179 :: c180 :: c181 :: c182 :: c183 :: c184 :: c185 :: c186 :: c187 :: []), []⟩ wr := by
  conv => arg 2; whnf
  go_loopg [14] k (fun kq3 v14 w' => ∃ (at_ : Int) (st3 : SX), v14 = .int .i64 at_ ∧ Aside0 (stretchX q A0 al to_ kq3 st3 at_ = some st9) ∧ Aside0 (SndTo w0 W g V bk q st3 w') ∧ Aside0 (RowX w0 W w' (.slice (some adl) l.length cl) l) ∧ Aside0 (RowX w0 W w' (.slice Ap ps.length cp) ps) ∧ Aside0 (RowX w0 W w' (.slice Ar rs.length cr) rs))
  case atStart => exact ⟨fr, stj, rfl, HST, HT, HR, HPS, HRS⟩
  case round =>
    clear HT HR HPS HRS HST
    obtain ⟨at_, st3, rfl, HST, HT, HR, HPS, HRS⟩ := hrel
    cases gk with
    | zero => exact absurd HST.out (by unfold stretchX; simp)
    | succ k3 =>
      have H := HST.out
      rw [stretchX.eq_2] at H
      clear HST
      by_cases c1 : at_ < to_
      · have d1 : decide (at_ < to_) = true := decide_eq_true c1
        rw [if_pos c1] at H
        by_cases c2 : al > 0
        · have d2 : decide (0 < al) = true := decide_eq_true c2
          rw [if_pos c2] at H
          obtain ⟨htop, H⟩ := guardT H
          have HTOP := Aside0.mk htop
          clear htop
          obtain ⟨it, hit⟩ : ∃ it, it = topV q st3 at_ := ⟨_, rfl⟩
          rw [← hit] at H
          have HIT := Aside0.mk hit
          clear hit
          by_cases c3 : it < 0
          · have d3 : decide (it < 0) = true := decide_eq_true c3
            rw [if_pos c3] at H
            obtain rfl := Option.some.inj H
            clear H c1 c2 c3
            go_wp2_with (first | (go_at_call 90; go_loud (refine ((HT.out.elim fun V1 h1 => top_calls at_ h1.1 HTOP.out.1 HTOP.out.2.1 HTOP.out.2.2)).mono ?_); rintro e wt ⟨rfl, nqt, rfl⟩; rw [show topGo q st3.sent at_ st3.ord = it from HIT.out.symm]; have hbt := (show Below wr.heap.size wr (wr.drewN nqt) from pw_below_drewN (Below.refl _ _) nqt); have HTt := Aside0.mk (HT.out.lower hbt); have HRt := Aside0.mk (HR.out.below hbt); have HPSt := Aside0.mk (HPS.out.below hbt); have HRSt := Aside0.mk (HRS.out.below hbt); clear hbt))
            exact ⟨HTt.out, HRt.out⟩
          · have d3 : decide (it < 0) = false := decide_eq_false c3
            rw [if_neg c3] at H
            obtain ⟨c4, H⟩ := guardT H
            have b0 : 0 ≤ it := by omega
            have b2 : it < (st3.sent.length : Int) := by have := HTOP.out.2.1; omega
            obtain ⟨n, hn⟩ : ∃ n, n = stepV q st3 it at_ to_ al := ⟨_, rfl⟩
            rw [← hn] at H
            have HNV := Aside0.mk hn
            clear hn
            obtain ⟨z, hz⟩ : ∃ z, z = (rd_T63 q it).f1 := ⟨_, rfl⟩
            obtain ⟨s, hs⟩ : ∃ s, s = rd st3.sent it := ⟨_, rfl⟩
            obtain ⟨aq, cq, x1, y1⟩ : ∃ aq cq, wr.cell? ⟨g, 1, none⟩ = some (.slice (some aq) q.length cq) ∧ wr.cell? ⟨(aq.add (it.toNat * 5)).block, (aq.add (it.toNat * 5)).off + 1, none⟩ = some (.int .i64 z) := (by obtain ⟨V1, h1, _⟩ := HT.out; obtain ⟨ad, ea, _, hy, _⟩ := at_T63 (Kd.C_below h1.qC h1.bel) it b0 c4; have a1 := h1.c1; rw [ea] at a1; rw [← hz] at hy; exact ⟨ad, V1.cq, a1, hy⟩)
            obtain ⟨asn, cs, x3, y3⟩ : ∃ asn cs, wr.cell? ⟨g, 3, none⟩ = some (.slice (some asn) st3.sent.length cs) ∧ wr.cell? (asn.add it.toNat) = some (.int .i64 s) := (by obtain ⟨V1, h1, _⟩ := HT.out; obtain ⟨A, c, _, a2, a3⟩ := h1.c3; obtain ⟨ad, ea, hx⟩ := Kd.at_int a3 it b0 b2; subst ea; rw [← hs] at hx; exact ⟨ad, c, a2, hx⟩)
            have HZ := Aside0.mk hz
            have HSS := Aside0.mk hs
            clear hz hs c3 c1
            have dz : (al == 0) = false := beq_eq_false_iff_ne.mpr (by omega)
            go_wp2_with (first | (go_at_call 90; go_loud (refine ((HT.out.elim fun V1 h1 => top_calls at_ h1.1 HTOP.out.1 HTOP.out.2.1 HTOP.out.2.2)).mono ?_); rintro e wt ⟨rfl, nqt, rfl⟩; rw [show topGo q st3.sent at_ st3.ord = it from HIT.out.symm]; have hbt := (show Below wr.heap.size wr (wr.drewN nqt) from pw_below_drewN (Below.refl _ _) nqt); have HTt := Aside0.mk (HT.out.lower hbt); have HRt := Aside0.mk (HR.out.below hbt); have HPSt := Aside0.mk (HPS.out.below hbt); have HRSt := Aside0.mk (HRS.out.below hbt); clear hbt))
            go_quiet (fail)
            have dm : (if wrap64 ((wrap64 (wrap64 (z - s) - 1)).tdiv al) < wrap64 (to_ - at_) then wrap64 ((wrap64 (wrap64 (z - s) - 1)).tdiv al) else wrap64 (to_ - at_)) = n := by rw [HNV.out, HZ.out, HSS.out]; rfl
            rw [dm]
            clear dm
            have HTq := Aside0.mk (HTt.out.lower (pw_below_drewN (Below.refl _ _) nq))
            have HRq := Aside0.mk (HRt.out.below (pw_below_drewN (Below.refl _ _) nq))
            have HPSq := Aside0.mk (HPSt.out.below (pw_below_drewN (Below.refl _ _) nq))
            have HRSq := Aside0.mk (HRSt.out.below (pw_below_drewN (Below.refl _ _) nq))
            clear HTt HRt HPSt HRSt x1 y1 x3 y3 HT HR HPS HRS
            by_cases hP : n > 0
            · have dP : decide (0 < n) = true := decide_eq_true hP
              rw [if_pos hP] at H
              replace H := Option.bind_eq_some_iff.mp H
              obtain ⟨st5, hga, hrest⟩ := H
              have HGA := Aside0.mk hga
              have HREST := Aside0.mk hrest
              clear hga hrest hP
              go_wp2
              clear dz
              go_loopg [114] A0.length (fun kq4 v114 w' => ∃ (j4 : Nat) (st4 : SX), v114 = .int .i64 (j4 : Int) ∧ Aside0 (kq4 + j4 = A0.length) ∧ Aside0 (giveAllX q it at_ (wrap64 (at_ + n)) n (A0.drop j4) st4 = some st5) ∧ Aside0 (SndTo w0 W g V bk q st4 w') ∧ Aside0 (RowX w0 W w' (.slice (some adl) l.length cl) l) ∧ Aside0 (RowX w0 W w' (.slice Ap ps.length cp) ps) ∧ Aside0 (RowX w0 W w' (.slice Ar rs.length cr) rs))
              case atStart => exact ⟨0, st3, rfl, ⟨rfl⟩, HGA, (by first | exact HTq | (have := HTq; simpa using this)), (by first | exact HRq | (have := HRq; simpa using this)), (by first | exact HPSq | (have := HPSq; simpa using this)), (by first | exact HRSq | (have := HRSq; simpa using this))⟩
              case round =>
                clear HTq HRq HPSq HRSq HGA
                obtain ⟨j4, st4, rfl, HK4, HGA, HT, HR, HPS, HRS⟩ := hrel
                cases gk with
                | zero =>
                  have hj4 : j4 = A0.length := by have := HK4.out; omega
                  subst hj4
                  have H4 := HGA.out
                  rw [List.drop_length] at H4
                  unfold giveAllX at H4
                  obtain rfl := Option.some.inj H4
                  clear H4 HGA HK4
                  have dl : decide ((A0.length : Int) < (ps.length : Int)) = false := decide_eq_false (by have := HPL.out; omega)
                  have dlN : decide (A0.length < ps.length) = false := decide_eq_false (by have := HPL.out; omega)
                  go_wp2
                  go_roundg k3
                  case measure => omega
                  case rel => exact ⟨wrap64 (at_ + n), _, (by first | rfl | (simp; done)), HREST, HT, HR, HPS, HRS⟩
                | succ e4 =>
                  have hj : j4 < A0.length := by have := HK4.out; omega
                  have hp1 : (j4 : Int) < (ps.length : Int) := by have := HPL.out; omega
                  have hr1 : (j4 : Int) < (rs.length : Int) := by have := HRL.out; omega
                  have hj0 : (0 : Int) ≤ (j4 : Int) := by omega
                  have dp1 : decide ((j4 : Int) < (ps.length : Int)) = true := decide_eq_true hp1
                  have dr1 : decide ((j4 : Int) < (rs.length : Int)) = true := decide_eq_true hr1
                  have hwj : wrap64 ((j4 : Int) + 1) = ((j4 + 1 : Nat) : Int) := by have := HAL.out; unfold wrap64; omega
                  obtain ⟨pr, hpr⟩ : ∃ pr, pr = A0[j4] := ⟨_, rfl⟩
                  obtain ⟨adp, eap, xp⟩ := Kd.at_int (Kd.R_reads' HPS.out.r).2.2 (j4 : Int) hj0 hp1
                  obtain ⟨adr, ear, xr⟩ := Kd.at_int (Kd.R_reads' HRS.out.r).2.2 (j4 : Int) hj0 hr1
                  cases eap
                  cases ear
                  rw [show rd ps (j4 : Int) = pr.1 by rw [hpr, HPE.out]; exact rd_map hj] at xp
                  rw [show rd rs (j4 : Int) = pr.2 by rw [hpr, HRE.out]; exact rd_map hj] at xr
                  simp only [Int.toNat_natCast] at xp xr
                  have H4 := HGA.out
                  rw [List.drop_eq_getElem_cons hj, ← hpr, giveAllX.eq_2] at H4
                  obtain ⟨hgo, H4⟩ := guardT H4
                  have HGO := Aside0.mk hgo
                  have HGA2 := Aside0.mk H4
                  clear hpr hgo H4 HGA
                  obtain ⟨p1, hp1_⟩ : ∃ p1, p1 = pr.1 := ⟨_, rfl⟩
                  obtain ⟨p2, hp2_⟩ : ∃ p2, p2 = pr.2 := ⟨_, rfl⟩
                  rw [← hp1_] at xp HGO HGA2
                  rw [← hp2_] at xr HGA2
                  clear hp1_ hp2_
                  go_wp2_with (first | (go_at_call 91; go_loud (refine (HT.out.elim fun V1 h1 => (give_calls it p1 at_ (wrap64 (at_ + n)) (wrap64 (n * p2)) h1.1 HGO.out.1 HGO.out.2.1 HGO.out.2.2.1 HB2.out HGO.out.2.2.2.2.2 HGO.out.2.2.2.1 HGO.out.2.2.2.2.1).mono (fun e w' hh => And.intro hh.1 (And.intro (SndTo.trans h1.2.1 h1.2.2.1 h1.2.2.2.1 h1.2.2.2.2 hh.2) (fun (v : Value) (xs : List Int) (hx : RowX w0 W wr v xs) => RowX.sent hx hh.2 h1.2.1 h1.2.2.1 HL.out)))).mono ?_); rintro e w5 ⟨rfl, hs5, hrow⟩; have HT5 := Aside0.mk hs5; have HR5 := Aside0.mk (hrow _ _ HR.out); have HPS5 := Aside0.mk (hrow _ _ HPS.out); have HRS5 := Aside0.mk (hrow _ _ HRS.out); clear hs5 hrow HT HR HPS HRS))
                  go_roundg e4
                  case measure => omega
                  case rel => exact ⟨j4 + 1, _, (by first | rfl | (rw [hwj]) | (simp [hwj]; done) | (simp; done)), ⟨by have := HK4.out; omega⟩, HGA2, HT5, HR5, HPS5, HRS5⟩
            · have dP : decide (0 < n) = false := decide_eq_false hP
              rw [if_neg hP] at H
              replace H := Option.bind_eq_some_iff.mp H
              obtain ⟨st5, hsa, hrest⟩ := H
              have HSA := Aside0.mk hsa
              have HREST := Aside0.mk hrest
              clear hsa hrest hP
              go_wp2
              clear dz
              go_loopg [139] A0.length (fun kq5 v139 w' => ∃ (j5 : Nat) (st4 : SX), v139 = .int .i64 (j5 : Int) ∧ Aside0 (kq5 + j5 = A0.length) ∧ Aside0 (serveAllX q k3 at_ (A0.drop j5) st4 = some st5) ∧ Aside0 (SndTo w0 W g V bk q st4 w') ∧ Aside0 (RowX w0 W w' (.slice (some adl) l.length cl) l) ∧ Aside0 (RowX w0 W w' (.slice Ap ps.length cp) ps) ∧ Aside0 (RowX w0 W w' (.slice Ar rs.length cr) rs))
              case atStart => exact ⟨0, st3, rfl, ⟨rfl⟩, HSA, (by first | exact HTq | (have := HTq; simpa using this)), (by first | exact HRq | (have := HRq; simpa using this)), (by first | exact HPSq | (have := HPSq; simpa using this)), (by first | exact HRSq | (have := HRSq; simpa using this))⟩
              case round =>
                clear HTq HRq HPSq HRSq HSA
                obtain ⟨j5, st4, rfl, HK5, HSA, HT, HR, HPS, HRS⟩ := hrel
                cases gk with
                | zero =>
                  have hj5 : j5 = A0.length := by have := HK5.out; omega
                  subst hj5
                  have H4 := HSA.out
                  rw [List.drop_length] at H4
                  unfold serveAllX at H4
                  obtain rfl := Option.some.inj H4
                  clear H4 HSA HK5
                  have dl : decide ((A0.length : Int) < (ps.length : Int)) = false := decide_eq_false (by have := HPL.out; omega)
                  have dlN : decide (A0.length < ps.length) = false := decide_eq_false (by have := HPL.out; omega)
                  go_wp2
                  go_roundg k3
                  case measure => omega
                  case rel => exact ⟨wrap64 (at_ + 1), _, (by first | rfl | (simp; done)), HREST, HT, HR, HPS, HRS⟩
                | succ e5 =>
                  have hj : j5 < A0.length := by have := HK5.out; omega
                  have hp1 : (j5 : Int) < (ps.length : Int) := by have := HPL.out; omega
                  have hr1 : (j5 : Int) < (rs.length : Int) := by have := HRL.out; omega
                  have hj0 : (0 : Int) ≤ (j5 : Int) := by omega
                  have dp1 : decide ((j5 : Int) < (ps.length : Int)) = true := decide_eq_true hp1
                  have dr1 : decide ((j5 : Int) < (rs.length : Int)) = true := decide_eq_true hr1
                  have hwj : wrap64 ((j5 : Int) + 1) = ((j5 + 1 : Nat) : Int) := by have := HAL.out; unfold wrap64; omega
                  obtain ⟨pr, hpr⟩ : ∃ pr, pr = A0[j5] := ⟨_, rfl⟩
                  obtain ⟨adp, eap, xp⟩ := Kd.at_int (Kd.R_reads' HPS.out.r).2.2 (j5 : Int) hj0 hp1
                  obtain ⟨adr, ear, xr⟩ := Kd.at_int (Kd.R_reads' HRS.out.r).2.2 (j5 : Int) hj0 hr1
                  cases eap
                  cases ear
                  rw [show rd ps (j5 : Int) = pr.1 by rw [hpr, HPE.out]; exact rd_map hj] at xp
                  rw [show rd rs (j5 : Int) = pr.2 by rw [hpr, HRE.out]; exact rd_map hj] at xr
                  simp only [Int.toNat_natCast] at xp xr
                  have H4 := HSA.out
                  rw [List.drop_eq_getElem_cons hj, ← hpr, serveAllX.eq_2] at H4
                  replace H4 := Option.bind_eq_some_iff.mp H4
                  obtain ⟨st8, hsv, H4⟩ := H4
                  have HSV := Aside0.mk hsv
                  have HSA2 := Aside0.mk H4
                  clear hpr hsv H4 HSA
                  obtain ⟨p1, hp1_⟩ : ∃ p1, p1 = pr.1 := ⟨_, rfl⟩
                  obtain ⟨p2, hp2_⟩ : ∃ p2, p2 = pr.2 := ⟨_, rfl⟩
                  rw [← hp1_] at xp HSV
                  rw [← hp2_] at xr HSV
                  clear hp1_ hp2_
                  go_wp2
                  clear xp xr
                  go_loopg [21] k3 (fun kq6 v21 w' => ∃ (left : Int) (st7 : SX), v21 = .int .i64 left ∧ Aside0 (serveX q p1 at_ kq6 st7 left = some st8) ∧ Aside0 (SndTo w0 W g V bk q st7 w') ∧ Aside0 (RowX w0 W w' (.slice (some adl) l.length cl) l) ∧ Aside0 (RowX w0 W w' (.slice (some adp) ps.length cp) ps) ∧ Aside0 (RowX w0 W w' (.slice (some adr) rs.length cr) rs))
                  case atStart => exact ⟨p2, st4, rfl, HSV, HT, HR, HPS, HRS⟩
                  case round =>
                    clear HT HR HPS HRS HSV
                    obtain ⟨left, st7, rfl, HSV, HT, HR, HPS, HRS⟩ := hrel
                    cases gk with
                    | zero => exact absurd HSV.out (by unfold serveX; simp)
                    | succ k6 =>
                      have H := HSV.out
                      rw [serveX.eq_2] at H
                      clear HSV
                      by_cases c1 : left > 0
                      · have d1b : decide (0 < left) = true := decide_eq_true c1
                        rw [if_pos c1] at H
                        obtain ⟨htop, H⟩ := guardT H
                        have HTOP2 := Aside0.mk htop
                        clear htop
                        obtain ⟨it2, hit⟩ : ∃ it, it = topV q st7 at_ := ⟨_, rfl⟩
                        rw [← hit] at H
                        have HIT2 := Aside0.mk hit
                        clear hit
                        by_cases c3 : it2 < 0
                        · have d3b : decide (it2 < 0) = true := decide_eq_true c3
                          rw [if_pos c3] at H
                          obtain rfl := Option.some.inj H
                          clear H c1 c3
                          go_wp2_with (first | (go_at_call 90; go_loud (refine ((HT.out.elim fun V1 h1 => top_calls at_ h1.1 HTOP2.out.1 HTOP2.out.2.1 HTOP2.out.2.2)).mono ?_); rintro e wt ⟨rfl, nqt2, rfl⟩; rw [show topGo q st7.sent at_ st7.ord = it2 from HIT2.out.symm]; have hbt := (show Below wr.heap.size wr (wr.drewN nqt2) from pw_below_drewN (Below.refl _ _) nqt2); have HTt2 := Aside0.mk (HT.out.lower hbt); have HRt2 := Aside0.mk (HR.out.below hbt); have HPSt2 := Aside0.mk (HPS.out.below hbt); have HRSt2 := Aside0.mk (HRS.out.below hbt); clear hbt))
                          go_roundg e5
                          case measure => omega
                          case rel => exact ⟨j5 + 1, _, (by first | rfl | (rw [hwj]) | (simp [hwj]; done) | (simp; done)), ⟨by have := HK5.out; omega⟩, HSA2, HTt2, HRt2, HPSt2, HRSt2⟩
                        · have d3b : decide (it2 < 0) = false := decide_eq_false c3
                          rw [if_neg c3] at H
                          obtain ⟨hgo, H⟩ := guardT H
                          obtain ⟨n2, hn2⟩ : ∃ n2, n2 = mn left (leftV q st7 it2) := ⟨_, rfl⟩
                          rw [← hn2] at H
                          have HN2 := Aside0.mk hn2
                          have HSV2 := Aside0.mk H
                          have HGO := Aside0.mk hgo
                          have b0 : 0 ≤ it2 := by omega
                          have c4 : it2 < (q.length : Int) := hgo.1.2
                          have b2 : it2 < (st7.sent.length : Int) := by have := hgo.2.1; omega
                          clear hn2 H hgo c1 c3
                          obtain ⟨z2, hz⟩ : ∃ z, z = (rd_T63 q it2).f1 := ⟨_, rfl⟩
                          obtain ⟨s2, hs⟩ : ∃ s, s = rd st7.sent it2 := ⟨_, rfl⟩
                          obtain ⟨aq, cq, x1, y1⟩ : ∃ aq cq, wr.cell? ⟨g, 1, none⟩ = some (.slice (some aq) q.length cq) ∧ wr.cell? ⟨(aq.add (it2.toNat * 5)).block, (aq.add (it2.toNat * 5)).off + 1, none⟩ = some (.int .i64 z2) := (by obtain ⟨V1, h1, _⟩ := HT.out; obtain ⟨ad, ea, _, hy, _⟩ := at_T63 (Kd.C_below h1.qC h1.bel) it2 b0 c4; have a1 := h1.c1; rw [ea] at a1; rw [← hz] at hy; exact ⟨ad, V1.cq, a1, hy⟩)
                          obtain ⟨asn, cs, x3, y3⟩ : ∃ asn cs, wr.cell? ⟨g, 3, none⟩ = some (.slice (some asn) st7.sent.length cs) ∧ wr.cell? (asn.add it2.toNat) = some (.int .i64 s2) := (by obtain ⟨V1, h1, _⟩ := HT.out; obtain ⟨A, c, _, a2, a3⟩ := h1.c3; obtain ⟨ad, ea, hx⟩ := Kd.at_int a3 it2 b0 b2; subst ea; rw [← hs] at hx; exact ⟨ad, c, a2, hx⟩)
                          have HZ2 := Aside0.mk hz
                          have HSS2 := Aside0.mk hs
                          clear hz hs
                          go_wp2_with (first | (go_at_call 90; go_loud (refine ((HT.out.elim fun V1 h1 => top_calls at_ h1.1 HTOP2.out.1 HTOP2.out.2.1 HTOP2.out.2.2)).mono ?_); rintro e wt ⟨rfl, nqt2, rfl⟩; rw [show topGo q st7.sent at_ st7.ord = it2 from HIT2.out.symm]; have hbt := (show Below wr.heap.size wr (wr.drewN nqt2) from pw_below_drewN (Below.refl _ _) nqt2); have HTt2 := Aside0.mk (HT.out.lower hbt); have HRt2 := Aside0.mk (HR.out.below hbt); have HPSt2 := Aside0.mk (HPS.out.below hbt); have HRSt2 := Aside0.mk (HRS.out.below hbt); clear hbt))
                          go_quiet (fail)
                          have dm2 : (if wrap64 (z2 - s2) < left then wrap64 (z2 - s2) else left) = n2 := by rw [HN2.out, HZ2.out, HSS2.out]; rfl
                          rw [dm2]
                          clear dm2
                          obtain ⟨wz, hwz⟩ : ∃ wz, wz = wr.drewN (nqt2 + nq) := ⟨_, rfl⟩
                          have HTz := Aside0.mk (show SndTo w0 W g V bk q st7 wz by rw [hwz]; exact HT.out.lower (pw_below_drewN (Below.refl _ _) _))
                          have HRz := Aside0.mk (show RowX w0 W wz (.slice (some adl) l.length cl) l by rw [hwz]; exact HR.out.below (pw_below_drewN (Below.refl _ _) _))
                          have HPSz := Aside0.mk (show RowX w0 W wz (.slice (some adp) ps.length cp) ps by rw [hwz]; exact HPS.out.below (pw_below_drewN (Below.refl _ _) _))
                          have HRSz := Aside0.mk (show RowX w0 W wz (.slice (some adr) rs.length cr) rs by rw [hwz]; exact HRS.out.below (pw_below_drewN (Below.refl _ _) _))
                          rw [show (wr.drewN nqt2).drewN nq = wr.drewN (nqt2 + nq) from World.drewN_drewN _ _ _, ← hwz]
                          clear hwz HTt2 HRt2 HPSt2 HRSt2 HT HR HPS HRS x1 y1 x3 y3
                          go_wp2_with (first | (go_at_call 91; go_loud (refine (HTz.out.elim fun V1 h1 => (give_calls it2 p1 at_ (wrap64 (at_ + 1)) n2 h1.1 HGO.out.1 HGO.out.2.1 HGO.out.2.2.1 HB2.out HGO.out.2.2.2.2.2 HGO.out.2.2.2.1 HGO.out.2.2.2.2.1).mono (fun e w' hh => And.intro hh.1 (And.intro (SndTo.trans h1.2.1 h1.2.2.1 h1.2.2.2.1 h1.2.2.2.2 hh.2) (fun (v : Value) (xs : List Int) (hx : RowX w0 W wz v xs) => RowX.sent hx hh.2 h1.2.1 h1.2.2.1 HL.out)))).mono ?_); rintro e w5 ⟨rfl, hs5, hrow⟩; have HT5 := Aside0.mk hs5; have HR5 := Aside0.mk (hrow _ _ HRz.out); have HPS5 := Aside0.mk (hrow _ _ HPSz.out); have HRS5 := Aside0.mk (hrow _ _ HRSz.out); clear hs5 hrow HTz HRz HPSz HRSz))
                          go_roundg k6
                          case measure => omega
                          case rel => exact ⟨wrap64 (left - n2), _, (by first | rfl | (simp; done)), HSV2, HT5, HR5, HPS5, HRS5⟩
                      · have d1b : decide (0 < left) = false := decide_eq_false c1
                        rw [if_neg c1] at H
                        obtain rfl := Option.some.inj H
                        clear H c1
                        go_wp2
                        go_roundg e5
                        case measure => omega
                        case rel => exact ⟨j5 + 1, _, (by first | rfl | (rw [hwj]) | (simp [hwj]; done) | (simp; done)), ⟨by have := HK5.out; omega⟩, HSA2, HT, HR, HPS, HRS⟩
        · have d2 : decide (0 < al) = false := decide_eq_false c2
          rw [if_neg c2] at H
          obtain rfl := Option.some.inj H
          clear H c1 c2
          go_wp2
          exact ⟨HT.out, HR.out⟩
      · have d1 : decide (at_ < to_) = false := decide_eq_false c1
        rw [if_neg c1] at H
        obtain rfl := Option.some.inj H
        clear H c1
        go_wp2
        exact ⟨HT.out, HR.out⟩
set_option maxHeartbeats 32000000 in
set_option maxRecDepth 100000 in
theorem run_calls {w0 W : World} {g : Nat} {V : SV} {bk : List Int} {q : List S63} {st : SX} (until_ : Int) (k : Nat) (r : SX) (h : SndAt w0 W g V bk q st) (hr : runX q bk until_ k st = some r) :
    Calls Try.prog 70 #[.pointer (some ⟨g, 0, none⟩), .int .i64 until_] W fun e w' => e = .returned (.tuple #[]) ∧ SndTo w0 W g V bk q r w' := by
  unfold runX at hr
  obtain ⟨⟨b1, b2, b3, b4⟩, hr⟩ := guardT hr
  have HL := Aside0.mk h.ltS
  have HSB := Aside0.mk h.bel.size
  have HS := Aside0.mk h
  have HB1 := Aside0.mk b1
  have HB2 := Aside0.mk b2
  have HB3 := Aside0.mk b3
  have HB4 := Aside0.mk b4
  obtain ⟨l, hl⟩ : ∃ l, l = momV q st.ways := ⟨_, rfl⟩
  rw [← hl] at hr
  have HLL := Aside0.mk hl
  have hlb : l.length ≤ 1000000 := by rw [hl]; exact Nat.le_trans (momV_len q st.ways) b1
  have H' := Aside0.mk hr
  clear h hr b1 b2 b3 b4 hl
  go_enter Try.func70, Try.ntmps70
  go_wp2_with (first | (go_at_call 88; go_loud (refine (moments_calls HS.out HB1.out HB2.out HB3.out).mono ?_); rintro e w1 ⟨vl, rfl, hrl, hb⟩; rw [← HLL.out] at hrl; have HT1 := Aside0.mk (show SndTo w0 W g V bk q st w1 from ⟨V, HS.out.below hb, rfl, rfl, rfl, IntsBut.below hb⟩); have HR1 := Aside0.mk (show RowX w0 W w1 vl l from ⟨Kd.R_lower hrl HSB.out, Kd.R_base hrl⟩); clear hrl hb; obtain ⟨Al, cl, el⟩ := HR1.out.slice; subst el))
  go_loopg [28] l.length (fun kq v28 w' => ∃ (i : Nat) (st1 : SX), v28 = .int .i64 (i : Int) ∧ Aside0 (kq + i = l.length) ∧ Aside0 (runGo q bk until_ k l kq i st1 = some r) ∧ Aside0 (SndTo w0 W g V bk q st1 w') ∧ Aside0 (RowX w0 W w' (.slice Al l.length cl) l))
  case atStart => exact ⟨0, st, rfl, ⟨rfl⟩, H', HT1, HR1⟩
  case round =>
    clear HT1 HR1 H'
    obtain ⟨i, st1, rfl, HK, HA, HT, HR⟩ := hrel
    cases gk with
    | zero =>
      have hi : i = l.length := by have := HK.out; omega
      subst hi
      have H := HA.out
      unfold runGo at H
      obtain rfl := Option.some.inj H
      clear H HA HK
      go_wp2
      go_end0
      exact ⟨rfl, HT.out⟩
    | succ d =>
      have hi : i < l.length := by have := HK.out; omega
      have hi0 : (0 : Int) ≤ (i : Int) := by omega
      have hi1 : (i : Int) < (l.length : Int) := by omega
      have hd1 : decide ((i : Int) < (l.length : Int)) = true := decide_eq_true hi1
      have hwi : wrap64 ((i : Int) + 1) = ((i + 1 : Nat) : Int) := by unfold wrap64; omega
      obtain ⟨to_, hto⟩ : ∃ to_, to_ = if (i : Int) + 1 < (l.length : Int) then mn until_ (rd l ((i : Int) + 1)) else until_ := ⟨_, rfl⟩
      obtain ⟨fr, hfr⟩ : ∃ fr, fr = rd l (i : Int) := ⟨_, rfl⟩
      have H := HA.out
      unfold runGo at H
      rw [← hto, ← hfr] at H
      have HTO := Aside0.mk hto
      have H2 := Aside0.mk H
      obtain ⟨adl, ea, x0⟩ := Kd.at_int (Kd.R_reads' HR.out.r).2.2 (i : Int) hi0 hi1
      cases ea
      rw [← hfr] at x0
      simp only [Int.toNat_natCast] at x0
      clear hto hfr H HA
      go_upto_if 38 with (fail)
      go_cut [7] (fun v7 wx => v7 = .int .i64 to_ ∧ Aside0 (SndTo w0 W g V bk q st1 wx) ∧ Aside0 (RowX w0 W wx (.slice (some adl) l.length cl) l))
      case first =>
        by_cases hN : (i : Int) + 1 < (l.length : Int)
        · have dN : decide ((i : Int) + 1 < (l.length : Int)) = true := decide_eq_true hN
          obtain ⟨_, ea, x1⟩ := Kd.at_int (Kd.R_reads' HR.out.r).2.2 ((i : Int) + 1) (by omega) hN
          cases ea
          rw [show ((i : Int) + 1).toNat = i + 1 by omega, add_succ] at x1
          obtain ⟨nx, hnx⟩ : ∃ nx, nx = rd l ((i : Int) + 1) := ⟨_, rfl⟩
          rw [← hnx] at x1
          have HNX := Aside0.mk hnx
          clear hnx
          have dM : (if nx < until_ then nx else until_) = to_ := by rw [HTO.out, if_pos hN, ← HNX.out]; rfl
          go_wp2
          go_meet
          exact ⟨rfl, HT, HR⟩
        · have dN : decide ((i : Int) + 1 < (l.length : Int)) = false := decide_eq_false hN
          have HE := Aside0.mk (show to_ = until_ by rw [HTO.out, if_neg hN])
          go_wp2
          go_meet
          exact ⟨by rw [HE.out], HT, HR⟩
      case rest =>
        clear HT HR x0 HTO hwi
        obtain ⟨rfl, HT, HR⟩ := hcut
        clear hd1 hi1 hi0
        obtain ⟨Ab, cb, hx0⟩ : ∃ Ab cb, Aside0 (wc.cell? ⟨g, 0, none⟩ = some (.slice Ab bk.length cb)) ∧ Aside0 ((Kd.int .i64).C w0 Ab bk.length bk) := by obtain ⟨V1, h1, _⟩ := HT.out; exact ⟨V1.Ab, V1.cb, ⟨h1.c0⟩, ⟨h1.bkC⟩⟩
        have x0 := hx0.1.out
        have HBKC := hx0.2
        clear hx0
        replace H := Option.bind_eq_some_iff.mp H2.out
        obtain ⟨⟨st2, A, all⟩, hop, H⟩ := H
        replace H := Option.bind_eq_some_iff.mp H
        obtain ⟨st9, hst, H⟩ := H
        have HOP := Aside0.mk hop
        have HST := Aside0.mk (show stretchX q A all to_ k st2 fr = some st9 from hst)
        have HRUN := Aside0.mk H
        clear hop hst H H2
        go_wp2
        clear x0
        go_loopg [8, 9, 10, 51] bk.length (fun kq2 v8 v9 v10 v51 w' => ∃ (j : Nat) (stj : SX) (ps rs : List Int) (al : Int), v51 = .int .i64 (j : Int) ∧ v10 = .int .i64 al ∧ Aside0 (kq2 + j = bk.length) ∧ Aside0 (ps.length ≤ j ∧ rs.length ≤ j) ∧ Aside0 (∃ A0, ps = A0.map (·.1) ∧ rs = A0.map (·.2) ∧ openX fr (bk.drop j) j stj A0 al = some (st2, A, all)) ∧ Aside0 (SndTo w0 W g V bk q stj w') ∧ Aside0 (RowX w0 W w' (.slice (some adl) l.length cl) l) ∧ Aside0 (RowX w0 W w' v8 ps) ∧ Aside0 (RowX w0 W w' v9 rs) ∧ Aside0 (Apart v8 v9 ∧ Apart v8 (.slice (some adl) l.length cl) ∧ Apart v9 (.slice (some adl) l.length cl) ∧ Apart (.slice (some adl) l.length cl) v8 ∧ Apart (.slice (some adl) l.length cl) v9))
        case atStart => exact ⟨0, st1, [], [], 0, rfl, rfl, ⟨rfl⟩, ⟨Nat.le_refl _, Nat.le_refl _⟩, ⟨[], rfl, rfl, HOP.out⟩, HT, HR, ⟨RowX.nil _ _ _⟩, ⟨RowX.nil _ _ _⟩, ⟨Apart.nil _, Apart.nil _, Apart.nil _, Apart.symm (Apart.nil _), Apart.symm (Apart.nil _)⟩⟩
        case round =>
          clear HT HR HOP
          obtain ⟨j, stj, ps, rs, al, rfl, rfl, HKJ, HLE, HOP, HT, HR, HPS, HRS, HAP⟩ := hrel
          cases gk with
          | zero =>
            have hj : j = bk.length := by have := HKJ.out; omega
            subst hj
            obtain ⟨A0, hps, hrs, ho⟩ := HOP.out
            rw [List.drop_length] at ho
            unfold openX at ho
            injection ho with ho
            injection ho with e1 e2
            injection e2 with e2 e3
            obtain rfl := e1
            obtain rfl := e2
            obtain rfl := e3
            have HPE := Aside0.mk hps
            have HRE := Aside0.mk hrs
            have HPL := Aside0.mk (show ps.length = A0.length by rw [hps, List.length_map])
            have HRL := Aside0.mk (show rs.length = A0.length by rw [hrs, List.length_map])
            clear hps hrs HOP HKJ HAP
            have HAL := Aside0.mk (show A0.length ≤ 1000000 by rw [← HPL.out]; have := HLE.out.1; have := HB4.out; omega)
            obtain ⟨Ap, cp, ep⟩ := HPS.out.slice
            subst ep
            obtain ⟨Ar, cr, er⟩ := HRS.out.slice
            subst er
            clear HBKC HLE
            go_wp2
            refine loop3 HST HT HR HPS HRS HPE HRE HPL HRL HAL HL HSB HB2 HB4 ?_
            clear HT HR HPS HRS HST
            intro u14 u15 u16 u17 u18 u19 u20 u21 u22 u23 u75 u76 u77 u78 u79 u80 u81 u82 u83 u84 u85 u86 u87 u88 u89 u90 u91 u92 u93 u94 u95 u96 u97 u98 u99 u100 u101 u102 u103 u104 u105 u106 u107 u108 u109 u110 u111 u112 u113 u114 u115 u116 u117 u118 u119 u120 u121 u122 u123 u124 u125 u126 u127 u128 u129 u130 u131 u132 u133 u134 u135 u136 u137 u138 u139 u140 u141 u142 u143 u144 u145 u146 u147 u148 u149 u150 u151 u152 u153 u154 u155 u156 u157 u158 u159 u160 u161 u162 u163 u164 u165 u166 u167 u168 u169 u170 u171 u172 u173 u174 u175 u176 u177 u178 u179 u180 u181 u182 u183 u184 u185 u186 wz hz
            have HT := Aside0.mk hz.1
            have HR := Aside0.mk hz.2
            clear hz
            go_wp2
            go_roundg d
            case measure => omega
            case rel => exact ⟨i + 1, _, (by first | rfl | (simp; done)), ⟨by have := HK.out; omega⟩, HRUN, HT, HR⟩
          | succ e =>
            have hj : j < bk.length := by have := HKJ.out; omega
            have hj0 : (0 : Int) ≤ (j : Int) := by omega
            have hj1 : (j : Int) < (bk.length : Int) := by omega
            have hd2 : decide ((j : Int) < (bk.length : Int)) = true := decide_eq_true hj1
            have hwj : wrap64 ((j : Int) + 1) = ((j + 1 : Nat) : Int) := by have := HB4.out; unfold wrap64; omega
            have HJ := Aside0.mk hj
            obtain ⟨A0, hps, hrs, ho⟩ := HOP.out
            rw [List.drop_eq_getElem_cons hj, openX.eq_2] at ho
            obtain ⟨hjw, ho2⟩ := guardT ho
            clear ho
            obtain ⟨kk, hkk⟩ : ∃ kk, kk = bk[j] := ⟨_, rfl⟩
            obtain ⟨ss, hss⟩ : ∃ ss, ss = stj.ways.getD j [] := ⟨_, rfl⟩
            obtain ⟨nn, hnn⟩ : ∃ nn, nn = rateT (popT fr ss) fr := ⟨_, rfl⟩
            obtain ⟨stk, hsk⟩ : ∃ stk, stk = stW stj (stj.ways.set j (popT fr ss)) := ⟨_, rfl⟩
            rw [← hkk, ← hss, ← hnn, ← hsk] at ho2
            obtain ⟨V1, h1, e1, e2, e3, hib⟩ := HT.out
            obtain ⟨adb, eab, xb⟩ := Kd.at_int (Kd.C_below HBKC.out h1.bel) (j : Int) hj0 hj1
            cases eab
            rw [rd_of hj, ← hkk] at xb
            simp only [Int.toNat_natCast] at xb
            obtain ⟨Ap, cp, ep⟩ := HPS.out.slice
            subst ep
            obtain ⟨Ar, cr, er⟩ := HRS.out.slice
            subst er
            have HJW := Aside0.mk hjw
            have HSS := Aside0.mk hss
            have HN := Aside0.mk hnn
            have HSK := Aside0.mk hsk
            have HE1 := Aside0.mk (show V1.vs = V.vs ∧ V1.vd = V.vd ∧ V1.vo = V.vo ∧ IntsBut V W wr from ⟨e1, e2, e3, hib⟩)
            have HPE := Aside0.mk hps
            have HRE := Aside0.mk hrs
            have HO := Aside0.mk ho2
            clear ho2
            clear hkk hss hnn hsk hjw e1 e2 e3 hib hps hrs HOP
            by_cases hP : nn > 0
            · have dP : decide (0 < nn) = true := decide_eq_true hP
              have H3 := HO.out
              rw [if_pos hP] at H3
              have HO3 := Aside0.mk H3
              clear H3 HO hP
              go_wp2_with (first | (go_at_call 89; go_loud (refine (rate_calls j fr ss h1 HJW.out HSS.out.symm).mono ?_); rintro e w2 ⟨rfl, hs2⟩; rw [← HN.out]; have HT2 := Aside0.mk (show SndTo w0 W g V bk q stk w2 by rw [HSK.out]; exact SndTo.trans HE1.out.1 HE1.out.2.1 HE1.out.2.2.1 HE1.out.2.2.2 hs2); have HR2 := Aside0.mk (HR.out.sent hs2 HE1.out.1 HE1.out.2.1 HL.out); have HPS2 := Aside0.mk (HPS.out.sent hs2 HE1.out.1 HE1.out.2.1 HL.out); have HRS2 := Aside0.mk (HRS.out.sent hs2 HE1.out.1 HE1.out.2.1 HL.out); clear hs2 h1 HE1 HT HR HPS HRS) | ((with_reducible refine gate_builtin (b := .append) (xs := #[.tmp 62, .tmp 64]) rfl ?_); at_builtin; go_loud (refine Kd.R_append (Kd.int .i64) (w0 := w0) (W := w2) w0.heap.size rfl (.tmp 62) (.tmp 64) 35 3 (.int .i64 0) 8 rfl Try.underlying35 info3 rfl (by decide) (by omega) (.slice Ap ps.length cp) ps (kk : Int) [.int .i64 kk] (fun _ => True) (fun _ => False) rfl (by first | rfl | (go_simp; done) | (simp [World.alloc]; done)) (show Kd.M (Kd.int .i64) _ _ _ kk [.int .i64 kk] from rfl) (fun _ h => h.elim) (fun _ _ => trivial) HPS2.out.r HT2.out.bel HT2.out.bel.size (by have := HLE.out; have := HB4.out; have := HJ.out; omega) ?_); go_loud (intro v8b w3 ho hb hf hat; have HT3 := Aside0.mk (HT2.out.own HPS2.out HL.out hf); have HR3 := Aside0.mk (HR2.out.other HAP.out.2.2.2.1 hf); have HRS3 := Aside0.mk (HRS2.out.other (Apart.symm HAP.out.1) hf); have HPS3 := Aside0.mk (HPS2.out.appended ho hat HT2.out.size); have HAP3 := Aside0.mk (show Apart v8b (.slice Ar rs.length cr) ∧ Apart v8b (.slice (some adl) l.length cl) ∧ Apart (.slice Ar rs.length cr) (.slice (some adl) l.length cl) ∧ Apart (.slice (some adl) l.length cl) v8b ∧ Apart (.slice (some adl) l.length cl) (.slice Ar rs.length cr) from ⟨Apart.after HAP.out.1 HRS2.out.lt hat, Apart.after HAP.out.2.1 HR2.out.lt hat, HAP.out.2.2.1, Apart.symm (Apart.after HAP.out.2.1 HR2.out.lt hat), HAP.out.2.2.2.2⟩); clear ho hb hf hat HT2 HR2 HRS2 HPS2 HAP)) | ((with_reducible refine gate_builtin (b := .append) (xs := #[.tmp 66, .tmp 68]) rfl ?_); at_builtin; go_loud (refine Kd.R_append (Kd.int .i64) (w0 := w0) (W := w3) w0.heap.size rfl (.tmp 66) (.tmp 68) 35 3 (.int .i64 0) 8 rfl Try.underlying35 info3 rfl (by decide) (by omega) (.slice Ar rs.length cr) rs (nn : Int) [.int .i64 nn] (fun _ => True) (fun _ => False) rfl (by first | rfl | (go_simp; done) | (simp [World.alloc]; done)) (show Kd.M (Kd.int .i64) _ _ _ nn [.int .i64 nn] from rfl) (fun _ h => h.elim) (fun _ _ => trivial) HRS3.out.r HT3.out.bel HT3.out.bel.size (by have := HLE.out; have := HB4.out; have := HJ.out; omega) ?_); go_loud (intro v9b w4 ho hb hf hat; have HT4 := Aside0.mk (HT3.out.own HRS3.out HL.out hf); have HR4 := Aside0.mk (HR3.out.other HAP3.out.2.2.2.2 hf); have HPS4 := Aside0.mk (HPS3.out.other HAP3.out.1 hf); have HRS4 := Aside0.mk (HRS3.out.appended ho hat HT3.out.size); have HAP4 := Aside0.mk (show Apart v8b v9b ∧ Apart v8b (.slice (some adl) l.length cl) ∧ Apart v9b (.slice (some adl) l.length cl) ∧ Apart (.slice (some adl) l.length cl) v8b ∧ Apart (.slice (some adl) l.length cl) v9b from ⟨Apart.symm (Apart.after (Apart.symm HAP3.out.1) HPS3.out.lt hat), HAP3.out.2.1, Apart.after HAP3.out.2.2.1 HR3.out.lt hat, HAP3.out.2.2.2.1, Apart.symm (Apart.after HAP3.out.2.2.1 HR3.out.lt hat)⟩); clear ho hb hf hat HT3 HR3 HRS3 HPS3 HAP3)))
              go_roundg e
              case measure => omega
              case rel => exact ⟨j + 1, stk, ps ++ [kk], rs ++ [nn], wrap64 (al + nn), (by first | rfl | (rw [hwj]) | (simp [hwj]; done) | (simp; done)), rfl, ⟨by have := HKJ.out; omega⟩, ⟨by have := HLE.out; simp; omega⟩, ⟨A0 ++ [(kk, nn)], by rw [HPE.out, List.map_append]; rfl, by rw [HRE.out, List.map_append]; rfl, HO3.out⟩, HT4, HR4, HPS4, HRS4, HAP4⟩
            · have dP : decide (0 < nn) = false := decide_eq_false hP
              have H3 := HO.out
              rw [if_neg hP] at H3
              have HO3 := Aside0.mk H3
              clear H3 HO hP
              go_wp2_with (first | (go_at_call 89; go_loud (refine (rate_calls j fr ss h1 HJW.out HSS.out.symm).mono ?_); rintro e w2 ⟨rfl, hs2⟩; rw [← HN.out]; have HT2 := Aside0.mk (show SndTo w0 W g V bk q stk w2 by rw [HSK.out]; exact SndTo.trans HE1.out.1 HE1.out.2.1 HE1.out.2.2.1 HE1.out.2.2.2 hs2); have HR2 := Aside0.mk (HR.out.sent hs2 HE1.out.1 HE1.out.2.1 HL.out); have HPS2 := Aside0.mk (HPS.out.sent hs2 HE1.out.1 HE1.out.2.1 HL.out); have HRS2 := Aside0.mk (HRS.out.sent hs2 HE1.out.1 HE1.out.2.1 HL.out); clear hs2 h1 HE1 HT HR HPS HRS))
              go_roundg e
              case measure => omega
              case rel => exact ⟨j + 1, stk, ps, rs, al, (by first | rfl | (rw [hwj]) | (simp [hwj]; done) | (simp; done)), rfl, ⟨by have := HKJ.out; omega⟩, ⟨by have := HLE.out; omega⟩, ⟨A0, HPE.out, HRE.out, HO3.out⟩, HT2, HR2, HPS2, HRS2, HAP⟩
/-- The sender behind a run, or why there is none. -/
def sendingX (k : Nat) (ps : List S33) (bk : List Int) (q : List S63) (u : Int) : Option (Int × Option SX) :=
  (contact_check.f k ps bk).bind fun e => if e = 0 then
    ((contact_CheckItems.f k q).bind fun e2 => if e2 = 0 then ((newX k ps bk q).bind fun s => (runX q bk u k s).map fun r => (0, some r)) else some (e2, none))
  else some (e, none)
theorem sendingX_none {ps : List S33} {bk : List Int} {q : List S63} {u : Int} {k : Nat} {c : Int} (h : sendingX k ps bk q u = some (c, none)) : c ≠ 0 := by
  unfold sendingX at h
  obtain ⟨e, _, h⟩ := Option.bind_eq_some_iff.mp h
  by_cases c1 : e = 0
  · rw [if_pos c1] at h
    obtain ⟨e2, _, h⟩ := Option.bind_eq_some_iff.mp h
    by_cases c2 : e2 = 0
    · rw [if_pos c2] at h
      obtain ⟨s, _, h⟩ := Option.bind_eq_some_iff.mp h
      obtain ⟨r, _, h⟩ := Option.map_eq_some_iff.mp h
      injection h with _ h
      cases h
    · rw [if_neg c2] at h
      have h := Option.some.inj h
      injection h with h _
      rw [← h]
      exact c2
  · rw [if_neg c1] at h
    have h := Option.some.inj h
    injection h with h _
    rw [← h]
    exact c1
def SendingTo (w0 W' : World) (bk : List Int) (q : List S63) (e : Ending) : Int × Option SX → Prop
  | (c, none) => c ≠ 0 ∧ e = .returned (.tuple #[.pointer none, .int .i64 c]) ∧ Below w0.heap.size w0 W'
  | (c, some r) => c = 0 ∧ ∃ g V, e = .returned (.tuple #[.pointer (some ⟨g, 0, none⟩), .int .i64 0]) ∧ SndAt w0 W' g V bk q r
set_option maxHeartbeats 4000000 in
set_option maxRecDepth 100000 in
theorem sending_calls {w0 W : World} {Ap Ab Aq : Option Addr} {cp cb cq : Nat} {ps : List S33} {bk : List Int} {q : List S63} (u : Int) (k : Nat) (r : Int × Option SX) (hB : Below w0.heap.size w0 W) (hp : k33.C w0 Ap ps.length ps) (hpc : ps.length ≤ cp) (hb : (Kd.int .i64).C w0 Ab bk.length bk) (hbc : bk.length ≤ cb) (hq : k63.C w0 Aq q.length q) (hqc : q.length ≤ cq) (hr : sendingX k ps bk q u = some r) :
    Calls Try.prog 64 #[.slice Ap ps.length cp, .slice Ab bk.length cb, .slice Aq q.length cq, .int .i64 u] W fun e w' => SendingTo w0 w' bk q e r := by
  unfold sendingX at hr
  obtain ⟨e1, h1, hr⟩ := Option.bind_eq_some_iff.mp hr
  have HB := Aside0.mk hB
  have HP := Aside0.mk hp
  have HBK := Aside0.mk hb
  have HQ := Aside0.mk hq
  have H1 := Aside0.mk h1
  clear hB hp hb hq h1
  by_cases c1 : e1 = 0
  · have d1 : (e1 != 0) = false := by simpa using c1
    rw [if_pos c1] at hr
    obtain ⟨e2, h2, hr⟩ := Option.bind_eq_some_iff.mp hr
    have H2 := Aside0.mk h2
    clear h2 c1
    by_cases c2 : e2 = 0
    · have d2 : (e2 != 0) = false := by simpa using c2
      rw [if_pos c2] at hr
      obtain ⟨s, h3, hr⟩ := Option.bind_eq_some_iff.mp hr
      obtain ⟨rx, h4, hr⟩ := Option.map_eq_some_iff.mp hr
      subst hr
      have H3 := Aside0.mk h3
      have H4 := Aside0.mk h4
      clear h3 h4 c2
      go_enter Try.func64, Try.ntmps64
      go_wp2_with (first
        | (go_at_call 56; go_loud (refine (contact_check.calls k Ap cp ps Ab cb bk e1 _ (Kd.C_below HP.out HB.out) hpc (Kd.C_below HBK.out HB.out) hbc H1.out).mono ?_); rintro e w1 ⟨rfl, hb1⟩; have HB1 := Aside0.mk (below_step HB.out hb1); clear hb1)
        | (go_at_call 68; go_loud (refine (contact_CheckItems.calls k Aq cq q e2 _ (Kd.C_below HQ.out HB1.out) hqc H2.out).mono ?_); rintro e w2 ⟨rfl, hb2⟩; have HB2 := Aside0.mk (below_step HB1.out hb2); clear hb2)
        | (go_at_call 69; go_loud (refine (newSender_calls k s HB2.out HP.out hpc HBK.out hbc HQ.out hqc H3.out).mono ?_); rintro e w3 ⟨g, V, rfl, hs3⟩; have HS3 := Aside0.mk hs3; clear hs3)
        | (go_at_call 70; go_loud (refine (run_calls u k rx HS3.out H4.out).mono ?_); rintro e w4 ⟨rfl, V4, hs4, _⟩; have HS4 := Aside0.mk hs4; clear hs4))
      go_ret2
      exact ⟨rfl, g, V4, rfl, HS4.out⟩
    · have d2 : (e2 != 0) = true := by simpa using c2
      rw [if_neg c2] at hr
      obtain rfl := Option.some.inj hr
      have C2 := Aside0.mk c2
      clear c2 hr
      go_enter Try.func64, Try.ntmps64
      go_wp2_with (first
        | (go_at_call 56; go_loud (refine (contact_check.calls k Ap cp ps Ab cb bk e1 _ (Kd.C_below HP.out HB.out) hpc (Kd.C_below HBK.out HB.out) hbc H1.out).mono ?_); rintro e w1 ⟨rfl, hb1⟩; have HB1 := Aside0.mk (below_step HB.out hb1); clear hb1)
        | (go_at_call 68; go_loud (refine (contact_CheckItems.calls k Aq cq q e2 _ (Kd.C_below HQ.out HB1.out) hqc H2.out).mono ?_); rintro e w2 ⟨rfl, hb2⟩; have HB2 := Aside0.mk (below_step HB1.out hb2); clear hb2))
      go_ret2
      exact ⟨C2.out, rfl, HB2.out⟩
  · have d1 : (e1 != 0) = true := by simpa using c1
    rw [if_neg c1] at hr
    obtain rfl := Option.some.inj hr
    have C1 := Aside0.mk c1
    clear c1 hr
    go_enter Try.func64, Try.ntmps64
    go_wp2_with (first
      | (go_at_call 56; go_loud (refine (contact_check.calls k Ap cp ps Ab cb bk e1 _ (Kd.C_below HP.out HB.out) hpc (Kd.C_below HBK.out HB.out) hbc H1.out).mono ?_); rintro e w1 ⟨rfl, hb1⟩; have HB1 := Aside0.mk (below_step HB.out hb1); clear hb1))
    go_ret2
    exact ⟨C1.out, rfl, HB1.out⟩
end Go.Proofs.Ytbngmblgkkdhpaa.Q
