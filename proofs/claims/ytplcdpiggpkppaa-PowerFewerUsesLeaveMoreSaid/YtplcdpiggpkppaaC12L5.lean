-- Made by wip/tools/claimp.py of this session's texts; Lean checks it.
import Derived.Test.YtplcdpiggpkppaaC12Q0
import Derived.Test.YtplcdpiggpkppaaC12Ge13
import Derived.Test.YtplcdpiggpkppaaC12Ge28
import Derived.Test.YtplcdpiggpkppaaC12Ge8
namespace Go.Proofs.Ytplcdpiggpkppaa.Q
open Go.RowKit Go.Proofs.YtplcdpiggpkppaaW.PrintWords Go.Proofs.YtplcdpiggpkppaaW.PrintLast Go.Proofs.YtplcdpiggpkppaaW.PrintMore
attribute [local go_sem] max2_int min2_int max_two min_two max_three min_three max_four min_four
open Go.Proofs.Ytplcdpiggpkppaa.Base
attribute [local go_sem high] str_leq str_gtr str_geq
set_option linter.unusedVariables false
set_option linter.unusedSimpArgs false
theorem grow.info : (Try.prog.info? 47).map (fun i => (i.zero, i.size, i.bytes)) = some (some (.agg #[.string ByteArray.empty, .int .i64 0, .int .i64 0]), 3, 32) := by kernel_rfl
set_option maxHeartbeats 8000000 in
set_option maxRecDepth 100000 in
theorem grow (n : Nat) (w : World) (hn : n < 4398046511104) :
    Calls Try.prog 69 #[.slice none 0 0, .int .i64 n] w fun e w' => ∃ v, e = .returned v ∧ Kd.R k47 47 w' w.heap.size (fun _ => True) v [] ∧ Below w.heap.size w w' := by
  have HN := Aside0.mk hn
  have h2 : wrap64 (n : Int) = n := by unfold wrap64; omega
  by_cases h0 : n = 0
  · subst h0
    clear hn
    go_enter Try.func69, Try.ntmps69
    go_wp2
    go_ret
    exact ⟨_, rfl, Kd.R_nil _ _ _ _ _, Below.refl _ _⟩
  · have hpos : 0 < n := by omega
    have hd : decide ((n : Int) > 0) = true := decide_eq_true (by omega)
    have hd2 : decide (0 < (n : Int)) = true := decide_eq_true (by omega)
    have hd3 : decide ((n : Int) < 0) = false := decide_eq_false (by omega)
    have HB := Aside0.mk (Below.refl w.heap.size w)
    clear hn h0
    go_enter Try.func69, Try.ntmps69
    go_wp2_with (at_builtin; refine Kd.R_append_zeros k47 (kx := .i64) (w0 := w) w.heap.size rfl (.tmp 20) (.tmp 21) 26 3 47 (.agg #[.string ByteArray.empty, .int .i64 0, .int .i64 0]) 32 rfl Try.underlying26 Try.underlying3 grow.info rfl (by decide) (by omega) (.slice none 0 0) [] (⟨ByteArray.empty, 0, 0⟩ : S47) (n : Int) (fun _ => True) ?hS ?hX (k47_mkM _ _ _ (⟨ByteArray.empty, 0, 0⟩ : S47)) (fun _ _ => trivial) (Kd.R_nil _ _ _ _ _) (by omega) HB.out HB.out.size (by have := HN.out; simp; omega) ?_; (case hS => first | rfl | (go_simp; done) | (go_simp; rfl)); (case hX => first | rfl | (go_simp; done) | (go_simp; rfl)); intro v1 w1 ho1 hb1 hg1 hat1; obtain ⟨A1, c1, rfl⟩ := Kd.R_slice ho1; have HO := Aside0.mk (Kd.R_take ho1 (Nat.zero_le _)); have HB2 := Aside0.mk hb1; clear ho1 hb1 hg1 hat1)
    go_ret
    exact ⟨_, rfl, HO.out, HB2.out⟩
/-- A row's header that is read from a cell. -/
theorem cat2.cells {w : World} {g : Nat} {v0 v1 : Value} {ty : TypeId} (h : w.heap[g]? = some (.cells #[v0, v1] ty (0, 0))) : w.cell? ⟨g, 0, none⟩ = some v0 ∧ w.cell? ⟨g, 1, none⟩ = some v1 := ⟨blk_cell h 0, blk_cell h 1⟩
set_option maxHeartbeats 8000000 in
set_option maxRecDepth 100000 in
theorem cat2 (g : Nat) (A0 A1 : Option Addr) (c0 c1 : Nat) (l0 l1 : List S47) (w : World) (ty : TypeId) (hg : w.heap[g]? = some (.cells #[.slice A0 l0.length c0, .slice A1 l1.length c1] ty (0, 0)))
    (hr0 : Kd.C k47 w A0 l0.length l0) (hc0 : l0.length ≤ c0) (hr1 : Kd.C k47 w A1 l1.length l1) (hc1 : l1.length ≤ c1) (hn : l0.length + l1.length < 4398046511104) :
    Calls Try.prog 31 #[.slice (some ⟨g, 0, none⟩) 2 2] w fun e w' => ∃ v, e = .returned v ∧ Kd.R k47 47 w' w.heap.size (fun _ => True) v (l0 ++ l1) ∧ Below w.heap.size w w' := by
  have HG := Aside0.mk hg
  have HR0 := Aside0.mk hr0
  have HR1 := Aside0.mk hr1
  have HC0 := Aside0.mk hc0
  have HC1 := Aside0.mk hc1
  have HN := Aside0.mk hn
  obtain ⟨hx0, hx1⟩ := cat2.cells hg
  have hw1 : wrap64 (0 + (l0.length : Int)) = l0.length := by unfold wrap64; omega
  have hw2 : wrap64 ((l0.length : Int) + (l1.length : Int)) = (l0.length : Int) + (l1.length : Int) := by unfold wrap64; omega
  have hw3 : wrap64 (l0.length : Int) = l0.length := by unfold wrap64; omega
  have hd1 : decide ((l0.length : Int) < 0) = false := decide_eq_false (by omega)
  have hd2 : decide ((l0.length : Int) + (l1.length : Int) < 0) = false := decide_eq_false (by omega)
  clear hg hr0 hr1 hc0 hc1 hn
  go_enter Try.func31, Try.ntmps31
  go_wp2
  go_loopg [3, 11] 2 (fun kq v3 v11 w' => ∃ i : Nat, v11 = .int .i64 i ∧ Aside0 (kq + i = 2) ∧ v3 = .int .i64 ((if i = 0 then 0 else if i = 1 then l0.length else l0.length + l1.length : Nat) : Int) ∧ Aside0 (w = w'))
  case atStart => exact ⟨0, rfl, ⟨rfl⟩, rfl, ⟨rfl⟩⟩
  case round =>
    obtain ⟨i, rfl, HK, rfl, HW⟩ := hrel
    obtain rfl := HW.out
    have hi : i = 0 ∨ i = 1 ∨ i = 2 := by have := HK.out; omega
    rcases hi with rfl | rfl | rfl
    · go_wp2
      go_roundg 1
      case measure => have := HK.out; omega
      case rel => exact ⟨1, rfl, ⟨rfl⟩, rfl, ⟨rfl⟩⟩
    · go_wp2
      go_roundg 0
      case measure => have := HK.out; omega
      case rel => exact ⟨2, rfl, ⟨rfl⟩, rfl, ⟨rfl⟩⟩
    · go_wp2_with (go_at_call 69; refine (grow (l0.length + l1.length) _ HN.out).mono ?_; rintro e w6 ⟨v6, rfl, ho6, hb6⟩; have HO6 := Aside0.mk ho6; have HB6 := Aside0.mk hb6; clear ho6 hb6)
      go_loopg [6, 27] 2 (fun kq v6 v27 w' => ∃ i : Nat, v27 = .int .i64 i ∧ Aside0 (kq + i = 2) ∧ Aside0 (Kd.R k47 47 w' w.heap.size (fun _ => True) v6 (if i = 0 then [] else if i = 1 then l0 else l0 ++ l1)) ∧ Aside0 (Below w.heap.size w w'))
      case atStart => exact ⟨0, rfl, ⟨rfl⟩, ⟨HO6.out⟩, ⟨HB6.out⟩⟩
      case round =>
        clear HO6 HB6 HK
        obtain ⟨i, rfl, HK, HO, HB⟩ := hrel
        have hi : i = 0 ∨ i = 1 ∨ i = 2 := by have := HK.out; omega
        obtain ⟨hy0, hy1⟩ := cat2.cells ((HB.out.block g (blk_lt HG.out)).trans HG.out)
        rcases hi with rfl | rfl | rfl
        · go_wp2_with (at_builtin; refine Kd.R_append_rows k47 w.heap.size rfl (.tmp 31) (.tmp 32) 26 47 (.agg #[.string ByteArray.empty, .int .i64 0, .int .i64 0]) 32 rfl Try.underlying26 grow.info rfl (by decide) (by decide) _ [] l0 A0 l0.length _ (fun _ => True) (fun _ => False) rfl rfl HO.out (Kd.C_below HR0.out HB.out) (fun _ _ h => h) (fun _ h => h.elim) (fun _ _ => trivial) HB.out HB.out.size (by have := HN.out; simp; omega) ?_; intro v1 w1 ho1 hb1 hg1 _; have HO2 := Aside0.mk ho1; have HB2 := Aside0.mk hb1; clear ho1 hb1 hg1)
          go_roundg 1
          case measure => have := HK.out; omega
          case rel => exact ⟨1, rfl, ⟨rfl⟩, ⟨HO2.out⟩, ⟨HB2.out⟩⟩
        · go_wp2_with (at_builtin; refine Kd.R_append_rows k47 w.heap.size rfl (.tmp 31) (.tmp 32) 26 47 (.agg #[.string ByteArray.empty, .int .i64 0, .int .i64 0]) 32 rfl Try.underlying26 grow.info rfl (by decide) (by decide) _ l0 l1 A1 l1.length _ (fun _ => True) (fun _ => False) rfl rfl HO.out (Kd.C_below HR1.out HB.out) (fun _ _ h => h) (fun _ h => h.elim) (fun _ _ => trivial) HB.out HB.out.size (by have := HN.out; omega) ?_; intro v1 w1 ho1 hb1 hg1 _; have HO2 := Aside0.mk ho1; have HB2 := Aside0.mk hb1; clear ho1 hb1 hg1)
          go_roundg 0
          case measure => have := HK.out; omega
          case rel => exact ⟨2, rfl, ⟨rfl⟩, ⟨HO2.out⟩, ⟨HB2.out⟩⟩
        · go_wp2
          go_ret
          exact ⟨_, rfl, HO.out, HB.out⟩
/-- A row without the one at n. -/
theorem cat3 (n : Nat) (g : Nat) (A A1 : Option Addr) (c cc nn : Nat) (l lr : List S47) (hlr : lr = l.take n ++ l.drop (n + 1)) (w W : World) (ty : TypeId) (hcc : cc = c - (n + 1)) (hnn : nn = l.length - (n + 1)) (hA1 : A1 = if c = n + 1 then A else A.map (·.add ((n + 1) * 3))) (hg : W.heap[g]? = some (.cells #[.slice A n c, .slice A1 nn cc] ty (0, 0)))
    (hr : Kd.C k47 w A l.length l) (hc : l.length ≤ c) (hn : n < l.length) (hl : l.length < 4398046511104) (hB : Below w.heap.size w W) :
    Calls Try.prog 31 #[.slice (some ⟨g, 0, none⟩) 2 2] W fun e w' => ∃ A' c', e = .returned (.slice A' lr.length c') ∧ lr.length ≤ c' ∧ Kd.C k47 w' A' lr.length lr ∧ Below W.heap.size W w' := by
  subst hcc hnn hlr
  have h1 := Kd.C_take (Kd.C_below hr hB) (Nat.le_of_lt hn)
  have h2 := Kd.C_drop (m := n + 1) (Kd.C_below hr hB) hn hc
  have e1 : (l.take n).length = n := by rw [List.length_take]; omega
  have e2 : (l.drop (n + 1)).length = l.length - (n + 1) := List.length_drop ..
  refine (cat2 g A A1 c (c - (n + 1)) (l.take n) (l.drop (n + 1)) W ty (by rw [e1, e2]; exact hg) h1 (by omega) (by rw [hA1]; exact h2) (by omega) (by omega)).mono ?_
  rintro e w' ⟨v, rfl, ho, hb⟩
  obtain ⟨A', c', rfl⟩ := Kd.R_slice ho
  obtain ⟨_, q1, q2⟩ := Kd.R_reads' ho
  exact ⟨A', c', rfl, q1, q2, hb⟩
def perigeelaw9_PowerFewerUsesLeaveMore.f (k : Nat) (a0_0 : Int) (a0_1 : Int) (a0_2 : Int) (a0_3 : Int) (a0_4 : Int) (l1 : List S72) (l2 : List S76) (l3 : List S47) (a4 : Int) (a5 : Int) : Option Bool :=
  (power_LevelAt.f k a0_0 a0_1 a0_2 a0_3 a0_4 l1 l2 l3 a5).bind fun b => if b.2 = 0 then (if l3.length = 0 then perigeelaw9_awake.f k else if l3.length < 4398046511104 then
    (perigeeref9_Below.f a4 l3.length).bind fun t => if 0 ≤ t ∧ t < l3.length then
      (power_LevelAt.f k a0_0 a0_1 a0_2 a0_3 a0_4 l1 l2 (l3.take t.toNat ++ l3.drop (t.toNat + 1)) a5).bind fun d => if d.2 = 0 then (if b.1 ≤ d.1 then perigeelaw9_awake.f k else some false) else some false
    else none else none) else if b.1 = 0 then perigeelaw9_awake.f k else some false
set_option maxHeartbeats 8000000 in
set_option maxRecDepth 100000 in
theorem perigeelaw9_PowerFewerUsesLeaveMore.calls (k : Nat) (a0_0 : Int) (a0_1 : Int) (a0_2 : Int) (a0_3 : Int) (a0_4 : Int) (A1 : Option Addr) (c1 : Nat) (l1 : List S72) (A2 : Option Addr) (c2 : Nat) (l2 : List S76) (A3 : Option Addr) (c3 : Nat) (l3 : List S47) (a4 : Int) (a5 : Int) (r : Bool) (w : World) (hr1 : Kd.C k72 w A1 l1.length l1) (hc1 : l1.length ≤ c1) (hr2 : Kd.C k76 w A2 l2.length l2) (hc2 : l2.length ≤ c2) (hr3 : Kd.C k47 w A3 l3.length l3) (hc3 : l3.length ≤ c3) (h : perigeelaw9_PowerFewerUsesLeaveMore.f k a0_0 a0_1 a0_2 a0_3 a0_4 l1 l2 l3 a4 a5 = some r) :
    Calls Try.prog 5 #[.agg #[.int .i64 a0_0, .int .i64 a0_1, .int .i64 a0_2, .int .i64 a0_3, .int .i64 a0_4], .slice A1 l1.length c1, .slice A2 l2.length c2, .slice A3 l3.length c3, .int .i64 a4, .int .i64 a5] w fun e w' => e = .returned (.bool r) ∧ Below w.heap.size w w' := by
  have hu23 := Try.underlying23
  have HR1 := Aside0.mk hr1
  have HC1 := Aside0.mk hc1
  have HR2 := Aside0.mk hr2
  have HC2 := Aside0.mk hc2
  have HR3 := Aside0.mk hr3
  have HC3 := Aside0.mk hc3
  have HB := Aside0.mk (Below.refl w.heap.size w)
  clear hr1 hc1 hr2 hc2 hr3 hc3
  unfold perigeelaw9_PowerFewerUsesLeaveMore.f at h
  replace h := Option.bind_eq_some_iff.mp h
  obtain ⟨⟨b1, b2⟩, hL, h⟩ := h
  have HL := Aside0.mk hL
  clear hL
  replace h : (if b2 = 0 then (if l3.length = 0 then perigeelaw9_awake.f k else if l3.length < 4398046511104 then
    (perigeeref9_Below.f a4 l3.length).bind fun t => if 0 ≤ t ∧ t < l3.length then
      (power_LevelAt.f k a0_0 a0_1 a0_2 a0_3 a0_4 l1 l2 (l3.take t.toNat ++ l3.drop (t.toNat + 1)) a5).bind fun d => if d.2 = 0 then (if b1 ≤ d.1 then perigeelaw9_awake.f k else some false) else some false
    else none else none) else if b1 = 0 then perigeelaw9_awake.f k else some false) = some r := h
  split at h
  · rename_i hb2
    subst hb2
    split at h
    · rename_i hlen
      have hq1 : ((l3.length : Int) == 0) = true := by simp [hlen]
      have HA := Aside0.mk h
      clear h hlen
      go_enter Try.func5, Try.ntmps5
      go_wp2_with (first | ((with_reducible refine gate_dst (N := 6) rfl ?_); refine box_event ?hg (N := 6) ?hd (cs := #[.int .i64 a0_0, .int .i64 a0_1, .int .i64 a0_2, .int .i64 a0_3, .int .i64 a0_4]) (t := 23) ?hr ?_; (case hd => rfl); (case hg => rfl); (case hr => first | (go_simp; done) | (go_simp; rfl)); intro gb hg wb hbox hb; have n0_ := Aside0.mk (below_step HB.out hb); have BK := Aside0.mk hbox; have GW := Aside0.mk ((by rw [hg]; exact below_size HB.out : w.heap.size ≤ gb)); clear HB; have HB := n0_; clear n0_; clear hb hbox hg; have hz0 : wb.cell? ⟨gb, 0, none⟩ = some (.int .i64 a0_0) := (blk_cell BK.out 0).trans rfl; have hz1 : wb.cell? ⟨gb, 1, none⟩ = some (.int .i64 a0_1) := (blk_cell BK.out 1).trans rfl; have hz2 : wb.cell? ⟨gb, 2, none⟩ = some (.int .i64 a0_2) := (blk_cell BK.out 2).trans rfl; have hz3 : wb.cell? ⟨gb, 3, none⟩ = some (.int .i64 a0_3) := (blk_cell BK.out 3).trans rfl; have hz4 : wb.cell? ⟨gb, 4, none⟩ = some (.int .i64 a0_4) := (blk_cell BK.out 4).trans rfl) | ((with_reducible refine gate_callee (f := 28) rfl ?_); refine goesL_ (some 22) rfl rfl Try.func28 (by kernel_rfl) rfl #[.agg #[.int .i64 a0_0, .int .i64 a0_1, .int .i64 a0_2, .int .i64 a0_3, .int .i64 a0_4], .slice A1 l1.length c1, .slice A2 l2.length c2, .slice A3 l3.length c3, .int .i64 a5] rfl (by (try simp only [List.map_toArray, List.map_cons, List.map_nil]); first | done | rfl) ?_; with_reducible refine (power_LevelAt.calls k a0_0 a0_1 a0_2 a0_3 a0_4 _ _ l1 _ _ l2 _ _ l3 a5 _ _ _ (Kd.C_below HR1.out HB.out) HC1.out (Kd.C_below HR2.out HB.out) HC2.out (Kd.C_below HR3.out HB.out) HC3.out HL.out).mono ?_; rintro e wc ⟨rfl, hb⟩; refine ⟨_, rfl, ?_⟩; have n0_ := Aside0.mk (blk_below BK.out hb); have n1_ := Aside0.mk (below_step HB.out hb); clear BK HB; have BK := n0_; have HB := n1_; clear n0_ n1_ hb; clear hz0 hz1 hz2 hz3 hz4; have hz0 : wc.cell? ⟨gb, 0, none⟩ = some (.int .i64 a0_0) := (blk_cell BK.out 0).trans rfl; have hz1 : wc.cell? ⟨gb, 1, none⟩ = some (.int .i64 a0_1) := (blk_cell BK.out 1).trans rfl; have hz2 : wc.cell? ⟨gb, 2, none⟩ = some (.int .i64 a0_2) := (blk_cell BK.out 2).trans rfl; have hz3 : wc.cell? ⟨gb, 3, none⟩ = some (.int .i64 a0_3) := (blk_cell BK.out 3).trans rfl; have hz4 : wc.cell? ⟨gb, 4, none⟩ = some (.int .i64 a0_4) := (blk_cell BK.out 4).trans rfl) | (go_at_call 27; with_reducible refine (perigeelaw9_awake.calls k r _ HA.out).mono ?_; rintro e wd ⟨rfl, hb⟩; have n1_ := Aside0.mk (below_step HB.out hb); clear HB; have HB := n1_; clear n1_ hb))
      go_ret
      exact ⟨by first | rfl | (simp; done) | (simp [*]; done), HB.out⟩
    · split at h
      · rename_i hlen hlt
        have hq1 : ((l3.length : Int) == 0) = false := beq_eq_false_iff_ne.2 (by omega)
        replace h := Option.bind_eq_some_iff.mp h
        obtain ⟨t, hT, h⟩ := h
        split at h
        · rename_i htt
          replace h := Option.bind_eq_some_iff.mp h
          obtain ⟨⟨d1, d2⟩, hD, h⟩ := h
          obtain ⟨n, rfl⟩ : ∃ n : Nat, t = n := ⟨t.toNat, by omega⟩
          rw [Int.toNat_natCast] at hD
          obtain ⟨lr, hlr⟩ : ∃ lr, lr = l3.take n ++ l3.drop (n + 1) := ⟨_, rfl⟩
          rw [← hlr] at hD
          have HLR := Aside0.mk hlr
          clear hlr
          have hn : n < l3.length := by omega
          obtain ⟨ad, hA3, _⟩ := HR3.out.2.2 (by omega)
          subst hA3
          have HT := Aside0.mk hT
          have HD := Aside0.mk hD
          have HLT := Aside0.mk hlt
          have CT := Aside0.mk (Kd.C_take HR3.out (Nat.le_of_lt hn))
          have CD := Aside0.mk (Kd.C_drop HR3.out hn HC3.out)
          have hwn : wrap64 ((n : Int) + 1) = (n : Int) + 1 := by unfold wrap64; omega
          have HNL := Aside0.mk hn
          have f1 : n ≤ c3 := Nat.le_trans (Nat.le_of_lt hn) HC3.out
          have f3 : n + 1 ≤ l3.length := hn
          have f0 : (0 : Int) ≤ (n : Int) := by omega
          have f4 : (n : Int) + 1 ≤ (l3.length : Int) := by omega
          have f5 : (0 : Int) ≤ (n : Int) + 1 := by omega
          have f6 : ((n : Int) + 1).toNat = n + 1 := by omega
          have f9 : l3.length ≤ c3 := HC3.out
          have f7 : (n : Int) ≤ (c3 : Int) := by omega
          have f8 : (l3.length : Int) ≤ (c3 : Int) := by omega
          have hwi : IntKind.i64.wrap ((n : Int) + 1) = (n : Int) + 1 := by rw [IntKind.wrap_i64]; omega
          have f10 : n + 1 ≤ c3 := by omega
          replace h : (if d2 = 0 then if b1 ≤ d1 then perigeelaw9_awake.f k else some false else some false) = some r := h
          have HH := Aside0.mk h
          clear hn hT hD hlt hlen htt h
          go_enter Try.func5, Try.ntmps5
          go_wp2_with (first | ((with_reducible refine gate_dst (N := 6) rfl ?_); refine box_event ?hg (N := 6) ?hd (cs := #[.int .i64 a0_0, .int .i64 a0_1, .int .i64 a0_2, .int .i64 a0_3, .int .i64 a0_4]) (t := 23) ?hr ?_; (case hd => rfl); (case hg => rfl); (case hr => first | (go_simp; done) | (go_simp; rfl)); intro gb hg wb hbox hb; have n0_ := Aside0.mk (below_step HB.out hb); have BK := Aside0.mk hbox; have GW := Aside0.mk ((by rw [hg]; exact below_size HB.out : w.heap.size ≤ gb)); clear HB; have HB := n0_; clear n0_; clear hb hbox hg; have hz0 : wb.cell? ⟨gb, 0, none⟩ = some (.int .i64 a0_0) := (blk_cell BK.out 0).trans rfl; have hz1 : wb.cell? ⟨gb, 1, none⟩ = some (.int .i64 a0_1) := (blk_cell BK.out 1).trans rfl; have hz2 : wb.cell? ⟨gb, 2, none⟩ = some (.int .i64 a0_2) := (blk_cell BK.out 2).trans rfl; have hz3 : wb.cell? ⟨gb, 3, none⟩ = some (.int .i64 a0_3) := (blk_cell BK.out 3).trans rfl; have hz4 : wb.cell? ⟨gb, 4, none⟩ = some (.int .i64 a0_4) := (blk_cell BK.out 4).trans rfl) | ((with_reducible refine gate_callee (f := 28) rfl ?_); refine goesL_ (some 22) rfl rfl Try.func28 (by kernel_rfl) rfl #[.agg #[.int .i64 a0_0, .int .i64 a0_1, .int .i64 a0_2, .int .i64 a0_3, .int .i64 a0_4], .slice A1 l1.length c1, .slice A2 l2.length c2, .slice (some ad) l3.length c3, .int .i64 a5] rfl (by (try simp only [List.map_toArray, List.map_cons, List.map_nil]); first | done | rfl) ?_; with_reducible refine (power_LevelAt.calls k a0_0 a0_1 a0_2 a0_3 a0_4 _ _ l1 _ _ l2 _ _ l3 a5 _ _ _ (Kd.C_below HR1.out HB.out) HC1.out (Kd.C_below HR2.out HB.out) HC2.out (Kd.C_below HR3.out HB.out) HC3.out HL.out).mono ?_; rintro e wc ⟨rfl, hb⟩; refine ⟨_, rfl, ?_⟩; have n0_ := Aside0.mk (blk_below BK.out hb); have n1_ := Aside0.mk (below_step HB.out hb); clear BK HB; have BK := n0_; have HB := n1_; clear n0_ n1_ hb; clear hz0 hz1 hz2 hz3 hz4; have hz0 : wc.cell? ⟨gb, 0, none⟩ = some (.int .i64 a0_0) := (blk_cell BK.out 0).trans rfl; have hz1 : wc.cell? ⟨gb, 1, none⟩ = some (.int .i64 a0_1) := (blk_cell BK.out 1).trans rfl; have hz2 : wc.cell? ⟨gb, 2, none⟩ = some (.int .i64 a0_2) := (blk_cell BK.out 2).trans rfl; have hz3 : wc.cell? ⟨gb, 3, none⟩ = some (.int .i64 a0_3) := (blk_cell BK.out 3).trans rfl; have hz4 : wc.cell? ⟨gb, 4, none⟩ = some (.int .i64 a0_4) := (blk_cell BK.out 4).trans rfl) | (go_at_call 30; (with_reducible refine (perigeeref9_Below.calls a4 (l3.length : Int) (n : Int) _ HT.out).mono ?_); rintro e w' ⟨rfl, ⟨nd, rfl⟩⟩))
          have HW5 := Aside0.mk (show Below w.heap.size w (wc.drewN nd) from pw_below_drewN HB.out nd)
          have BK5 := Aside0.mk (show (wc.drewN nd).heap[gb]? = some (.cells #[.int .i64 a0_0, .int .i64 a0_1, .int .i64 a0_2, .int .i64 a0_3, .int .i64 a0_4] 23 (0, 0)) from BK.out)
          clear hz0 hz1 hz2 hz3 hz4 BK HB HT
          generalize wc.drewN nd = W5 at *
          have hz0 : W5.cell? ⟨gb, 0, none⟩ = some (.int .i64 a0_0) := (blk_cell BK5.out 0).trans rfl
          have hz1 : W5.cell? ⟨gb, 1, none⟩ = some (.int .i64 a0_1) := (blk_cell BK5.out 1).trans rfl
          have hz2 : W5.cell? ⟨gb, 2, none⟩ = some (.int .i64 a0_2) := (blk_cell BK5.out 2).trans rfl
          have hz3 : W5.cell? ⟨gb, 3, none⟩ = some (.int .i64 a0_3) := (blk_cell BK5.out 3).trans rfl
          have hz4 : W5.cell? ⟨gb, 4, none⟩ = some (.int .i64 a0_4) := (blk_cell BK5.out 4).trans rfl
          by_cases hck : c3 = n + 1
          · subst hck
            have HZ := Aside0.mk (show 0 = l3.length - (n + 1) by omega)
            have f12 : (n : Int) ≤ (n : Int) + 1 := by omega
            have f13 : n ≤ n + 1 := Nat.le_succ n
            go_region_held3 (fun w' => w'.cell? ⟨gb, 0, none⟩ = some (.int .i64 a0_0) ∧ w'.cell? ⟨gb, 1, none⟩ = some (.int .i64 a0_1) ∧ w'.cell? ⟨gb, 2, none⟩ = some (.int .i64 a0_2) ∧ w'.cell? ⟨gb, 3, none⟩ = some (.int .i64 a0_3) ∧ w'.cell? ⟨gb, 4, none⟩ = some (.int .i64 a0_4)) (first | exact ⟨hz0, hz1, hz2, hz3, hz4⟩ | go_keep) (first | (go_at_call 31; with_reducible refine (cat3 n W5.heap.size (some ad) (some ad) (n + 1) 0 0 l3 lr HLR.out w _ 26 (Nat.sub_self _).symm HZ.out (if_pos rfl).symm (blk_drew (heap_alloc_new W5 _)) HR3.out HC3.out HNL.out HLT.out (below_drew (below_alloc HW5.out _))).mono ?_; rintro e w6 ⟨A6, c6, rfl, q6, ho6, hb6⟩; have HC6 := Aside0.mk q6; have HR6 := Aside0.mk ho6; have HB6 := Aside0.mk (below_step (below_drew (below_alloc HW5.out _)) hb6); have BK6 := Aside0.mk (blk_below (blk_drew (blk_alloc BK5.out _)) hb6); clear hz0 hz1 hz2 hz3 hz4 q6 ho6 hb6; have hz0 : w6.cell? ⟨gb, 0, none⟩ = some (.int .i64 a0_0) := (blk_cell BK6.out 0).trans rfl; have hz1 : w6.cell? ⟨gb, 1, none⟩ = some (.int .i64 a0_1) := (blk_cell BK6.out 1).trans rfl; have hz2 : w6.cell? ⟨gb, 2, none⟩ = some (.int .i64 a0_2) := (blk_cell BK6.out 2).trans rfl; have hz3 : w6.cell? ⟨gb, 3, none⟩ = some (.int .i64 a0_3) := (blk_cell BK6.out 3).trans rfl; have hz4 : w6.cell? ⟨gb, 4, none⟩ = some (.int .i64 a0_4) := (blk_cell BK6.out 4).trans rfl) | (go_at_call 28; with_reducible refine (power_LevelAt.calls k a0_0 a0_1 a0_2 a0_3 a0_4 _ _ l1 _ _ l2 _ _ lr a5 d1 d2 _ (Kd.C_below HR1.out HB6.out) HC1.out (Kd.C_below HR2.out HB6.out) HC2.out HR6.out HC6.out HD.out).mono ?_; rintro e w7 ⟨rfl, hb7⟩; have HB7 := Aside0.mk (below_step HB6.out hb7); have BK7 := Aside0.mk (blk_below BK6.out hb7); clear hz0 hz1 hz2 hz3 hz4 hb7; have hz0 : w7.cell? ⟨gb, 0, none⟩ = some (.int .i64 a0_0) := (blk_cell BK7.out 0).trans rfl; have hz1 : w7.cell? ⟨gb, 1, none⟩ = some (.int .i64 a0_1) := (blk_cell BK7.out 1).trans rfl; have hz2 : w7.cell? ⟨gb, 2, none⟩ = some (.int .i64 a0_2) := (blk_cell BK7.out 2).trans rfl; have hz3 : w7.cell? ⟨gb, 3, none⟩ = some (.int .i64 a0_3) := (blk_cell BK7.out 3).trans rfl; have hz4 : w7.cell? ⟨gb, 4, none⟩ = some (.int .i64 a0_4) := (blk_cell BK7.out 4).trans rfl))
            have HB := HB7
            have hh := HH.out
            clear HH HLR HB7 BK7 hz0 hz1 hz2 hz3 hz4
            split at hh
            · rename_i e2
              subst e2
              split at hh
              · rename_i e3
                have e4 : decide (b1 ≤ d1) = true := decide_eq_true e3
                have e5 : decide (d1 ≥ b1) = true := decide_eq_true e3
                have HA := Aside0.mk hh
                clear hh e3
                go_wp2_with (first | (go_at_call 27; (with_reducible refine (perigeelaw9_awake.calls k r _ HA.out).mono ?_); rintro e wd ⟨rfl, hb⟩; have n1_ := Aside0.mk (below_step HB.out hb); clear HB; have HB := n1_; clear n1_ hb))
                go_ret
                exact ⟨by first | rfl | (simp; done) | (simp [*]; done), HB.out⟩
              · rename_i e3
                have e4 : decide (b1 ≤ d1) = false := decide_eq_false e3
                have e5 : decide (d1 ≥ b1) = false := decide_eq_false e3
                obtain rfl := Option.some.inj hh
                clear hh e3
                go_wp2
                go_ret
                exact ⟨by first | rfl | (simp; done) | (simp [*]; done), HB.out⟩
            · rename_i e2
              have e4 : (d2 == 0) = false := beq_eq_false_iff_ne.2 e2
              obtain rfl := Option.some.inj hh
              clear hh e2
              go_wp2
              go_ret
              exact ⟨by first | rfl | (simp; done) | (simp [*]; done), HB.out⟩
          · have HA1 := Aside0.mk (show some (ad.add ((n + 1) * 3)) = if c3 = n + 1 then some ad else (some ad).map (·.add ((n + 1) * 3)) by rw [if_neg hck]; rfl)
            have f11 : (c3 = n + 1) = False := eq_false hck
            go_region_held3 (fun w' => w'.cell? ⟨gb, 0, none⟩ = some (.int .i64 a0_0) ∧ w'.cell? ⟨gb, 1, none⟩ = some (.int .i64 a0_1) ∧ w'.cell? ⟨gb, 2, none⟩ = some (.int .i64 a0_2) ∧ w'.cell? ⟨gb, 3, none⟩ = some (.int .i64 a0_3) ∧ w'.cell? ⟨gb, 4, none⟩ = some (.int .i64 a0_4)) (first | exact ⟨hz0, hz1, hz2, hz3, hz4⟩ | go_keep) (first | (go_at_call 31; with_reducible refine (cat3 n W5.heap.size (some ad) (some (ad.add ((n + 1) * 3))) c3 _ _ l3 lr HLR.out w _ 26 rfl rfl HA1.out (blk_drew (heap_alloc_new W5 _)) HR3.out HC3.out HNL.out HLT.out (below_drew (below_alloc HW5.out _))).mono ?_; rintro e w6 ⟨A6, c6, rfl, q6, ho6, hb6⟩; have HC6 := Aside0.mk q6; have HR6 := Aside0.mk ho6; have HB6 := Aside0.mk (below_step (below_drew (below_alloc HW5.out _)) hb6); have BK6 := Aside0.mk (blk_below (blk_drew (blk_alloc BK5.out _)) hb6); clear hz0 hz1 hz2 hz3 hz4 q6 ho6 hb6; have hz0 : w6.cell? ⟨gb, 0, none⟩ = some (.int .i64 a0_0) := (blk_cell BK6.out 0).trans rfl; have hz1 : w6.cell? ⟨gb, 1, none⟩ = some (.int .i64 a0_1) := (blk_cell BK6.out 1).trans rfl; have hz2 : w6.cell? ⟨gb, 2, none⟩ = some (.int .i64 a0_2) := (blk_cell BK6.out 2).trans rfl; have hz3 : w6.cell? ⟨gb, 3, none⟩ = some (.int .i64 a0_3) := (blk_cell BK6.out 3).trans rfl; have hz4 : w6.cell? ⟨gb, 4, none⟩ = some (.int .i64 a0_4) := (blk_cell BK6.out 4).trans rfl) | (go_at_call 28; with_reducible refine (power_LevelAt.calls k a0_0 a0_1 a0_2 a0_3 a0_4 _ _ l1 _ _ l2 _ _ lr a5 d1 d2 _ (Kd.C_below HR1.out HB6.out) HC1.out (Kd.C_below HR2.out HB6.out) HC2.out HR6.out HC6.out HD.out).mono ?_; rintro e w7 ⟨rfl, hb7⟩; have HB7 := Aside0.mk (below_step HB6.out hb7); have BK7 := Aside0.mk (blk_below BK6.out hb7); clear hz0 hz1 hz2 hz3 hz4 hb7; have hz0 : w7.cell? ⟨gb, 0, none⟩ = some (.int .i64 a0_0) := (blk_cell BK7.out 0).trans rfl; have hz1 : w7.cell? ⟨gb, 1, none⟩ = some (.int .i64 a0_1) := (blk_cell BK7.out 1).trans rfl; have hz2 : w7.cell? ⟨gb, 2, none⟩ = some (.int .i64 a0_2) := (blk_cell BK7.out 2).trans rfl; have hz3 : w7.cell? ⟨gb, 3, none⟩ = some (.int .i64 a0_3) := (blk_cell BK7.out 3).trans rfl; have hz4 : w7.cell? ⟨gb, 4, none⟩ = some (.int .i64 a0_4) := (blk_cell BK7.out 4).trans rfl))
            have HB := HB7
            have hh := HH.out
            clear HH HLR HB7 BK7 hz0 hz1 hz2 hz3 hz4
            split at hh
            · rename_i e2
              subst e2
              split at hh
              · rename_i e3
                have e4 : decide (b1 ≤ d1) = true := decide_eq_true e3
                have e5 : decide (d1 ≥ b1) = true := decide_eq_true e3
                have HA := Aside0.mk hh
                clear hh e3
                go_wp2_with (first | (go_at_call 27; (with_reducible refine (perigeelaw9_awake.calls k r _ HA.out).mono ?_); rintro e wd ⟨rfl, hb⟩; have n1_ := Aside0.mk (below_step HB.out hb); clear HB; have HB := n1_; clear n1_ hb))
                go_ret
                exact ⟨by first | rfl | (simp; done) | (simp [*]; done), HB.out⟩
              · rename_i e3
                have e4 : decide (b1 ≤ d1) = false := decide_eq_false e3
                have e5 : decide (d1 ≥ b1) = false := decide_eq_false e3
                obtain rfl := Option.some.inj hh
                clear hh e3
                go_wp2
                go_ret
                exact ⟨by first | rfl | (simp; done) | (simp [*]; done), HB.out⟩
            · rename_i e2
              have e4 : (d2 == 0) = false := beq_eq_false_iff_ne.2 e2
              obtain rfl := Option.some.inj hh
              clear hh e2
              go_wp2
              go_ret
              exact ⟨by first | rfl | (simp; done) | (simp [*]; done), HB.out⟩
        · cases h
      · cases h
  · rename_i hb2
    have hq1 : (b2 == 0) = false := beq_eq_false_iff_ne.2 hb2
    have hq2 : (b2 != 0) = true := bne_iff_ne.2 hb2
    clear hb2
    split at h
    · rename_i hb1
      subst hb1
      have HA := Aside0.mk h
      clear h
      go_enter Try.func5, Try.ntmps5
      go_wp2_with (first | ((with_reducible refine gate_dst (N := 6) rfl ?_); refine box_event ?hg (N := 6) ?hd (cs := #[.int .i64 a0_0, .int .i64 a0_1, .int .i64 a0_2, .int .i64 a0_3, .int .i64 a0_4]) (t := 23) ?hr ?_; (case hd => rfl); (case hg => rfl); (case hr => first | (go_simp; done) | (go_simp; rfl)); intro gb hg wb hbox hb; have n0_ := Aside0.mk (below_step HB.out hb); have BK := Aside0.mk hbox; have GW := Aside0.mk ((by rw [hg]; exact below_size HB.out : w.heap.size ≤ gb)); clear HB; have HB := n0_; clear n0_; clear hb hbox hg; have hz0 : wb.cell? ⟨gb, 0, none⟩ = some (.int .i64 a0_0) := (blk_cell BK.out 0).trans rfl; have hz1 : wb.cell? ⟨gb, 1, none⟩ = some (.int .i64 a0_1) := (blk_cell BK.out 1).trans rfl; have hz2 : wb.cell? ⟨gb, 2, none⟩ = some (.int .i64 a0_2) := (blk_cell BK.out 2).trans rfl; have hz3 : wb.cell? ⟨gb, 3, none⟩ = some (.int .i64 a0_3) := (blk_cell BK.out 3).trans rfl; have hz4 : wb.cell? ⟨gb, 4, none⟩ = some (.int .i64 a0_4) := (blk_cell BK.out 4).trans rfl) | ((with_reducible refine gate_callee (f := 28) rfl ?_); refine goesL_ (some 22) rfl rfl Try.func28 (by kernel_rfl) rfl #[.agg #[.int .i64 a0_0, .int .i64 a0_1, .int .i64 a0_2, .int .i64 a0_3, .int .i64 a0_4], .slice A1 l1.length c1, .slice A2 l2.length c2, .slice A3 l3.length c3, .int .i64 a5] rfl (by (try simp only [List.map_toArray, List.map_cons, List.map_nil]); first | done | rfl) ?_; with_reducible refine (power_LevelAt.calls k a0_0 a0_1 a0_2 a0_3 a0_4 _ _ l1 _ _ l2 _ _ l3 a5 _ _ _ (Kd.C_below HR1.out HB.out) HC1.out (Kd.C_below HR2.out HB.out) HC2.out (Kd.C_below HR3.out HB.out) HC3.out HL.out).mono ?_; rintro e wc ⟨rfl, hb⟩; refine ⟨_, rfl, ?_⟩; have n0_ := Aside0.mk (blk_below BK.out hb); have n1_ := Aside0.mk (below_step HB.out hb); clear BK HB; have BK := n0_; have HB := n1_; clear n0_ n1_ hb; clear hz0 hz1 hz2 hz3 hz4; have hz0 : wc.cell? ⟨gb, 0, none⟩ = some (.int .i64 a0_0) := (blk_cell BK.out 0).trans rfl; have hz1 : wc.cell? ⟨gb, 1, none⟩ = some (.int .i64 a0_1) := (blk_cell BK.out 1).trans rfl; have hz2 : wc.cell? ⟨gb, 2, none⟩ = some (.int .i64 a0_2) := (blk_cell BK.out 2).trans rfl; have hz3 : wc.cell? ⟨gb, 3, none⟩ = some (.int .i64 a0_3) := (blk_cell BK.out 3).trans rfl; have hz4 : wc.cell? ⟨gb, 4, none⟩ = some (.int .i64 a0_4) := (blk_cell BK.out 4).trans rfl) | (go_at_call 27; with_reducible refine (perigeelaw9_awake.calls k r _ HA.out).mono ?_; rintro e wd ⟨rfl, hb⟩; have n1_ := Aside0.mk (below_step HB.out hb); clear HB; have HB := n1_; clear n1_ hb))
      go_ret
      exact ⟨by first | rfl | (simp; done) | (simp [*]; done), HB.out⟩
    · rename_i hb1
      have hq3 : (b1 == 0) = false := beq_eq_false_iff_ne.2 hb1
      clear hb1
      obtain rfl := Option.some.inj h
      go_enter Try.func5, Try.ntmps5
      go_wp2_with (first | ((with_reducible refine gate_dst (N := 6) rfl ?_); refine box_event ?hg (N := 6) ?hd (cs := #[.int .i64 a0_0, .int .i64 a0_1, .int .i64 a0_2, .int .i64 a0_3, .int .i64 a0_4]) (t := 23) ?hr ?_; (case hd => rfl); (case hg => rfl); (case hr => first | (go_simp; done) | (go_simp; rfl)); intro gb hg wb hbox hb; have n0_ := Aside0.mk (below_step HB.out hb); have BK := Aside0.mk hbox; have GW := Aside0.mk ((by rw [hg]; exact below_size HB.out : w.heap.size ≤ gb)); clear HB; have HB := n0_; clear n0_; clear hb hbox hg; have hz0 : wb.cell? ⟨gb, 0, none⟩ = some (.int .i64 a0_0) := (blk_cell BK.out 0).trans rfl; have hz1 : wb.cell? ⟨gb, 1, none⟩ = some (.int .i64 a0_1) := (blk_cell BK.out 1).trans rfl; have hz2 : wb.cell? ⟨gb, 2, none⟩ = some (.int .i64 a0_2) := (blk_cell BK.out 2).trans rfl; have hz3 : wb.cell? ⟨gb, 3, none⟩ = some (.int .i64 a0_3) := (blk_cell BK.out 3).trans rfl; have hz4 : wb.cell? ⟨gb, 4, none⟩ = some (.int .i64 a0_4) := (blk_cell BK.out 4).trans rfl) | ((with_reducible refine gate_callee (f := 28) rfl ?_); refine goesL_ (some 22) rfl rfl Try.func28 (by kernel_rfl) rfl #[.agg #[.int .i64 a0_0, .int .i64 a0_1, .int .i64 a0_2, .int .i64 a0_3, .int .i64 a0_4], .slice A1 l1.length c1, .slice A2 l2.length c2, .slice A3 l3.length c3, .int .i64 a5] rfl (by (try simp only [List.map_toArray, List.map_cons, List.map_nil]); first | done | rfl) ?_; with_reducible refine (power_LevelAt.calls k a0_0 a0_1 a0_2 a0_3 a0_4 _ _ l1 _ _ l2 _ _ l3 a5 _ _ _ (Kd.C_below HR1.out HB.out) HC1.out (Kd.C_below HR2.out HB.out) HC2.out (Kd.C_below HR3.out HB.out) HC3.out HL.out).mono ?_; rintro e wc ⟨rfl, hb⟩; refine ⟨_, rfl, ?_⟩; have n0_ := Aside0.mk (blk_below BK.out hb); have n1_ := Aside0.mk (below_step HB.out hb); clear BK HB; have BK := n0_; have HB := n1_; clear n0_ n1_ hb; clear hz0 hz1 hz2 hz3 hz4; have hz0 : wc.cell? ⟨gb, 0, none⟩ = some (.int .i64 a0_0) := (blk_cell BK.out 0).trans rfl; have hz1 : wc.cell? ⟨gb, 1, none⟩ = some (.int .i64 a0_1) := (blk_cell BK.out 1).trans rfl; have hz2 : wc.cell? ⟨gb, 2, none⟩ = some (.int .i64 a0_2) := (blk_cell BK.out 2).trans rfl; have hz3 : wc.cell? ⟨gb, 3, none⟩ = some (.int .i64 a0_3) := (blk_cell BK.out 3).trans rfl; have hz4 : wc.cell? ⟨gb, 4, none⟩ = some (.int .i64 a0_4) := (blk_cell BK.out 4).trans rfl))
      go_ret
      exact ⟨by first | rfl | (simp; done) | (simp [*]; done), HB.out⟩
end Go.Proofs.Ytplcdpiggpkppaa.Q
