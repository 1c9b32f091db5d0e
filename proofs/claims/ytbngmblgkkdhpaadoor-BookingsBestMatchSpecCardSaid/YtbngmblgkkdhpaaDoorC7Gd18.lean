-- Made by wip/tools/claimp.py of this session's texts; Lean checks it.
import Derived.Test.YtbngmblgkkdhpaaDoorC7Q0
import Derived.Test.YtbngmblgkkdhpaaDoorC7Gd10
import Derived.Test.YtbngmblgkkdhpaaDoorC7Gd14
import Derived.Test.YtbngmblgkkdhpaaDoorC7Gd7
namespace Go.Proofs.YtbngmblgkkdhpaaDoor.Q
open Go.RowKit Go.Proofs.YtbngmblgkkdhpaaDoorW.PrintWords Go.Proofs.YtbngmblgkkdhpaaDoorW.PrintLast Go.Proofs.YtbngmblgkkdhpaaDoorW.PrintMore
attribute [local go_sem] max2_int min2_int max_two min_two max_three min_three max_four min_four
open Go.Proofs.YtbngmblgkkdhpaaDoor.Base
attribute [local go_sem high] str_leq str_gtr str_geq
set_option linter.unusedVariables false
set_option linter.unusedSimpArgs false
mutual
def perigeeref10_Best.l0 : Nat → List (S55) → Int → List (S89) → Int → Option (List Int × Int × Int)
  | 0, _, _, _, _ => none
  | k + 1, x0, x1, x8, x9 => if x9 ≥ 0 then (perigeeref10_Best.l1 k x0 x1 x8 x9 (wrap64 (x9 + 1))) else (if 0 < (x8.length : Int) then (some ((rd_T89 x8 0).f0, (rd_T89 x8 0).f1, 0)) else (none))
def perigeeref10_Best.j2 : Nat → List (S55) → Int → List (S89) → Int → Int → Option (List Int × Int × Int)
  | 0, _, _, _, _, _ => none
  | k + 1, x0, x1, x8, x9, x10 => (some (([x9] : List Int) : List Int)).bind fun y111 => (if 0 ≤ x9 then (if x9 < (x0.length : Int) then ((perigeeref10_whole.f k ((rd_T55 x0 x9).f0) ((rd_T55 x0 x9).f1) ((rd_T55 x0 x9).f2) ((rd_T55 x0 x9).f3)).bind fun t115 => (if 0 ≤ x10 then (if x10 < (x8.length : Int) then (if y111.length + ((rd_T89 x8 x10).f0).length < 17592186044416 then ((some (y111 ++ ((rd_T89 x8 x10).f0) : List Int)).bind fun y119 => (if 0 ≤ (wrap64 (x9 + 1)) then (if (wrap64 (x9 + 1)) < (x8.length : Int) then (if x9 < (x8.length : Int) then ((some (x8.set (x9 : Int).toNat (⟨(rd_T89 x8 (wrap64 (x9 + 1))).f0, (rd_T89 x8 (wrap64 (x9 + 1))).f1⟩ : S89) : List (S89))).bind fun y123 => ((perigeeref10_better.f k y119 (wrap64 (t115 + ((rd_T89 x8 x10).f1))) ((rd_T89 y123 x9).f0) ((rd_T89 y123 x9).f1)).bind fun t125 => (if t125 = true then (perigeeref10_Best.l0 k x0 x1 (y123.set (x9 : Int).toNat (⟨y119, wrap64 (t115 + ((rd_T89 x8 x10).f1))⟩ : S89)) (wrap64 (x9 - 1))) else (perigeeref10_Best.l0 k x0 x1 y123 (wrap64 (x9 - 1)))))) else (none)) else (none)) else (none))) else (none)) else (none)) else (none))) else (none)) else (none))
def perigeeref10_Best.l1 : Nat → List (S55) → Int → List (S89) → Int → Int → Option (List Int × Int × Int)
  | 0, _, _, _, _, _ => none
  | k + 1, x0, x1, x8, x9, x10 => if x10 < (x0.length : Int) then (if 0 ≤ x9 then (if x9 < (x0.length : Int) then (if 0 ≤ x10 then ((perigeeref10_exclude.f ((rd_T55 x0 x9).f0) ((rd_T55 x0 x9).f1) ((rd_T55 x0 x9).f2) ((rd_T55 x0 x9).f3) ((rd_T55 x0 x10).f0) ((rd_T55 x0 x10).f1) ((rd_T55 x0 x10).f2) ((rd_T55 x0 x10).f3) x1).bind fun t110 => (if t110 = true then (perigeeref10_Best.l1 k x0 x1 x8 x9 (wrap64 (x10 + 1))) else (perigeeref10_Best.j2 k x0 x1 x8 x9 x10))) else (none)) else (none)) else (none)) else (perigeeref10_Best.j2 k x0 x1 x8 x9 x10)
end
def perigeeref10_Best.f (k : Nat) (l0 : List (S55)) (a1 : Int) : Option (List Int × Int × Int) := (perigeeref10_CheckPasses.f k l0).bind fun t101 => (if t101 = 0 then ((perigeeref10_gapOK.f a1).bind fun t102 => (if t102 = true then (if 0 ≤ (wrap64 ((l0.length : Int) + 1)) then (if (wrap64 ((l0.length : Int) + 1) : Int).toNat ≤ 8796093022208 then (perigeeref10_Best.l0 k l0 a1 (List.replicate (wrap64 ((l0.length : Int) + 1) : Int).toNat z89) (wrap64 ((l0.length : Int) - 1))) else (none)) else (none)) else (some (([] : List Int), 0, 1)))) else (some (([] : List Int), 0, t101)))
def perigeeref10_Best.T14 : Bool × List (List Nat × List Nat) := (true, [([], []), ([0], [0]), ([], []), ([], []), ([2, 3], [2, 3]), ([4], [4]), ([5], [5]), ([1, 6], [1, 6]), ([0, 1, 2, 3, 4, 5, 6, 7], []), ([8, 7, 7, 0, 1, 2, 3, 4, 5, 6, 7], [7, 8])])
def perigeeref10_Best.B14 : List Nat := [0, 1, 0, 0, 12, 28, 60, 127, 255, 511]
theorem perigeeref10_Best.tab14 : rtab .any (opsOf Tryd.f14 14) = perigeeref10_Best.T14 := by kernel_rfl
theorem perigeeref10_Best.bits14 : waitsOk perigeeref10_Best.T14.2 perigeeref10_Best.B14 = true := by kernel_rfl
theorem kept_set {t : TypeId} {w : World} {g i : Nat} {v : Value} {cs : Array Value} (hb : w.heap[g]? = some (.cells cs t (0, 0))) (ht : t ≠ 3) : IntsKept w (w.setCell ⟨g, i, none⟩ v) := by
  refine ⟨Nat.le_of_eq (by simp [World.setCell]), fun g' cs' hg => ?_⟩
  rw [heap_setCell_other _ _ _ _ (fun (e : g' = g) => by
    subst e
    rw [hg] at hb
    injection hb with hb
    injection hb with _ hb
    exact ht hb.symm)]
  exact hg
/-- The best ones from each pass on, as they lie in memory. -/
structure BInv (w w1 : World) (g n cc : Nat) (bs : List S89) : Prop where
  row : ∃ raws, Kd.R (Kd.raw 2) 89 w1 w.heap.size (fun _ => True) (.slice (some ⟨g, 0, none⟩) n cc) raws ∧ raws.length = bs.length ∧ ∀ j : Nat, j < bs.length → ∃ v, raws.getD j [] = [v, .int .i64 (bs.getD j z89).f1] ∧ Kd.R (Kd.int .i64) 3 w1 w.heap.size (fun _ => True) v (bs.getD j z89).f0
  bel : Below w.heap.size w w1
  len : bs.length = n
section
variable {w w1 w2 : World} {g n cc : Nat} {bs : List S89}
theorem BInv.blk (h : BInv w w1 g n cc bs) : w.heap.size ≤ g ∧ ∃ cs, w1.heap[g]? = some (.cells cs 89 (0, 0)) := by
  obtain ⟨raws, h1, _⟩ := h.row
  refine ⟨Kd.R_base h1 g rfl, ?_⟩
  obtain ⟨cs, hc⟩ := Kd.R_typed h1 g rfl
  exact ⟨cs, hc⟩
theorem BInv.below (h : BInv w w1 g n cc bs) (hb : Below w1.heap.size w1 w2) : BInv w w2 g n cc bs := by
  obtain ⟨raws, h1, h2, h3⟩ := h.row
  exact ⟨⟨raws, Kd.R_below h1 hb, h2, fun j hj => by
    obtain ⟨v, e, hr⟩ := h3 j hj
    exact ⟨v, e, Kd.R_below hr hb⟩⟩, below_step h.bel hb, h.len⟩
/-- One of them read. -/
theorem BInv.at (h : BInv w w1 g n cc bs) (i : Int) (h0 : 0 ≤ i) (h1 : i < (n : Int)) :
    ∃ A c, w1.cell? ⟨g, i.toNat * 2, none⟩ = some (.slice A (rd_T89 bs i).f0.length c) ∧ w1.cell? ⟨g, i.toNat * 2 + 1, none⟩ = some (.int .i64 (rd_T89 bs i).f1) ∧ Kd.R (Kd.int .i64) 3 w1 w.heap.size (fun _ => True) (.slice A (rd_T89 bs i).f0.length c) (rd_T89 bs i).f0 ∧ (∀ j, w1.frozen? ⟨g, j, none⟩ = false) := by
  obtain ⟨raws, q1, q2, q3⟩ := h.row
  obtain ⟨c, hcl, hM, hcc, hfr⟩ := Kd.R_elem q1 [] i h0 h1
  obtain ⟨v, e1, e2⟩ := q3 i.toNat (by rw [h.len]; omega)
  obtain ⟨A1, c1, rfl⟩ := Kd.R_slice e2
  have hcs : c = raws.getD i.toNat [] := hM.1
  rw [e1] at hcs
  subst hcs
  obtain ⟨cs, hb⟩ := h.blk.2
  exact ⟨A1, c1, hcc 0 _ rfl, hcc 1 _ rfl, e2, fun j => blk_frozen hb j⟩
def set2c (w : World) (g i : Nat) (v0 v1 : Value) : World := (w.setCell ⟨g, i * 2, none⟩ v0).setCell ⟨g, i * 2 + 1, none⟩ v1
/-- One of them written. -/
theorem BInv.set (h : BInv w w1 g n cc bs) {i : Nat} (h1 : i < n) {v : Value} {x : S89} (hv : Kd.R (Kd.int .i64) 3 w1 w.heap.size (fun _ => True) v x.f0) : BInv w (set2c w1 g i v (.int .i64 x.f1)) g n cc (bs.set i x) ∧ IntsKept w1 (set2c w1 g i v (.int .i64 x.f1)) ∧ (∀ k, k ≠ g → (set2c w1 g i v (.int .i64 x.f1)).heap[k]? = w1.heap[k]?) := by
  obtain ⟨raws, q1, q2, q3⟩ := h.row
  obtain ⟨c, hcl, hM, hcc, hfr⟩ := Kd.R_elem q1 [] (i : Int) (by omega) (by omega)
  obtain ⟨cs, hb⟩ := h.blk.2
  obtain ⟨A1, c1, rfl⟩ := Kd.R_slice hv
  have hk : IntsKept w1 (set2c w1 g i (.slice A1 x.f0.length c1) (.int .i64 x.f1)) := (kept_set hb (by decide)).trans (kept_set (blk_set hb _ _) (by decide))
  have hseg := Kd.R_seg (okp := fun _ => False) (seg := [.slice A1 x.f0.length c1, .int .i64 x.f1]) (j := 0) (x' := [.slice A1 x.f0.length c1, .int .i64 x.f1]) q1 (i : Int) (by omega) (by omega) hcl hcc (by show 0 + 2 ≤ 2; omega) (by
    have hc2 : c.length = 2 := hcl
    rw [List.take_zero, List.nil_append, List.drop_of_length_le (by rw [hc2]; exact Nat.le_refl _), List.append_nil]
    exact ⟨rfl, rfl, by simp [Value.oneCell']⟩) (fun _ hk => hk.elim)
  rw [Int.toNat_natCast] at hseg
  have e0 : w1.setCells g (i * (Kd.raw 2).sz + 0) [.slice A1 x.f0.length c1, .int .i64 x.f1] = set2c w1 g i (.slice A1 x.f0.length c1) (.int .i64 x.f1) := rfl
  rw [e0] at hseg
  obtain ⟨hr', hf⟩ := hseg
  refine ⟨⟨⟨raws.set i _, hr', by simp [q2], fun j hj => ?_⟩, pw_below_grown h.bel _ h.bel.size hf (fun k e => by cases e; exact h.blk.1), by simp [h.len]⟩, hk, fun k hk => ?_⟩
  · rw [List.length_set] at hj
    by_cases e : i = j
    · subst e
      refine ⟨.slice A1 x.f0.length c1, ?_, ?_⟩
      · rw [List.getD_eq_getElem?_getD, List.getElem?_set_self (by omega), List.getD_eq_getElem?_getD, List.getElem?_set_self (by omega)]
        rfl
      · rw [List.getD_eq_getElem?_getD, List.getElem?_set_self (by omega)]
        exact row_kept hv hk
    · obtain ⟨u, e1, e2⟩ := q3 j hj
      refine ⟨u, ?_, ?_⟩
      · rw [List.getD_eq_getElem?_getD, List.getElem?_set_ne e, List.getD_eq_getElem?_getD, List.getElem?_set_ne e, ← List.getD_eq_getElem?_getD, ← List.getD_eq_getElem?_getD]
        exact e1
      · rw [List.getD_eq_getElem?_getD, List.getElem?_set_ne e, ← List.getD_eq_getElem?_getD]
        exact row_kept e2 hk
  · unfold set2c
    rw [heap_setCell_other _ _ _ _ hk, heap_setCell_other _ _ _ _ hk]
end
theorem made_row {w w1 W : World} {m : Nat} {v : Value} (h : Kd.R (Kd.raw 2) 89 w1 w.heap.size (fun _ => True) v (List.replicate m [.slice none 0 0, .int .i64 0])) (hb : Below w.heap.size w w1) (ha : ∃ b, v.ownBlock = some b ∧ W.heap.size ≤ b) : ∃ g c, v = .slice (some ⟨g, 0, none⟩) m c ∧ BInv w w1 g m c (List.replicate m z89) := by
  obtain ⟨b, e1, _⟩ := ha
  obtain ⟨_, inner, ho, _⟩ := id h
  obtain ⟨_, he | ⟨g, cap, cur, e, _⟩⟩ := ho
  · rw [he.1] at e1
    cases e1
  · rw [List.length_replicate] at e
    refine ⟨g, cap, e, ⟨⟨_, e ▸ h, by simp, fun j hj => ?_⟩, hb, by simp⟩⟩
    rw [List.length_replicate] at hj
    refine ⟨.slice none 0 0, ?_, ?_⟩
    · rw [List.getD_eq_getElem?_getD, List.getD_eq_getElem?_getD, List.getElem?_replicate, List.getElem?_replicate, if_pos hj, if_pos hj]
      rfl
    · rw [List.getD_eq_getElem?_getD, List.getElem?_replicate, if_pos hj]
      exact Kd.R_nil _ _ _ _ _
theorem keep13 {W w' : World} {a1 a2 a3 a4 a5 : Addr} {v1 v2 v3 v4 v5 : Value} (h : Below W.heap.size W w') (x1 : W.cell? a1 = some v1) (x2 : W.cell? a2 = some v2) (x3 : W.cell? a3 = some v3) (x4 : W.cell? a4 = some v4) (x5 : W.cell? a5 = some v5) : Below W.heap.size W w' ∧ w'.cell? a1 = some v1 ∧ w'.cell? a2 = some v2 ∧ w'.cell? a3 = some v3 ∧ w'.cell? a4 = some v4 ∧ w'.cell? a5 = some v5 :=
  ⟨h, pw_cell_below h x1, pw_cell_below h x2, pw_cell_below h x3, pw_cell_below h x4, pw_cell_below h x5⟩
theorem blk_put2 {W : World} {g : Nat} {u0 u1 v0 v1 : Value} {t : TypeId} (h : W.heap[g]? = some (.cells #[u0, u1] t (0, 0))) : ((W.setCell ⟨g, 0, none⟩ v0).setCell ⟨g, 1, none⟩ v1).heap[g]? = some (.cells #[v0, v1] t (0, 0)) := blk_set (blk_set h 0 v0) 1 v1
theorem size_alloc1 (w : World) (o : Obj) : (w.alloc o).heap.size = w.heap.size + 1 := by
  unfold World.alloc
  exact Array.size_push _
theorem blk_new1 {w : World} {o : Obj} {g : Nat} (hg : g = w.heap.size) : (w.alloc o).heap[g]? = some o := by
  subst hg
  exact blk_new w o
theorem box_cells {W : World} {g : Nat} {u0 u1 : Value} {t : TypeId} (h : W.heap[g]? = some (.cells #[u0, u1] t (0, 0))) : W.cell? ⟨g, 0, none⟩ = some u0 ∧ W.frozen? ⟨g, 0, none⟩ = false ∧ (∀ v, (W.setCell ⟨g, 0, none⟩ v).cell? ⟨g, 1, none⟩ = some u1) ∧ (∀ v, (W.setCell ⟨g, 0, none⟩ v).frozen? ⟨g, 1, none⟩ = false) :=
  ⟨(blk_cell h 0).trans rfl, blk_frozen h 0, fun v => (blk_cell (blk_set h 0 v) 1).trans rfl, fun v => blk_frozen (blk_set h 0 v) 1⟩
/-- One best way in its box. -/
structure BxAt (W wx : World) (g : Nat) (A : Option Addr) (c : Nat) (xs : List Int) (t : Int) : Prop where
  box : wx.heap[g]? = some (.cells #[.slice A xs.length c, .int .i64 t] 89 (0, 0))
  row : Kd.R (Kd.int .i64) 3 wx W.heap.size (fun _ => True) (.slice A xs.length c) xs
  bel : Below W.heap.size W wx
  far : W.heap.size ≤ g
theorem bx_mk {W wx : World} {g q : Nat} {x t : Int} (hb : wx.heap[g]? = some (.cells #[.slice (some ⟨q, 0, none⟩) 1 1, .int .i64 (IntKind.i64.wrap t)] 89 (0, 0))) (hr : wx.heap[q]? = some (.cells #[.int .i64 x] 3 (0, 0))) (hB : Below W.heap.size W wx) (hg : W.heap.size ≤ g) (hq : W.heap.size ≤ q) : BxAt W wx g (some ⟨q, 0, none⟩) 1 [x] (wrap64 t) :=
  ⟨i64_w t ▸ hb, ⟨fun _ _ => trivial, [.int .i64 x], ⟨rfl, .inr ⟨q, 1, #[.int .i64 x], rfl, hq, hr, Nat.le_refl _, by decide, rfl, rfl⟩⟩, Reps.one (show Kd.M (Kd.int .i64) _ _ _ x [.int .i64 x] from rfl) (Reps.none _ _)⟩, hB, hg⟩
theorem next_cell {W : World} {g i : Nat} {cs : Array Value} {t : TypeId} {u : Value} (hb : W.heap[g]? = some (.cells cs t (0, 0))) (hc : W.cell? ⟨g, i + 1, none⟩ = some u) (v : Value) : (W.setCell ⟨g, i, none⟩ v).cell? ⟨g, i + 1, none⟩ = some u := by
  rw [blk_cell (blk_set hb i v) (i + 1), Array.getElem?_setIfInBounds_ne (by omega), ← blk_cell hb (i + 1)]
  exact hc
theorem int_row_info : (Tryd.prog.info? 3).map (fun i => (i.zero, i.size, i.bytes)) = some (some (.int .i64 0), 1, 8) := by kernel_rfl
theorem choice_info : (Tryd.prog.info? 89).map (fun i => (i.zero, i.size, i.bytes)) = some (some (.agg #[.slice none 0 0, .int .i64 0]), 2, 32) := by kernel_rfl
theorem zero_raw {w : World} {b : Nat} {ok : Nat → Prop} : (Kd.raw 2).M w b ok [.slice none 0 0, .int .i64 0] ((Value.agg #[.slice none 0 0, .int .i64 0]).cells.toList) := ⟨rfl, rfl, fun u hu => by
  have e : (Value.agg #[.slice none 0 0, .int .i64 0]).cells.toList = [.slice none 0 0, .int .i64 0] := rfl
  rw [e] at hu
  rcases List.mem_cons.mp hu with rfl | hu
  · rfl
  · rcases List.mem_singleton.mp hu with rfl
    rfl⟩
set_option maxHeartbeats 16000000 in
set_option maxRecDepth 100000 in
theorem perigeeref10_Best.calls (k : Nat) (A0 : Option Addr) (c0 : Nat) (l0 : List S55) (a1 : Int) (r1 : List Int) (r2 : Int) (r3 : Int) (w : World) (hr0 : Kd.C k55 w A0 l0.length l0) (hc0 : l0.length ≤ c0) (h : perigeeref10_Best.f k l0 a1 = some (r1, r2, r3)) :
    Calls Tryd.prog 14 #[.slice A0 l0.length c0, .int .i64 a1] w fun e w' => ∃ v0_ : Value, e = .returned (.tuple #[v0_, .int .i64 r2, .int .i64 r3]) ∧ Kd.R (Kd.int .i64) 3 w' w.heap.size (fun _ => True) v0_ r1 ∧ Below w.heap.size w w' := by
  have hup := Tryd.underlying55
  have huc := Tryd.underlying89
  have HR0 := Aside0.mk hr0
  have HC0 := Aside0.mk hc0
  clear hr0 hc0
  unfold perigeeref10_Best.f at h
  obtain ⟨t1, ht1, h⟩ := Option.bind_eq_some_iff.mp h
  have H1 := Aside0.mk ht1
  clear ht1
  by_cases c1 : t1 = 0
  rotate_left
  · have d1 : (t1 != 0) = true := by simpa using c1
    rw [if_neg c1] at h
    have h := Option.some.inj h
    injection h with ha hb
    injection hb with hb hc
    subst ha hb hc
    clear c1
    go_enter Tryd.func14, Tryd.ntmps14
    go_wp2_with (first | (go_at_call 33; go_loud (with_reducible refine (perigeeref10_CheckPasses.calls k _ _ l0 _ _ HR0.out HC0.out H1.out).mono ?_); rintro e w1 ⟨rfl, hb⟩; have HB1 := Aside0.mk hb; clear hb))
    go_ret3
    exact ⟨_, rfl, Kd.R_nil _ _ _ _ _, HB1.out⟩
  have d1 : (t1 != 0) = false := by simpa using c1
  rw [if_pos c1] at h
  obtain ⟨t2, ht2, h⟩ := Option.bind_eq_some_iff.mp h
  have H2 := Aside0.mk ht2
  clear ht2 c1
  cases t2 with
  | false =>
    rw [if_neg (by simp)] at h
    have h := Option.some.inj h
    injection h with ha hb
    injection hb with hb hc
    subst ha hb hc
    go_enter Tryd.func14, Tryd.ntmps14
    go_wp2_with (first | (go_at_call 33; go_loud (with_reducible refine (perigeeref10_CheckPasses.calls k _ _ l0 _ _ HR0.out HC0.out H1.out).mono ?_); rintro e w1 ⟨rfl, hb⟩; have HB1 := Aside0.mk hb; clear hb) | (go_at_call 44; go_loud (with_reducible refine (perigeeref10_gapOK.calls a1 false _ H2.out).mono ?_); rintro e w2 ⟨rfl, ⟨nd, rfl⟩⟩))
    go_ret3
    exact ⟨_, rfl, Kd.R_nil _ _ _ _ _, pw_below_drewN HB1.out nd⟩
  | true =>
    rw [if_pos rfl] at h
    by_cases c3 : 0 ≤ wrap64 ((l0.length : Int) + 1)
    rotate_left
    · rw [if_neg c3] at h
      cases h
    rw [if_pos c3] at h
    by_cases c4 : (wrap64 ((l0.length : Int) + 1) : Int).toNat ≤ 8796093022208
    rotate_left
    · rw [if_neg c4] at h
      cases h
    rw [if_pos c4] at h
    obtain ⟨m, hm⟩ := Int.eq_ofNat_of_zero_le c3
    rw [hm, Int.toNat_natCast] at h
    rw [hm, Int.toNat_natCast] at c4
    have HM := Aside0.mk c4
    have HG := Aside0.mk h
    have HWM := Aside0.mk hm
    clear h c3 c4
    go_enter Tryd.func14, Tryd.ntmps14
    go_wp2_with (first | (go_at_call 33; go_loud (with_reducible refine (perigeeref10_CheckPasses.calls k _ _ l0 _ _ HR0.out HC0.out H1.out).mono ?_); rintro e w1 ⟨rfl, hb⟩; have HB1 := Aside0.mk hb; clear hb) | (go_at_call 44; go_loud (with_reducible refine (perigeeref10_gapOK.calls a1 true _ H2.out).mono ?_); rintro e w2 ⟨rfl, ⟨nd, rfl⟩⟩) | ((with_reducible refine gate_dst (N := 23) rfl ?_); go_loud (refine Kd.R_make (Kd.raw 2) (w0 := w) w.heap.size 89 rfl (N := 23) rfl 87 _ _ rfl (m : Int) (by first | rfl | (go_simp; done) | (simp only [i64_w, hm]; rfl)) (by first | rfl | (go_simp; done) | (simp only [i64_w, hm]; rfl)) Tryd.underlying87 (.agg #[.slice none 0 0, .int .i64 0]) 32 choice_info rfl (by decide) (by omega) [.slice none 0 0, .int .i64 0] (ok := fun _ => True) (okp := fun _ => False) zero_raw (fun _ hk => hk.elim) trivial (by omega) (by have := HM.out; rw [Int.toNat_natCast]; omega) (pw_below_drewN HB1.out nd) (pw_below_drewN HB1.out nd).size ?_); go_loud (intro v1 w3 hr3 hb3 hg3 hat3; rw [Int.toNat_natCast] at hr3; have HR3 := Aside0.mk hr3; have HB3 := Aside0.mk hb3; have HAT := Aside0.mk hat3; clear hr3 hb3 hg3 hat3)))
    obtain ⟨gB, cB, rfl, hbs⟩ := made_row HR3.out HB3.out HAT.out
    have HBS := Aside0.mk hbs
    clear hbs HR3 HB3 HAT HB1 H1 H2 nd
    go_loopg [9] k (fun kq v9 w' => ∃ (bs : List S89) (x9 : Int), v9 = .int .i64 x9 ∧ Aside0 (perigeeref10_Best.l0 kq l0 a1 bs x9 = some (r1, r2, r3)) ∧ Aside0 (BInv w w' gB m cB bs))
    case atStart => exact ⟨List.replicate m z89, wrap64 ((l0.length : Int) - 1), (by first | rfl | (simp; done)), HG, HBS⟩
    case round =>
      clear HG HBS
      obtain ⟨bs, x9, rfl, HL, HBI⟩ := hrel
      cases gk with
      | zero => exact absurd HL.out (by simp [perigeeref10_Best.l0])
      | succ k1 =>
        have h := HL.out
        clear HL
        rw [perigeeref10_Best.l0] at h
        by_cases c5 : x9 ≥ 0
        rotate_left
        · have d5 : decide (0 ≤ x9) = false := decide_eq_false c5
          rw [if_neg c5] at h
          by_cases c6 : 0 < (bs.length : Int)
          rotate_left
          · rw [if_neg c6] at h
            cases h
          rw [if_pos c6] at h
          have h := Option.some.inj h
          injection h with ha hb
          injection hb with hb hc
          subst ha hb hc
          have hm0 : (0 : Int) < (m : Int) := by have := HBI.out.len; omega
          obtain ⟨A, c, u0, u1, hr, _⟩ := HBI.out.at 0 (by omega) hm0
          have HRR := Aside0.mk hr
          have u00 : wr.cell? ⟨gB, 0, none⟩ = _ := u0
          have u01 : wr.cell? ⟨gB, 1, none⟩ = _ := u1
          have hm2 : 0 < m := by omega
          have hm3 : (0 : Int) ≤ 0 := by omega
          clear hr c5 c6 u0 u1
          go_wp2
          go_quiet (fail)
          go_wp2
          go_ret3
          exact ⟨_, rfl, Kd.R_drewN HRR.out _, pw_below_drewN HBI.out.bel _⟩
        have d5 : decide (0 ≤ x9) = true := decide_eq_true c5
        rw [if_pos c5] at h
        have HA := Aside0.mk h
        clear h c5
        go_upto_block 2 with (fail)
        go_cut [10] (fun v10 wc => ∃ (kq : Nat) (x10 : Int), v10 = .int .i64 x10 ∧ Aside0 (kq ≤ k1) ∧ Aside0 (perigeeref10_Best.j2 kq l0 a1 bs x9 x10 = some (r1, r2, r3)) ∧ Aside0 (BInv w wc gB m cB bs))
        case first =>
          go_wp2
          go_loopg [10] k1 (fun kq v10 w' => ∃ (x10 : Int), v10 = .int .i64 x10 ∧ Aside0 (kq ≤ k1) ∧ Aside0 (perigeeref10_Best.l1 kq l0 a1 bs x9 x10 = some (r1, r2, r3)) ∧ Aside0 (BInv w w' gB m cB bs))
          case atStart => exact ⟨wrap64 (x9 + 1), (by first | rfl | (simp; done)), ⟨Nat.le_refl _⟩, HA, HBI⟩
          case round =>
            clear HA HBI
            obtain ⟨x10, rfl, HK, HA, HBI⟩ := hrel
            cases gk with
            | zero => exact absurd HA.out (by simp [perigeeref10_Best.l1])
            | succ k2 =>
              have h := HA.out
              clear HA
              rw [perigeeref10_Best.l1] at h
              by_cases c7 : x10 < (l0.length : Int)
              rotate_left
              · have d7 : decide (x10 < (l0.length : Int)) = false := decide_eq_false c7
                rw [if_neg c7] at h
                have HA := Aside0.mk h
                clear h c7
                go_wp2
                go_quiet (fail)
                go_wp2
                go_meet
                case rel => exact ⟨k2, x10, (by first | rfl | (simp; done)), ⟨by have := HK.out; omega⟩, HA, ⟨HBI.out.below (pw_below_drewN (Below.refl _ _) _)⟩⟩
              have d7 : decide (x10 < (l0.length : Int)) = true := decide_eq_true c7
              rw [if_pos c7] at h
              by_cases c8 : 0 ≤ x9
              rotate_left
              · rw [if_neg c8] at h
                cases h
              rw [if_pos c8] at h
              by_cases c9 : x9 < (l0.length : Int)
              rotate_left
              · rw [if_neg c9] at h
                cases h
              rw [if_pos c9] at h
              by_cases c10 : 0 ≤ x10
              rotate_left
              · rw [if_neg c10] at h
                cases h
              rw [if_pos c10] at h
              obtain ⟨t, ht, h⟩ := Option.bind_eq_some_iff.mp h
              have HT := Aside0.mk ht
              have HA := Aside0.mk h
              clear h ht
              obtain ⟨ad, A3, c3, e, x0, x1, x2, x3, hl3, hi3⟩ := at_T55 HR0.out x9 c8 c9
              subst e
              obtain ⟨_, B3, b3, e, y0, y1, y2, y3, hl4, hi4⟩ := at_T55 HR0.out x10 c10 c7
              cases e
              have hb := HBI.out.bel
              replace x0 := (hb.cell (World.block_lt_of_cell? w _ x0)).trans x0
              replace x1 := (hb.cell (World.block_lt_of_cell? w _ x1)).trans x1
              replace x2 := (hb.cell (World.block_lt_of_cell? w _ x2)).trans x2
              replace x3 := (hb.cell (World.block_lt_of_cell? w _ x3)).trans x3
              replace y0 := (hb.cell (World.block_lt_of_cell? w _ y0)).trans y0
              replace y1 := (hb.cell (World.block_lt_of_cell? w _ y1)).trans y1
              replace y2 := (hb.cell (World.block_lt_of_cell? w _ y2)).trans y2
              replace y3 := (hb.cell (World.block_lt_of_cell? w _ y3)).trans y3
              have HI3 := Aside0.mk hi3
              have HL3 := Aside0.mk hl3
              have HI4 := Aside0.mk hi4
              have HL4 := Aside0.mk hl4
              clear hi3 hl3 hi4 hl4 hb
              cases t with
              | true =>
                replace HA := Aside0.mk ((if_pos rfl).symm.trans HA.out)
                go_wp2
                go_still_tail 14, (by kernel_rfl)
                change wpList _ _ _ _ _ wr.drew
                go_wp2_with (first | (go_at_call 45; go_loud (with_reducible refine (perigeeref10_exclude.calls _ _ _ A3 c3 _ _ _ _ B3 b3 _ a1 true _ (Kd.C_drew (Kd.C_below HI3.out HBI.out.bel)) HL3.out (Kd.C_drew (Kd.C_below HI4.out HBI.out.bel)) HL4.out HT.out).mono ?_); rintro e w4 ⟨rfl, hb⟩; have HB4 := Aside0.mk hb; clear hb))
                go_roundg k2
                case measure => omega
                case rel => exact ⟨wrap64 (x10 + 1), (by first | rfl | (simp; done)), ⟨by have := HK.out; omega⟩, HA, ⟨HBI.out.below (below_step (below_drew (Below.refl _ _)) HB4.out)⟩⟩
              | false =>
                replace HA := Aside0.mk ((if_neg (by simp)).symm.trans HA.out)
                go_wp2
                go_still_tail 14, (by kernel_rfl)
                change wpList _ _ _ _ _ wr.drew
                go_wp2_with (first | (go_at_call 45; go_loud (with_reducible refine (perigeeref10_exclude.calls _ _ _ A3 c3 _ _ _ _ B3 b3 _ a1 false _ (Kd.C_drew (Kd.C_below HI3.out HBI.out.bel)) HL3.out (Kd.C_drew (Kd.C_below HI4.out HBI.out.bel)) HL4.out HT.out).mono ?_); rintro e w4 ⟨rfl, hb⟩; have HB4 := Aside0.mk hb; clear hb))
                go_meet
                case rel => exact ⟨k2, x10, (by first | rfl | (simp; done)), ⟨by have := HK.out; omega⟩, HA, ⟨HBI.out.below (below_step (below_drew (Below.refl _ _)) HB4.out)⟩⟩
        case rest =>
          clear HA HBI
          obtain ⟨kq, x10, rfl, HK, HA, HBI⟩ := hcut
          cases kq with
          | zero => exact absurd HA.out (by simp [perigeeref10_Best.j2])
          | succ k3 =>
            have h := HA.out
            clear HA
            rw [perigeeref10_Best.j2, Option.bind_some] at h
            by_cases c8 : 0 ≤ x9
            rotate_left
            · rw [if_neg c8] at h
              cases h
            rw [if_pos c8] at h
            by_cases c9 : x9 < (l0.length : Int)
            rotate_left
            · rw [if_neg c9] at h
              cases h
            rw [if_pos c9] at h
            obtain ⟨t, ht, h⟩ := Option.bind_eq_some_iff.mp h
            have HT := Aside0.mk ht
            clear ht
            by_cases c10 : 0 ≤ x10
            rotate_left
            · rw [if_neg c10] at h
              cases h
            rw [if_pos c10] at h
            by_cases c11 : x10 < (bs.length : Int)
            rotate_left
            · rw [if_neg c11] at h
              cases h
            rw [if_pos c11] at h
            obtain ⟨b, hbq⟩ : ∃ b, b = rd_T89 bs x10 := ⟨_, rfl⟩
            rw [← hbq] at h
            by_cases c12 : ([x9] : List Int).length + b.f0.length < 17592186044416
            rotate_left
            · rw [if_neg c12] at h
              cases h
            rw [if_pos c12, Option.bind_some] at h
            have HL12 := Aside0.mk c12
            clear c12
            have HA := Aside0.mk h
            clear h
            have hlen := HBI.out.len
            have c11m : x10 < (m : Int) := by omega
            obtain ⟨ad, A3, c3, e, x0, x1, x2, x3, hl3, hi3⟩ := at_T55 HR0.out x9 c8 c9
            subst e
            have hb := HBI.out.bel
            replace x0 := (hb.cell (World.block_lt_of_cell? w _ x0)).trans x0
            replace x1 := (hb.cell (World.block_lt_of_cell? w _ x1)).trans x1
            replace x2 := (hb.cell (World.block_lt_of_cell? w _ x2)).trans x2
            replace x3 := (hb.cell (World.block_lt_of_cell? w _ x3)).trans x3
            have HI3 := Aside0.mk (Kd.C_below hi3 hb)
            have HL3 := Aside0.mk hl3
            obtain ⟨A4, c4, y0, y1, hr4, _⟩ := HBI.out.at x10 c10 c11m
            rw [← hbq] at y0 y1 hr4
            have HR4 := Aside0.mk hr4
            clear hi3 hl3 hb hr4 hbq c11 hlen
            go_upto_region 13 with (fail)
            go_cut [11] (fun v11 wx => ∃ (g11 : Nat) (A : Option Addr) (c : Nat), v11 = .pointer (some ⟨g11, 0, none⟩) ∧ Aside0 (BxAt wc wx g11 A c [x9] (wrap64 (t + b.f1))))
            case first =>
              go_region_held3 (fun w' => Below wc.heap.size wc w' ∧ w'.cell? (ad.add (x9.toNat * 4)) = some (.string (rd_T55 l0 x9).f0) ∧ w'.cell? ⟨(ad.add (x9.toNat * 4)).block, (ad.add (x9.toNat * 4)).off + 1, none⟩ = some (.int .i64 (rd_T55 l0 x9).f1) ∧ w'.cell? ⟨(ad.add (x9.toNat * 4)).block, (ad.add (x9.toNat * 4)).off + 2, none⟩ = some (.int .i64 (rd_T55 l0 x9).f2) ∧ w'.cell? ⟨(ad.add (x9.toNat * 4)).block, (ad.add (x9.toNat * 4)).off + 3, none⟩ = some (.slice A3 (rd_T55 l0 x9).f3.length c3) ∧ w'.cell? ⟨gB, x10.toNat * 2 + 1, none⟩ = some (.int .i64 b.f1)) (exact keep13 (by repeat (first | with_reducible exact HB7.out | with_reducible exact Below.refl _ _ | apply below_alloc | apply below_drew | apply pw_below_drewN | refine below_set ?_ (by have := HB7.out.size; omega))) x0 x1 x2 x3 y1) (first | (go_at_call 46; ((with_reducible refine (perigeeref10_whole.calls k3 _ _ _ A3 c3 _ t _ ?side1 HL3.out HT.out).mono ?_); (case side1 => exact Kd.C_below HI3.out (by repeat (first | with_reducible exact Below.refl _ _ | apply below_alloc | apply below_drew | apply pw_below_drewN))); rintro e w7 ⟨rfl, hb⟩; have HB7 := Aside0.mk (below_step (show Below wc.heap.size wc _ by repeat (first | with_reducible exact Below.refl _ _ | apply below_alloc | apply below_drew | apply pw_below_drewN)) hb); have HC7 := Aside0.mk hb; (first | (have hz : w7.heap[wc.heap.size + 1]? = some (.cells #[.slice none 0 0, .int .i64 0] 89 (0, 0)) := blk_below (by first | exact blk_new1 rfl | exact blk_new1 (size_alloc1 _ _).symm | exact blk_alloc (blk_new1 rfl) _ | exact blk_drew (blk_new1 rfl) | exact blk_drew (blk_new1 (size_alloc1 _ _).symm) | exact blk_drew (blk_alloc (blk_new1 rfl) _)) hb; have HZ := Aside0.mk hz; obtain ⟨z0, z1, z2, z3⟩ := box_cells hz; have z4 := fun o => (box_cells (blk_alloc hz o)).1; have z5 := fun o => (box_cells (blk_alloc hz o)).2.1; have z6 := fun o => (box_cells (blk_alloc hz o)).2.2.1; have z7 := fun o => (box_cells (blk_alloc hz o)).2.2.2; clear hz) | (have hz : w7.heap[wc.heap.size]? = some (.cells #[.slice none 0 0, .int .i64 0] 89 (0, 0)) := blk_below (by first | exact blk_new1 rfl | exact blk_new1 (size_alloc1 _ _).symm | exact blk_alloc (blk_new1 rfl) _ | exact blk_drew (blk_new1 rfl) | exact blk_drew (blk_new1 (size_alloc1 _ _).symm) | exact blk_drew (blk_alloc (blk_new1 rfl) _)) hb; have HZ := Aside0.mk hz; obtain ⟨z0, z1, z2, z3⟩ := box_cells hz; have z4 := fun o => (box_cells (blk_alloc hz o)).1; have z5 := fun o => (box_cells (blk_alloc hz o)).2.1; have z6 := fun o => (box_cells (blk_alloc hz o)).2.2.1; have z7 := fun o => (box_cells (blk_alloc hz o)).2.2.2; clear hz) | skip); (first | have HRW := Aside0.mk (show w7.heap[wc.heap.size]? = some (.cells #[.int .i64 x9] 3 (0, 0)) from blk_below (by first | exact blk_new1 rfl | exact blk_new1 (size_alloc1 _ _).symm | exact blk_alloc (blk_new1 rfl) _ | exact blk_drew (blk_new1 rfl) | exact blk_drew (blk_new1 (size_alloc1 _ _).symm) | exact blk_drew (blk_alloc (blk_new1 rfl) _)) hb) | have HRW := Aside0.mk (show w7.heap[wc.heap.size + 1]? = some (.cells #[.int .i64 x9] 3 (0, 0)) from blk_below (by first | exact blk_new1 rfl | exact blk_new1 (size_alloc1 _ _).symm | exact blk_alloc (blk_new1 rfl) _ | exact blk_drew (blk_new1 rfl) | exact blk_drew (blk_new1 (size_alloc1 _ _).symm) | exact blk_drew (blk_alloc (blk_new1 rfl) _)) hb) | skip); clear hb)))
              all_goals
                go_wp2
                go_meet
                try clear z0 z1 z2 z3 z4 z5 z6 z7
              all_goals
                have hsz := HB7.out.size
                try have hzl := blk_lt HZ.out
                refine ⟨_, some ⟨?_, 0, none⟩, 1, rfl, ⟨bx_mk ?box ?row ?bel ?hg ?hq⟩⟩
                case box => first | with_reducible exact blk_new1 rfl | with_reducible exact blk_new1 (size_alloc1 _ _).symm | with_reducible exact blk_alloc (blk_new1 rfl) _ | with_reducible exact blk_put2 HZ.out | with_reducible exact blk_put2 (blk_alloc HZ.out _) | with_reducible exact blk_put2 (blk_alloc (blk_new1 rfl) _) | with_reducible exact blk_put2 (blk_new1 rfl) | with_reducible exact blk_put2 (blk_new1 (size_alloc1 _ _).symm)
                case row => first | with_reducible exact blk_alloc HRW.out _ | with_reducible exact blk_far (blk_far HRW.out (by first | omega | (dsimp only; omega)) _) (by first | omega | (dsimp only; omega)) _ | with_reducible exact blk_alloc (blk_new1 rfl) _ | with_reducible exact blk_new1 (size_alloc1 _ _).symm | with_reducible exact blk_far (blk_far (blk_new1 rfl) (by first | omega | (dsimp only; omega)) _) (by first | omega | (dsimp only; omega)) _ | with_reducible exact blk_far (blk_far (blk_new1 (size_alloc1 _ _).symm) (by first | omega | (dsimp only; omega)) _) (by first | omega | (dsimp only; omega)) _ | with_reducible exact blk_far (blk_far (blk_alloc (blk_new1 rfl) _) (by first | omega | (dsimp only; omega)) _) (by first | omega | (dsimp only; omega)) _ | with_reducible exact blk_far (blk_far (blk_alloc HRW.out _) (by first | omega | (dsimp only; omega)) _) (by first | omega | (dsimp only; omega)) _
                case bel => repeat (first | with_reducible exact HB7.out | apply below_alloc | refine below_set ?_ (by omega))
                case hg => omega
                case hq => omega
            case rest =>
              obtain ⟨g11, A, c, rfl, BX⟩ := hcut
              have h := HA.out
              clear HA
              obtain ⟨j, hj⟩ : ∃ j, wrap64 (x9 + 1) = j := ⟨_, rfl⟩
              rw [hj] at h
              by_cases c13 : 0 ≤ j
              rotate_left
              · rw [if_neg c13] at h
                cases h
              rw [if_pos c13] at h
              by_cases c14 : j < (bs.length : Int)
              rotate_left
              · rw [if_neg c14] at h
                cases h
              rw [if_pos c14] at h
              by_cases c15 : x9 < (bs.length : Int)
              rotate_left
              · rw [if_neg c15] at h
                cases h
              rw [if_pos c15, Option.bind_some] at h
              have hjw : IntKind.i64.wrap (x9 + 1) = j := (i64_w _).trans hj
              have hlen := HBI.out.len
              have c14m : j < (m : Int) := by omega
              have c15m : x9 < (m : Int) := by omega
              obtain ⟨y, hy⟩ : ∃ y, y = ([x9] : List Int) ++ b.f0 := ⟨_, rfl⟩
              rw [← hy] at h
              obtain ⟨bs1, hbs1⟩ : ∃ bs1, bs1 = bs.set x9.toNat (⟨(rd_T89 bs j).f0, (rd_T89 bs j).f1⟩ : S89) := ⟨_, rfl⟩
              rw [← hbs1] at h
              obtain ⟨tb, htb, h⟩ := Option.bind_eq_some_iff.mp h
              have HTB := Aside0.mk htb
              have HA := Aside0.mk h
              have HY := Aside0.mk hy
              have HBS1 := Aside0.mk hbs1
              clear h htb hy hbs1 c14 c15 hlen x0 x1 x2 x3 y1 HI3 HL3
              go_upto_region 14 with (fail)
              have z0 : wc.cell? ⟨g11, 0, none⟩ = some (.slice A 1 c) := (blk_cell BX.out.box 0).trans rfl
              have y0c := pw_cell_below BX.out.bel y0
              have HR5 := Aside0.mk (Kd.R_below HR4.out BX.out.bel)
              clear y0 HR4
              go_still_tail 7, (by kernel_rfl)
              change wpList _ _ _ _ _ wc.drew
              go_wp2_with (first | ((with_reducible refine gate_builtin (b := .append) (xs := #[.tmp 66, .tmp 71]) rfl ?_); at_builtin; go_loud (refine Kd.R_append_rows (Kd.int .i64) (w0 := _) _ rfl (.tmp 66) (.tmp 71) 31 3 (.int .i64 0) 8 rfl Tryd.underlying31 int_row_info rfl (by decide) (by omega) (.slice A 1 c) [x9] b.f0 A4 b.f0.length c4 (fun _ => True) (fun _ => False) rfl rfl (Kd.R_drew BX.out.row) (Kd.R_reads' (Kd.R_drew HR5.out)).2.2 (fun _ _ h => h) (fun _ h => h.elim) (fun _ _ => trivial) (below_drew BX.out.bel) BX.out.bel.size (by have := HL12.out; simp at this ⊢; omega) ?_); go_loud (intro v8 w8 ho8 hb8 hg8 _; rw [← HY.out] at ho8; obtain ⟨A8, k8, e8⟩ := Kd.R_slice ho8; subst e8; have HO8 := Aside0.mk ho8; have HB8 := Aside0.mk hb8; have BK8 := Aside0.mk (blk_grown (blk_drew BX.out.box) hg8 (own_ne (Kd.own_of_R BX.out.row) BX.out.box (by decide))); clear ho8 hb8 hg8 y0c; replace z0 : w8.cell? ⟨g11, 0, none⟩ = some (.slice A 1 c) := (blk_cell BK8.out 0).trans rfl; have f0 := blk_frozen BK8.out 0)) | ((with_reducible refine gate_store (t := 31) (p := 73) rfl ?_); refine store_event (t := 31) (p := 73) (v := .tmp 72) (w1 := w8.setCell ⟨g11, 0, none⟩ (.slice A8 y.length k8)) ?hg ?ho ?hn ?hr ?_; (case ho => rfl); (case hg => rfl); (case hn => rfl); (case hr => first | (go_simp; done) | (go_simp; rfl)); intro W14 hW; have HBI14 := Aside0.mk (show BInv w W14 gB m cB bs by rw [hW]; exact HBI.out.below (below_set HB8.out BX.out.far)); have BK14 := Aside0.mk (show W14.heap[g11]? = some (.cells #[.slice A8 y.length k8, .int .i64 (wrap64 (t + b.f1))] 89 (0, 0)) by rw [hW]; exact blk_set BK8.out 0 _); have HO14 := Aside0.mk (show Kd.R (Kd.int .i64) 3 W14 w.heap.size (fun _ => True) (.slice A8 y.length k8) y by rw [hW]; exact row_kept (Kd.R_lower HO8.out HBI.out.bel.size) (kept_set BK8.out (by decide))); clear hW z0 f0; obtain ⟨A5, c5, p0, p1, hr5, _⟩ := HBI14.out.at j c13 c14m; have HR5 := Aside0.mk hr5; obtain ⟨A6, c6, q0, q1, _, hfz⟩ := HBI14.out.at x9 c8 c15m; obtain ⟨csB, hcsB⟩ := HBI14.out.blk.2; have hf0 := hfz (x9.toNat * 2); have q2 := fun v => next_cell hcsB q1 v; have q3 := fun v => blk_frozen (blk_set hcsB (x9.toNat * 2) v) (x9.toNat * 2 + 1); clear hr5 hfz hcsB q1) | ((with_reducible refine gate_store (t := 89) (p := 81) rfl ?_); refine store_event (t := 89) (p := 81) (v := .tmp 80) (w1 := set2c W14 gB x9.toNat (.slice A5 (rd_T89 bs j).f0.length c5) (.int .i64 (rd_T89 bs j).f1)) ?hg ?ho ?hn ?hr ?_; (case ho => rfl); (case hg => rfl); (case hn => rfl); (case hr => first | (go_simp; done) | (go_simp; rfl)); intro W15 hW; have hall := HBI14.out.set (i := x9.toNat) (x := ⟨(rd_T89 bs j).f0, (rd_T89 bs j).f1⟩) (by omega) HR5.out; rw [← hW, ← HBS1.out] at hall; have HBI15 := Aside0.mk hall.1; have HO15 := Aside0.mk (row_kept HO14.out hall.2.1); have BK15 := Aside0.mk ((hall.2.2 g11 (fun e => by have h1 := BX.out.far; obtain ⟨_, cs, hc⟩ := HBI.out.blk; have h2 := blk_lt hc; omega)).trans BK14.out); clear hall hW p0 p1 q0 q2 q3 hf0))
              have b0 : W15.cell? ⟨g11, 0, none⟩ = some (.slice A8 y.length k8) := (blk_cell BK15.out 0).trans rfl
              have b1 : W15.cell? ⟨g11, 1, none⟩ = some (.int .i64 (wrap64 (t + b.f1))) := (blk_cell BK15.out 1).trans rfl
              obtain ⟨A7, k7, s0, s1, hr7, _⟩ := HBI15.out.at x9 c8 c15m
              have HR7 := Aside0.mk hr7
              clear hr7 BK14 HO14 HBI14 HR5 BX HB8 HO8 BK8 HBI HL12
              cases tb with
              | true =>
                replace HA := Aside0.mk ((if_pos rfl).symm.trans HA.out)
                go_still_tail 5, (by kernel_rfl)
                change wpList _ _ _ _ _ W15.drew
                go_wp2_with (first | (go_at_call 47; go_loud (with_reducible refine (perigeeref10_better.calls k3 A8 k8 y (wrap64 (t + b.f1)) A7 k7 _ _ true _ (Kd.R_reads' (Kd.R_drew HO15.out)).2.2 (Kd.R_reads' HO15.out).2.1 (Kd.R_reads' (Kd.R_drew HR7.out)).2.2 (Kd.R_reads' HR7.out).2.1 HTB.out).mono ?_); rintro e w16 ⟨rfl, hb⟩; have HBI16 := Aside0.mk (HBI15.out.below (below_step (below_drew (Below.refl _ _)) hb)); have HO16 := Aside0.mk (Kd.R_below (Kd.R_drew HO15.out) hb); have BK16 := Aside0.mk (blk_below (blk_drew BK15.out) hb); clear hb b0 b1 s0 s1; have b0 : w16.cell? ⟨g11, 0, none⟩ = some (.slice A8 y.length k8) := (blk_cell BK16.out 0).trans rfl; have b1 : w16.cell? ⟨g11, 1, none⟩ = some (.int .i64 (wrap64 (t + b.f1))) := (blk_cell BK16.out 1).trans rfl; obtain ⟨A6, c6, q0, q1, _, hfz⟩ := HBI16.out.at x9 c8 c15m; obtain ⟨csB, hcsB⟩ := HBI16.out.blk.2; have hf0 := hfz (x9.toNat * 2); have q2 := fun v => next_cell hcsB q1 v; have q3 := fun v => blk_frozen (blk_set hcsB (x9.toNat * 2) v) (x9.toNat * 2 + 1); clear hfz hcsB q1) | ((with_reducible refine gate_store (t := 89) (p := 91) rfl ?_); refine store_event (t := 89) (p := 91) (v := .tmp 90) (w1 := set2c w16 gB x9.toNat (.slice A8 y.length k8) (.int .i64 (wrap64 (t + b.f1)))) ?hg ?ho ?hn ?hr ?_; (case ho => rfl); (case hg => rfl); (case hn => rfl); (case hr => first | (go_simp; done) | (go_simp; rfl)); intro W17 hW; have hall := HBI16.out.set (i := x9.toNat) (x := ⟨y, wrap64 (t + b.f1)⟩) (by omega) HO16.out; rw [← hW] at hall; have HBI17 := Aside0.mk hall.1; clear hall hW b0 b1 q0 q2 q3 hf0))
                go_roundg k3
                case measure => have := HK.out; omega
                case rel => exact ⟨bs1.set x9.toNat ⟨y, wrap64 (t + b.f1)⟩, wrap64 (x9 - 1), (by first | rfl | (simp; done)), HA, HBI17⟩
              | false =>
                replace HA := Aside0.mk ((if_neg (by simp)).symm.trans HA.out)
                go_still_tail 5, (by kernel_rfl)
                change wpList _ _ _ _ _ W15.drew
                go_wp2_with (first | (go_at_call 47; go_loud (with_reducible refine (perigeeref10_better.calls k3 A8 k8 y (wrap64 (t + b.f1)) A7 k7 _ _ false _ (Kd.R_reads' (Kd.R_drew HO15.out)).2.2 (Kd.R_reads' HO15.out).2.1 (Kd.R_reads' (Kd.R_drew HR7.out)).2.2 (Kd.R_reads' HR7.out).2.1 HTB.out).mono ?_); rintro e w16 ⟨rfl, hb⟩; have HBI16 := Aside0.mk (HBI15.out.below (below_step (below_drew (Below.refl _ _)) hb)); clear hb b0 b1 s0 s1))
                go_roundg k3
                case measure => have := HK.out; omega
                case rel => exact ⟨bs1, wrap64 (x9 - 1), (by first | rfl | (simp; done)), HA, HBI16⟩
end Go.Proofs.YtbngmblgkkdhpaaDoor.Q
