-- Made by wip/tools/claimp.py of this session's texts; Lean checks it.
import Derived.Test.YtbngmblgkkdhpaaDoorC7Q0
import Derived.Test.YtbngmblgkkdhpaaDoorC7Gd1
import Derived.Test.YtbngmblgkkdhpaaDoorC7Gd4
import Derived.Test.YtbngmblgkkdhpaaDoorC7Gd9
namespace Go.Proofs.YtbngmblgkkdhpaaDoor.Q
open Go.RowKit Go.Proofs.YtbngmblgkkdhpaaDoorW.PrintWords Go.Proofs.YtbngmblgkkdhpaaDoorW.PrintLast Go.Proofs.YtbngmblgkkdhpaaDoorW.PrintMore
attribute [local go_sem] max2_int min2_int max_two min_two max_three min_three max_four min_four
open Go.Proofs.YtbngmblgkkdhpaaDoor.Base
attribute [local go_sem high] str_leq str_gtr str_geq
set_option linter.unusedVariables false
set_option linter.unusedSimpArgs false
/-- No row of numbers is turned. -/
def IntsKept (w w' : World) : Prop := w.heap.size ≤ w'.heap.size ∧ ∀ (g : Nat) (cells : Array Value), w.heap[g]? = some (.cells cells 3 (0, 0)) → w'.heap[g]? = some (.cells cells 3 (0, 0))
theorem IntsKept.refl (w : World) : IntsKept w w := ⟨Nat.le_refl _, fun _ _ h => h⟩
theorem IntsKept.trans {w w1 w2 : World} (h : IntsKept w w1) (k : IntsKept w1 w2) : IntsKept w w2 := ⟨Nat.le_trans h.1 k.1, fun g cs hg => k.2 g cs (h.2 g cs hg)⟩
theorem IntsKept.below {w w1 : World} (h : Below w.heap.size w w1) : IntsKept w w1 := ⟨h.size, fun g cs hg => (h.block g (blk_lt hg)).trans hg⟩
theorem IntsKept.grown {w w1 : World} {row : Option Nat} (h : w.grownBy w1 row) (hr : ∀ k, row = some k → ∃ cs, w.heap[k]? = some (.cells cs 80 (0, 0))) : IntsKept w w1 := ⟨h.size, fun g cs hg => (h.block g (blk_lt hg) (fun e => by
  obtain ⟨cs', hc⟩ := hr g e.symm
  rw [hg] at hc
  injection hc with hc
  injection hc with _ hc
  exact absurd hc (by decide))).trans hg⟩
theorem IntsKept.set {w : World} {g i : Nat} {v : Value} {cs : Array Value} (hb : w.heap[g]? = some (.cells cs 80 (0, 0))) : IntsKept w (w.setCell ⟨g, i, none⟩ v) := by
  refine ⟨Nat.le_of_eq (by simp [World.setCell]), fun g' cs' hg => ?_⟩
  rw [heap_setCell_other _ _ _ _ (fun (e : g' = g) => by
    subst e
    rw [hg] at hb
    injection hb with hb
    injection hb with _ hb
    exact absurd hb (by decide))]
  exact hg
theorem row_kept {base : Nat} {w w1 : World} {v : Value} {l : List Int} (h : Kd.R (Kd.int .i64) 3 w base (fun _ => True) v l) (hk : IntsKept w w1) : Kd.R (Kd.int .i64) 3 w1 base (fun _ => True) v l :=
  Kd.R_mono (Kd.R_move (Kd.R_bound h) (fun k hq => by
    obtain ⟨_, _, _, q, hq, cells, hc⟩ := hq
    have e : q = 3 := by simpa [Kd.int, Kd.scalar] using hq
    subst e
    rw [hk.2 k cells hc, hc])) (fun _ _ => trivial)
/-- The best ones that end with a pass, as they lie in memory. -/
def EndsAt (base : Nat) (w : World) (raws : List (List Value)) (ends : List S80) : Prop :=
  raws.length = ends.length ∧ ∀ j : Nat, j < ends.length → ∃ v, raws.getD j [] = [v, .int .i64 (ends.getD j z80).f1] ∧ Kd.R (Kd.int .i64) 3 w base (fun _ => True) v (ends.getD j z80).f0
theorem EndsAt.kept {base : Nat} {w w1 : World} {raws : List (List Value)} {ends : List S80} (h : EndsAt base w raws ends) (hk : IntsKept w w1) : EndsAt base w1 raws ends := ⟨h.1, fun j hj => by
  obtain ⟨v, e, hr⟩ := h.2 j hj
  exact ⟨v, e, row_kept hr hk⟩⟩
theorem EndsAt.snoc {base : Nat} {w : World} {raws : List (List Value)} {ends : List S80} {v : Value} {x : S80} (h : EndsAt base w raws ends) (hx : Kd.R (Kd.int .i64) 3 w base (fun _ => True) v x.f0) : EndsAt base w (raws ++ [[v, .int .i64 x.f1]]) (ends ++ [x]) := by
  refine ⟨by simp [h.1], fun j hj => ?_⟩
  rw [List.length_append] at hj
  by_cases e : j < ends.length
  · obtain ⟨u, e1, e2⟩ := h.2 j e
    refine ⟨u, ?_, ?_⟩
    · rw [List.getD_eq_getElem?_getD, List.getElem?_append_left (by rw [h.1]; exact e), List.getD_eq_getElem?_getD, List.getElem?_append_left e, ← List.getD_eq_getElem?_getD, ← List.getD_eq_getElem?_getD]; exact e1
    · rw [List.getD_eq_getElem?_getD, List.getElem?_append_left e, ← List.getD_eq_getElem?_getD]; exact e2
  · have e' : j = ends.length := by simp at hj; omega
    subst e'
    refine ⟨v, ?_, ?_⟩
    · rw [← h.1]; simp [List.getD_eq_getElem?_getD, h.1]
    · simpa [List.getD_eq_getElem?_getD] using hx
/-- One of them read. -/
theorem EndsAt.at {base : Nat} {w : World} {ok : Nat → Prop} {A : Option Addr} {n c : Nat} {raws : List (List Value)} {ends : List S80} (h : EndsAt base w raws ends) (hr : Kd.R (Kd.raw 2) 80 w base ok (.slice A n c) raws) (i : Int) (h0 : 0 ≤ i) (h1 : i < (n : Int)) :
    ∃ ad A1 c1, A = some ad ∧ w.cell? (ad.add (i.toNat * 2)) = some (.slice A1 (ends.getD i.toNat z80).f0.length c1) ∧ w.cell? ⟨(ad.add (i.toNat * 2)).block, (ad.add (i.toNat * 2)).off + 1, none⟩ = some (.int .i64 (ends.getD i.toNat z80).f1) ∧ Kd.R (Kd.int .i64) 3 w base (fun _ => True) (.slice A1 (ends.getD i.toNat z80).f0.length c1) (ends.getD i.toNat z80).f0 := by
  obtain ⟨hn, _, hc⟩ := Kd.R_reads' hr
  subst hn
  obtain ⟨ad, cs, e, _, hK, hcell⟩ := Kd.C_get hc [] i h0 h1
  obtain ⟨v, e1, e2⟩ := h.2 i.toNat (by rw [← h.1]; omega)
  obtain ⟨A1, c1, rfl⟩ := Kd.R_slice e2
  have hcs : cs = [.slice A1 (ends.getD i.toNat z80).f0.length c1, .int .i64 (ends.getD i.toNat z80).f1] := hK.1.trans e1
  subst hcs
  have hc2 : ∀ j u, [Value.slice A1 (ends.getD i.toNat z80).f0.length c1, .int .i64 (ends.getD i.toNat z80).f1][j]? = some u → w.cell? (ad.add (i.toNat * 2 + j)) = some u := hcell
  exact ⟨ad, A1, c1, e, hc2 0 _ rfl, by rw [← add_field _ _ 1 (by omega)]; exact hc2 1 _ rfl, e2⟩
/-- A box stored into. -/
def set2 (w : World) (g : Nat) (v0 v1 : Value) : World := (w.setCell ⟨g, 0, none⟩ v0).setCell ⟨g, 1, none⟩ v1
def set4 (w : World) (g : Nat) (v0 v1 v2 v3 : Value) : World := (((w.setCell ⟨g, 0, none⟩ v0).setCell ⟨g, 1, none⟩ v1).setCell ⟨g, 2, none⟩ v2).setCell ⟨g, 3, none⟩ v3
theorem set2_here {w : World} {g : Nat} {ty : TypeId} {u0 u1 : Value} (h : w.heap[g]? = some (.cells #[u0, u1] ty (0, 0))) (v0 v1 : Value) : (set2 w g v0 v1).heap[g]? = some (.cells #[v0, v1] ty (0, 0)) := blk_set (blk_set h 0 v0) 1 v1
theorem set4_here {w : World} {g : Nat} {ty : TypeId} {u0 u1 u2 u3 : Value} (h : w.heap[g]? = some (.cells #[u0, u1, u2, u3] ty (0, 0))) (v0 v1 v2 v3 : Value) : (set4 w g v0 v1 v2 v3).heap[g]? = some (.cells #[v0, v1, v2, v3] ty (0, 0)) := blk_set (blk_set (blk_set (blk_set h 0 v0) 1 v1) 2 v2) 3 v3
/-- One block may be another one; the call's own world is as it was. -/
structure But (w W W1 : World) (g : Nat) : Prop where
  size : W.heap.size ≤ W1.heap.size
  far : ∀ k, k < W.heap.size → k ≠ g → W1.heap[k]? = W.heap[k]?
  below : Below w.heap.size w W → Below w.heap.size w W1
theorem But.one {w W : World} {g i : Nat} {v : Value} (hg : w.heap.size ≤ g) : But w W (W.setCell ⟨g, i, none⟩ v) g := ⟨Nat.le_of_eq (by simp [World.setCell]), fun k _ hk => heap_setCell_other _ _ _ _ hk, fun h => below_set h hg⟩
theorem But.trans {w W W1 W2 : World} {g : Nat} (h : But w W W1 g) (k : But w W1 W2 g) : But w W W2 g := ⟨Nat.le_trans h.size k.size, fun q hq hn => (k.far q (Nat.lt_of_lt_of_le hq h.size) hn).trans (h.far q hq hn), fun q => k.below (h.below q)⟩
theorem But.set2 {w W : World} {g : Nat} {v0 v1 : Value} (hg : w.heap.size ≤ g) : But w W (set2 W g v0 v1) g := (But.one hg).trans (But.one hg)
theorem But.set4 {w W : World} {g : Nat} {v0 v1 v2 v3 : Value} (hg : w.heap.size ≤ g) : But w W (set4 W g v0 v1 v2 v3) g := (((But.one hg).trans (But.one hg)).trans (But.one hg)).trans (But.one hg)
theorem But.blk {w W W1 : World} {g q : Nat} {o : Obj} (h : But w W W1 g) (hq : W.heap[q]? = some o) (hne : q ≠ g) : W1.heap[q]? = some o := (h.far q (blk_lt hq) hne).trans hq
theorem But.ints {w W W1 : World} {g : Nat} {cs : Array Value} {ty : TypeId} (h : But w W W1 g) (hb : W.heap[g]? = some (.cells cs ty (0, 0))) (hty : ty ≠ 3) : IntsKept W W1 := ⟨h.size, fun q cells hq => h.blk hq (fun e => by
  subst e
  rw [hq] at hb
  injection hb with hb
  injection hb with _ hb
  exact hty hb.symm)⟩
/-- The list of the best ones and the best of all, as they lie in memory. -/
def BestInv (w w1 : World) (g8 : Nat) (v9 : Value) (ends : List S80) (best : S80) : Prop :=
  ∃ raws vb, Kd.R (Kd.raw 2) 80 w1 w.heap.size (fun q => q ≠ g8) v9 raws ∧ EndsAt w.heap.size w1 raws ends ∧ w1.heap[g8]? = some (.cells #[vb, .int .i64 best.f1] 80 (0, 0)) ∧ Kd.R (Kd.int .i64) 3 w1 w.heap.size (fun _ => True) vb best.f0 ∧ Below w.heap.size w w1
theorem raws_kept {w1 w2 : World} {base : Nat} {ok : Nat → Prop} {v9 : Value} {raws : List (List Value)} (h : Kd.R (Kd.raw 2) 80 w1 base ok v9 raws) (hk : ∀ q, v9.ownBlock = some q → w2.heap[q]? = w1.heap[q]?) : Kd.R (Kd.raw 2) 80 w2 base ok v9 raws :=
  Kd.R_mono (Kd.R_move (Kd.R_tight rfl h) (fun q hq => hk q hq.symm)) (fun q hq => h.1 q hq.symm)
theorem undrew {W w2 : World} (h : Below W.drew.heap.size W.drew w2) : Below W.heap.size W w2 := ⟨h.os, h.tape, h.output, h.size, h.block⟩
theorem BestInv.below {w w1 w2 : World} {g8 : Nat} {v9 : Value} {ends : List S80} {best : S80} (h : BestInv w w1 g8 v9 ends best) (hb : Below w1.heap.size w1 w2) : BestInv w w2 g8 v9 ends best := by
  obtain ⟨raws, vb, h1, h2, h3, h4, h5⟩ := h
  exact ⟨raws, vb, raws_kept h1 (fun q hq => hb.block q (Kd.R_lt h1 q hq)), h2.kept (IntsKept.below hb), blk_below h3 hb, row_kept h4 (IntsKept.below hb), below_step h5 hb⟩
theorem BestInv.but {w w1 w2 : World} {g8 g : Nat} {v9 : Value} {ends : List S80} {best : S80} {cs : Array Value} {ty : TypeId} (h : BestInv w w1 g8 v9 ends best) (hb : But w w1 w2 g) (hg : w1.heap[g]? = some (.cells cs ty (0, 0))) (hty : ty ≠ 3) (h8 : g8 ≠ g) (h9 : v9.ownBlock ≠ some g) : BestInv w w2 g8 v9 ends best := by
  obtain ⟨raws, vb, h1, h2, h3, h4, h5⟩ := h
  exact ⟨raws, vb, raws_kept h1 (fun q hq => hb.far q (Kd.R_lt h1 q hq) (fun e => h9 (by rw [hq, e]))), h2.kept (hb.ints hg hty), hb.blk h3 h8, row_kept h4 (hb.ints hg hty), hb.below h5⟩
theorem BestInv.bel {w w1 : World} {g8 : Nat} {v9 : Value} {ends : List S80} {best : S80} (h : BestInv w w1 g8 v9 ends best) : Below w.heap.size w w1 := h.choose_spec.choose_spec.2.2.2.2
theorem BestInv.lt8 {w w1 : World} {g8 : Nat} {v9 : Value} {ends : List S80} {best : S80} (h : BestInv w w1 g8 v9 ends best) : g8 < w1.heap.size := blk_lt h.choose_spec.choose_spec.2.2.1
theorem BestInv.lt9 {w w1 : World} {g8 : Nat} {v9 : Value} {ends : List S80} {best : S80} (h : BestInv w w1 g8 v9 ends best) : ∀ q, v9.ownBlock = some q → q < w1.heap.size := Kd.R_lt h.choose_spec.choose_spec.1
theorem BestInv.form {w w1 : World} {g8 : Nat} {v9 : Value} {ends : List S80} {best : S80} (h : BestInv w w1 g8 v9 ends best) : ∃ A c, v9 = .slice A ends.length c := by
  obtain ⟨raws, vb, h1, h2, _⟩ := h
  obtain ⟨A, c, e⟩ := Kd.R_slice h1
  exact ⟨A, c, by rw [e, h2.1]⟩
theorem BestInv.at {w w1 : World} {g8 n c : Nat} {A : Option Addr} {ends : List S80} {best : S80} (h : BestInv w w1 g8 (.slice A n c) ends best) (hn : ends.length = n) (j : Nat) (hj : j < n) :
    ∃ ad A1 c1, A = some ad ∧ w1.cell? (ad.add (j * 2)) = some (.slice A1 (ends.getD j z80).f0.length c1) ∧ w1.cell? ⟨(ad.add (j * 2)).block, (ad.add (j * 2)).off + 1, none⟩ = some (.int .i64 (ends.getD j z80).f1) ∧ Kd.R (Kd.int .i64) 3 w1 w.heap.size (fun _ => True) (.slice A1 (ends.getD j z80).f0.length c1) (ends.getD j z80).f0 := by
  obtain ⟨raws, vb, h1, h2, _⟩ := h
  have q := h2.at h1 (j : Int) (by omega) (by omega)
  simpa only [Int.toNat_natCast] using q
theorem store_step {PP : Program} {ops : Array Oper} {o : Oper} {a : Act} {Q : Exit → Act → World → Prop} {Kc : Act → World → Prop} {W w1 : World} (hw : Region.wanted o (yielded ops a.tmps) = true) (hN : o.dst = none) (hrun : (execOp a.eval o).run PP W = .ok .skip w1) (h : Kc (a.put none undef) w1) : if Region.wanted o (yielded ops a.tmps) = true then Oper.wp PP o a W Kc Q else Kc (a.put none undef) W := by
  rw [if_pos hw]
  unfold Oper.wp
  rw [hrun]
  show Kc (a.put o.dst undef) w1
  rw [hN]
  exact h
theorem Best.info : (Tryd.prog.info? 80).map (fun i => (i.zero, i.size, i.bytes)) = some (some (.agg #[.slice none 0 0, .int .i64 0]), 2, 32) := by kernel_rfl
def Best.fr (K : Nat) (l : List S55) (gap : Int) (x : S55) (ends : List S80) : Nat → Nat → S80 → Option S80
  | 0, _, fr => some fr
  | d + 1, j, fr => (contact_exclude.f (rd_T55 l (j : Int)).f0 (rd_T55 l (j : Int)).f1 (rd_T55 l (j : Int)).f2 (rd_T55 l (j : Int)).f3 x.f0 x.f1 x.f2 x.f3 gap).bind fun e => if e = true then Best.fr K l gap x ends d (j + 1) fr else
      (contact_choice_better.f K (ends.getD j z80).f0 (ends.getD j z80).f1 fr.f0 fr.f1).bind fun b => Best.fr K l gap x ends d (j + 1) (if b = true then ends.getD j z80 else fr)
def Best.go (K : Nat) (l : List S55) (gap : Int) : Nat → Nat → List S80 → S80 → Option S80
  | 0, _, _, best => some best
  | d + 1, i, ends, best => (Best.fr K l gap (rd_T55 l (i : Int)) ends i 0 z80).bind fun fr =>
      (contact_whole.f K (rd_T55 l (i : Int)).f0 (rd_T55 l (i : Int)).f1 (rd_T55 l (i : Int)).f2 (rd_T55 l (i : Int)).f3).bind fun t => if fr.f0.length < 4398046511104 ∧ wrap64 (fr.f1 + t) = fr.f1 + t then
        (contact_choice_better.f K (fr.f0 ++ [(i : Int)]) (fr.f1 + t) best.f0 best.f1).bind fun b => Best.go K l gap d (i + 1) (ends ++ [⟨fr.f0 ++ [(i : Int)], fr.f1 + t⟩]) (if b = true then ⟨fr.f0 ++ [(i : Int)], fr.f1 + t⟩ else best)
      else none
def contact_Best.f (k : Nat) (l0 : List S55) (a1 : Int) : Option (List Int × Int × Int) :=
  (contact_CheckPasses.f k l0).bind fun p => (kit_Range.f a1 0 10000000).bind fun q => (kit_First.f k [p, q]).bind fun f => if f = 0 then if l0.length < 1000000 then (Best.go k l0 a1 l0.length 0 [] z80).bind fun b => some (b.f0, b.f1, 0) else none else some ([], 0, f)
set_option maxHeartbeats 8000000 in
set_option maxRecDepth 100000 in
theorem contact_Best.calls (k : Nat) (A0 : Option Addr) (c0 : Nat) (l0 : List S55) (a1 : Int) (r1 : List Int) (r2 : Int) (r3 : Int) (w : World) (hr0 : Kd.C k55 w A0 l0.length l0) (hc0 : l0.length ≤ c0) (h : contact_Best.f k l0 a1 = some (r1, r2, r3)) :
    Calls Tryd.prog 13 #[.slice A0 l0.length c0, .int .i64 a1] w fun e w' => ∃ v0_ : Value, e = .returned (.tuple #[v0_, .int .i64 r2, .int .i64 r3]) ∧ Kd.R (Kd.int .i64) 3 w' w.heap.size (fun _ => True) v0_ r1 ∧ Below w.heap.size w w' := by
  have HR0 := Aside0.mk hr0
  have HC0 := Aside0.mk hc0
  have HB := Aside0.mk (Below.refl w.heap.size w)
  clear hr0 hc0
  unfold contact_Best.f at h
  replace h := Option.bind_eq_some_iff.mp h
  obtain ⟨p, hp, h⟩ := h
  replace h := Option.bind_eq_some_iff.mp h
  obtain ⟨q, hq, h⟩ := h
  replace h := Option.bind_eq_some_iff.mp h
  obtain ⟨ff, hf, h⟩ := h
  obtain ⟨y, hy⟩ : ∃ y, y = [p, q] := ⟨_, rfl⟩
  rw [← hy] at hf
  have HP := Aside0.mk hp
  have HQ := Aside0.mk hq
  have HF := Aside0.mk hf
  have HY := Aside0.mk hy
  clear hp hq hf hy
  split at h
  · rename_i hf0
    subst hf0
    split at h
    · rename_i hlen
      replace h := Option.bind_eq_some_iff.mp h
      obtain ⟨b, hG, h⟩ := h
      have hr := Option.some.inj h
      injection hr with e1 e2
      injection e2 with e2 e3
      subst e1 e2 e3
      have HG := Aside0.mk hG
      have HN := Aside0.mk hlen
      clear h hG hlen
      go_enter Tryd.func13, Tryd.ntmps13
      go_wp2_with (first | (go_at_call 24; go_loud (with_reducible refine (contact_CheckPasses.calls k _ _ l0 p _ HR0.out HC0.out HP.out).mono ?_); rintro e wp ⟨rfl, hb⟩; have n0_ := Aside0.mk (below_step HB.out hb); clear HB hb; have HB := n0_; clear n0_) | (go_at_call 39; go_loud (with_reducible refine (kit_Range.calls a1 0 10000000 q _ HQ.out).mono ?_); rintro e wq ⟨rfl, ⟨nd, rfl⟩⟩) | ((with_reducible refine gate_dst (N := 20) rfl ?_); go_loud (refine Kd.R_lit (Kd.int .i64) _ 23 ?hg (N := 20) ?hd (xs := ([p, q] : List Int)) (inner := [.int .i64 p, .int .i64 q]) (ok := fun _ => True) (okp := fun _ => True) ?hr ?hp (fun _ hk => hk) trivial (Below.refl _ _) (Nat.le_refl _) (by simp) ?_); (case hd => rfl); (case hg => rfl); (case hr => first | (go_simp; done) | (go_simp; rfl)); (case hp => exact (Reps.one (show Kd.M (Kd.int .i64) _ _ _ p [.int .i64 p] from rfl) (Reps.one (show Kd.M (Kd.int .i64) _ _ _ q [.int .i64 q] from rfl) (Reps.none _ _)))); intro vy wy ho14 hb hg_ hnew_; clear hg_ hnew_; rw [← HY.out] at ho14; have HOY := Aside0.mk ho14; have n1_ := Aside0.mk (below_step (pw_below_drewN HB.out _) hb); clear HB; have HB := n1_; clear n1_ hb ho14; obtain ⟨Ay, cy, ey⟩ := Kd.R_slice HOY.out; subst ey) | (go_at_call 38; go_loud (with_reducible refine (kit_First.calls k _ _ y _ _ (Kd.R_reads' HOY.out).2.2 (Kd.R_reads' HOY.out).2.1 HF.out).mono ?_); rintro e wf ⟨rfl, ⟨nd2, rfl⟩⟩) | ((with_reducible refine gate_dst (N := 8) rfl ?_); refine box_event ?hg (N := 8) ?hd (cs := #[.slice none 0 0, .int .i64 0]) (t := 80) ?hr ?_; (case hd => rfl); (case hg => rfl); (case hr => first | (go_simp; done) | (go_simp; rfl)); intro g8 hg w8 hbox hb; have n0_ := Aside0.mk (below_step (pw_below_drewN HB.out _) hb); have BK8 := Aside0.mk hbox; have G8 := Aside0.mk ((by rw [hg]; exact below_size (pw_below_drewN HB.out _) : w.heap.size ≤ g8)); clear HB; have HB := n0_; clear n0_ hb hbox hg))
      have HI8 := Aside0.mk (show BestInv w w8 g8 (.slice none 0 0) [] z80 from ⟨[], .slice none 0 0, Kd.R_nil _ _ _ _ _, ⟨rfl, fun j hj => absurd hj (Nat.not_lt_zero _)⟩, BK8.out, Kd.R_nil _ _ _ _ _, HB.out⟩)
      clear BK8 HB HOY HP HQ HF HY
      go_loopg [9, 27] l0.length (fun kq v9 v27 w' => ∃ (i : Nat) (ends : List S80) (best : S80), v27 = .int .i64 i ∧ Aside0 (kq + i = l0.length) ∧ Aside0 (ends.length = i) ∧ Aside0 (BestInv w w' g8 v9 ends best) ∧ Aside0 (Best.go k l0 a1 kq i ends best = some b))
      case atStart => exact ⟨0, [], z80, rfl, ⟨rfl⟩, ⟨rfl⟩, ⟨HI8.out⟩, ⟨HG.out⟩⟩
      case round =>
        clear HI8 HG
        obtain ⟨i, ends, best, rfl, HK, HE, HI, HG⟩ := hrel
        cases gk with
        | zero =>
          have hi : i = l0.length := by have := HK.out; omega
          subst hi
          have hg := HG.out
          unfold Best.go at hg
          obtain rfl := Option.some.inj hg
          clear hg
          obtain ⟨raws, vb, q1, q2, q3, q4, q5⟩ := HI.out
          obtain ⟨Ab, cb, rfl⟩ := Kd.R_slice q4
          have hu0 : wr.cell? ⟨g8, 0, none⟩ = some (.slice Ab best.f0.length cb) := (blk_cell q3 0).trans rfl
          have hu1 : wr.cell? ⟨g8, 1, none⟩ = some (.int .i64 best.f1) := (blk_cell q3 1).trans rfl
          have HQ4 := Aside0.mk q4
          have HQ5 := Aside0.mk q5
          clear q1 q2 q3 q4 q5 HI HE HG HK
          go_wp2
          go_quiet (fail)
          go_wp2
          go_ret3
          exact ⟨_, rfl, by first | exact HQ4.out | exact Kd.R_drew HQ4.out | exact Kd.R_drewN HQ4.out _, by first | exact HQ5.out | exact below_drew HQ5.out | exact pw_below_drewN HQ5.out _⟩
        | succ d =>
          obtain ⟨A9, c9, e9⟩ := HI.out.form
          rw [HE.out] at e9
          subst e9
          have hi : i < l0.length := by have := HK.out; omega
          have hi0 : (0 : Int) ≤ (i : Int) := by omega
          have hi1 : (i : Int) < (l0.length : Int) := by omega
          have hd1 : decide ((i : Int) < (l0.length : Int)) = true := decide_eq_true hi1
          obtain ⟨ad, A3, c3, e, hx0, hx1, hx2, hx3, hs3, hr3⟩ := at_T55 HR0.out (i : Int) hi0 hi1
          subst e
          replace hx0 := cellB HI.out.bel hx0
          replace hx1 := cellB HI.out.bel hx1
          replace hx2 := cellB HI.out.bel hx2
          replace hx3 := cellB HI.out.bel hx3
          simp only [Int.toNat_natCast] at hx0 hx1 hx2 hx3
          have hg := HG.out
          unfold Best.go at hg
          replace hg := Option.bind_eq_some_iff.mp hg
          obtain ⟨fr, hFR, hg⟩ := hg
          replace hg := Option.bind_eq_some_iff.mp hg
          obtain ⟨t, hT, hg⟩ := hg

          split at hg
          · rename_i hcc
            replace hg := Option.bind_eq_some_iff.mp hg
            obtain ⟨bb, hBB, hg⟩ := hg
            obtain ⟨x, hx⟩ : ∃ x, x = rd_T55 l0 (i : Int) := ⟨_, rfl⟩
            rw [← hx] at hFR hT hx0 hx1 hx2 hx3 hs3 hr3
            have HX := Aside0.mk hx
            have HFR := Aside0.mk hFR
            have HT := Aside0.mk hT
            have HCC := Aside0.mk hcc
            have HBB := Aside0.mk hBB
            have HGG := Aside0.mk hg
            have HS3 := Aside0.mk hs3
            have HR3 := Aside0.mk hr3
            have hic : i ≤ c0 := by have := HC0.out; omega
            have hwi : wrap64 ((i : Int) + 1) = (i : Int) + 1 := by have := HN.out; unfold wrap64; omega
            clear hx hFR hT hcc hBB hg hs3 hr3 HG hi
            go_wp2_with (first | ((with_reducible refine gate_dst (N := 11) rfl ?_); refine box_event ?hg (N := 11) ?hd (cs := #[.string ByteArray.empty, .int .i64 0, .int .i64 0, .slice none 0 0]) (t := 55) ?hr ?_; (case hd => rfl); (case hg => rfl); (case hr => first | (go_simp; done) | (go_simp; rfl)); intro g11 hg w11 hbox hb; have BK11 := Aside0.mk hbox; have HI1 := Aside0.mk (HI.out.below hb); have G11 := Aside0.mk ((by rw [hg]; exact HI.out.choose_spec.choose_spec.2.2.2.2.size : w.heap.size ≤ g11)); have N11 := Aside0.mk ((by rw [hg]; exact HI.out.lt8 : g8 < g11)); have H911 := Aside0.mk ((by rw [hg]; exact HI.out.lt9 : ∀ q, (Value.slice A9 i c9).ownBlock = some q → q < g11)); have hcz0 : w11.cell? ⟨g11, 0, none⟩ = some (.string ByteArray.empty) := (blk_cell BK11.out 0).trans rfl; have hcz1 : w11.cell? ⟨g11, 1, none⟩ = some (.int .i64 0) := (blk_cell BK11.out 1).trans rfl; have hcz2 : w11.cell? ⟨g11, 2, none⟩ = some (.int .i64 0) := (blk_cell BK11.out 2).trans rfl; have hcz3 : w11.cell? ⟨g11, 3, none⟩ = some (.slice none 0 0) := (blk_cell BK11.out 3).trans rfl; have hfz0 := blk_frozen BK11.out 0; have hfz1 := blk_frozen BK11.out 1; have hfz2 := blk_frozen BK11.out 2; have hfz3 := blk_frozen BK11.out 3; clear hb hbox hg) | ((with_reducible refine gate_store (t := 55) (p := 11) rfl ?_); refine store_event (t := 55) (p := 11) (v := .tmp 31) (w1 := set4 w11 g11 (.string x.f0) (.int .i64 x.f1) (.int .i64 x.f2) (.slice A3 x.f3.length c3)) ?hg ?ho ?hn ?hr ?_; (case ho => rfl); (case hg => rfl); (case hn => rfl); (case hr => first | (go_simp; done) | (go_simp; rfl)); intro ws11 hw; have n0_ := Aside0.mk (show ws11.heap[g11]? = some (.cells #[.string x.f0, .int .i64 x.f1, .int .i64 x.f2, .slice A3 x.f3.length c3] 55 (0, 0)) by rw [hw]; exact set4_here BK11.out _ _ _ _); have n1_ := Aside0.mk (show BestInv w ws11 g8 (.slice A9 i c9) ends best by rw [hw]; exact HI1.out.but (But.set4 G11.out) BK11.out (by decide) (Nat.ne_of_lt N11.out) (fun e => Nat.lt_irrefl _ (H911.out _ e))); clear BK11 HI1 hcz0 hcz1 hcz2 hcz3 hfz0 hfz1 hfz2 hfz3; have BK11 := n0_; have HI1 := n1_; clear n0_ n1_; clear hw) | ((with_reducible refine gate_dst (N := 12) rfl ?_); refine box_event ?hg (N := 12) ?hd (cs := #[.slice none 0 0, .int .i64 0]) (t := 80) ?hr ?_; (case hd => rfl); (case hg => rfl); (case hr => first | (go_simp; done) | (go_simp; rfl)); intro g12 hg w12 hbox hb; have BK12 := Aside0.mk hbox; have HI2 := Aside0.mk (HI1.out.below hb); have n0_ := Aside0.mk (blk_below BK11.out hb); have G12 := Aside0.mk ((by rw [hg]; exact HI1.out.choose_spec.choose_spec.2.2.2.2.size : w.heap.size ≤ g12)); have N12 := Aside0.mk ((by rw [hg]; exact HI1.out.lt8 : g8 < g12)); have N112 := Aside0.mk ((by rw [hg]; exact blk_lt BK11.out : g11 < g12)); have H912 := Aside0.mk ((by rw [hg]; exact HI1.out.lt9 : ∀ q, (Value.slice A9 i c9).ownBlock = some q → q < g12)); clear BK11 HI1; have BK11 := n0_; clear n0_; clear hb hbox hg))
            go_loopg [36] i (fun kq v36 w' => ∃ (j : Nat) (f0 : S80) (vf : Value), v36 = .int .i64 j ∧ Aside0 (kq + j = i) ∧ Aside0 (BestInv w w' g8 (.slice A9 i c9) ends best) ∧ Aside0 (w'.heap[g11]? = some (.cells #[.string x.f0, .int .i64 x.f1, .int .i64 x.f2, .slice A3 x.f3.length c3] 55 (0, 0))) ∧ Aside0 (w'.heap[g12]? = some (.cells #[vf, .int .i64 f0.f1] 80 (0, 0))) ∧ Aside0 (Kd.R (Kd.int .i64) 3 w' w.heap.size (fun _ => True) vf f0.f0) ∧ Aside0 (Best.fr k l0 a1 x ends kq j f0 = some fr))
            case atStart => exact ⟨0, z80, .slice none 0 0, rfl, ⟨rfl⟩, ⟨HI2.out⟩, ⟨BK11.out⟩, ⟨BK12.out⟩, ⟨Kd.R_nil _ _ _ _ _⟩, ⟨HFR.out⟩⟩
            case round =>
              clear HI2 BK11 BK12 HFR
              obtain ⟨j, f0, vf, rfl, HKj, HI2, BK11, BK12, HVF, HFR⟩ := hrel
              cases gk with
              | zero =>
                have hj : i = j := by have := HKj.out; omega
                subst hj
                have hf := HFR.out
                unfold Best.fr at hf
                obtain rfl := Option.some.inj hf
                clear hf
                obtain ⟨Af, cf, rfl⟩ := Kd.R_slice HVF.out
                have HZ0 : ∃ z1 : List Int, z1 = [(i : Int)] := ⟨_, rfl⟩
                obtain ⟨z1, hz1⟩ := HZ0
                have HZ1 := Aside0.mk hz1
                have HZ20 : ∃ z2 : List Int, z2 = f0.f0 ++ z1 := ⟨_, rfl⟩
                obtain ⟨z2, hz2⟩ := HZ20
                have HZ2 := Aside0.mk hz2
                have HCLF := Aside0.mk (show slices_Clone_int_int.f f0.f0 = some f0.f0 from if_pos (Nat.lt_of_lt_of_le HCC.out.1 (by omega)))
                have hwt := HCC.out.2
                clear hz1 hz2
                go_wp2
                refine start_ (n := 14) (S := fun w' => w'.cell? ⟨g11, 0, none⟩ = some (.string x.f0) ∧ w'.cell? ⟨g11, 1, none⟩ = some (.int .i64 x.f1) ∧ w'.cell? ⟨g11, 2, none⟩ = some (.int .i64 x.f2) ∧ w'.cell? ⟨g11, 3, none⟩ = some (.slice A3 x.f3.length c3) ∧ w'.cell? ⟨g12, 0, none⟩ = some (.slice Af f0.f0.length cf) ∧ w'.cell? ⟨g12, 1, none⟩ = some (.int .i64 f0.f1)) (ds := []) #[false, false, false, false, false, false, false, false, false, false, false, false, false, false] (by kernel_rfl) rfl rfl ⟨(blk_cell BK11.out 0).trans rfl, (blk_cell BK11.out 1).trans rfl, (blk_cell BK11.out 2).trans rfl, (blk_cell BK11.out 3).trans rfl, (blk_cell BK12.out 0).trans rfl, (blk_cell BK12.out 1).trans rfl⟩ (fun hHeld => ?_)
                have n1_ := Aside0.mk (HI2.out.below (below_drew (Below.refl _ _)))
                have n2_ := Aside0.mk (show wr.drew.heap[g11]? = _ from BK11.out)
                have n3_ := Aside0.mk (show wr.drew.heap[g12]? = _ from BK12.out)
                have n4_ := Aside0.mk (row_kept HVF.out (IntsKept.below (below_drew (Below.refl wr.heap.size wr))))
                clear HI2 BK11 BK12 HVF
                have HI2 := n1_
                have BK11 := n2_
                have BK12 := n3_
                have HVF := n4_
                clear n1_ n2_ n3_ n4_
                generalize wr.drew = W16 at *
                have HB16 := Aside0.mk HI2.out.bel
                have HC := Aside0.mk (Below.refl W16.heap.size W16)
                refine pure_ (i := 0) (N := some 59) (v := ?_) (a' := ?_) #[true, false, false, false, false, false, false, false, false, false, false, false, false, false] rfl rfl (by kernel_rfl) (fun _ _ _ h => h) (Or.inl ⟨by rfl, ?_⟩) ?_ ?_
                rotate_left
                · intro w'
                  go_simp
                  with_reducible rfl
                rotate_left
                · simp only [Act.put, List.setIfInBounds_toArray, List.set_cons_zero, List.set_cons_succ, i64_w, i32_w]
                  rfl
                refine take_ (i := 1) (N := some 60) (v := ?_) (a' := ?_) #[true, true, false, false, false, false, false, false, false, false, false, false, false, false] rfl rfl (by kernel_rfl) (fun _ _ _ h => h) (Or.inl ⟨by rfl, ?_⟩) hHeld ?_ ?_
                rotate_left
                · rintro w' ⟨s0, s1, s2, s3, s4, s5⟩
                  go_simp
                  with_reducible rfl
                rotate_left
                · simp only [Act.put, List.setIfInBounds_toArray, List.set_cons_zero, List.set_cons_succ, i64_w, i32_w]
                  rfl
                refine pure_ (i := 3) (N := some 62) (v := ?_) (a' := ?_) #[true, true, false, true, false, false, false, false, false, false, false, false, false, false] rfl rfl (by kernel_rfl) (fun _ _ _ h => h) (Or.inl ⟨by rfl, ?_⟩) ?_ ?_
                rotate_left
                · intro w'
                  go_simp
                  with_reducible rfl
                rotate_left
                · simp only [Act.put, List.setIfInBounds_toArray, List.set_cons_zero, List.set_cons_succ, i64_w, i32_w]
                  rfl
                refine pure_ (i := 6) (N := some 65) (v := ?_) (a' := ?_) #[true, true, false, true, false, false, true, false, false, false, false, false, false, false] rfl rfl (by kernel_rfl) (fun _ _ _ h => h) (Or.inl ⟨by rfl, ?_⟩) ?_ ?_
                rotate_left
                · intro w'
                  go_simp
                  with_reducible rfl
                rotate_left
                · simp only [Act.put, List.setIfInBounds_toArray, List.set_cons_zero, List.set_cons_succ, i64_w, i32_w]
                  rfl
                refine take_ (i := 7) (N := some 66) (v := ?_) (a' := ?_) #[true, true, false, true, false, false, true, true, false, false, false, false, false, false] rfl rfl (by kernel_rfl) (fun _ _ _ h => h) (Or.inl ⟨by rfl, ?_⟩) hHeld ?_ ?_
                rotate_left
                · rintro w' ⟨s0, s1, s2, s3, s4, s5⟩
                  go_simp
                  with_reducible rfl
                rotate_left
                · simp only [Act.put, List.setIfInBounds_toArray, List.set_cons_zero, List.set_cons_succ, i64_w, i32_w]
                  rfl
                refine take_ (i := 8) (N := some 67) (v := ?_) (a' := ?_) #[true, true, false, true, false, false, true, true, true, false, false, false, false, false] rfl rfl (by kernel_rfl) (fun _ _ _ h => h) (Or.inl ⟨by rfl, ?_⟩) hHeld ?_ ?_
                rotate_left
                · rintro w' ⟨s0, s1, s2, s3, s4, s5⟩
                  go_simp
                  with_reducible rfl
                rotate_left
                · simp only [Act.put, List.setIfInBounds_toArray, List.set_cons_zero, List.set_cons_succ, i64_w, i32_w]
                  rfl
                refine join_ (σ := Value × Value × (Option Addr × Nat) × Nat) 1 #[true, true, true, true, true, true, true, true, true, true, true, true, true, false] (fun s_ => [(61, s_.1), (63, s_.2.1), (64, .slice s_.2.2.1.1 z2.length s_.2.2.1.2), (68, .int .i64 t), (69, .int .i64 (wrap64 (f0.f1 + t))), (70, .agg #[.slice s_.2.2.1.1 z2.length s_.2.2.1.2, .int .i64 (f0.f1 + t)]), (15, .pointer (some ⟨s_.2.2.2, 0, none⟩))]) (fun s_ w' => (w'.cell? ⟨g11, 0, none⟩ = some (.string x.f0) ∧ w'.cell? ⟨g11, 1, none⟩ = some (.int .i64 x.f1) ∧ w'.cell? ⟨g11, 2, none⟩ = some (.int .i64 x.f2) ∧ w'.cell? ⟨g11, 3, none⟩ = some (.slice A3 x.f3.length c3) ∧ w'.cell? ⟨g12, 0, none⟩ = some (.slice Af f0.f0.length cf) ∧ w'.cell? ⟨g12, 1, none⟩ = some (.int .i64 f0.f1)) ∧ Below W16.heap.size W16 w' ∧ Kd.R (Kd.int .i64) 3 w' W16.heap.size (fun _ => True) (.slice s_.2.2.1.1 z2.length s_.2.2.1.2) z2 ∧ W16.heap.size ≤ s_.2.2.2 ∧ w'.heap[s_.2.2.2]? = some (.cells #[.slice none 0 0, .int .i64 0] 80 (0, 0))) ?_ ?_
                rotate_left
                · intro hCont
                  refine three_ (i := 2) (j := 4) (k := 12) (Ni := some 61) (Nj := some 63) (Nk := some 15) #[true, true, true, true, false, false, true, true, true, false, false, false, false, false] #[true, true, false, true, true, false, true, true, true, false, false, false, false, false] #[true, true, false, true, false, false, true, true, true, false, false, false, true, false] rfl rfl rfl rfl rfl rfl (by kernel_rfl) (by decide) (by decide) (by decide) (fun K hK => ?_) (fun K hK => ?_) (fun K hK => ?_)
                  · skip
                    refine goes_ Tryd.func42 (by kernel_rfl) rfl #[.slice Af f0.f0.length cf] (by rfl) rfl rfl (by (try simp only [List.map_toArray, List.map_cons, List.map_nil]); first | done | rfl) ?_
                    refine (slices_Clone_int_int.calls _ _ f0.f0 f0.f0 _ (Kd.R_reads' (row_kept HVF.out (IntsKept.below HC.out))).2.2 (Kd.R_reads' HVF.out).2.1 HCLF.out).mono ?_
                    rintro e1 w161 ⟨vcl, rfl, ho, hb⟩
                    refine ⟨_, rfl, ?_⟩
                    have n0_ := Aside0.mk (below_step HC.out hb)
                    have HCL := Aside0.mk (Kd.R_lower ho HC.out.size)
                    clear hb HC
                    have HC := n0_
                    clear n0_
                    clear ho
                    obtain ⟨Acl, ccl, ecl⟩ := Kd.R_slice HCL.out
                    subst ecl
                    refine hK.out _ _ ⟨(blk_cell (blk_below BK11.out HC.out) 0).trans rfl, (blk_cell (blk_below BK11.out HC.out) 1).trans rfl, (blk_cell (blk_below BK11.out HC.out) 2).trans rfl, (blk_cell (blk_below BK11.out HC.out) 3).trans rfl, (blk_cell (blk_below BK12.out HC.out) 0).trans rfl, (blk_cell (blk_below BK12.out HC.out) 1).trans rfl⟩ (fun hHeld => ?_)
                    clear hK K
                    refine norm_ (a' := ?_) ?_ ?_
                    rotate_left
                    · show Act.put _ (some 61) _ = _
                      simp only [Act.put, List.setIfInBounds_toArray, List.set_cons_zero, List.set_cons_succ, i64_w, i32_w]
                      rfl
                    refine two_ (i := 4) (j := 12) (Ni := some 63) (Nj := some 15) #[true, true, true, true, true, false, true, true, true, false, false, false, false, false] #[true, true, true, true, false, false, true, true, true, false, false, false, true, false] rfl rfl rfl rfl (by kernel_rfl) (by decide) (by decide) (fun K hK => ?_) (fun K hK => ?_)
                    · skip
                      refine Kd.R_lit_step (Kd.int .i64) _ 3 ?hg (N := 63) ?hd (xs := ([(i : Int)] : List Int)) (inner := [.int .i64 (i : Int)]) (ok := fun _ => True) (okp := fun _ => True) ?hr ?hp (fun _ hk => hk) trivial (Below.refl _ _) (Nat.le_refl _) (by simp) ?_
                      (case hd => rfl)
                      (case hg => rfl)
                      (case hr => first | (go_simp; done) | (go_simp; rfl))
                      (case hp => exact (Reps.one (show Kd.M (Kd.int .i64) _ _ _ (i : Int) [.int .i64 (i : Int)] from rfl) (Reps.none _ _)))
                      intro vrow w162 ho hb hg_ hnew_
                      clear hg_ hnew_
                      rw [← HZ1.out] at ho
                      have n0_ := Aside0.mk (below_step HC.out hb)
                      have n1_ := Aside0.mk (row_kept HCL.out (IntsKept.below hb))
                      have HROW := Aside0.mk (Kd.R_lower ho HC.out.size)
                      clear hb HC HCL
                      have HC := n0_
                      have HCL := n1_
                      clear n0_ n1_
                      clear ho
                      obtain ⟨Arow, crow, erow⟩ := Kd.R_slice HROW.out
                      subst erow
                      refine hK.out _ _ ⟨(blk_cell (blk_below BK11.out HC.out) 0).trans rfl, (blk_cell (blk_below BK11.out HC.out) 1).trans rfl, (blk_cell (blk_below BK11.out HC.out) 2).trans rfl, (blk_cell (blk_below BK11.out HC.out) 3).trans rfl, (blk_cell (blk_below BK12.out HC.out) 0).trans rfl, (blk_cell (blk_below BK12.out HC.out) 1).trans rfl⟩ (fun hHeld => ?_)
                      clear hK K
                      refine norm_ (a' := ?_) ?_ ?_
                      rotate_left
                      · show Act.put _ (some 63) _ = _
                        simp only [Act.put, List.setIfInBounds_toArray, List.set_cons_zero, List.set_cons_succ, i64_w, i32_w]
                        rfl
                      refine two_ (i := 5) (j := 12) (Ni := some 64) (Nj := some 15) #[true, true, true, true, true, true, true, true, true, false, false, false, false, false] #[true, true, true, true, true, false, true, true, true, false, false, false, true, false] rfl rfl rfl rfl (by kernel_rfl) (by decide) (by decide) (fun K hK => ?_) (fun K hK => ?_)
                      · skip
                        refine Kd.R_append_rows_step (Kd.int .i64) (w0 := W16) W16.heap.size (by rfl) (.tmp 61) (.tmp 63) 31 3 (.int .i64 0) 8 rfl Tryd.underlying31 slices_Clone_int_int.info rfl (by decide) (by omega) _ f0.f0 z1 _ _ _ (fun _ => True) (fun _ => False) rfl rfl HCL.out (Kd.R_reads' HROW.out).2.2 (fun _ _ h => h) (fun _ h => h.elim) (fun _ _ => trivial) HC.out HC.out.size (by have := HCC.out.1; rw [HZ1.out]; simp; omega) ?_
                        intro vap w163 ho hb0 hg_ hat_
                        rw [← HZ2.out] at ho
                        have n0_ := Aside0.mk hb0
                        have HAP := Aside0.mk ho
                        clear ho hb0 hg_ hat_ HCL HROW HC
                        have HC := n0_
                        clear n0_
                        obtain ⟨Ap, cp, eap⟩ := Kd.R_slice HAP.out
                        subst eap
                        refine hK.out _ _ ⟨(blk_cell (blk_below BK11.out HC.out) 0).trans rfl, (blk_cell (blk_below BK11.out HC.out) 1).trans rfl, (blk_cell (blk_below BK11.out HC.out) 2).trans rfl, (blk_cell (blk_below BK11.out HC.out) 3).trans rfl, (blk_cell (blk_below BK12.out HC.out) 0).trans rfl, (blk_cell (blk_below BK12.out HC.out) 1).trans rfl⟩ (fun hHeld => ?_)
                        clear hK K
                        refine norm_ (a' := ?_) ?_ ?_
                        rotate_left
                        · show Act.put _ (some 64) _ = _
                          simp only [Act.put, List.setIfInBounds_toArray, List.set_cons_zero, List.set_cons_succ, i64_w, i32_w]
                          rfl
                        refine two_ (i := 9) (j := 12) (Ni := some 68) (Nj := some 15) #[true, true, true, true, true, true, true, true, true, true, false, false, false, false] #[true, true, true, true, true, true, true, true, true, false, false, false, true, false] rfl rfl rfl rfl (by kernel_rfl) (by decide) (by decide) (fun K hK => ?_) (fun K hK => ?_)
                        · skip
                          refine goes_ Tryd.func43 (by kernel_rfl) rfl #[.agg #[.string x.f0, .int .i64 x.f1, .int .i64 x.f2, .slice A3 x.f3.length c3]] (by rfl) rfl rfl (by (try simp only [List.map_toArray, List.map_cons, List.map_nil]); first | done | rfl) ?_
                          refine (contact_whole.calls k x.f0 x.f1 x.f2 _ _ x.f3 t _ (Kd.C_below HR3.out (below_step HB16.out HC.out)) HS3.out HT.out).mono ?_
                          rintro e1 w164 ⟨rfl, hb⟩
                          refine ⟨_, rfl, ?_⟩
                          have n0_ := Aside0.mk (below_step HC.out hb)
                          have n1_ := Aside0.mk (row_kept HAP.out (IntsKept.below hb))
                          clear hb HC HAP
                          have HC := n0_
                          have HAP := n1_
                          clear n0_ n1_
                          refine hK.out _ _ ⟨(blk_cell (blk_below BK11.out HC.out) 0).trans rfl, (blk_cell (blk_below BK11.out HC.out) 1).trans rfl, (blk_cell (blk_below BK11.out HC.out) 2).trans rfl, (blk_cell (blk_below BK11.out HC.out) 3).trans rfl, (blk_cell (blk_below BK12.out HC.out) 0).trans rfl, (blk_cell (blk_below BK12.out HC.out) 1).trans rfl⟩ (fun hHeld => ?_)
                          clear hK K
                          refine norm_ (a' := ?_) ?_ ?_
                          rotate_left
                          · show Act.put _ (some 68) _ = _
                            simp only [Act.put, List.setIfInBounds_toArray, List.set_cons_zero, List.set_cons_succ, i64_w, i32_w]
                            rfl
                          refine pure_ (i := 10) (N := some 69) (v := ?_) (a' := ?_) #[true, true, true, true, true, true, true, true, true, true, true, false, false, false] rfl rfl (by kernel_rfl) (fun _ _ _ h => h) (Or.inl ⟨by rfl, ?_⟩) ?_ ?_
                          rotate_left
                          · intro w'
                            go_simp
                            with_reducible rfl
                          rotate_left
                          · simp only [Act.put, List.setIfInBounds_toArray, List.set_cons_zero, List.set_cons_succ, i64_w, i32_w]
                            rfl
                          refine pure_ (i := 11) (N := some 70) (v := ?_) (a' := ?_) #[true, true, true, true, true, true, true, true, true, true, true, true, false, false] rfl rfl (by kernel_rfl) (fun _ _ _ h => h) (Or.inl ⟨by rfl, ?_⟩) ?_ ?_
                          rotate_left
                          · intro w'
                            go_simp
                            with_reducible rfl
                          rotate_left
                          · simp only [Act.put, List.setIfInBounds_toArray, List.set_cons_zero, List.set_cons_succ, i64_w, i32_w]
                            rfl
                          refine one_ (i := 12) (N := some 15) #[true, true, true, true, true, true, true, true, true, true, true, true, true, false] rfl rfl (by kernel_rfl) (by decide) (fun K hK => ?_)
                          refine box_step (N := 15) (cs := #[.slice none 0 0, .int .i64 0]) (t := 80) (by rfl) rfl ?hr ?_
                          (case hr => first | (go_simp; done) | (go_simp; rfl))
                          intro g15 hg w165 hbox hb
                          have n0_ := Aside0.mk (below_step HC.out hb)
                          have n1_ := Aside0.mk (row_kept HAP.out (IntsKept.below hb))
                          have HB15 := Aside0.mk hbox; have G15 := Aside0.mk ((by rw [hg]; exact HC.out.size : W16.heap.size ≤ g15))
                          clear hb HC HAP
                          have HC := n0_
                          have HAP := n1_
                          clear n0_ n1_
                          clear hbox hg
                          refine hK.out _ _ ⟨(blk_cell (blk_below BK11.out HC.out) 0).trans rfl, (blk_cell (blk_below BK11.out HC.out) 1).trans rfl, (blk_cell (blk_below BK11.out HC.out) 2).trans rfl, (blk_cell (blk_below BK11.out HC.out) 3).trans rfl, (blk_cell (blk_below BK12.out HC.out) 0).trans rfl, (blk_cell (blk_below BK12.out HC.out) 1).trans rfl⟩ (fun hHeld => ?_)
                          clear hK K
                          refine norm_ (a' := ?_) ?_ ?_
                          rotate_left
                          · show Act.put _ (some 15) _ = _
                            simp only [Act.put, List.setIfInBounds_toArray, List.set_cons_zero, List.set_cons_succ, i64_w, i32_w]
                            rfl
                          exact norm_ (by simp only [putAll, Act.put, List.setIfInBounds_toArray, List.set_cons_zero, List.set_cons_succ]) (hCont (.slice Acl f0.f0.length ccl, .slice Arow z1.length crow, (Ap, cp), g15) _ ⟨hHeld, HC.out, HAP.out, G15.out, HB15.out⟩)
                        · skip
                          refine box_step (N := 15) (cs := #[.slice none 0 0, .int .i64 0]) (t := 80) (by rfl) rfl ?hr ?_
                          (case hr => first | (go_simp; done) | (go_simp; rfl))
                          intro g15 hg w166 hbox hb
                          have n0_ := Aside0.mk (below_step HC.out hb)
                          have n1_ := Aside0.mk (row_kept HAP.out (IntsKept.below hb))
                          have HB15 := Aside0.mk hbox; have G15 := Aside0.mk ((by rw [hg]; exact HC.out.size : W16.heap.size ≤ g15))
                          clear hb HC HAP
                          have HC := n0_
                          have HAP := n1_
                          clear n0_ n1_
                          clear hbox hg
                          refine hK.out _ _ ⟨(blk_cell (blk_below BK11.out HC.out) 0).trans rfl, (blk_cell (blk_below BK11.out HC.out) 1).trans rfl, (blk_cell (blk_below BK11.out HC.out) 2).trans rfl, (blk_cell (blk_below BK11.out HC.out) 3).trans rfl, (blk_cell (blk_below BK12.out HC.out) 0).trans rfl, (blk_cell (blk_below BK12.out HC.out) 1).trans rfl⟩ (fun hHeld => ?_)
                          clear hK K
                          refine norm_ (a' := ?_) ?_ ?_
                          rotate_left
                          · show Act.put _ (some 15) _ = _
                            simp only [Act.put, List.setIfInBounds_toArray, List.set_cons_zero, List.set_cons_succ, i64_w, i32_w]
                            rfl
                          refine one_ (i := 9) (N := some 68) #[true, true, true, true, true, true, true, true, true, true, false, false, true, false] rfl rfl (by kernel_rfl) (by decide) (fun K hK => ?_)
                          refine goes_ Tryd.func43 (by kernel_rfl) rfl #[.agg #[.string x.f0, .int .i64 x.f1, .int .i64 x.f2, .slice A3 x.f3.length c3]] (by rfl) rfl rfl (by (try simp only [List.map_toArray, List.map_cons, List.map_nil]); first | done | rfl) ?_
                          refine (contact_whole.calls k x.f0 x.f1 x.f2 _ _ x.f3 t _ (Kd.C_below HR3.out (below_step HB16.out HC.out)) HS3.out HT.out).mono ?_
                          rintro e1 w167 ⟨rfl, hb⟩
                          refine ⟨_, rfl, ?_⟩
                          have n0_ := Aside0.mk (below_step HC.out hb)
                          have n1_ := Aside0.mk (row_kept HAP.out (IntsKept.below hb))
                          have n2_ := Aside0.mk (blk_below HB15.out hb)
                          clear hb HC HAP HB15
                          have HC := n0_
                          have HAP := n1_
                          have HB15 := n2_
                          clear n0_ n1_ n2_
                          refine hK.out _ _ ⟨(blk_cell (blk_below BK11.out HC.out) 0).trans rfl, (blk_cell (blk_below BK11.out HC.out) 1).trans rfl, (blk_cell (blk_below BK11.out HC.out) 2).trans rfl, (blk_cell (blk_below BK11.out HC.out) 3).trans rfl, (blk_cell (blk_below BK12.out HC.out) 0).trans rfl, (blk_cell (blk_below BK12.out HC.out) 1).trans rfl⟩ (fun hHeld => ?_)
                          clear hK K
                          refine norm_ (a' := ?_) ?_ ?_
                          rotate_left
                          · show Act.put _ (some 68) _ = _
                            simp only [Act.put, List.setIfInBounds_toArray, List.set_cons_zero, List.set_cons_succ, i64_w, i32_w]
                            rfl
                          refine pure_ (i := 10) (N := some 69) (v := ?_) (a' := ?_) #[true, true, true, true, true, true, true, true, true, true, true, false, true, false] rfl rfl (by kernel_rfl) (fun _ _ _ h => h) (Or.inl ⟨by rfl, ?_⟩) ?_ ?_
                          rotate_left
                          · intro w'
                            go_simp
                            with_reducible rfl
                          rotate_left
                          · simp only [Act.put, List.setIfInBounds_toArray, List.set_cons_zero, List.set_cons_succ, i64_w, i32_w]
                            rfl
                          refine pure_ (i := 11) (N := some 70) (v := ?_) (a' := ?_) #[true, true, true, true, true, true, true, true, true, true, true, true, true, false] rfl rfl (by kernel_rfl) (fun _ _ _ h => h) (Or.inl ⟨by rfl, ?_⟩) ?_ ?_
                          rotate_left
                          · intro w'
                            go_simp
                            with_reducible rfl
                          rotate_left
                          · simp only [Act.put, List.setIfInBounds_toArray, List.set_cons_zero, List.set_cons_succ, i64_w, i32_w]
                            rfl
                          exact norm_ (by simp only [putAll, Act.put, List.setIfInBounds_toArray, List.set_cons_zero, List.set_cons_succ]) (hCont (.slice Acl f0.f0.length ccl, .slice Arow z1.length crow, (Ap, cp), g15) _ ⟨hHeld, HC.out, HAP.out, G15.out, HB15.out⟩)
                      · skip
                        refine box_step (N := 15) (cs := #[.slice none 0 0, .int .i64 0]) (t := 80) (by rfl) rfl ?hr ?_
                        (case hr => first | (go_simp; done) | (go_simp; rfl))
                        intro g15 hg w168 hbox hb
                        have n0_ := Aside0.mk (below_step HC.out hb)
                        have n1_ := Aside0.mk (row_kept HCL.out (IntsKept.below hb))
                        have n2_ := Aside0.mk (row_kept HROW.out (IntsKept.below hb))
                        have HB15 := Aside0.mk hbox; have G15 := Aside0.mk ((by rw [hg]; exact HC.out.size : W16.heap.size ≤ g15))
                        clear hb HC HCL HROW
                        have HC := n0_
                        have HCL := n1_
                        have HROW := n2_
                        clear n0_ n1_ n2_
                        clear hbox hg
                        refine hK.out _ _ ⟨(blk_cell (blk_below BK11.out HC.out) 0).trans rfl, (blk_cell (blk_below BK11.out HC.out) 1).trans rfl, (blk_cell (blk_below BK11.out HC.out) 2).trans rfl, (blk_cell (blk_below BK11.out HC.out) 3).trans rfl, (blk_cell (blk_below BK12.out HC.out) 0).trans rfl, (blk_cell (blk_below BK12.out HC.out) 1).trans rfl⟩ (fun hHeld => ?_)
                        clear hK K
                        refine norm_ (a' := ?_) ?_ ?_
                        rotate_left
                        · show Act.put _ (some 15) _ = _
                          simp only [Act.put, List.setIfInBounds_toArray, List.set_cons_zero, List.set_cons_succ, i64_w, i32_w]
                          rfl
                        refine one_ (i := 5) (N := some 64) #[true, true, true, true, true, true, true, true, true, false, false, false, true, false] rfl rfl (by kernel_rfl) (by decide) (fun K hK => ?_)
                        refine Kd.R_append_rows_step (Kd.int .i64) (w0 := W16) W16.heap.size (by rfl) (.tmp 61) (.tmp 63) 31 3 (.int .i64 0) 8 rfl Tryd.underlying31 slices_Clone_int_int.info rfl (by decide) (by omega) _ f0.f0 z1 _ _ _ (fun _ => True) (fun _ => False) rfl rfl HCL.out (Kd.R_reads' HROW.out).2.2 (fun _ _ h => h) (fun _ h => h.elim) (fun _ _ => trivial) HC.out HC.out.size (by have := HCC.out.1; rw [HZ1.out]; simp; omega) ?_
                        intro vap w169 ho hb0 hg_ hat_
                        have n9_ := Aside0.mk ((hg_.block g15 (blk_lt HB15.out) (Kd.R_ne HCL.out HB15.out (by decide))).trans HB15.out)
                        rw [← HZ2.out] at ho
                        have n0_ := Aside0.mk hb0
                        have HAP := Aside0.mk ho
                        clear ho hb0 hg_ hat_ HCL HROW HC HB15
                        have HC := n0_
                        clear n0_
                        have HB15 := n9_
                        clear n9_
                        obtain ⟨Ap, cp, eap⟩ := Kd.R_slice HAP.out
                        subst eap
                        refine hK.out _ _ ⟨(blk_cell (blk_below BK11.out HC.out) 0).trans rfl, (blk_cell (blk_below BK11.out HC.out) 1).trans rfl, (blk_cell (blk_below BK11.out HC.out) 2).trans rfl, (blk_cell (blk_below BK11.out HC.out) 3).trans rfl, (blk_cell (blk_below BK12.out HC.out) 0).trans rfl, (blk_cell (blk_below BK12.out HC.out) 1).trans rfl⟩ (fun hHeld => ?_)
                        clear hK K
                        refine norm_ (a' := ?_) ?_ ?_
                        rotate_left
                        · show Act.put _ (some 64) _ = _
                          simp only [Act.put, List.setIfInBounds_toArray, List.set_cons_zero, List.set_cons_succ, i64_w, i32_w]
                          rfl
                        refine one_ (i := 9) (N := some 68) #[true, true, true, true, true, true, true, true, true, true, false, false, true, false] rfl rfl (by kernel_rfl) (by decide) (fun K hK => ?_)
                        refine goes_ Tryd.func43 (by kernel_rfl) rfl #[.agg #[.string x.f0, .int .i64 x.f1, .int .i64 x.f2, .slice A3 x.f3.length c3]] (by rfl) rfl rfl (by (try simp only [List.map_toArray, List.map_cons, List.map_nil]); first | done | rfl) ?_
                        refine (contact_whole.calls k x.f0 x.f1 x.f2 _ _ x.f3 t _ (Kd.C_below HR3.out (below_step HB16.out HC.out)) HS3.out HT.out).mono ?_
                        rintro e1 w1610 ⟨rfl, hb⟩
                        refine ⟨_, rfl, ?_⟩
                        have n0_ := Aside0.mk (below_step HC.out hb)
                        have n1_ := Aside0.mk (row_kept HAP.out (IntsKept.below hb))
                        have n2_ := Aside0.mk (blk_below HB15.out hb)
                        clear hb HC HAP HB15
                        have HC := n0_
                        have HAP := n1_
                        have HB15 := n2_
                        clear n0_ n1_ n2_
                        refine hK.out _ _ ⟨(blk_cell (blk_below BK11.out HC.out) 0).trans rfl, (blk_cell (blk_below BK11.out HC.out) 1).trans rfl, (blk_cell (blk_below BK11.out HC.out) 2).trans rfl, (blk_cell (blk_below BK11.out HC.out) 3).trans rfl, (blk_cell (blk_below BK12.out HC.out) 0).trans rfl, (blk_cell (blk_below BK12.out HC.out) 1).trans rfl⟩ (fun hHeld => ?_)
                        clear hK K
                        refine norm_ (a' := ?_) ?_ ?_
                        rotate_left
                        · show Act.put _ (some 68) _ = _
                          simp only [Act.put, List.setIfInBounds_toArray, List.set_cons_zero, List.set_cons_succ, i64_w, i32_w]
                          rfl
                        refine pure_ (i := 10) (N := some 69) (v := ?_) (a' := ?_) #[true, true, true, true, true, true, true, true, true, true, true, false, true, false] rfl rfl (by kernel_rfl) (fun _ _ _ h => h) (Or.inl ⟨by rfl, ?_⟩) ?_ ?_
                        rotate_left
                        · intro w'
                          go_simp
                          with_reducible rfl
                        rotate_left
                        · simp only [Act.put, List.setIfInBounds_toArray, List.set_cons_zero, List.set_cons_succ, i64_w, i32_w]
                          rfl
                        refine pure_ (i := 11) (N := some 70) (v := ?_) (a' := ?_) #[true, true, true, true, true, true, true, true, true, true, true, true, true, false] rfl rfl (by kernel_rfl) (fun _ _ _ h => h) (Or.inl ⟨by rfl, ?_⟩) ?_ ?_
                        rotate_left
                        · intro w'
                          go_simp
                          with_reducible rfl
                        rotate_left
                        · simp only [Act.put, List.setIfInBounds_toArray, List.set_cons_zero, List.set_cons_succ, i64_w, i32_w]
                          rfl
                        exact norm_ (by simp only [putAll, Act.put, List.setIfInBounds_toArray, List.set_cons_zero, List.set_cons_succ]) (hCont (.slice Acl f0.f0.length ccl, .slice Arow z1.length crow, (Ap, cp), g15) _ ⟨hHeld, HC.out, HAP.out, G15.out, HB15.out⟩)
                    · skip
                      refine box_step (N := 15) (cs := #[.slice none 0 0, .int .i64 0]) (t := 80) (by rfl) rfl ?hr ?_
                      (case hr => first | (go_simp; done) | (go_simp; rfl))
                      intro g15 hg w1611 hbox hb
                      have n0_ := Aside0.mk (below_step HC.out hb)
                      have n1_ := Aside0.mk (row_kept HCL.out (IntsKept.below hb))
                      have HB15 := Aside0.mk hbox; have G15 := Aside0.mk ((by rw [hg]; exact HC.out.size : W16.heap.size ≤ g15))
                      clear hb HC HCL
                      have HC := n0_
                      have HCL := n1_
                      clear n0_ n1_
                      clear hbox hg
                      refine hK.out _ _ ⟨(blk_cell (blk_below BK11.out HC.out) 0).trans rfl, (blk_cell (blk_below BK11.out HC.out) 1).trans rfl, (blk_cell (blk_below BK11.out HC.out) 2).trans rfl, (blk_cell (blk_below BK11.out HC.out) 3).trans rfl, (blk_cell (blk_below BK12.out HC.out) 0).trans rfl, (blk_cell (blk_below BK12.out HC.out) 1).trans rfl⟩ (fun hHeld => ?_)
                      clear hK K
                      refine norm_ (a' := ?_) ?_ ?_
                      rotate_left
                      · show Act.put _ (some 15) _ = _
                        simp only [Act.put, List.setIfInBounds_toArray, List.set_cons_zero, List.set_cons_succ, i64_w, i32_w]
                        rfl
                      refine one_ (i := 4) (N := some 63) #[true, true, true, true, true, false, true, true, true, false, false, false, true, false] rfl rfl (by kernel_rfl) (by decide) (fun K hK => ?_)
                      refine Kd.R_lit_step (Kd.int .i64) _ 3 ?hg (N := 63) ?hd (xs := ([(i : Int)] : List Int)) (inner := [.int .i64 (i : Int)]) (ok := fun _ => True) (okp := fun _ => True) ?hr ?hp (fun _ hk => hk) trivial (Below.refl _ _) (Nat.le_refl _) (by simp) ?_
                      (case hd => rfl)
                      (case hg => rfl)
                      (case hr => first | (go_simp; done) | (go_simp; rfl))
                      (case hp => exact (Reps.one (show Kd.M (Kd.int .i64) _ _ _ (i : Int) [.int .i64 (i : Int)] from rfl) (Reps.none _ _)))
                      intro vrow w1612 ho hb hg_ hnew_
                      clear hg_ hnew_
                      rw [← HZ1.out] at ho
                      have n0_ := Aside0.mk (below_step HC.out hb)
                      have n1_ := Aside0.mk (row_kept HCL.out (IntsKept.below hb))
                      have n2_ := Aside0.mk (blk_below HB15.out hb)
                      have HROW := Aside0.mk (Kd.R_lower ho HC.out.size)
                      clear hb HC HCL HB15
                      have HC := n0_
                      have HCL := n1_
                      have HB15 := n2_
                      clear n0_ n1_ n2_
                      clear ho
                      obtain ⟨Arow, crow, erow⟩ := Kd.R_slice HROW.out
                      subst erow
                      refine hK.out _ _ ⟨(blk_cell (blk_below BK11.out HC.out) 0).trans rfl, (blk_cell (blk_below BK11.out HC.out) 1).trans rfl, (blk_cell (blk_below BK11.out HC.out) 2).trans rfl, (blk_cell (blk_below BK11.out HC.out) 3).trans rfl, (blk_cell (blk_below BK12.out HC.out) 0).trans rfl, (blk_cell (blk_below BK12.out HC.out) 1).trans rfl⟩ (fun hHeld => ?_)
                      clear hK K
                      refine norm_ (a' := ?_) ?_ ?_
                      rotate_left
                      · show Act.put _ (some 63) _ = _
                        simp only [Act.put, List.setIfInBounds_toArray, List.set_cons_zero, List.set_cons_succ, i64_w, i32_w]
                        rfl
                      refine one_ (i := 5) (N := some 64) #[true, true, true, true, true, true, true, true, true, false, false, false, true, false] rfl rfl (by kernel_rfl) (by decide) (fun K hK => ?_)
                      refine Kd.R_append_rows_step (Kd.int .i64) (w0 := W16) W16.heap.size (by rfl) (.tmp 61) (.tmp 63) 31 3 (.int .i64 0) 8 rfl Tryd.underlying31 slices_Clone_int_int.info rfl (by decide) (by omega) _ f0.f0 z1 _ _ _ (fun _ => True) (fun _ => False) rfl rfl HCL.out (Kd.R_reads' HROW.out).2.2 (fun _ _ h => h) (fun _ h => h.elim) (fun _ _ => trivial) HC.out HC.out.size (by have := HCC.out.1; rw [HZ1.out]; simp; omega) ?_
                      intro vap w1613 ho hb0 hg_ hat_
                      have n9_ := Aside0.mk ((hg_.block g15 (blk_lt HB15.out) (Kd.R_ne HCL.out HB15.out (by decide))).trans HB15.out)
                      rw [← HZ2.out] at ho
                      have n0_ := Aside0.mk hb0
                      have HAP := Aside0.mk ho
                      clear ho hb0 hg_ hat_ HCL HROW HC HB15
                      have HC := n0_
                      clear n0_
                      have HB15 := n9_
                      clear n9_
                      obtain ⟨Ap, cp, eap⟩ := Kd.R_slice HAP.out
                      subst eap
                      refine hK.out _ _ ⟨(blk_cell (blk_below BK11.out HC.out) 0).trans rfl, (blk_cell (blk_below BK11.out HC.out) 1).trans rfl, (blk_cell (blk_below BK11.out HC.out) 2).trans rfl, (blk_cell (blk_below BK11.out HC.out) 3).trans rfl, (blk_cell (blk_below BK12.out HC.out) 0).trans rfl, (blk_cell (blk_below BK12.out HC.out) 1).trans rfl⟩ (fun hHeld => ?_)
                      clear hK K
                      refine norm_ (a' := ?_) ?_ ?_
                      rotate_left
                      · show Act.put _ (some 64) _ = _
                        simp only [Act.put, List.setIfInBounds_toArray, List.set_cons_zero, List.set_cons_succ, i64_w, i32_w]
                        rfl
                      refine one_ (i := 9) (N := some 68) #[true, true, true, true, true, true, true, true, true, true, false, false, true, false] rfl rfl (by kernel_rfl) (by decide) (fun K hK => ?_)
                      refine goes_ Tryd.func43 (by kernel_rfl) rfl #[.agg #[.string x.f0, .int .i64 x.f1, .int .i64 x.f2, .slice A3 x.f3.length c3]] (by rfl) rfl rfl (by (try simp only [List.map_toArray, List.map_cons, List.map_nil]); first | done | rfl) ?_
                      refine (contact_whole.calls k x.f0 x.f1 x.f2 _ _ x.f3 t _ (Kd.C_below HR3.out (below_step HB16.out HC.out)) HS3.out HT.out).mono ?_
                      rintro e1 w1614 ⟨rfl, hb⟩
                      refine ⟨_, rfl, ?_⟩
                      have n0_ := Aside0.mk (below_step HC.out hb)
                      have n1_ := Aside0.mk (row_kept HAP.out (IntsKept.below hb))
                      have n2_ := Aside0.mk (blk_below HB15.out hb)
                      clear hb HC HAP HB15
                      have HC := n0_
                      have HAP := n1_
                      have HB15 := n2_
                      clear n0_ n1_ n2_
                      refine hK.out _ _ ⟨(blk_cell (blk_below BK11.out HC.out) 0).trans rfl, (blk_cell (blk_below BK11.out HC.out) 1).trans rfl, (blk_cell (blk_below BK11.out HC.out) 2).trans rfl, (blk_cell (blk_below BK11.out HC.out) 3).trans rfl, (blk_cell (blk_below BK12.out HC.out) 0).trans rfl, (blk_cell (blk_below BK12.out HC.out) 1).trans rfl⟩ (fun hHeld => ?_)
                      clear hK K
                      refine norm_ (a' := ?_) ?_ ?_
                      rotate_left
                      · show Act.put _ (some 68) _ = _
                        simp only [Act.put, List.setIfInBounds_toArray, List.set_cons_zero, List.set_cons_succ, i64_w, i32_w]
                        rfl
                      refine pure_ (i := 10) (N := some 69) (v := ?_) (a' := ?_) #[true, true, true, true, true, true, true, true, true, true, true, false, true, false] rfl rfl (by kernel_rfl) (fun _ _ _ h => h) (Or.inl ⟨by rfl, ?_⟩) ?_ ?_
                      rotate_left
                      · intro w'
                        go_simp
                        with_reducible rfl
                      rotate_left
                      · simp only [Act.put, List.setIfInBounds_toArray, List.set_cons_zero, List.set_cons_succ, i64_w, i32_w]
                        rfl
                      refine pure_ (i := 11) (N := some 70) (v := ?_) (a' := ?_) #[true, true, true, true, true, true, true, true, true, true, true, true, true, false] rfl rfl (by kernel_rfl) (fun _ _ _ h => h) (Or.inl ⟨by rfl, ?_⟩) ?_ ?_
                      rotate_left
                      · intro w'
                        go_simp
                        with_reducible rfl
                      rotate_left
                      · simp only [Act.put, List.setIfInBounds_toArray, List.set_cons_zero, List.set_cons_succ, i64_w, i32_w]
                        rfl
                      exact norm_ (by simp only [putAll, Act.put, List.setIfInBounds_toArray, List.set_cons_zero, List.set_cons_succ]) (hCont (.slice Acl f0.f0.length ccl, .slice Arow z1.length crow, (Ap, cp), g15) _ ⟨hHeld, HC.out, HAP.out, G15.out, HB15.out⟩)
                  · skip
                    refine Kd.R_lit_step (Kd.int .i64) _ 3 ?hg (N := 63) ?hd (xs := ([(i : Int)] : List Int)) (inner := [.int .i64 (i : Int)]) (ok := fun _ => True) (okp := fun _ => True) ?hr ?hp (fun _ hk => hk) trivial (Below.refl _ _) (Nat.le_refl _) (by simp) ?_
                    (case hd => rfl)
                    (case hg => rfl)
                    (case hr => first | (go_simp; done) | (go_simp; rfl))
                    (case hp => exact (Reps.one (show Kd.M (Kd.int .i64) _ _ _ (i : Int) [.int .i64 (i : Int)] from rfl) (Reps.none _ _)))
                    intro vrow w1615 ho hb hg_ hnew_
                    clear hg_ hnew_
                    rw [← HZ1.out] at ho
                    have n0_ := Aside0.mk (below_step HC.out hb)
                    have HROW := Aside0.mk (Kd.R_lower ho HC.out.size)
                    clear hb HC
                    have HC := n0_
                    clear n0_
                    clear ho
                    obtain ⟨Arow, crow, erow⟩ := Kd.R_slice HROW.out
                    subst erow
                    refine hK.out _ _ ⟨(blk_cell (blk_below BK11.out HC.out) 0).trans rfl, (blk_cell (blk_below BK11.out HC.out) 1).trans rfl, (blk_cell (blk_below BK11.out HC.out) 2).trans rfl, (blk_cell (blk_below BK11.out HC.out) 3).trans rfl, (blk_cell (blk_below BK12.out HC.out) 0).trans rfl, (blk_cell (blk_below BK12.out HC.out) 1).trans rfl⟩ (fun hHeld => ?_)
                    clear hK K
                    refine norm_ (a' := ?_) ?_ ?_
                    rotate_left
                    · show Act.put _ (some 63) _ = _
                      simp only [Act.put, List.setIfInBounds_toArray, List.set_cons_zero, List.set_cons_succ, i64_w, i32_w]
                      rfl
                    refine two_ (i := 2) (j := 12) (Ni := some 61) (Nj := some 15) #[true, true, true, true, true, false, true, true, true, false, false, false, false, false] #[true, true, false, true, true, false, true, true, true, false, false, false, true, false] rfl rfl rfl rfl (by kernel_rfl) (by decide) (by decide) (fun K hK => ?_) (fun K hK => ?_)
                    · skip
                      refine goes_ Tryd.func42 (by kernel_rfl) rfl #[.slice Af f0.f0.length cf] (by rfl) rfl rfl (by (try simp only [List.map_toArray, List.map_cons, List.map_nil]); first | done | rfl) ?_
                      refine (slices_Clone_int_int.calls _ _ f0.f0 f0.f0 _ (Kd.R_reads' (row_kept HVF.out (IntsKept.below HC.out))).2.2 (Kd.R_reads' HVF.out).2.1 HCLF.out).mono ?_
                      rintro e1 w1616 ⟨vcl, rfl, ho, hb⟩
                      refine ⟨_, rfl, ?_⟩
                      have n0_ := Aside0.mk (below_step HC.out hb)
                      have n1_ := Aside0.mk (row_kept HROW.out (IntsKept.below hb))
                      have HCL := Aside0.mk (Kd.R_lower ho HC.out.size)
                      clear hb HC HROW
                      have HC := n0_
                      have HROW := n1_
                      clear n0_ n1_
                      clear ho
                      obtain ⟨Acl, ccl, ecl⟩ := Kd.R_slice HCL.out
                      subst ecl
                      refine hK.out _ _ ⟨(blk_cell (blk_below BK11.out HC.out) 0).trans rfl, (blk_cell (blk_below BK11.out HC.out) 1).trans rfl, (blk_cell (blk_below BK11.out HC.out) 2).trans rfl, (blk_cell (blk_below BK11.out HC.out) 3).trans rfl, (blk_cell (blk_below BK12.out HC.out) 0).trans rfl, (blk_cell (blk_below BK12.out HC.out) 1).trans rfl⟩ (fun hHeld => ?_)
                      clear hK K
                      refine norm_ (a' := ?_) ?_ ?_
                      rotate_left
                      · show Act.put _ (some 61) _ = _
                        simp only [Act.put, List.setIfInBounds_toArray, List.set_cons_zero, List.set_cons_succ, i64_w, i32_w]
                        rfl
                      refine two_ (i := 5) (j := 12) (Ni := some 64) (Nj := some 15) #[true, true, true, true, true, true, true, true, true, false, false, false, false, false] #[true, true, true, true, true, false, true, true, true, false, false, false, true, false] rfl rfl rfl rfl (by kernel_rfl) (by decide) (by decide) (fun K hK => ?_) (fun K hK => ?_)
                      · skip
                        refine Kd.R_append_rows_step (Kd.int .i64) (w0 := W16) W16.heap.size (by rfl) (.tmp 61) (.tmp 63) 31 3 (.int .i64 0) 8 rfl Tryd.underlying31 slices_Clone_int_int.info rfl (by decide) (by omega) _ f0.f0 z1 _ _ _ (fun _ => True) (fun _ => False) rfl rfl HCL.out (Kd.R_reads' HROW.out).2.2 (fun _ _ h => h) (fun _ h => h.elim) (fun _ _ => trivial) HC.out HC.out.size (by have := HCC.out.1; rw [HZ1.out]; simp; omega) ?_
                        intro vap w1617 ho hb0 hg_ hat_
                        rw [← HZ2.out] at ho
                        have n0_ := Aside0.mk hb0
                        have HAP := Aside0.mk ho
                        clear ho hb0 hg_ hat_ HCL HROW HC
                        have HC := n0_
                        clear n0_
                        obtain ⟨Ap, cp, eap⟩ := Kd.R_slice HAP.out
                        subst eap
                        refine hK.out _ _ ⟨(blk_cell (blk_below BK11.out HC.out) 0).trans rfl, (blk_cell (blk_below BK11.out HC.out) 1).trans rfl, (blk_cell (blk_below BK11.out HC.out) 2).trans rfl, (blk_cell (blk_below BK11.out HC.out) 3).trans rfl, (blk_cell (blk_below BK12.out HC.out) 0).trans rfl, (blk_cell (blk_below BK12.out HC.out) 1).trans rfl⟩ (fun hHeld => ?_)
                        clear hK K
                        refine norm_ (a' := ?_) ?_ ?_
                        rotate_left
                        · show Act.put _ (some 64) _ = _
                          simp only [Act.put, List.setIfInBounds_toArray, List.set_cons_zero, List.set_cons_succ, i64_w, i32_w]
                          rfl
                        refine two_ (i := 9) (j := 12) (Ni := some 68) (Nj := some 15) #[true, true, true, true, true, true, true, true, true, true, false, false, false, false] #[true, true, true, true, true, true, true, true, true, false, false, false, true, false] rfl rfl rfl rfl (by kernel_rfl) (by decide) (by decide) (fun K hK => ?_) (fun K hK => ?_)
                        · skip
                          refine goes_ Tryd.func43 (by kernel_rfl) rfl #[.agg #[.string x.f0, .int .i64 x.f1, .int .i64 x.f2, .slice A3 x.f3.length c3]] (by rfl) rfl rfl (by (try simp only [List.map_toArray, List.map_cons, List.map_nil]); first | done | rfl) ?_
                          refine (contact_whole.calls k x.f0 x.f1 x.f2 _ _ x.f3 t _ (Kd.C_below HR3.out (below_step HB16.out HC.out)) HS3.out HT.out).mono ?_
                          rintro e1 w1618 ⟨rfl, hb⟩
                          refine ⟨_, rfl, ?_⟩
                          have n0_ := Aside0.mk (below_step HC.out hb)
                          have n1_ := Aside0.mk (row_kept HAP.out (IntsKept.below hb))
                          clear hb HC HAP
                          have HC := n0_
                          have HAP := n1_
                          clear n0_ n1_
                          refine hK.out _ _ ⟨(blk_cell (blk_below BK11.out HC.out) 0).trans rfl, (blk_cell (blk_below BK11.out HC.out) 1).trans rfl, (blk_cell (blk_below BK11.out HC.out) 2).trans rfl, (blk_cell (blk_below BK11.out HC.out) 3).trans rfl, (blk_cell (blk_below BK12.out HC.out) 0).trans rfl, (blk_cell (blk_below BK12.out HC.out) 1).trans rfl⟩ (fun hHeld => ?_)
                          clear hK K
                          refine norm_ (a' := ?_) ?_ ?_
                          rotate_left
                          · show Act.put _ (some 68) _ = _
                            simp only [Act.put, List.setIfInBounds_toArray, List.set_cons_zero, List.set_cons_succ, i64_w, i32_w]
                            rfl
                          refine pure_ (i := 10) (N := some 69) (v := ?_) (a' := ?_) #[true, true, true, true, true, true, true, true, true, true, true, false, false, false] rfl rfl (by kernel_rfl) (fun _ _ _ h => h) (Or.inl ⟨by rfl, ?_⟩) ?_ ?_
                          rotate_left
                          · intro w'
                            go_simp
                            with_reducible rfl
                          rotate_left
                          · simp only [Act.put, List.setIfInBounds_toArray, List.set_cons_zero, List.set_cons_succ, i64_w, i32_w]
                            rfl
                          refine pure_ (i := 11) (N := some 70) (v := ?_) (a' := ?_) #[true, true, true, true, true, true, true, true, true, true, true, true, false, false] rfl rfl (by kernel_rfl) (fun _ _ _ h => h) (Or.inl ⟨by rfl, ?_⟩) ?_ ?_
                          rotate_left
                          · intro w'
                            go_simp
                            with_reducible rfl
                          rotate_left
                          · simp only [Act.put, List.setIfInBounds_toArray, List.set_cons_zero, List.set_cons_succ, i64_w, i32_w]
                            rfl
                          refine one_ (i := 12) (N := some 15) #[true, true, true, true, true, true, true, true, true, true, true, true, true, false] rfl rfl (by kernel_rfl) (by decide) (fun K hK => ?_)
                          refine box_step (N := 15) (cs := #[.slice none 0 0, .int .i64 0]) (t := 80) (by rfl) rfl ?hr ?_
                          (case hr => first | (go_simp; done) | (go_simp; rfl))
                          intro g15 hg w1619 hbox hb
                          have n0_ := Aside0.mk (below_step HC.out hb)
                          have n1_ := Aside0.mk (row_kept HAP.out (IntsKept.below hb))
                          have HB15 := Aside0.mk hbox; have G15 := Aside0.mk ((by rw [hg]; exact HC.out.size : W16.heap.size ≤ g15))
                          clear hb HC HAP
                          have HC := n0_
                          have HAP := n1_
                          clear n0_ n1_
                          clear hbox hg
                          refine hK.out _ _ ⟨(blk_cell (blk_below BK11.out HC.out) 0).trans rfl, (blk_cell (blk_below BK11.out HC.out) 1).trans rfl, (blk_cell (blk_below BK11.out HC.out) 2).trans rfl, (blk_cell (blk_below BK11.out HC.out) 3).trans rfl, (blk_cell (blk_below BK12.out HC.out) 0).trans rfl, (blk_cell (blk_below BK12.out HC.out) 1).trans rfl⟩ (fun hHeld => ?_)
                          clear hK K
                          refine norm_ (a' := ?_) ?_ ?_
                          rotate_left
                          · show Act.put _ (some 15) _ = _
                            simp only [Act.put, List.setIfInBounds_toArray, List.set_cons_zero, List.set_cons_succ, i64_w, i32_w]
                            rfl
                          exact norm_ (by simp only [putAll, Act.put, List.setIfInBounds_toArray, List.set_cons_zero, List.set_cons_succ]) (hCont (.slice Acl f0.f0.length ccl, .slice Arow z1.length crow, (Ap, cp), g15) _ ⟨hHeld, HC.out, HAP.out, G15.out, HB15.out⟩)
                        · skip
                          refine box_step (N := 15) (cs := #[.slice none 0 0, .int .i64 0]) (t := 80) (by rfl) rfl ?hr ?_
                          (case hr => first | (go_simp; done) | (go_simp; rfl))
                          intro g15 hg w1620 hbox hb
                          have n0_ := Aside0.mk (below_step HC.out hb)
                          have n1_ := Aside0.mk (row_kept HAP.out (IntsKept.below hb))
                          have HB15 := Aside0.mk hbox; have G15 := Aside0.mk ((by rw [hg]; exact HC.out.size : W16.heap.size ≤ g15))
                          clear hb HC HAP
                          have HC := n0_
                          have HAP := n1_
                          clear n0_ n1_
                          clear hbox hg
                          refine hK.out _ _ ⟨(blk_cell (blk_below BK11.out HC.out) 0).trans rfl, (blk_cell (blk_below BK11.out HC.out) 1).trans rfl, (blk_cell (blk_below BK11.out HC.out) 2).trans rfl, (blk_cell (blk_below BK11.out HC.out) 3).trans rfl, (blk_cell (blk_below BK12.out HC.out) 0).trans rfl, (blk_cell (blk_below BK12.out HC.out) 1).trans rfl⟩ (fun hHeld => ?_)
                          clear hK K
                          refine norm_ (a' := ?_) ?_ ?_
                          rotate_left
                          · show Act.put _ (some 15) _ = _
                            simp only [Act.put, List.setIfInBounds_toArray, List.set_cons_zero, List.set_cons_succ, i64_w, i32_w]
                            rfl
                          refine one_ (i := 9) (N := some 68) #[true, true, true, true, true, true, true, true, true, true, false, false, true, false] rfl rfl (by kernel_rfl) (by decide) (fun K hK => ?_)
                          refine goes_ Tryd.func43 (by kernel_rfl) rfl #[.agg #[.string x.f0, .int .i64 x.f1, .int .i64 x.f2, .slice A3 x.f3.length c3]] (by rfl) rfl rfl (by (try simp only [List.map_toArray, List.map_cons, List.map_nil]); first | done | rfl) ?_
                          refine (contact_whole.calls k x.f0 x.f1 x.f2 _ _ x.f3 t _ (Kd.C_below HR3.out (below_step HB16.out HC.out)) HS3.out HT.out).mono ?_
                          rintro e1 w1621 ⟨rfl, hb⟩
                          refine ⟨_, rfl, ?_⟩
                          have n0_ := Aside0.mk (below_step HC.out hb)
                          have n1_ := Aside0.mk (row_kept HAP.out (IntsKept.below hb))
                          have n2_ := Aside0.mk (blk_below HB15.out hb)
                          clear hb HC HAP HB15
                          have HC := n0_
                          have HAP := n1_
                          have HB15 := n2_
                          clear n0_ n1_ n2_
                          refine hK.out _ _ ⟨(blk_cell (blk_below BK11.out HC.out) 0).trans rfl, (blk_cell (blk_below BK11.out HC.out) 1).trans rfl, (blk_cell (blk_below BK11.out HC.out) 2).trans rfl, (blk_cell (blk_below BK11.out HC.out) 3).trans rfl, (blk_cell (blk_below BK12.out HC.out) 0).trans rfl, (blk_cell (blk_below BK12.out HC.out) 1).trans rfl⟩ (fun hHeld => ?_)
                          clear hK K
                          refine norm_ (a' := ?_) ?_ ?_
                          rotate_left
                          · show Act.put _ (some 68) _ = _
                            simp only [Act.put, List.setIfInBounds_toArray, List.set_cons_zero, List.set_cons_succ, i64_w, i32_w]
                            rfl
                          refine pure_ (i := 10) (N := some 69) (v := ?_) (a' := ?_) #[true, true, true, true, true, true, true, true, true, true, true, false, true, false] rfl rfl (by kernel_rfl) (fun _ _ _ h => h) (Or.inl ⟨by rfl, ?_⟩) ?_ ?_
                          rotate_left
                          · intro w'
                            go_simp
                            with_reducible rfl
                          rotate_left
                          · simp only [Act.put, List.setIfInBounds_toArray, List.set_cons_zero, List.set_cons_succ, i64_w, i32_w]
                            rfl
                          refine pure_ (i := 11) (N := some 70) (v := ?_) (a' := ?_) #[true, true, true, true, true, true, true, true, true, true, true, true, true, false] rfl rfl (by kernel_rfl) (fun _ _ _ h => h) (Or.inl ⟨by rfl, ?_⟩) ?_ ?_
                          rotate_left
                          · intro w'
                            go_simp
                            with_reducible rfl
                          rotate_left
                          · simp only [Act.put, List.setIfInBounds_toArray, List.set_cons_zero, List.set_cons_succ, i64_w, i32_w]
                            rfl
                          exact norm_ (by simp only [putAll, Act.put, List.setIfInBounds_toArray, List.set_cons_zero, List.set_cons_succ]) (hCont (.slice Acl f0.f0.length ccl, .slice Arow z1.length crow, (Ap, cp), g15) _ ⟨hHeld, HC.out, HAP.out, G15.out, HB15.out⟩)
                      · skip
                        refine box_step (N := 15) (cs := #[.slice none 0 0, .int .i64 0]) (t := 80) (by rfl) rfl ?hr ?_
                        (case hr => first | (go_simp; done) | (go_simp; rfl))
                        intro g15 hg w1622 hbox hb
                        have n0_ := Aside0.mk (below_step HC.out hb)
                        have n1_ := Aside0.mk (row_kept HCL.out (IntsKept.below hb))
                        have n2_ := Aside0.mk (row_kept HROW.out (IntsKept.below hb))
                        have HB15 := Aside0.mk hbox; have G15 := Aside0.mk ((by rw [hg]; exact HC.out.size : W16.heap.size ≤ g15))
                        clear hb HC HCL HROW
                        have HC := n0_
                        have HCL := n1_
                        have HROW := n2_
                        clear n0_ n1_ n2_
                        clear hbox hg
                        refine hK.out _ _ ⟨(blk_cell (blk_below BK11.out HC.out) 0).trans rfl, (blk_cell (blk_below BK11.out HC.out) 1).trans rfl, (blk_cell (blk_below BK11.out HC.out) 2).trans rfl, (blk_cell (blk_below BK11.out HC.out) 3).trans rfl, (blk_cell (blk_below BK12.out HC.out) 0).trans rfl, (blk_cell (blk_below BK12.out HC.out) 1).trans rfl⟩ (fun hHeld => ?_)
                        clear hK K
                        refine norm_ (a' := ?_) ?_ ?_
                        rotate_left
                        · show Act.put _ (some 15) _ = _
                          simp only [Act.put, List.setIfInBounds_toArray, List.set_cons_zero, List.set_cons_succ, i64_w, i32_w]
                          rfl
                        refine one_ (i := 5) (N := some 64) #[true, true, true, true, true, true, true, true, true, false, false, false, true, false] rfl rfl (by kernel_rfl) (by decide) (fun K hK => ?_)
                        refine Kd.R_append_rows_step (Kd.int .i64) (w0 := W16) W16.heap.size (by rfl) (.tmp 61) (.tmp 63) 31 3 (.int .i64 0) 8 rfl Tryd.underlying31 slices_Clone_int_int.info rfl (by decide) (by omega) _ f0.f0 z1 _ _ _ (fun _ => True) (fun _ => False) rfl rfl HCL.out (Kd.R_reads' HROW.out).2.2 (fun _ _ h => h) (fun _ h => h.elim) (fun _ _ => trivial) HC.out HC.out.size (by have := HCC.out.1; rw [HZ1.out]; simp; omega) ?_
                        intro vap w1623 ho hb0 hg_ hat_
                        have n9_ := Aside0.mk ((hg_.block g15 (blk_lt HB15.out) (Kd.R_ne HCL.out HB15.out (by decide))).trans HB15.out)
                        rw [← HZ2.out] at ho
                        have n0_ := Aside0.mk hb0
                        have HAP := Aside0.mk ho
                        clear ho hb0 hg_ hat_ HCL HROW HC HB15
                        have HC := n0_
                        clear n0_
                        have HB15 := n9_
                        clear n9_
                        obtain ⟨Ap, cp, eap⟩ := Kd.R_slice HAP.out
                        subst eap
                        refine hK.out _ _ ⟨(blk_cell (blk_below BK11.out HC.out) 0).trans rfl, (blk_cell (blk_below BK11.out HC.out) 1).trans rfl, (blk_cell (blk_below BK11.out HC.out) 2).trans rfl, (blk_cell (blk_below BK11.out HC.out) 3).trans rfl, (blk_cell (blk_below BK12.out HC.out) 0).trans rfl, (blk_cell (blk_below BK12.out HC.out) 1).trans rfl⟩ (fun hHeld => ?_)
                        clear hK K
                        refine norm_ (a' := ?_) ?_ ?_
                        rotate_left
                        · show Act.put _ (some 64) _ = _
                          simp only [Act.put, List.setIfInBounds_toArray, List.set_cons_zero, List.set_cons_succ, i64_w, i32_w]
                          rfl
                        refine one_ (i := 9) (N := some 68) #[true, true, true, true, true, true, true, true, true, true, false, false, true, false] rfl rfl (by kernel_rfl) (by decide) (fun K hK => ?_)
                        refine goes_ Tryd.func43 (by kernel_rfl) rfl #[.agg #[.string x.f0, .int .i64 x.f1, .int .i64 x.f2, .slice A3 x.f3.length c3]] (by rfl) rfl rfl (by (try simp only [List.map_toArray, List.map_cons, List.map_nil]); first | done | rfl) ?_
                        refine (contact_whole.calls k x.f0 x.f1 x.f2 _ _ x.f3 t _ (Kd.C_below HR3.out (below_step HB16.out HC.out)) HS3.out HT.out).mono ?_
                        rintro e1 w1624 ⟨rfl, hb⟩
                        refine ⟨_, rfl, ?_⟩
                        have n0_ := Aside0.mk (below_step HC.out hb)
                        have n1_ := Aside0.mk (row_kept HAP.out (IntsKept.below hb))
                        have n2_ := Aside0.mk (blk_below HB15.out hb)
                        clear hb HC HAP HB15
                        have HC := n0_
                        have HAP := n1_
                        have HB15 := n2_
                        clear n0_ n1_ n2_
                        refine hK.out _ _ ⟨(blk_cell (blk_below BK11.out HC.out) 0).trans rfl, (blk_cell (blk_below BK11.out HC.out) 1).trans rfl, (blk_cell (blk_below BK11.out HC.out) 2).trans rfl, (blk_cell (blk_below BK11.out HC.out) 3).trans rfl, (blk_cell (blk_below BK12.out HC.out) 0).trans rfl, (blk_cell (blk_below BK12.out HC.out) 1).trans rfl⟩ (fun hHeld => ?_)
                        clear hK K
                        refine norm_ (a' := ?_) ?_ ?_
                        rotate_left
                        · show Act.put _ (some 68) _ = _
                          simp only [Act.put, List.setIfInBounds_toArray, List.set_cons_zero, List.set_cons_succ, i64_w, i32_w]
                          rfl
                        refine pure_ (i := 10) (N := some 69) (v := ?_) (a' := ?_) #[true, true, true, true, true, true, true, true, true, true, true, false, true, false] rfl rfl (by kernel_rfl) (fun _ _ _ h => h) (Or.inl ⟨by rfl, ?_⟩) ?_ ?_
                        rotate_left
                        · intro w'
                          go_simp
                          with_reducible rfl
                        rotate_left
                        · simp only [Act.put, List.setIfInBounds_toArray, List.set_cons_zero, List.set_cons_succ, i64_w, i32_w]
                          rfl
                        refine pure_ (i := 11) (N := some 70) (v := ?_) (a' := ?_) #[true, true, true, true, true, true, true, true, true, true, true, true, true, false] rfl rfl (by kernel_rfl) (fun _ _ _ h => h) (Or.inl ⟨by rfl, ?_⟩) ?_ ?_
                        rotate_left
                        · intro w'
                          go_simp
                          with_reducible rfl
                        rotate_left
                        · simp only [Act.put, List.setIfInBounds_toArray, List.set_cons_zero, List.set_cons_succ, i64_w, i32_w]
                          rfl
                        exact norm_ (by simp only [putAll, Act.put, List.setIfInBounds_toArray, List.set_cons_zero, List.set_cons_succ]) (hCont (.slice Acl f0.f0.length ccl, .slice Arow z1.length crow, (Ap, cp), g15) _ ⟨hHeld, HC.out, HAP.out, G15.out, HB15.out⟩)
                    · skip
                      refine box_step (N := 15) (cs := #[.slice none 0 0, .int .i64 0]) (t := 80) (by rfl) rfl ?hr ?_
                      (case hr => first | (go_simp; done) | (go_simp; rfl))
                      intro g15 hg w1625 hbox hb
                      have n0_ := Aside0.mk (below_step HC.out hb)
                      have n1_ := Aside0.mk (row_kept HROW.out (IntsKept.below hb))
                      have HB15 := Aside0.mk hbox; have G15 := Aside0.mk ((by rw [hg]; exact HC.out.size : W16.heap.size ≤ g15))
                      clear hb HC HROW
                      have HC := n0_
                      have HROW := n1_
                      clear n0_ n1_
                      clear hbox hg
                      refine hK.out _ _ ⟨(blk_cell (blk_below BK11.out HC.out) 0).trans rfl, (blk_cell (blk_below BK11.out HC.out) 1).trans rfl, (blk_cell (blk_below BK11.out HC.out) 2).trans rfl, (blk_cell (blk_below BK11.out HC.out) 3).trans rfl, (blk_cell (blk_below BK12.out HC.out) 0).trans rfl, (blk_cell (blk_below BK12.out HC.out) 1).trans rfl⟩ (fun hHeld => ?_)
                      clear hK K
                      refine norm_ (a' := ?_) ?_ ?_
                      rotate_left
                      · show Act.put _ (some 15) _ = _
                        simp only [Act.put, List.setIfInBounds_toArray, List.set_cons_zero, List.set_cons_succ, i64_w, i32_w]
                        rfl
                      refine one_ (i := 2) (N := some 61) #[true, true, true, true, true, false, true, true, true, false, false, false, true, false] rfl rfl (by kernel_rfl) (by decide) (fun K hK => ?_)
                      refine goes_ Tryd.func42 (by kernel_rfl) rfl #[.slice Af f0.f0.length cf] (by rfl) rfl rfl (by (try simp only [List.map_toArray, List.map_cons, List.map_nil]); first | done | rfl) ?_
                      refine (slices_Clone_int_int.calls _ _ f0.f0 f0.f0 _ (Kd.R_reads' (row_kept HVF.out (IntsKept.below HC.out))).2.2 (Kd.R_reads' HVF.out).2.1 HCLF.out).mono ?_
                      rintro e1 w1626 ⟨vcl, rfl, ho, hb⟩
                      refine ⟨_, rfl, ?_⟩
                      have n0_ := Aside0.mk (below_step HC.out hb)
                      have n1_ := Aside0.mk (row_kept HROW.out (IntsKept.below hb))
                      have n2_ := Aside0.mk (blk_below HB15.out hb)
                      have HCL := Aside0.mk (Kd.R_lower ho HC.out.size)
                      clear hb HC HROW HB15
                      have HC := n0_
                      have HROW := n1_
                      have HB15 := n2_
                      clear n0_ n1_ n2_
                      clear ho
                      obtain ⟨Acl, ccl, ecl⟩ := Kd.R_slice HCL.out
                      subst ecl
                      refine hK.out _ _ ⟨(blk_cell (blk_below BK11.out HC.out) 0).trans rfl, (blk_cell (blk_below BK11.out HC.out) 1).trans rfl, (blk_cell (blk_below BK11.out HC.out) 2).trans rfl, (blk_cell (blk_below BK11.out HC.out) 3).trans rfl, (blk_cell (blk_below BK12.out HC.out) 0).trans rfl, (blk_cell (blk_below BK12.out HC.out) 1).trans rfl⟩ (fun hHeld => ?_)
                      clear hK K
                      refine norm_ (a' := ?_) ?_ ?_
                      rotate_left
                      · show Act.put _ (some 61) _ = _
                        simp only [Act.put, List.setIfInBounds_toArray, List.set_cons_zero, List.set_cons_succ, i64_w, i32_w]
                        rfl
                      refine one_ (i := 5) (N := some 64) #[true, true, true, true, true, true, true, true, true, false, false, false, true, false] rfl rfl (by kernel_rfl) (by decide) (fun K hK => ?_)
                      refine Kd.R_append_rows_step (Kd.int .i64) (w0 := W16) W16.heap.size (by rfl) (.tmp 61) (.tmp 63) 31 3 (.int .i64 0) 8 rfl Tryd.underlying31 slices_Clone_int_int.info rfl (by decide) (by omega) _ f0.f0 z1 _ _ _ (fun _ => True) (fun _ => False) rfl rfl HCL.out (Kd.R_reads' HROW.out).2.2 (fun _ _ h => h) (fun _ h => h.elim) (fun _ _ => trivial) HC.out HC.out.size (by have := HCC.out.1; rw [HZ1.out]; simp; omega) ?_
                      intro vap w1627 ho hb0 hg_ hat_
                      have n9_ := Aside0.mk ((hg_.block g15 (blk_lt HB15.out) (Kd.R_ne HCL.out HB15.out (by decide))).trans HB15.out)
                      rw [← HZ2.out] at ho
                      have n0_ := Aside0.mk hb0
                      have HAP := Aside0.mk ho
                      clear ho hb0 hg_ hat_ HCL HROW HC HB15
                      have HC := n0_
                      clear n0_
                      have HB15 := n9_
                      clear n9_
                      obtain ⟨Ap, cp, eap⟩ := Kd.R_slice HAP.out
                      subst eap
                      refine hK.out _ _ ⟨(blk_cell (blk_below BK11.out HC.out) 0).trans rfl, (blk_cell (blk_below BK11.out HC.out) 1).trans rfl, (blk_cell (blk_below BK11.out HC.out) 2).trans rfl, (blk_cell (blk_below BK11.out HC.out) 3).trans rfl, (blk_cell (blk_below BK12.out HC.out) 0).trans rfl, (blk_cell (blk_below BK12.out HC.out) 1).trans rfl⟩ (fun hHeld => ?_)
                      clear hK K
                      refine norm_ (a' := ?_) ?_ ?_
                      rotate_left
                      · show Act.put _ (some 64) _ = _
                        simp only [Act.put, List.setIfInBounds_toArray, List.set_cons_zero, List.set_cons_succ, i64_w, i32_w]
                        rfl
                      refine one_ (i := 9) (N := some 68) #[true, true, true, true, true, true, true, true, true, true, false, false, true, false] rfl rfl (by kernel_rfl) (by decide) (fun K hK => ?_)
                      refine goes_ Tryd.func43 (by kernel_rfl) rfl #[.agg #[.string x.f0, .int .i64 x.f1, .int .i64 x.f2, .slice A3 x.f3.length c3]] (by rfl) rfl rfl (by (try simp only [List.map_toArray, List.map_cons, List.map_nil]); first | done | rfl) ?_
                      refine (contact_whole.calls k x.f0 x.f1 x.f2 _ _ x.f3 t _ (Kd.C_below HR3.out (below_step HB16.out HC.out)) HS3.out HT.out).mono ?_
                      rintro e1 w1628 ⟨rfl, hb⟩
                      refine ⟨_, rfl, ?_⟩
                      have n0_ := Aside0.mk (below_step HC.out hb)
                      have n1_ := Aside0.mk (row_kept HAP.out (IntsKept.below hb))
                      have n2_ := Aside0.mk (blk_below HB15.out hb)
                      clear hb HC HAP HB15
                      have HC := n0_
                      have HAP := n1_
                      have HB15 := n2_
                      clear n0_ n1_ n2_
                      refine hK.out _ _ ⟨(blk_cell (blk_below BK11.out HC.out) 0).trans rfl, (blk_cell (blk_below BK11.out HC.out) 1).trans rfl, (blk_cell (blk_below BK11.out HC.out) 2).trans rfl, (blk_cell (blk_below BK11.out HC.out) 3).trans rfl, (blk_cell (blk_below BK12.out HC.out) 0).trans rfl, (blk_cell (blk_below BK12.out HC.out) 1).trans rfl⟩ (fun hHeld => ?_)
                      clear hK K
                      refine norm_ (a' := ?_) ?_ ?_
                      rotate_left
                      · show Act.put _ (some 68) _ = _
                        simp only [Act.put, List.setIfInBounds_toArray, List.set_cons_zero, List.set_cons_succ, i64_w, i32_w]
                        rfl
                      refine pure_ (i := 10) (N := some 69) (v := ?_) (a' := ?_) #[true, true, true, true, true, true, true, true, true, true, true, false, true, false] rfl rfl (by kernel_rfl) (fun _ _ _ h => h) (Or.inl ⟨by rfl, ?_⟩) ?_ ?_
                      rotate_left
                      · intro w'
                        go_simp
                        with_reducible rfl
                      rotate_left
                      · simp only [Act.put, List.setIfInBounds_toArray, List.set_cons_zero, List.set_cons_succ, i64_w, i32_w]
                        rfl
                      refine pure_ (i := 11) (N := some 70) (v := ?_) (a' := ?_) #[true, true, true, true, true, true, true, true, true, true, true, true, true, false] rfl rfl (by kernel_rfl) (fun _ _ _ h => h) (Or.inl ⟨by rfl, ?_⟩) ?_ ?_
                      rotate_left
                      · intro w'
                        go_simp
                        with_reducible rfl
                      rotate_left
                      · simp only [Act.put, List.setIfInBounds_toArray, List.set_cons_zero, List.set_cons_succ, i64_w, i32_w]
                        rfl
                      exact norm_ (by simp only [putAll, Act.put, List.setIfInBounds_toArray, List.set_cons_zero, List.set_cons_succ]) (hCont (.slice Acl f0.f0.length ccl, .slice Arow z1.length crow, (Ap, cp), g15) _ ⟨hHeld, HC.out, HAP.out, G15.out, HB15.out⟩)
                  · skip
                    refine box_step (N := 15) (cs := #[.slice none 0 0, .int .i64 0]) (t := 80) (by rfl) rfl ?hr ?_
                    (case hr => first | (go_simp; done) | (go_simp; rfl))
                    intro g15 hg w1629 hbox hb
                    have n0_ := Aside0.mk (below_step HC.out hb)
                    have HB15 := Aside0.mk hbox; have G15 := Aside0.mk ((by rw [hg]; exact HC.out.size : W16.heap.size ≤ g15))
                    clear hb HC
                    have HC := n0_
                    clear n0_
                    clear hbox hg
                    refine hK.out _ _ ⟨(blk_cell (blk_below BK11.out HC.out) 0).trans rfl, (blk_cell (blk_below BK11.out HC.out) 1).trans rfl, (blk_cell (blk_below BK11.out HC.out) 2).trans rfl, (blk_cell (blk_below BK11.out HC.out) 3).trans rfl, (blk_cell (blk_below BK12.out HC.out) 0).trans rfl, (blk_cell (blk_below BK12.out HC.out) 1).trans rfl⟩ (fun hHeld => ?_)
                    clear hK K
                    refine norm_ (a' := ?_) ?_ ?_
                    rotate_left
                    · show Act.put _ (some 15) _ = _
                      simp only [Act.put, List.setIfInBounds_toArray, List.set_cons_zero, List.set_cons_succ, i64_w, i32_w]
                      rfl
                    refine two_ (i := 2) (j := 4) (Ni := some 61) (Nj := some 63) #[true, true, true, true, false, false, true, true, true, false, false, false, true, false] #[true, true, false, true, true, false, true, true, true, false, false, false, true, false] rfl rfl rfl rfl (by kernel_rfl) (by decide) (by decide) (fun K hK => ?_) (fun K hK => ?_)
                    · skip
                      refine goes_ Tryd.func42 (by kernel_rfl) rfl #[.slice Af f0.f0.length cf] (by rfl) rfl rfl (by (try simp only [List.map_toArray, List.map_cons, List.map_nil]); first | done | rfl) ?_
                      refine (slices_Clone_int_int.calls _ _ f0.f0 f0.f0 _ (Kd.R_reads' (row_kept HVF.out (IntsKept.below HC.out))).2.2 (Kd.R_reads' HVF.out).2.1 HCLF.out).mono ?_
                      rintro e1 w1630 ⟨vcl, rfl, ho, hb⟩
                      refine ⟨_, rfl, ?_⟩
                      have n0_ := Aside0.mk (below_step HC.out hb)
                      have n1_ := Aside0.mk (blk_below HB15.out hb)
                      have HCL := Aside0.mk (Kd.R_lower ho HC.out.size)
                      clear hb HC HB15
                      have HC := n0_
                      have HB15 := n1_
                      clear n0_ n1_
                      clear ho
                      obtain ⟨Acl, ccl, ecl⟩ := Kd.R_slice HCL.out
                      subst ecl
                      refine hK.out _ _ ⟨(blk_cell (blk_below BK11.out HC.out) 0).trans rfl, (blk_cell (blk_below BK11.out HC.out) 1).trans rfl, (blk_cell (blk_below BK11.out HC.out) 2).trans rfl, (blk_cell (blk_below BK11.out HC.out) 3).trans rfl, (blk_cell (blk_below BK12.out HC.out) 0).trans rfl, (blk_cell (blk_below BK12.out HC.out) 1).trans rfl⟩ (fun hHeld => ?_)
                      clear hK K
                      refine norm_ (a' := ?_) ?_ ?_
                      rotate_left
                      · show Act.put _ (some 61) _ = _
                        simp only [Act.put, List.setIfInBounds_toArray, List.set_cons_zero, List.set_cons_succ, i64_w, i32_w]
                        rfl
                      refine one_ (i := 4) (N := some 63) #[true, true, true, true, true, false, true, true, true, false, false, false, true, false] rfl rfl (by kernel_rfl) (by decide) (fun K hK => ?_)
                      refine Kd.R_lit_step (Kd.int .i64) _ 3 ?hg (N := 63) ?hd (xs := ([(i : Int)] : List Int)) (inner := [.int .i64 (i : Int)]) (ok := fun _ => True) (okp := fun _ => True) ?hr ?hp (fun _ hk => hk) trivial (Below.refl _ _) (Nat.le_refl _) (by simp) ?_
                      (case hd => rfl)
                      (case hg => rfl)
                      (case hr => first | (go_simp; done) | (go_simp; rfl))
                      (case hp => exact (Reps.one (show Kd.M (Kd.int .i64) _ _ _ (i : Int) [.int .i64 (i : Int)] from rfl) (Reps.none _ _)))
                      intro vrow w1631 ho hb hg_ hnew_
                      clear hg_ hnew_
                      rw [← HZ1.out] at ho
                      have n0_ := Aside0.mk (below_step HC.out hb)
                      have n1_ := Aside0.mk (row_kept HCL.out (IntsKept.below hb))
                      have n2_ := Aside0.mk (blk_below HB15.out hb)
                      have HROW := Aside0.mk (Kd.R_lower ho HC.out.size)
                      clear hb HC HCL HB15
                      have HC := n0_
                      have HCL := n1_
                      have HB15 := n2_
                      clear n0_ n1_ n2_
                      clear ho
                      obtain ⟨Arow, crow, erow⟩ := Kd.R_slice HROW.out
                      subst erow
                      refine hK.out _ _ ⟨(blk_cell (blk_below BK11.out HC.out) 0).trans rfl, (blk_cell (blk_below BK11.out HC.out) 1).trans rfl, (blk_cell (blk_below BK11.out HC.out) 2).trans rfl, (blk_cell (blk_below BK11.out HC.out) 3).trans rfl, (blk_cell (blk_below BK12.out HC.out) 0).trans rfl, (blk_cell (blk_below BK12.out HC.out) 1).trans rfl⟩ (fun hHeld => ?_)
                      clear hK K
                      refine norm_ (a' := ?_) ?_ ?_
                      rotate_left
                      · show Act.put _ (some 63) _ = _
                        simp only [Act.put, List.setIfInBounds_toArray, List.set_cons_zero, List.set_cons_succ, i64_w, i32_w]
                        rfl
                      refine one_ (i := 5) (N := some 64) #[true, true, true, true, true, true, true, true, true, false, false, false, true, false] rfl rfl (by kernel_rfl) (by decide) (fun K hK => ?_)
                      refine Kd.R_append_rows_step (Kd.int .i64) (w0 := W16) W16.heap.size (by rfl) (.tmp 61) (.tmp 63) 31 3 (.int .i64 0) 8 rfl Tryd.underlying31 slices_Clone_int_int.info rfl (by decide) (by omega) _ f0.f0 z1 _ _ _ (fun _ => True) (fun _ => False) rfl rfl HCL.out (Kd.R_reads' HROW.out).2.2 (fun _ _ h => h) (fun _ h => h.elim) (fun _ _ => trivial) HC.out HC.out.size (by have := HCC.out.1; rw [HZ1.out]; simp; omega) ?_
                      intro vap w1632 ho hb0 hg_ hat_
                      have n9_ := Aside0.mk ((hg_.block g15 (blk_lt HB15.out) (Kd.R_ne HCL.out HB15.out (by decide))).trans HB15.out)
                      rw [← HZ2.out] at ho
                      have n0_ := Aside0.mk hb0
                      have HAP := Aside0.mk ho
                      clear ho hb0 hg_ hat_ HCL HROW HC HB15
                      have HC := n0_
                      clear n0_
                      have HB15 := n9_
                      clear n9_
                      obtain ⟨Ap, cp, eap⟩ := Kd.R_slice HAP.out
                      subst eap
                      refine hK.out _ _ ⟨(blk_cell (blk_below BK11.out HC.out) 0).trans rfl, (blk_cell (blk_below BK11.out HC.out) 1).trans rfl, (blk_cell (blk_below BK11.out HC.out) 2).trans rfl, (blk_cell (blk_below BK11.out HC.out) 3).trans rfl, (blk_cell (blk_below BK12.out HC.out) 0).trans rfl, (blk_cell (blk_below BK12.out HC.out) 1).trans rfl⟩ (fun hHeld => ?_)
                      clear hK K
                      refine norm_ (a' := ?_) ?_ ?_
                      rotate_left
                      · show Act.put _ (some 64) _ = _
                        simp only [Act.put, List.setIfInBounds_toArray, List.set_cons_zero, List.set_cons_succ, i64_w, i32_w]
                        rfl
                      refine one_ (i := 9) (N := some 68) #[true, true, true, true, true, true, true, true, true, true, false, false, true, false] rfl rfl (by kernel_rfl) (by decide) (fun K hK => ?_)
                      refine goes_ Tryd.func43 (by kernel_rfl) rfl #[.agg #[.string x.f0, .int .i64 x.f1, .int .i64 x.f2, .slice A3 x.f3.length c3]] (by rfl) rfl rfl (by (try simp only [List.map_toArray, List.map_cons, List.map_nil]); first | done | rfl) ?_
                      refine (contact_whole.calls k x.f0 x.f1 x.f2 _ _ x.f3 t _ (Kd.C_below HR3.out (below_step HB16.out HC.out)) HS3.out HT.out).mono ?_
                      rintro e1 w1633 ⟨rfl, hb⟩
                      refine ⟨_, rfl, ?_⟩
                      have n0_ := Aside0.mk (below_step HC.out hb)
                      have n1_ := Aside0.mk (row_kept HAP.out (IntsKept.below hb))
                      have n2_ := Aside0.mk (blk_below HB15.out hb)
                      clear hb HC HAP HB15
                      have HC := n0_
                      have HAP := n1_
                      have HB15 := n2_
                      clear n0_ n1_ n2_
                      refine hK.out _ _ ⟨(blk_cell (blk_below BK11.out HC.out) 0).trans rfl, (blk_cell (blk_below BK11.out HC.out) 1).trans rfl, (blk_cell (blk_below BK11.out HC.out) 2).trans rfl, (blk_cell (blk_below BK11.out HC.out) 3).trans rfl, (blk_cell (blk_below BK12.out HC.out) 0).trans rfl, (blk_cell (blk_below BK12.out HC.out) 1).trans rfl⟩ (fun hHeld => ?_)
                      clear hK K
                      refine norm_ (a' := ?_) ?_ ?_
                      rotate_left
                      · show Act.put _ (some 68) _ = _
                        simp only [Act.put, List.setIfInBounds_toArray, List.set_cons_zero, List.set_cons_succ, i64_w, i32_w]
                        rfl
                      refine pure_ (i := 10) (N := some 69) (v := ?_) (a' := ?_) #[true, true, true, true, true, true, true, true, true, true, true, false, true, false] rfl rfl (by kernel_rfl) (fun _ _ _ h => h) (Or.inl ⟨by rfl, ?_⟩) ?_ ?_
                      rotate_left
                      · intro w'
                        go_simp
                        with_reducible rfl
                      rotate_left
                      · simp only [Act.put, List.setIfInBounds_toArray, List.set_cons_zero, List.set_cons_succ, i64_w, i32_w]
                        rfl
                      refine pure_ (i := 11) (N := some 70) (v := ?_) (a' := ?_) #[true, true, true, true, true, true, true, true, true, true, true, true, true, false] rfl rfl (by kernel_rfl) (fun _ _ _ h => h) (Or.inl ⟨by rfl, ?_⟩) ?_ ?_
                      rotate_left
                      · intro w'
                        go_simp
                        with_reducible rfl
                      rotate_left
                      · simp only [Act.put, List.setIfInBounds_toArray, List.set_cons_zero, List.set_cons_succ, i64_w, i32_w]
                        rfl
                      exact norm_ (by simp only [putAll, Act.put, List.setIfInBounds_toArray, List.set_cons_zero, List.set_cons_succ]) (hCont (.slice Acl f0.f0.length ccl, .slice Arow z1.length crow, (Ap, cp), g15) _ ⟨hHeld, HC.out, HAP.out, G15.out, HB15.out⟩)
                    · skip
                      refine Kd.R_lit_step (Kd.int .i64) _ 3 ?hg (N := 63) ?hd (xs := ([(i : Int)] : List Int)) (inner := [.int .i64 (i : Int)]) (ok := fun _ => True) (okp := fun _ => True) ?hr ?hp (fun _ hk => hk) trivial (Below.refl _ _) (Nat.le_refl _) (by simp) ?_
                      (case hd => rfl)
                      (case hg => rfl)
                      (case hr => first | (go_simp; done) | (go_simp; rfl))
                      (case hp => exact (Reps.one (show Kd.M (Kd.int .i64) _ _ _ (i : Int) [.int .i64 (i : Int)] from rfl) (Reps.none _ _)))
                      intro vrow w1634 ho hb hg_ hnew_
                      clear hg_ hnew_
                      rw [← HZ1.out] at ho
                      have n0_ := Aside0.mk (below_step HC.out hb)
                      have n1_ := Aside0.mk (blk_below HB15.out hb)
                      have HROW := Aside0.mk (Kd.R_lower ho HC.out.size)
                      clear hb HC HB15
                      have HC := n0_
                      have HB15 := n1_
                      clear n0_ n1_
                      clear ho
                      obtain ⟨Arow, crow, erow⟩ := Kd.R_slice HROW.out
                      subst erow
                      refine hK.out _ _ ⟨(blk_cell (blk_below BK11.out HC.out) 0).trans rfl, (blk_cell (blk_below BK11.out HC.out) 1).trans rfl, (blk_cell (blk_below BK11.out HC.out) 2).trans rfl, (blk_cell (blk_below BK11.out HC.out) 3).trans rfl, (blk_cell (blk_below BK12.out HC.out) 0).trans rfl, (blk_cell (blk_below BK12.out HC.out) 1).trans rfl⟩ (fun hHeld => ?_)
                      clear hK K
                      refine norm_ (a' := ?_) ?_ ?_
                      rotate_left
                      · show Act.put _ (some 63) _ = _
                        simp only [Act.put, List.setIfInBounds_toArray, List.set_cons_zero, List.set_cons_succ, i64_w, i32_w]
                        rfl
                      refine one_ (i := 2) (N := some 61) #[true, true, true, true, true, false, true, true, true, false, false, false, true, false] rfl rfl (by kernel_rfl) (by decide) (fun K hK => ?_)
                      refine goes_ Tryd.func42 (by kernel_rfl) rfl #[.slice Af f0.f0.length cf] (by rfl) rfl rfl (by (try simp only [List.map_toArray, List.map_cons, List.map_nil]); first | done | rfl) ?_
                      refine (slices_Clone_int_int.calls _ _ f0.f0 f0.f0 _ (Kd.R_reads' (row_kept HVF.out (IntsKept.below HC.out))).2.2 (Kd.R_reads' HVF.out).2.1 HCLF.out).mono ?_
                      rintro e1 w1635 ⟨vcl, rfl, ho, hb⟩
                      refine ⟨_, rfl, ?_⟩
                      have n0_ := Aside0.mk (below_step HC.out hb)
                      have n1_ := Aside0.mk (row_kept HROW.out (IntsKept.below hb))
                      have n2_ := Aside0.mk (blk_below HB15.out hb)
                      have HCL := Aside0.mk (Kd.R_lower ho HC.out.size)
                      clear hb HC HROW HB15
                      have HC := n0_
                      have HROW := n1_
                      have HB15 := n2_
                      clear n0_ n1_ n2_
                      clear ho
                      obtain ⟨Acl, ccl, ecl⟩ := Kd.R_slice HCL.out
                      subst ecl
                      refine hK.out _ _ ⟨(blk_cell (blk_below BK11.out HC.out) 0).trans rfl, (blk_cell (blk_below BK11.out HC.out) 1).trans rfl, (blk_cell (blk_below BK11.out HC.out) 2).trans rfl, (blk_cell (blk_below BK11.out HC.out) 3).trans rfl, (blk_cell (blk_below BK12.out HC.out) 0).trans rfl, (blk_cell (blk_below BK12.out HC.out) 1).trans rfl⟩ (fun hHeld => ?_)
                      clear hK K
                      refine norm_ (a' := ?_) ?_ ?_
                      rotate_left
                      · show Act.put _ (some 61) _ = _
                        simp only [Act.put, List.setIfInBounds_toArray, List.set_cons_zero, List.set_cons_succ, i64_w, i32_w]
                        rfl
                      refine one_ (i := 5) (N := some 64) #[true, true, true, true, true, true, true, true, true, false, false, false, true, false] rfl rfl (by kernel_rfl) (by decide) (fun K hK => ?_)
                      refine Kd.R_append_rows_step (Kd.int .i64) (w0 := W16) W16.heap.size (by rfl) (.tmp 61) (.tmp 63) 31 3 (.int .i64 0) 8 rfl Tryd.underlying31 slices_Clone_int_int.info rfl (by decide) (by omega) _ f0.f0 z1 _ _ _ (fun _ => True) (fun _ => False) rfl rfl HCL.out (Kd.R_reads' HROW.out).2.2 (fun _ _ h => h) (fun _ h => h.elim) (fun _ _ => trivial) HC.out HC.out.size (by have := HCC.out.1; rw [HZ1.out]; simp; omega) ?_
                      intro vap w1636 ho hb0 hg_ hat_
                      have n9_ := Aside0.mk ((hg_.block g15 (blk_lt HB15.out) (Kd.R_ne HCL.out HB15.out (by decide))).trans HB15.out)
                      rw [← HZ2.out] at ho
                      have n0_ := Aside0.mk hb0
                      have HAP := Aside0.mk ho
                      clear ho hb0 hg_ hat_ HCL HROW HC HB15
                      have HC := n0_
                      clear n0_
                      have HB15 := n9_
                      clear n9_
                      obtain ⟨Ap, cp, eap⟩ := Kd.R_slice HAP.out
                      subst eap
                      refine hK.out _ _ ⟨(blk_cell (blk_below BK11.out HC.out) 0).trans rfl, (blk_cell (blk_below BK11.out HC.out) 1).trans rfl, (blk_cell (blk_below BK11.out HC.out) 2).trans rfl, (blk_cell (blk_below BK11.out HC.out) 3).trans rfl, (blk_cell (blk_below BK12.out HC.out) 0).trans rfl, (blk_cell (blk_below BK12.out HC.out) 1).trans rfl⟩ (fun hHeld => ?_)
                      clear hK K
                      refine norm_ (a' := ?_) ?_ ?_
                      rotate_left
                      · show Act.put _ (some 64) _ = _
                        simp only [Act.put, List.setIfInBounds_toArray, List.set_cons_zero, List.set_cons_succ, i64_w, i32_w]
                        rfl
                      refine one_ (i := 9) (N := some 68) #[true, true, true, true, true, true, true, true, true, true, false, false, true, false] rfl rfl (by kernel_rfl) (by decide) (fun K hK => ?_)
                      refine goes_ Tryd.func43 (by kernel_rfl) rfl #[.agg #[.string x.f0, .int .i64 x.f1, .int .i64 x.f2, .slice A3 x.f3.length c3]] (by rfl) rfl rfl (by (try simp only [List.map_toArray, List.map_cons, List.map_nil]); first | done | rfl) ?_
                      refine (contact_whole.calls k x.f0 x.f1 x.f2 _ _ x.f3 t _ (Kd.C_below HR3.out (below_step HB16.out HC.out)) HS3.out HT.out).mono ?_
                      rintro e1 w1637 ⟨rfl, hb⟩
                      refine ⟨_, rfl, ?_⟩
                      have n0_ := Aside0.mk (below_step HC.out hb)
                      have n1_ := Aside0.mk (row_kept HAP.out (IntsKept.below hb))
                      have n2_ := Aside0.mk (blk_below HB15.out hb)
                      clear hb HC HAP HB15
                      have HC := n0_
                      have HAP := n1_
                      have HB15 := n2_
                      clear n0_ n1_ n2_
                      refine hK.out _ _ ⟨(blk_cell (blk_below BK11.out HC.out) 0).trans rfl, (blk_cell (blk_below BK11.out HC.out) 1).trans rfl, (blk_cell (blk_below BK11.out HC.out) 2).trans rfl, (blk_cell (blk_below BK11.out HC.out) 3).trans rfl, (blk_cell (blk_below BK12.out HC.out) 0).trans rfl, (blk_cell (blk_below BK12.out HC.out) 1).trans rfl⟩ (fun hHeld => ?_)
                      clear hK K
                      refine norm_ (a' := ?_) ?_ ?_
                      rotate_left
                      · show Act.put _ (some 68) _ = _
                        simp only [Act.put, List.setIfInBounds_toArray, List.set_cons_zero, List.set_cons_succ, i64_w, i32_w]
                        rfl
                      refine pure_ (i := 10) (N := some 69) (v := ?_) (a' := ?_) #[true, true, true, true, true, true, true, true, true, true, true, false, true, false] rfl rfl (by kernel_rfl) (fun _ _ _ h => h) (Or.inl ⟨by rfl, ?_⟩) ?_ ?_
                      rotate_left
                      · intro w'
                        go_simp
                        with_reducible rfl
                      rotate_left
                      · simp only [Act.put, List.setIfInBounds_toArray, List.set_cons_zero, List.set_cons_succ, i64_w, i32_w]
                        rfl
                      refine pure_ (i := 11) (N := some 70) (v := ?_) (a' := ?_) #[true, true, true, true, true, true, true, true, true, true, true, true, true, false] rfl rfl (by kernel_rfl) (fun _ _ _ h => h) (Or.inl ⟨by rfl, ?_⟩) ?_ ?_
                      rotate_left
                      · intro w'
                        go_simp
                        with_reducible rfl
                      rotate_left
                      · simp only [Act.put, List.setIfInBounds_toArray, List.set_cons_zero, List.set_cons_succ, i64_w, i32_w]
                        rfl
                      exact norm_ (by simp only [putAll, Act.put, List.setIfInBounds_toArray, List.set_cons_zero, List.set_cons_succ]) (hCont (.slice Acl f0.f0.length ccl, .slice Arow z1.length crow, (Ap, cp), g15) _ ⟨hHeld, HC.out, HAP.out, G15.out, HB15.out⟩)
                rintro ⟨v61, v63, ⟨Ap, cp⟩, g15⟩ W17 ⟨hHeld, hc, hap, hg15, hb15⟩
                have HC17 := Aside0.mk hc
                have HAP := Aside0.mk (show Kd.R (Kd.int .i64) 3 W17 W16.heap.size (fun _ => True) (.slice Ap z2.length cp) z2 from hap)
                have G15 := Aside0.mk (show W16.heap.size ≤ g15 from hg15)
                have HB15 := Aside0.mk (show W17.heap[g15]? = some (.cells #[.slice none 0 0, .int .i64 0] 80 (0, 0)) from hb15)
                clear hc hap hg15 hb15 HC
                refine norm_ (a' := ?_) ?_ ?_
                rotate_left
                · simp only [putAll, Act.put, List.setIfInBounds_toArray, List.set_cons_zero, List.set_cons_succ]
                  rfl
                have hy0 : W17.cell? ⟨g15, 0, none⟩ = some (.slice none 0 0) := (blk_cell HB15.out 0).trans rfl
                have hy1 : W17.cell? ⟨g15, 1, none⟩ = some (.int .i64 0) := (blk_cell HB15.out 1).trans rfl
                have hyf0 := blk_frozen HB15.out 0
                have hyf1 := blk_frozen HB15.out 1
                obtain ⟨W18, hW18⟩ : ∃ W18, W18 = set2 W17 g15 (.slice Ap z2.length cp) (.int .i64 (f0.f1 + t)) := ⟨_, rfl⟩
                refine one_ (i := 13) (N := none) #[true, true, true, true, true, true, true, true, true, true, true, true, true, true] rfl rfl (by kernel_rfl) (by decide) (fun K hK => ?_)
                refine store_step (w1 := W18) (by rfl) rfl ?hr ?_
                (case hr => rw [hW18]; clear hW18; first | (go_simp; done) | (go_simp; rfl))
                have n11 : g11 ≠ g15 := by have := blk_lt BK11.out; have := G15.out; omega
                have n12 : g12 ≠ g15 := by have := blk_lt BK12.out; have := G15.out; omega
                have hbt : But w W17 W18 g15 := by rw [hW18]; exact But.set2 (Nat.le_trans HB16.out.size G15.out)
                have BK15 := Aside0.mk (show W18.heap[g15]? = some (.cells #[.slice Ap z2.length cp, .int .i64 (f0.f1 + t)] 80 (0, 0)) by rw [hW18]; exact set2_here HB15.out _ _)
                have HI3 := Aside0.mk ((HI2.out.below HC17.out).but hbt HB15.out (by decide) (by have := HI2.out.lt8; have := G15.out; omega) (fun e => by have := HI2.out.lt9 _ e; have := G15.out; omega))
                have HAP3 := Aside0.mk (row_kept (Kd.R_lower HAP.out HB16.out.size) (hbt.ints HB15.out (by decide)))
                have N815 := Aside0.mk (show g8 ≠ g15 by have := HI2.out.lt8; have := G15.out; omega)
                have H915 := Aside0.mk (show ∀ q, (Value.slice A9 i c9).ownBlock = some q → q ≠ g15 from fun q e => by have := HI2.out.lt9 _ e; have := G15.out; omega)
                refine hK.out _ _ ⟨(blk_cell (hbt.blk (blk_below BK11.out HC17.out) n11) 0).trans rfl, (blk_cell (hbt.blk (blk_below BK11.out HC17.out) n11) 1).trans rfl, (blk_cell (hbt.blk (blk_below BK11.out HC17.out) n11) 2).trans rfl, (blk_cell (hbt.blk (blk_below BK11.out HC17.out) n11) 3).trans rfl, (blk_cell (hbt.blk (blk_below BK12.out HC17.out) n12) 0).trans rfl, (blk_cell (hbt.blk (blk_below BK12.out HC17.out) n12) 1).trans rfl⟩ (fun hHeld => ?_)
                clear hK K
                clear hy0 hy1 hyf0 hyf1 hbt n11 n12 hW18 hHeld HC17 HAP HB15 BK11 BK12 HI2 HVF HB16
                refine norm_ (a' := ?_) ?_ ?_
                rotate_left
                · show Act.put _ none undef = _
                  simp only [Act.put]
                  rfl
                refine done_ (by kernel_rfl) ?_
                have hv0 : W18.cell? ⟨g15, 0, none⟩ = some (.slice Ap z2.length cp) := (blk_cell BK15.out 0).trans rfl
                have hv1 : W18.cell? ⟨g15, 1, none⟩ = some (.int .i64 (f0.f1 + t)) := (blk_cell BK15.out 1).trans rfl
                obtain ⟨raws, vb, q1, q2, q3, q4, q5⟩ := HI3.out
                obtain ⟨Ab, cb, rfl⟩ := Kd.R_slice q4
                have HRL := Aside0.mk (show (raws.length + 1) * 32 ≤ 140737488355328 by have := q2.1; have := HE.out; have := HN.out; have := HK.out; omega)
                have HQ1 := Aside0.mk q1
                have HQ2 := Aside0.mk q2
                have HQ3 := Aside0.mk q3
                have HQ4 := Aside0.mk q4
                have HQ5 := Aside0.mk q5
                have ez : z2 = f0.f0 ++ [(i : Int)] := by rw [HZ2.out, HZ1.out]
                have HBZ := Aside0.mk (show contact_choice_better.f k z2 (f0.f1 + t) best.f0 best.f1 = some bb by rw [ez]; exact HBB.out)
                have HGN := Aside0.mk (show Best.go k l0 a1 d (i + 1) (ends ++ [⟨z2, f0.f1 + t⟩]) (if bb = true then ⟨z2, f0.f1 + t⟩ else best) = some b by rw [ez]; exact HGG.out)
                clear q1 q2 q3 q4 q5 ez HI3 HGG HBB
                cases bb with
                | false =>
                  rw [if_neg Bool.false_ne_true] at HGN
                  go_wp2_with (first | (at_builtin; go_loud (refine Kd.R_append (Kd.raw 2) (w0 := w) w.heap.size rfl (.tmp 71) (.tmp 73) 81 80 (.agg #[.slice none 0 0, .int .i64 0]) 32 rfl Tryd.underlying81 Best.info rfl (by decide) (by omega) _ raws [.slice Ap z2.length cp, .int .i64 (f0.f1 + t)] [.slice Ap z2.length cp, .int .i64 (f0.f1 + t)] (fun q => q ≠ g8) (fun _ => False) rfl (by first | (go_simp; done) | (go_simp; rfl)) ⟨rfl, rfl, by intro u hu; simp at hu; rcases hu with rfl | rfl <;> rfl⟩ (fun _ h => h.elim) (fun q hq => by have := blk_lt HQ3.out; omega) HQ1.out HQ5.out HQ5.out.size HRL.out ?_); intro v17 w17 ho17 hb17 hg17 hat17; have HO17 := Aside0.mk ho17; have HB17 := Aside0.mk hb17; have n1_ := Aside0.mk (IntsKept.grown hg17 (Kd.R_typed HQ1.out)); have n2_ := Aside0.mk ((hg17.block g8 (blk_lt HQ3.out) (fun e => HQ1.out.1 g8 e.symm rfl)).trans HQ3.out); have n3_ := Aside0.mk ((hg17.block g15 (blk_lt BK15.out) (fun e => H915.out g15 e.symm rfl)).trans BK15.out); have HE17 := Aside0.mk ((HQ2.out.kept n1_.out).snoc (x := ⟨z2, f0.f1 + t⟩) (row_kept HAP3.out n1_.out)); have n4_ := Aside0.mk (row_kept HAP3.out n1_.out); have n5_ := Aside0.mk (row_kept HQ4.out n1_.out); clear hv0 hv1 HQ1 HQ2 HQ3 HQ4 HQ5 BK15 HAP3 ho17 hb17 hg17 hat17; have HQ3 := n2_; have BK15 := n3_; have HAP3 := n4_; have HQ4 := n5_; clear n1_ n2_ n3_ n4_ n5_; have hv0 : w17.cell? ⟨g15, 0, none⟩ = some (.slice Ap z2.length cp) := (blk_cell BK15.out 0).trans rfl; have hv1 : w17.cell? ⟨g15, 1, none⟩ = some (.int .i64 (f0.f1 + t)) := (blk_cell BK15.out 1).trans rfl; have hu0 : w17.cell? ⟨g8, 0, none⟩ = some (.slice Ab best.f0.length cb) := (blk_cell HQ3.out 0).trans rfl; have hu1 : w17.cell? ⟨g8, 1, none⟩ = some (.int .i64 best.f1) := (blk_cell HQ3.out 1).trans rfl) | (go_at_call 41; (with_reducible refine (contact_choice_better.calls k _ _ z2 (f0.f1 + t) _ _ best.f0 best.f1 false _ (Kd.R_reads' HAP3.out).2.2 (Kd.R_reads' HAP3.out).2.1 (Kd.R_reads' HQ4.out).2.2 (Kd.R_reads' HQ4.out).2.1 HBZ.out).mono ?_); rintro e1 w18 ⟨rfl, hb⟩; have HK18 := Aside0.mk (IntsKept.below hb); have n0_ := Aside0.mk (raws_kept HO17.out (fun q hq => hb.block q (Kd.R_lt HO17.out q hq))); have n1_ := Aside0.mk (below_step HB17.out hb); have n2_ := Aside0.mk (blk_below HQ3.out hb); have n3_ := Aside0.mk (blk_below BK15.out hb); have n4_ := Aside0.mk (row_kept HAP3.out HK18.out); have n5_ := Aside0.mk (row_kept HQ4.out HK18.out); have n6_ := Aside0.mk (HE17.out.kept HK18.out); clear hv0 hv1 hu0 hu1 hb HO17 HB17 HQ3 BK15 HAP3 HQ4 HE17 HK18; have HO17 := n0_; have HB17 := n1_; have HQ3 := n2_; have BK15 := n3_; have HAP3 := n4_; have HQ4 := n5_; have HE17 := n6_; clear n0_ n1_ n2_ n3_ n4_ n5_ n6_; have hv0 : w18.cell? ⟨g15, 0, none⟩ = some (.slice Ap z2.length cp) := (blk_cell BK15.out 0).trans rfl; have hv1 : w18.cell? ⟨g15, 1, none⟩ = some (.int .i64 (f0.f1 + t)) := (blk_cell BK15.out 1).trans rfl; have hu0 : w18.cell? ⟨g8, 0, none⟩ = some (.slice Ab best.f0.length cb) := (blk_cell HQ3.out 0).trans rfl; have hu1 : w18.cell? ⟨g8, 1, none⟩ = some (.int .i64 best.f1) := (blk_cell HQ3.out 1).trans rfl; have huf0 := blk_frozen HQ3.out 0; have huf1 := blk_frozen HQ3.out 1))
                  go_roundg d
                  case measure => have := HK.out; omega
                  case rel => exact ⟨i + 1, ends ++ [⟨z2, f0.f1 + t⟩], best, by simp [hwi], ⟨by have := HK.out; omega⟩, ⟨by rw [List.length_append, HE.out]; rfl⟩, ⟨raws ++ [[.slice Ap z2.length cp, .int .i64 (f0.f1 + t)]], .slice Ab best.f0.length cb, HO17.out, HE17.out, HQ3.out, HQ4.out, HB17.out⟩, ⟨HGN.out⟩⟩
                | true =>
                  rw [if_pos rfl] at HGN
                  go_wp2_with (first | (at_builtin; go_loud (refine Kd.R_append (Kd.raw 2) (w0 := w) w.heap.size rfl (.tmp 71) (.tmp 73) 81 80 (.agg #[.slice none 0 0, .int .i64 0]) 32 rfl Tryd.underlying81 Best.info rfl (by decide) (by omega) _ raws [.slice Ap z2.length cp, .int .i64 (f0.f1 + t)] [.slice Ap z2.length cp, .int .i64 (f0.f1 + t)] (fun q => q ≠ g8) (fun _ => False) rfl (by first | (go_simp; done) | (go_simp; rfl)) ⟨rfl, rfl, by intro u hu; simp at hu; rcases hu with rfl | rfl <;> rfl⟩ (fun _ h => h.elim) (fun q hq => by have := blk_lt HQ3.out; omega) HQ1.out HQ5.out HQ5.out.size HRL.out ?_); intro v17 w17 ho17 hb17 hg17 hat17; have HO17 := Aside0.mk ho17; have HB17 := Aside0.mk hb17; have n1_ := Aside0.mk (IntsKept.grown hg17 (Kd.R_typed HQ1.out)); have n2_ := Aside0.mk ((hg17.block g8 (blk_lt HQ3.out) (fun e => HQ1.out.1 g8 e.symm rfl)).trans HQ3.out); have n3_ := Aside0.mk ((hg17.block g15 (blk_lt BK15.out) (fun e => H915.out g15 e.symm rfl)).trans BK15.out); have HE17 := Aside0.mk ((HQ2.out.kept n1_.out).snoc (x := ⟨z2, f0.f1 + t⟩) (row_kept HAP3.out n1_.out)); have n4_ := Aside0.mk (row_kept HAP3.out n1_.out); have n5_ := Aside0.mk (row_kept HQ4.out n1_.out); clear hv0 hv1 HQ1 HQ2 HQ3 HQ4 HQ5 BK15 HAP3 ho17 hb17 hg17 hat17; have HQ3 := n2_; have BK15 := n3_; have HAP3 := n4_; have HQ4 := n5_; clear n1_ n2_ n3_ n4_ n5_; have hv0 : w17.cell? ⟨g15, 0, none⟩ = some (.slice Ap z2.length cp) := (blk_cell BK15.out 0).trans rfl; have hv1 : w17.cell? ⟨g15, 1, none⟩ = some (.int .i64 (f0.f1 + t)) := (blk_cell BK15.out 1).trans rfl; have hu0 : w17.cell? ⟨g8, 0, none⟩ = some (.slice Ab best.f0.length cb) := (blk_cell HQ3.out 0).trans rfl; have hu1 : w17.cell? ⟨g8, 1, none⟩ = some (.int .i64 best.f1) := (blk_cell HQ3.out 1).trans rfl) | (go_at_call 41; (with_reducible refine (contact_choice_better.calls k _ _ z2 (f0.f1 + t) _ _ best.f0 best.f1 true _ (Kd.R_reads' HAP3.out).2.2 (Kd.R_reads' HAP3.out).2.1 (Kd.R_reads' HQ4.out).2.2 (Kd.R_reads' HQ4.out).2.1 HBZ.out).mono ?_); rintro e1 w18 ⟨rfl, hb⟩; have HK18 := Aside0.mk (IntsKept.below hb); have n0_ := Aside0.mk (raws_kept HO17.out (fun q hq => hb.block q (Kd.R_lt HO17.out q hq))); have n1_ := Aside0.mk (below_step HB17.out hb); have n2_ := Aside0.mk (blk_below HQ3.out hb); have n3_ := Aside0.mk (blk_below BK15.out hb); have n4_ := Aside0.mk (row_kept HAP3.out HK18.out); have n5_ := Aside0.mk (row_kept HQ4.out HK18.out); have n6_ := Aside0.mk (HE17.out.kept HK18.out); clear hv0 hv1 hu0 hu1 hb HO17 HB17 HQ3 BK15 HAP3 HQ4 HE17 HK18; have HO17 := n0_; have HB17 := n1_; have HQ3 := n2_; have BK15 := n3_; have HAP3 := n4_; have HQ4 := n5_; have HE17 := n6_; clear n0_ n1_ n2_ n3_ n4_ n5_ n6_; have hv0 : w18.cell? ⟨g15, 0, none⟩ = some (.slice Ap z2.length cp) := (blk_cell BK15.out 0).trans rfl; have hv1 : w18.cell? ⟨g15, 1, none⟩ = some (.int .i64 (f0.f1 + t)) := (blk_cell BK15.out 1).trans rfl; have hu0 : w18.cell? ⟨g8, 0, none⟩ = some (.slice Ab best.f0.length cb) := (blk_cell HQ3.out 0).trans rfl; have hu1 : w18.cell? ⟨g8, 1, none⟩ = some (.int .i64 best.f1) := (blk_cell HQ3.out 1).trans rfl; have huf0 := blk_frozen HQ3.out 0; have huf1 := blk_frozen HQ3.out 1) | ((with_reducible refine gate_store (t := 80) (p := 8) rfl ?_); refine store_event (t := 80) (p := 8) (v := .tmp 78) (w1 := set2 w18 g8 (.slice Ap z2.length cp) (.int .i64 (f0.f1 + t))) ?hg ?ho ?hn ?hr ?_; (case ho => rfl); (case hg => rfl); (case hn => rfl); (case hr => first | (go_simp; done) | (go_simp; rfl)); intro ws8 hw; have hbt : But w w18 ws8 g8 := (by rw [hw]; exact But.set2 G8.out); have n0_ := Aside0.mk (show ws8.heap[g8]? = some (.cells #[.slice Ap z2.length cp, .int .i64 (f0.f1 + t)] 80 (0, 0)) by rw [hw]; exact set2_here HQ3.out _ _); have n1_ := Aside0.mk (raws_kept HO17.out (fun q hq => hbt.far q (Kd.R_lt HO17.out q hq) (HO17.out.1 q hq))); have n2_ := Aside0.mk (hbt.below HB17.out); have n3_ := Aside0.mk (hbt.ints HQ3.out (by decide)); have n4_ := Aside0.mk (row_kept HAP3.out n3_.out); have n5_ := Aside0.mk (HE17.out.kept n3_.out); clear hv0 hv1 hu0 hu1 huf0 huf1 hbt HQ3 HO17 HB17 HAP3 HE17; have HQ3 := n0_; have HO17 := n1_; have HB17 := n2_; have HAP3 := n4_; have HE17 := n5_; clear n0_ n1_ n2_ n3_ n4_ n5_; clear hw))
                  go_roundg d
                  case measure => have := HK.out; omega
                  case rel => exact ⟨i + 1, ends ++ [⟨z2, f0.f1 + t⟩], ⟨z2, f0.f1 + t⟩, by simp [hwi], ⟨by have := HK.out; omega⟩, ⟨by rw [List.length_append, HE.out]; rfl⟩, ⟨raws ++ [[.slice Ap z2.length cp, .int .i64 (f0.f1 + t)]], .slice Ap z2.length cp, HO17.out, HE17.out, HQ3.out, HAP3.out, HB17.out⟩, ⟨HGN.out⟩⟩
              | succ e =>
                have hj : j < i := by have := HKj.out; omega
                have hj0 : (0 : Int) ≤ (j : Int) := by omega
                have hj1 : (j : Int) < (i : Int) := by omega
                have hj2 : (j : Int) < (l0.length : Int) := by omega
                have hdj : decide ((j : Int) < (i : Int)) = true := decide_eq_true hj1
                have hwj : wrap64 ((j : Int) + 1) = (j : Int) + 1 := by have := HN.out; unfold wrap64; omega
                obtain ⟨ad2, B3, d3, e2, hy0, hy1, hy2, hy3, hys, hyr⟩ := at_T55 HR0.out (j : Int) hj0 hj2
                cases e2
                replace hy0 := cellB HI2.out.bel hy0
                replace hy1 := cellB HI2.out.bel hy1
                replace hy2 := cellB HI2.out.bel hy2
                replace hy3 := cellB HI2.out.bel hy3
                simp only [Int.toNat_natCast] at hy0 hy1 hy2 hy3
                obtain ⟨Af, cf, rfl⟩ := Kd.R_slice HVF.out
                have hf := HFR.out
                unfold Best.fr at hf
                obtain ⟨y1, hy⟩ : ∃ y1, y1 = rd_T55 l0 (j : Int) := ⟨_, rfl⟩
                rw [← hy] at hf hy0 hy1 hy2 hy3 hys hyr
                have HYS := Aside0.mk hys
                have HYR := Aside0.mk hyr
                have HYY := Aside0.mk hy
                replace hf := Option.bind_eq_some_iff.mp hf
                obtain ⟨ee, hEE, hf⟩ := hf
                have HEX := Aside0.mk hEE
                clear hys hyr hy hEE HFR hj
                cases ee with
                | true =>
                  have HFR := Aside0.mk (show Best.fr k l0 a1 x ends e (j + 1) f0 = some fr from hf)
                  clear hf
                  go_wp2_with (first | ((with_reducible refine gate_dst (N := 14) rfl ?_); refine box_event ?hg (N := 14) ?hd (cs := #[.string ByteArray.empty, .int .i64 0, .int .i64 0, .slice none 0 0]) (t := 55) ?hr ?_; (case hd => rfl); (case hg => rfl); (case hr => first | (go_simp; done) | (go_simp; rfl)); intro g14 hg w14 hbox hb; have BK14 := Aside0.mk hbox; have n1_ := Aside0.mk (HI2.out.below hb); have n2_ := Aside0.mk (blk_below BK11.out hb); have n3_ := Aside0.mk (blk_below BK12.out hb); have n4_ := Aside0.mk (row_kept HVF.out (IntsKept.below hb)); have G14 := Aside0.mk ((by rw [hg]; exact HI2.out.bel.size : w.heap.size ≤ g14)); have N14 := Aside0.mk ((by rw [hg]; exact HI2.out.lt8 : g8 < g14)); have N1114 := Aside0.mk ((by rw [hg]; exact blk_lt BK11.out : g11 < g14)); have N1214 := Aside0.mk ((by rw [hg]; exact blk_lt BK12.out : g12 < g14)); have H914 := Aside0.mk ((by rw [hg]; exact HI2.out.lt9 : ∀ q, (Value.slice A9 i c9).ownBlock = some q → q < g14)); clear HI2 BK11 BK12 HVF; have HI2 := n1_; have BK11 := n2_; have BK12 := n3_; have HVF := n4_; clear n1_ n2_ n3_ n4_; have hza0 : w14.cell? ⟨g14, 0, none⟩ = some (.string ByteArray.empty) := (blk_cell BK14.out 0).trans rfl; have hza1 : w14.cell? ⟨g14, 1, none⟩ = some (.int .i64 0) := (blk_cell BK14.out 1).trans rfl; have hza2 : w14.cell? ⟨g14, 2, none⟩ = some (.int .i64 0) := (blk_cell BK14.out 2).trans rfl; have hza3 : w14.cell? ⟨g14, 3, none⟩ = some (.slice none 0 0) := (blk_cell BK14.out 3).trans rfl; have hf0 := blk_frozen BK14.out 0; have hf1 := blk_frozen BK14.out 1; have hf2 := blk_frozen BK14.out 2; have hf3 := blk_frozen BK14.out 3; clear hb hbox hg) | ((with_reducible refine gate_store (t := 55) (p := 14) rfl ?_); refine store_event (t := 55) (p := 14) (v := .tmp 40) (w1 := set4 w14 g14 (.string y1.f0) (.int .i64 y1.f1) (.int .i64 y1.f2) (.slice B3 y1.f3.length d3)) ?hg ?ho ?hn ?hr ?_; (case ho => rfl); (case hg => rfl); (case hn => rfl); (case hr => first | (go_simp; done) | (go_simp; rfl)); intro ws14 hw; have hbt : But w w14 ws14 g14 := (by rw [hw]; exact But.set4 G14.out); have n0_ := Aside0.mk (show ws14.heap[g14]? = some (.cells #[.string y1.f0, .int .i64 y1.f1, .int .i64 y1.f2, .slice B3 y1.f3.length d3] 55 (0, 0)) by rw [hw]; exact set4_here BK14.out _ _ _ _); have n1_ := Aside0.mk (HI2.out.but hbt BK14.out (by decide) (Nat.ne_of_lt N14.out) (fun e => Nat.lt_irrefl _ (H914.out _ e))); have n2_ := Aside0.mk (hbt.blk BK11.out (Nat.ne_of_lt N1114.out)); have n3_ := Aside0.mk (hbt.blk BK12.out (Nat.ne_of_lt N1214.out)); have n4_ := Aside0.mk (row_kept HVF.out (hbt.ints BK14.out (by decide))); clear hza0 hza1 hza2 hza3 hf0 hf1 hf2 hf3; clear hbt BK14 HI2 BK11 BK12 HVF; have BK14 := n0_; have HI2 := n1_; have BK11 := n2_; have BK12 := n3_; have HVF := n4_; clear n0_ n1_ n2_ n3_ n4_; have hza0 : ws14.cell? ⟨g14, 0, none⟩ = some (.string y1.f0) := (blk_cell BK14.out 0).trans rfl; have hza1 : ws14.cell? ⟨g14, 1, none⟩ = some (.int .i64 y1.f1) := (blk_cell BK14.out 1).trans rfl; have hza2 : ws14.cell? ⟨g14, 2, none⟩ = some (.int .i64 y1.f2) := (blk_cell BK14.out 2).trans rfl; have hza3 : ws14.cell? ⟨g14, 3, none⟩ = some (.slice B3 y1.f3.length d3) := (blk_cell BK14.out 3).trans rfl; have hzb0 : ws14.cell? ⟨g11, 0, none⟩ = some (.string x.f0) := (blk_cell BK11.out 0).trans rfl; have hzb1 : ws14.cell? ⟨g11, 1, none⟩ = some (.int .i64 x.f1) := (blk_cell BK11.out 1).trans rfl; have hzb2 : ws14.cell? ⟨g11, 2, none⟩ = some (.int .i64 x.f2) := (blk_cell BK11.out 2).trans rfl; have hzb3 : ws14.cell? ⟨g11, 3, none⟩ = some (.slice A3 x.f3.length c3) := (blk_cell BK11.out 3).trans rfl; have hzc0 : ws14.cell? ⟨g12, 0, none⟩ = some (.slice Af f0.f0.length cf) := (blk_cell BK12.out 0).trans rfl; have hzc1 : ws14.cell? ⟨g12, 1, none⟩ = some (.int .i64 f0.f1) := (blk_cell BK12.out 1).trans rfl; clear hw))
                  have n0_ := Aside0.mk (show ws14.drew.heap[g14]? = _ from BK14.out)
                  have n1_ := Aside0.mk (HI2.out.below (below_drew (Below.refl _ _)))
                  have n2_ := Aside0.mk (show ws14.drew.heap[g11]? = _ from BK11.out)
                  have n3_ := Aside0.mk (show ws14.drew.heap[g12]? = _ from BK12.out)
                  have n4_ := Aside0.mk (row_kept HVF.out (IntsKept.below (below_drew (Below.refl ws14.heap.size ws14))))
                  clear hza0 hza1 hza2 hza3 hzb0 hzb1 hzb2 hzb3 hzc0 hzc1 BK14 HI2 BK11 BK12 HVF hy0 hy1 hy2 hy3
                  have BK14 := n0_
                  have HI2 := n1_
                  have BK11 := n2_
                  have BK12 := n3_
                  have HVF := n4_
                  clear n0_ n1_ n2_ n3_ n4_
                  refine start_ (n := 13) (S := fun w' => w'.cell? ⟨g14, 0, none⟩ = some (.string y1.f0) ∧ w'.cell? ⟨g14, 1, none⟩ = some (.int .i64 y1.f1) ∧ w'.cell? ⟨g14, 2, none⟩ = some (.int .i64 y1.f2) ∧ w'.cell? ⟨g14, 3, none⟩ = some (.slice B3 y1.f3.length d3) ∧ w'.cell? ⟨g11, 0, none⟩ = some (.string x.f0) ∧ w'.cell? ⟨g11, 1, none⟩ = some (.int .i64 x.f1) ∧ w'.cell? ⟨g11, 2, none⟩ = some (.int .i64 x.f2) ∧ w'.cell? ⟨g11, 3, none⟩ = some (.slice A3 x.f3.length c3)) (ds := []) #[false, false, false, false, false, false, false, false, false, false, false, false, false] (by kernel_rfl) rfl rfl ⟨(blk_cell BK14.out 0).trans rfl, (blk_cell BK14.out 1).trans rfl, (blk_cell BK14.out 2).trans rfl, (blk_cell BK14.out 3).trans rfl, (blk_cell BK11.out 0).trans rfl, (blk_cell BK11.out 1).trans rfl, (blk_cell BK11.out 2).trans rfl, (blk_cell BK11.out 3).trans rfl⟩ (fun hHeld => ?_)
                  generalize ws14.drew = W13 at *
                  refine take_ (i := 0) (N := some 41) (v := ?_) (a' := ?_) #[true, false, false, false, false, false, false, false, false, false, false, false, false] rfl rfl (by kernel_rfl) (fun _ _ _ h => h) (Or.inl ⟨by rfl, ?_⟩) hHeld ?_ ?_
                  rotate_left
                  · rintro w' ⟨s0, s1, s2, s3, s4, s5, s6, s7⟩
                    go_simp
                    with_reducible rfl
                  rotate_left
                  · simp only [Act.put, List.setIfInBounds_toArray, List.set_cons_zero, List.set_cons_succ, i64_w, i32_w]
                    rfl
                  refine take_ (i := 1) (N := some 42) (v := ?_) (a' := ?_) #[true, true, false, false, false, false, false, false, false, false, false, false, false] rfl rfl (by kernel_rfl) (fun _ _ _ h => h) (Or.inl ⟨by rfl, ?_⟩) hHeld ?_ ?_
                  rotate_left
                  · rintro w' ⟨s0, s1, s2, s3, s4, s5, s6, s7⟩
                    go_simp
                    with_reducible rfl
                  rotate_left
                  · simp only [Act.put, List.setIfInBounds_toArray, List.set_cons_zero, List.set_cons_succ, i64_w, i32_w]
                    rfl
                  refine pure_ (i := 2) (N := some 43) (v := ?_) (a' := ?_) #[true, true, true, false, false, false, false, false, false, false, false, false, false] rfl rfl (by kernel_rfl) (fun _ _ _ h => h) (Or.inl ⟨by rfl, ?_⟩) ?_ ?_
                  rotate_left
                  · intro w'
                    go_simp
                    with_reducible rfl
                  rotate_left
                  · simp only [Act.put, List.setIfInBounds_toArray, List.set_cons_zero, List.set_cons_succ, i64_w, i32_w]
                    rfl
                  refine one_ (i := 3) (N := some 44) #[true, true, true, true, false, false, false, false, false, false, false, false, false] rfl rfl (by kernel_rfl) (by decide) (fun K hK => ?_)
                  refine goes_ Tryd.func40 (by kernel_rfl) rfl #[.agg #[.string y1.f0, .int .i64 y1.f1, .int .i64 y1.f2, .slice B3 y1.f3.length d3], .agg #[.string x.f0, .int .i64 x.f1, .int .i64 x.f2, .slice A3 x.f3.length c3], .int .i64 a1] (by rfl) rfl rfl (by (try simp only [List.map_toArray, List.map_cons, List.map_nil]); first | done | rfl) ?_
                  refine (contact_exclude.calls y1.f0 y1.f1 y1.f2 _ _ y1.f3 x.f0 x.f1 x.f2 _ _ x.f3 a1 _ _ (Kd.C_below HYR.out HI2.out.bel) HYS.out (Kd.C_below HR3.out HI2.out.bel) HS3.out HEX.out).mono ?_
                  rintro e1 w5 ⟨rfl, hb⟩
                  refine ⟨_, rfl, ?_⟩
                  have n0_ := Aside0.mk (blk_below BK14.out hb); have n1_ := Aside0.mk (HI2.out.below hb); have n2_ := Aside0.mk (blk_below BK11.out hb); have n3_ := Aside0.mk (blk_below BK12.out hb); have n4_ := Aside0.mk (row_kept HVF.out (IntsKept.below hb))
                  clear hb
                  clear hHeld BK14 HI2 BK11 BK12 HVF
                  have BK14 := n0_; have HI2 := n1_; have BK11 := n2_; have BK12 := n3_; have HVF := n4_
                  clear n0_ n1_ n2_ n3_ n4_
                  refine hK.out _ _ ⟨(blk_cell BK14.out 0).trans rfl, (blk_cell BK14.out 1).trans rfl, (blk_cell BK14.out 2).trans rfl, (blk_cell BK14.out 3).trans rfl, (blk_cell BK11.out 0).trans rfl, (blk_cell BK11.out 1).trans rfl, (blk_cell BK11.out 2).trans rfl, (blk_cell BK11.out 3).trans rfl⟩ (fun hHeld => ?_)
                  clear hK K
                  refine norm_ (a' := ?_) ?_ ?_
                  rotate_left
                  · show Act.put _ (some 44) _ = _
                    simp only [Act.put, List.setIfInBounds_toArray, List.set_cons_zero, List.set_cons_succ, i64_w, i32_w]
                    rfl
                  refine pure_ (i := 4) (N := some 45) (v := ?_) (a' := ?_) #[true, true, true, true, true, false, false, false, false, false, false, false, false] rfl rfl (by kernel_rfl) (fun _ _ _ h => h) (Or.inl ⟨by rfl, ?_⟩) ?_ ?_
                  rotate_left
                  · intro w'
                    go_simp
                    with_reducible rfl
                  rotate_left
                  · simp only [Act.put, List.setIfInBounds_toArray, List.set_cons_zero, List.set_cons_succ, i64_w, i32_w]
                    rfl
                  refine pure_ (i := 5) (N := some 46) (v := ?_) (a' := ?_) #[true, true, true, true, true, true, false, false, false, false, false, false, false] rfl rfl (by kernel_rfl) (fun _ _ _ h => h) (Or.inl ⟨by rfl, ?_⟩) ?_ ?_
                  rotate_left
                  · intro w'
                    go_simp
                    with_reducible rfl
                  rotate_left
                  · simp only [Act.put, List.setIfInBounds_toArray, List.set_cons_zero, List.set_cons_succ, i64_w, i32_w]
                    rfl
                  refine pure_ (i := 6) (N := some 47) (v := undef) (a' := ?_) #[true, true, true, true, true, true, true, false, false, false, false, false, false] rfl rfl (by kernel_rfl) (fun _ _ _ h => h) (Or.inr ⟨by rfl, rfl⟩) ?_ ?_
                  rotate_left
                  · simp only [Act.put, List.setIfInBounds_toArray, List.set_cons_zero, List.set_cons_succ, i64_w, i32_w]
                    rfl
                  refine pure_ (i := 7) (N := some 48) (v := undef) (a' := ?_) #[true, true, true, true, true, true, true, true, false, false, false, false, false] rfl rfl (by kernel_rfl) (fun _ _ _ h => h) (Or.inr ⟨by rfl, rfl⟩) ?_ ?_
                  rotate_left
                  · simp only [Act.put, List.setIfInBounds_toArray, List.set_cons_zero, List.set_cons_succ, i64_w, i32_w]
                    rfl
                  refine pure_ (i := 8) (N := some 49) (v := undef) (a' := ?_) #[true, true, true, true, true, true, true, true, true, false, false, false, false] rfl rfl (by kernel_rfl) (fun _ _ _ h => h) (Or.inr ⟨by rfl, rfl⟩) ?_ ?_
                  rotate_left
                  · simp only [Act.put, List.setIfInBounds_toArray, List.set_cons_zero, List.set_cons_succ, i64_w, i32_w]
                    rfl
                  refine pure_ (i := 9) (N := some 50) (v := undef) (a' := ?_) #[true, true, true, true, true, true, true, true, true, true, false, false, false] rfl rfl (by kernel_rfl) (fun _ _ _ h => h) (Or.inr ⟨by rfl, rfl⟩) ?_ ?_
                  rotate_left
                  · simp only [Act.put, List.setIfInBounds_toArray, List.set_cons_zero, List.set_cons_succ, i64_w, i32_w]
                    rfl
                  refine pure_ (i := 10) (N := some 51) (v := undef) (a' := ?_) #[true, true, true, true, true, true, true, true, true, true, true, false, false] rfl rfl (by kernel_rfl) (fun _ _ _ h => h) (Or.inr ⟨by rfl, rfl⟩) ?_ ?_
                  rotate_left
                  · simp only [Act.put, List.setIfInBounds_toArray, List.set_cons_zero, List.set_cons_succ, i64_w, i32_w]
                    rfl
                  refine pure_ (i := 11) (N := some 52) (v := undef) (a' := ?_) #[true, true, true, true, true, true, true, true, true, true, true, true, false] rfl rfl (by kernel_rfl) (fun _ _ _ h => h) (Or.inr ⟨by rfl, rfl⟩) ?_ ?_
                  rotate_left
                  · simp only [Act.put, List.setIfInBounds_toArray, List.set_cons_zero, List.set_cons_succ, i64_w, i32_w]
                    rfl
                  refine pure_ (i := 12) (N := some 53) (v := ?_) (a' := ?_) #[true, true, true, true, true, true, true, true, true, true, true, true, true] rfl rfl (by kernel_rfl) (fun _ _ _ h => h) (Or.inl ⟨by rfl, ?_⟩) ?_ ?_
                  rotate_left
                  · intro w'
                    go_simp
                    with_reducible rfl
                  rotate_left
                  · simp only [Act.put, List.setIfInBounds_toArray, List.set_cons_zero, List.set_cons_succ, i64_w, i32_w]
                    rfl
                  refine done_ (by kernel_rfl) ?_
                  go_wp2
                  go_roundg e
                  case measure => have := HKj.out; omega
                  case rel => exact ⟨j + 1, f0, .slice Af f0.f0.length cf, by simp [hwj], ⟨by have := HKj.out; omega⟩, ⟨HI2.out⟩, ⟨BK11.out⟩, ⟨BK12.out⟩, ⟨HVF.out⟩, ⟨HFR.out⟩⟩
                | false =>
                  rw [if_neg Bool.false_ne_true] at hf
                  replace hf := Option.bind_eq_some_iff.mp hf
                  obtain ⟨bb2, hB2, hf⟩ := hf
                  obtain ⟨ej, hej⟩ : ∃ ej, ej = ends.getD j z80 := ⟨_, rfl⟩
                  rw [← hej] at hB2
                  have HB2 := Aside0.mk hB2
                  have HFR := Aside0.mk (show Best.fr k l0 a1 x ends e (j + 1) (if bb2 = true then ej else f0) = some fr by rw [hej]; exact hf)
                  have HEQ := Aside0.mk hej
                  clear hf hB2 hej
                  go_wp2_with (first | ((with_reducible refine gate_dst (N := 14) rfl ?_); refine box_event ?hg (N := 14) ?hd (cs := #[.string ByteArray.empty, .int .i64 0, .int .i64 0, .slice none 0 0]) (t := 55) ?hr ?_; (case hd => rfl); (case hg => rfl); (case hr => first | (go_simp; done) | (go_simp; rfl)); intro g14 hg w14 hbox hb; have BK14 := Aside0.mk hbox; have n1_ := Aside0.mk (HI2.out.below hb); have n2_ := Aside0.mk (blk_below BK11.out hb); have n3_ := Aside0.mk (blk_below BK12.out hb); have n4_ := Aside0.mk (row_kept HVF.out (IntsKept.below hb)); have G14 := Aside0.mk ((by rw [hg]; exact HI2.out.bel.size : w.heap.size ≤ g14)); have N14 := Aside0.mk ((by rw [hg]; exact HI2.out.lt8 : g8 < g14)); have N1114 := Aside0.mk ((by rw [hg]; exact blk_lt BK11.out : g11 < g14)); have N1214 := Aside0.mk ((by rw [hg]; exact blk_lt BK12.out : g12 < g14)); have H914 := Aside0.mk ((by rw [hg]; exact HI2.out.lt9 : ∀ q, (Value.slice A9 i c9).ownBlock = some q → q < g14)); clear HI2 BK11 BK12 HVF; have HI2 := n1_; have BK11 := n2_; have BK12 := n3_; have HVF := n4_; clear n1_ n2_ n3_ n4_; have hza0 : w14.cell? ⟨g14, 0, none⟩ = some (.string ByteArray.empty) := (blk_cell BK14.out 0).trans rfl; have hza1 : w14.cell? ⟨g14, 1, none⟩ = some (.int .i64 0) := (blk_cell BK14.out 1).trans rfl; have hza2 : w14.cell? ⟨g14, 2, none⟩ = some (.int .i64 0) := (blk_cell BK14.out 2).trans rfl; have hza3 : w14.cell? ⟨g14, 3, none⟩ = some (.slice none 0 0) := (blk_cell BK14.out 3).trans rfl; have hf0 := blk_frozen BK14.out 0; have hf1 := blk_frozen BK14.out 1; have hf2 := blk_frozen BK14.out 2; have hf3 := blk_frozen BK14.out 3; clear hb hbox hg) | ((with_reducible refine gate_store (t := 55) (p := 14) rfl ?_); refine store_event (t := 55) (p := 14) (v := .tmp 40) (w1 := set4 w14 g14 (.string y1.f0) (.int .i64 y1.f1) (.int .i64 y1.f2) (.slice B3 y1.f3.length d3)) ?hg ?ho ?hn ?hr ?_; (case ho => rfl); (case hg => rfl); (case hn => rfl); (case hr => first | (go_simp; done) | (go_simp; rfl)); intro ws14 hw; have hbt : But w w14 ws14 g14 := (by rw [hw]; exact But.set4 G14.out); have n0_ := Aside0.mk (show ws14.heap[g14]? = some (.cells #[.string y1.f0, .int .i64 y1.f1, .int .i64 y1.f2, .slice B3 y1.f3.length d3] 55 (0, 0)) by rw [hw]; exact set4_here BK14.out _ _ _ _); have n1_ := Aside0.mk (HI2.out.but hbt BK14.out (by decide) (Nat.ne_of_lt N14.out) (fun e => Nat.lt_irrefl _ (H914.out _ e))); have n2_ := Aside0.mk (hbt.blk BK11.out (Nat.ne_of_lt N1114.out)); have n3_ := Aside0.mk (hbt.blk BK12.out (Nat.ne_of_lt N1214.out)); have n4_ := Aside0.mk (row_kept HVF.out (hbt.ints BK14.out (by decide))); clear hza0 hza1 hza2 hza3 hf0 hf1 hf2 hf3; clear hbt BK14 HI2 BK11 BK12 HVF; have BK14 := n0_; have HI2 := n1_; have BK11 := n2_; have BK12 := n3_; have HVF := n4_; clear n0_ n1_ n2_ n3_ n4_; have hza0 : ws14.cell? ⟨g14, 0, none⟩ = some (.string y1.f0) := (blk_cell BK14.out 0).trans rfl; have hza1 : ws14.cell? ⟨g14, 1, none⟩ = some (.int .i64 y1.f1) := (blk_cell BK14.out 1).trans rfl; have hza2 : ws14.cell? ⟨g14, 2, none⟩ = some (.int .i64 y1.f2) := (blk_cell BK14.out 2).trans rfl; have hza3 : ws14.cell? ⟨g14, 3, none⟩ = some (.slice B3 y1.f3.length d3) := (blk_cell BK14.out 3).trans rfl; have hzb0 : ws14.cell? ⟨g11, 0, none⟩ = some (.string x.f0) := (blk_cell BK11.out 0).trans rfl; have hzb1 : ws14.cell? ⟨g11, 1, none⟩ = some (.int .i64 x.f1) := (blk_cell BK11.out 1).trans rfl; have hzb2 : ws14.cell? ⟨g11, 2, none⟩ = some (.int .i64 x.f2) := (blk_cell BK11.out 2).trans rfl; have hzb3 : ws14.cell? ⟨g11, 3, none⟩ = some (.slice A3 x.f3.length c3) := (blk_cell BK11.out 3).trans rfl; have hzc0 : ws14.cell? ⟨g12, 0, none⟩ = some (.slice Af f0.f0.length cf) := (blk_cell BK12.out 0).trans rfl; have hzc1 : ws14.cell? ⟨g12, 1, none⟩ = some (.int .i64 f0.f1) := (blk_cell BK12.out 1).trans rfl; clear hw))
                  have n0_ := Aside0.mk (show ws14.drew.heap[g14]? = _ from BK14.out)
                  have n1_ := Aside0.mk (HI2.out.below (below_drew (Below.refl _ _)))
                  have n2_ := Aside0.mk (show ws14.drew.heap[g11]? = _ from BK11.out)
                  have n3_ := Aside0.mk (show ws14.drew.heap[g12]? = _ from BK12.out)
                  have n4_ := Aside0.mk (row_kept HVF.out (IntsKept.below (below_drew (Below.refl ws14.heap.size ws14))))
                  clear hza0 hza1 hza2 hza3 hzb0 hzb1 hzb2 hzb3 hzc0 hzc1 BK14 HI2 BK11 BK12 HVF hy0 hy1 hy2 hy3
                  have BK14 := n0_
                  have HI2 := n1_
                  have BK11 := n2_
                  have BK12 := n3_
                  have HVF := n4_
                  clear n0_ n1_ n2_ n3_ n4_
                  obtain ⟨a9, E1, ce, eA, hq0, hq1, hqr⟩ := HI2.out.at HE.out j (by omega)
                  subst eA
                  rw [← HEQ.out] at hq0 hq1 hqr
                  have HJ0 := Aside0.mk hq0
                  have HJ1 := Aside0.mk hq1
                  have HEJ := Aside0.mk hqr
                  clear hq0 hq1 hqr HEQ
                  refine start_ (n := 13) (S := fun w' => w'.cell? ⟨g14, 0, none⟩ = some (.string y1.f0) ∧ w'.cell? ⟨g14, 1, none⟩ = some (.int .i64 y1.f1) ∧ w'.cell? ⟨g14, 2, none⟩ = some (.int .i64 y1.f2) ∧ w'.cell? ⟨g14, 3, none⟩ = some (.slice B3 y1.f3.length d3) ∧ w'.cell? ⟨g11, 0, none⟩ = some (.string x.f0) ∧ w'.cell? ⟨g11, 1, none⟩ = some (.int .i64 x.f1) ∧ w'.cell? ⟨g11, 2, none⟩ = some (.int .i64 x.f2) ∧ w'.cell? ⟨g11, 3, none⟩ = some (.slice A3 x.f3.length c3) ∧ w'.cell? ⟨g12, 0, none⟩ = some (.slice Af f0.f0.length cf) ∧ w'.cell? ⟨g12, 1, none⟩ = some (.int .i64 f0.f1) ∧ w'.cell? (a9.add (j * 2)) = some (.slice E1 ej.f0.length ce) ∧ w'.cell? ⟨(a9.add (j * 2)).block, (a9.add (j * 2)).off + 1, none⟩ = some (.int .i64 ej.f1)) (ds := []) #[false, false, false, false, false, false, false, false, false, false, false, false, false] (by kernel_rfl) rfl rfl ⟨(blk_cell BK14.out 0).trans rfl, (blk_cell BK14.out 1).trans rfl, (blk_cell BK14.out 2).trans rfl, (blk_cell BK14.out 3).trans rfl, (blk_cell BK11.out 0).trans rfl, (blk_cell BK11.out 1).trans rfl, (blk_cell BK11.out 2).trans rfl, (blk_cell BK11.out 3).trans rfl, (blk_cell BK12.out 0).trans rfl, (blk_cell BK12.out 1).trans rfl, HJ0.out, HJ1.out⟩ (fun hHeld => ?_)
                  generalize ws14.drew = W13 at *
                  refine take_ (i := 0) (N := some 41) (v := ?_) (a' := ?_) #[true, false, false, false, false, false, false, false, false, false, false, false, false] rfl rfl (by kernel_rfl) (fun _ _ _ h => h) (Or.inl ⟨by rfl, ?_⟩) hHeld ?_ ?_
                  rotate_left
                  · rintro w' ⟨s0, s1, s2, s3, s4, s5, s6, s7, s8, s9, s10, s11⟩
                    go_simp
                    with_reducible rfl
                  rotate_left
                  · simp only [Act.put, List.setIfInBounds_toArray, List.set_cons_zero, List.set_cons_succ, i64_w, i32_w]
                    rfl
                  refine take_ (i := 1) (N := some 42) (v := ?_) (a' := ?_) #[true, true, false, false, false, false, false, false, false, false, false, false, false] rfl rfl (by kernel_rfl) (fun _ _ _ h => h) (Or.inl ⟨by rfl, ?_⟩) hHeld ?_ ?_
                  rotate_left
                  · rintro w' ⟨s0, s1, s2, s3, s4, s5, s6, s7, s8, s9, s10, s11⟩
                    go_simp
                    with_reducible rfl
                  rotate_left
                  · simp only [Act.put, List.setIfInBounds_toArray, List.set_cons_zero, List.set_cons_succ, i64_w, i32_w]
                    rfl
                  refine pure_ (i := 2) (N := some 43) (v := ?_) (a' := ?_) #[true, true, true, false, false, false, false, false, false, false, false, false, false] rfl rfl (by kernel_rfl) (fun _ _ _ h => h) (Or.inl ⟨by rfl, ?_⟩) ?_ ?_
                  rotate_left
                  · intro w'
                    go_simp
                    with_reducible rfl
                  rotate_left
                  · simp only [Act.put, List.setIfInBounds_toArray, List.set_cons_zero, List.set_cons_succ, i64_w, i32_w]
                    rfl
                  refine one_ (i := 3) (N := some 44) #[true, true, true, true, false, false, false, false, false, false, false, false, false] rfl rfl (by kernel_rfl) (by decide) (fun K hK => ?_)
                  refine goes_ Tryd.func40 (by kernel_rfl) rfl #[.agg #[.string y1.f0, .int .i64 y1.f1, .int .i64 y1.f2, .slice B3 y1.f3.length d3], .agg #[.string x.f0, .int .i64 x.f1, .int .i64 x.f2, .slice A3 x.f3.length c3], .int .i64 a1] (by rfl) rfl rfl (by (try simp only [List.map_toArray, List.map_cons, List.map_nil]); first | done | rfl) ?_
                  refine (contact_exclude.calls y1.f0 y1.f1 y1.f2 _ _ y1.f3 x.f0 x.f1 x.f2 _ _ x.f3 a1 _ _ (Kd.C_below HYR.out HI2.out.bel) HYS.out (Kd.C_below HR3.out HI2.out.bel) HS3.out HEX.out).mono ?_
                  rintro e1 w5 ⟨rfl, hb⟩
                  refine ⟨_, rfl, ?_⟩
                  have n0_ := Aside0.mk (blk_below BK14.out hb); have n1_ := Aside0.mk (HI2.out.below hb); have n2_ := Aside0.mk (blk_below BK11.out hb); have n3_ := Aside0.mk (blk_below BK12.out hb); have n4_ := Aside0.mk (row_kept HVF.out (IntsKept.below hb))
                  have n5_ := Aside0.mk (cellB hb HJ0.out); have n6_ := Aside0.mk (cellB hb HJ1.out); have n7_ := Aside0.mk (row_kept HEJ.out (IntsKept.below hb))
                  clear hb
                  clear hHeld BK14 HI2 BK11 BK12 HVF
                  have BK14 := n0_; have HI2 := n1_; have BK11 := n2_; have BK12 := n3_; have HVF := n4_
                  clear n0_ n1_ n2_ n3_ n4_
                  clear HJ0 HJ1 HEJ
                  have HJ0 := n5_; have HJ1 := n6_; have HEJ := n7_
                  clear n5_ n6_ n7_
                  refine hK.out _ _ ⟨(blk_cell BK14.out 0).trans rfl, (blk_cell BK14.out 1).trans rfl, (blk_cell BK14.out 2).trans rfl, (blk_cell BK14.out 3).trans rfl, (blk_cell BK11.out 0).trans rfl, (blk_cell BK11.out 1).trans rfl, (blk_cell BK11.out 2).trans rfl, (blk_cell BK11.out 3).trans rfl, (blk_cell BK12.out 0).trans rfl, (blk_cell BK12.out 1).trans rfl, HJ0.out, HJ1.out⟩ (fun hHeld => ?_)
                  clear hK K
                  refine norm_ (a' := ?_) ?_ ?_
                  rotate_left
                  · show Act.put _ (some 44) _ = _
                    simp only [Act.put, List.setIfInBounds_toArray, List.set_cons_zero, List.set_cons_succ, i64_w, i32_w]
                    rfl
                  refine pure_ (i := 4) (N := some 45) (v := ?_) (a' := ?_) #[true, true, true, true, true, false, false, false, false, false, false, false, false] rfl rfl (by kernel_rfl) (fun _ _ _ h => h) (Or.inl ⟨by rfl, ?_⟩) ?_ ?_
                  rotate_left
                  · intro w'
                    go_simp
                    with_reducible rfl
                  rotate_left
                  · simp only [Act.put, List.setIfInBounds_toArray, List.set_cons_zero, List.set_cons_succ, i64_w, i32_w]
                    rfl
                  refine pure_ (i := 5) (N := some 46) (v := ?_) (a' := ?_) #[true, true, true, true, true, true, false, false, false, false, false, false, false] rfl rfl (by kernel_rfl) (fun _ _ _ h => h) (Or.inl ⟨by rfl, ?_⟩) ?_ ?_
                  rotate_left
                  · intro w'
                    go_simp
                    with_reducible rfl
                  rotate_left
                  · simp only [Act.put, List.setIfInBounds_toArray, List.set_cons_zero, List.set_cons_succ, i64_w, i32_w]
                    rfl
                  refine pure_ (i := 6) (N := some 47) (v := ?_) (a' := ?_) #[true, true, true, true, true, true, true, false, false, false, false, false, false] rfl rfl (by kernel_rfl) (fun _ _ _ h => h) (Or.inl ⟨by rfl, ?_⟩) ?_ ?_
                  rotate_left
                  · intro w'
                    go_simp
                    with_reducible rfl
                  rotate_left
                  · simp only [Act.put, List.setIfInBounds_toArray, List.set_cons_zero, List.set_cons_succ, i64_w, i32_w]
                    rfl
                  refine pure_ (i := 7) (N := some 48) (v := ?_) (a' := ?_) #[true, true, true, true, true, true, true, true, false, false, false, false, false] rfl rfl (by kernel_rfl) (fun _ _ _ h => h) (Or.inl ⟨by rfl, ?_⟩) ?_ ?_
                  rotate_left
                  · intro w'
                    go_simp
                    with_reducible rfl
                  rotate_left
                  · simp only [Act.put, List.setIfInBounds_toArray, List.set_cons_zero, List.set_cons_succ, i64_w, i32_w]
                    rfl
                  refine pure_ (i := 8) (N := some 49) (v := ?_) (a' := ?_) #[true, true, true, true, true, true, true, true, true, false, false, false, false] rfl rfl (by kernel_rfl) (fun _ _ _ h => h) (Or.inl ⟨by rfl, ?_⟩) ?_ ?_
                  rotate_left
                  · intro w'
                    go_simp
                    with_reducible rfl
                  rotate_left
                  · simp only [Act.put, List.setIfInBounds_toArray, List.set_cons_zero, List.set_cons_succ, i64_w, i32_w]
                    rfl
                  refine take_ (i := 9) (N := some 50) (v := ?_) (a' := ?_) #[true, true, true, true, true, true, true, true, true, true, false, false, false] rfl rfl (by kernel_rfl) (fun _ _ _ h => h) (Or.inl ⟨by rfl, ?_⟩) hHeld ?_ ?_
                  rotate_left
                  · rintro w' ⟨s0, s1, s2, s3, s4, s5, s6, s7, s8, s9, s10, s11⟩
                    go_simp
                    with_reducible rfl
                  rotate_left
                  · simp only [Act.put, List.setIfInBounds_toArray, List.set_cons_zero, List.set_cons_succ, i64_w, i32_w]
                    rfl
                  refine take_ (i := 10) (N := some 51) (v := ?_) (a' := ?_) #[true, true, true, true, true, true, true, true, true, true, true, false, false] rfl rfl (by kernel_rfl) (fun _ _ _ h => h) (Or.inl ⟨by rfl, ?_⟩) hHeld ?_ ?_
                  rotate_left
                  · rintro w' ⟨s0, s1, s2, s3, s4, s5, s6, s7, s8, s9, s10, s11⟩
                    go_simp
                    with_reducible rfl
                  rotate_left
                  · simp only [Act.put, List.setIfInBounds_toArray, List.set_cons_zero, List.set_cons_succ, i64_w, i32_w]
                    rfl
                  refine one_ (i := 11) (N := some 52) #[true, true, true, true, true, true, true, true, true, true, true, true, false] rfl rfl (by kernel_rfl) (by decide) (fun K hK => ?_)
                  refine goes_ Tryd.func41 (by kernel_rfl) rfl #[.agg #[.slice E1 ej.f0.length ce, .int .i64 ej.f1], .agg #[.slice Af f0.f0.length cf, .int .i64 f0.f1]] (by rfl) rfl rfl (by (try simp only [List.map_toArray, List.map_cons, List.map_nil]); first | done | rfl) ?_
                  refine (contact_choice_better.calls k _ _ ej.f0 ej.f1 _ _ f0.f0 f0.f1 _ _ (Kd.R_reads' HEJ.out).2.2 (Kd.R_reads' HEJ.out).2.1 (Kd.R_reads' HVF.out).2.2 (Kd.R_reads' HVF.out).2.1 HB2.out).mono ?_
                  rintro e1 w6 ⟨rfl, hb⟩
                  refine ⟨_, rfl, ?_⟩
                  have n0_ := Aside0.mk (blk_below BK14.out hb); have n1_ := Aside0.mk (HI2.out.below hb); have n2_ := Aside0.mk (blk_below BK11.out hb); have n3_ := Aside0.mk (blk_below BK12.out hb); have n4_ := Aside0.mk (row_kept HVF.out (IntsKept.below hb))
                  have n5_ := Aside0.mk (cellB hb HJ0.out); have n6_ := Aside0.mk (cellB hb HJ1.out); have n7_ := Aside0.mk (row_kept HEJ.out (IntsKept.below hb))
                  clear hb
                  clear hHeld BK14 HI2 BK11 BK12 HVF
                  have BK14 := n0_; have HI2 := n1_; have BK11 := n2_; have BK12 := n3_; have HVF := n4_
                  clear n0_ n1_ n2_ n3_ n4_
                  clear HJ0 HJ1 HEJ
                  have HJ0 := n5_; have HJ1 := n6_; have HEJ := n7_
                  clear n5_ n6_ n7_
                  refine hK.out _ _ ⟨(blk_cell BK14.out 0).trans rfl, (blk_cell BK14.out 1).trans rfl, (blk_cell BK14.out 2).trans rfl, (blk_cell BK14.out 3).trans rfl, (blk_cell BK11.out 0).trans rfl, (blk_cell BK11.out 1).trans rfl, (blk_cell BK11.out 2).trans rfl, (blk_cell BK11.out 3).trans rfl, (blk_cell BK12.out 0).trans rfl, (blk_cell BK12.out 1).trans rfl, HJ0.out, HJ1.out⟩ (fun hHeld => ?_)
                  clear hK K
                  refine norm_ (a' := ?_) ?_ ?_
                  rotate_left
                  · show Act.put _ (some 52) _ = _
                    simp only [Act.put, List.setIfInBounds_toArray, List.set_cons_zero, List.set_cons_succ, i64_w, i32_w]
                    rfl
                  refine pure_ (i := 12) (N := some 53) (v := ?_) (a' := ?_) #[true, true, true, true, true, true, true, true, true, true, true, true, true] rfl rfl (by kernel_rfl) (fun _ _ _ h => h) (Or.inl ⟨by rfl, ?_⟩) ?_ ?_
                  rotate_left
                  · intro w'
                    go_simp
                    with_reducible rfl
                  rotate_left
                  · simp only [Act.put, List.setIfInBounds_toArray, List.set_cons_zero, List.set_cons_succ, i64_w, i32_w]
                    rfl
                  refine done_ (by kernel_rfl) ?_
                  cases bb2 with
                  | false =>
                    rw [if_neg Bool.false_ne_true] at HFR
                    go_wp2
                    go_roundg e
                    case measure => have := HKj.out; omega
                    case rel => exact ⟨j + 1, f0, .slice Af f0.f0.length cf, by simp [hwj], ⟨by have := HKj.out; omega⟩, ⟨HI2.out⟩, ⟨BK11.out⟩, ⟨BK12.out⟩, ⟨HVF.out⟩, ⟨HFR.out⟩⟩
                  | true =>
                    rw [if_pos rfl] at HFR
                    have hc0 := HJ0.out
                    have hc1 := HJ1.out
                    have hc2 : w6.cell? ⟨g12, 0, none⟩ = some (.slice Af f0.f0.length cf) := (blk_cell BK12.out 0).trans rfl
                    have hc3 : w6.cell? ⟨g12, 1, none⟩ = some (.int .i64 f0.f1) := (blk_cell BK12.out 1).trans rfl
                    have hfc0 := blk_frozen BK12.out 0
                    have hfc1 := blk_frozen BK12.out 1
                    clear HJ0 HJ1
                    go_wp2_with (first | ((with_reducible refine gate_store (t := 80) (p := 12) rfl ?_); refine store_event (t := 80) (p := 12) (v := .tmp 57) (w1 := set2 w6 g12 (.slice E1 ej.f0.length ce) (.int .i64 ej.f1)) ?hg ?ho ?hn ?hr ?_; (case ho => rfl); (case hg => rfl); (case hn => rfl); (case hr => first | (go_simp; done) | (go_simp; rfl)); intro ws12 hw; have hbt : But w w6 ws12 g12 := (by rw [hw]; exact But.set2 G12.out); have n0_ := Aside0.mk (show ws12.heap[g12]? = some (.cells #[.slice E1 ej.f0.length ce, .int .i64 ej.f1] 80 (0, 0)) by rw [hw]; exact set2_here BK12.out _ _); have n1_ := Aside0.mk (HI2.out.but hbt BK12.out (by decide) (Nat.ne_of_lt N12.out) (fun e => Nat.lt_irrefl _ (H912.out _ e))); have n2_ := Aside0.mk (hbt.blk BK11.out (Nat.ne_of_lt N112.out)); have n4_ := Aside0.mk (row_kept HEJ.out (hbt.ints BK12.out (by decide))); clear hbt hc0 hc1 hc2 hc3 hfc0 hfc1 BK12 HI2 BK11 HEJ; have BK12 := n0_; have HI2 := n1_; have BK11 := n2_; have HEJ := n4_; clear n0_ n1_ n2_ n4_; clear hw))
                    go_roundg e
                    case measure => have := HKj.out; omega
                    case rel => exact ⟨j + 1, ej, .slice E1 ej.f0.length ce, by simp [hwj], ⟨by have := HKj.out; omega⟩, ⟨HI2.out⟩, ⟨BK11.out⟩, ⟨BK12.out⟩, ⟨HEJ.out⟩, ⟨HFR.out⟩⟩
          · cases hg
    · cases h
  · rename_i hf0
    have hq1 : (ff == 0) = false := beq_eq_false_iff_ne.2 hf0
    have hq2 : (ff != 0) = true := bne_iff_ne.2 hf0
    have hr := Option.some.inj h
    injection hr with e1 e2
    injection e2 with e2 e3
    subst e1 e2 e3
    clear h hf0
    go_enter Tryd.func13, Tryd.ntmps13
    go_wp2_with (first | (go_at_call 24; go_loud (with_reducible refine (contact_CheckPasses.calls k _ _ l0 p _ HR0.out HC0.out HP.out).mono ?_); rintro e wp ⟨rfl, hb⟩; have n0_ := Aside0.mk (below_step HB.out hb); clear HB hb; have HB := n0_; clear n0_) | (go_at_call 39; go_loud (with_reducible refine (kit_Range.calls a1 0 10000000 q _ HQ.out).mono ?_); rintro e wq ⟨rfl, ⟨nd, rfl⟩⟩) | ((with_reducible refine gate_dst (N := 20) rfl ?_); go_loud (refine Kd.R_lit (Kd.int .i64) _ 23 ?hg (N := 20) ?hd (xs := ([p, q] : List Int)) (inner := [.int .i64 p, .int .i64 q]) (ok := fun _ => True) (okp := fun _ => True) ?hr ?hp (fun _ hk => hk) trivial (Below.refl _ _) (Nat.le_refl _) (by simp) ?_); (case hd => rfl); (case hg => rfl); (case hr => first | (go_simp; done) | (go_simp; rfl)); (case hp => exact (Reps.one (show Kd.M (Kd.int .i64) _ _ _ p [.int .i64 p] from rfl) (Reps.one (show Kd.M (Kd.int .i64) _ _ _ q [.int .i64 q] from rfl) (Reps.none _ _)))); intro vy wy ho14 hb hg_ hnew_; clear hg_ hnew_; rw [← HY.out] at ho14; have HOY := Aside0.mk ho14; have n1_ := Aside0.mk (below_step (pw_below_drewN HB.out _) hb); clear HB; have HB := n1_; clear n1_ hb ho14; obtain ⟨Ay, cy, ey⟩ := Kd.R_slice HOY.out; subst ey) | (go_at_call 38; go_loud (with_reducible refine (kit_First.calls k _ _ y _ _ (Kd.R_reads' HOY.out).2.2 (Kd.R_reads' HOY.out).2.1 HF.out).mono ?_); rintro e wf ⟨rfl, ⟨nd2, rfl⟩⟩))
    go_ret3
    exact ⟨_, rfl, Kd.R_nil _ _ _ _ _, pw_below_drewN HB.out _⟩
end Go.Proofs.YtbngmblgkkdhpaaDoor.Q
