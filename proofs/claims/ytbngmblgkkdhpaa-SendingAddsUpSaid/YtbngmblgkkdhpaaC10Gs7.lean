-- Made by wip/tools/claimp.py of this session's texts; Lean checks it.
import Derived.Test.YtbngmblgkkdhpaaC10Q0
import Derived.Test.YtbngmblgkkdhpaaC10Gs2
import Derived.Test.YtbngmblgkkdhpaaC10Gs5
import Derived.Test.YtbngmblgkkdhpaaC10Gs6
namespace Go.Proofs.Ytbngmblgkkdhpaa.Q
open Go.RowKit Go.Proofs.YtbngmblgkkdhpaaW.PrintWords Go.Proofs.YtbngmblgkkdhpaaW.PrintLast Go.Proofs.YtbngmblgkkdhpaaW.PrintMore
attribute [local go_sem] max2_int min2_int max_two min_two max_three min_three max_four min_four
open Go.Proofs.Ytbngmblgkkdhpaa.Base
attribute [local go_sem high] str_leq str_gtr str_geq
set_option linter.unusedVariables false
set_option linter.unusedSimpArgs false
def ixX (q : List S63) : List Int := (List.range q.length).map Int.ofNat
def ordX (q : List S63) : List Int := (ixX q).mergeSort fun x y => !decide (cmpX q y x < 0)
/-- The order of the items parts whatever two that are not one. -/
structure OrdOK (q : List S63) : Prop where
  trans : ∀ x ∈ ixX q, ∀ y ∈ ixX q, ∀ z ∈ ixX q, cmpX q x y < 0 → cmpX q y z < 0 → cmpX q x z < 0
  ntrans : ∀ x ∈ ixX q, ∀ y ∈ ixX q, ∀ z ∈ ixX q, ¬ cmpX q x y < 0 → ¬ cmpX q y z < 0 → ¬ cmpX q x z < 0
  irrefl : ∀ x ∈ ixX q, ¬ cmpX q x x < 0
  total : ∀ x ∈ ixX q, ∀ y ∈ ixX q, ¬ cmpX q x y < 0 → ¬ cmpX q y x < 0 → x = y
instance (q : List S63) : Decidable (OrdOK q) := decidable_of_iff ((∀ x ∈ ixX q, ∀ y ∈ ixX q, ∀ z ∈ ixX q, cmpX q x y < 0 → cmpX q y z < 0 → cmpX q x z < 0) ∧ (∀ x ∈ ixX q, ∀ y ∈ ixX q, ∀ z ∈ ixX q, ¬ cmpX q x y < 0 → ¬ cmpX q y z < 0 → ¬ cmpX q x z < 0) ∧ (∀ x ∈ ixX q, ¬ cmpX q x x < 0) ∧ (∀ x ∈ ixX q, ∀ y ∈ ixX q, ¬ cmpX q x y < 0 → ¬ cmpX q y x < 0 → x = y)) ⟨fun h => ⟨h.1, h.2.1, h.2.2.1, h.2.2.2⟩, fun h => ⟨h.trans, h.ntrans, h.irrefl, h.total⟩⟩
theorem ixX_len (q : List S63) : (ixX q).length = q.length := by unfold ixX; simp
theorem ixX_mem {q : List S63} {x : Int} (h : x ∈ ixX q) : 0 ≤ x ∧ x < (q.length : Int) := by
  unfold ixX at h
  obtain ⟨n, hn, rfl⟩ := List.mem_map.mp h
  have := List.mem_range.mp hn
  exact ⟨Int.natCast_nonneg n, by show ((n : Nat) : Int) < _; omega⟩
section
variable {w0 W W1 : World} {g : Nat} {V : SV} {bk : List Int} {q : List S63} {st : SX}
theorem SndAt.sortOrd (h : SndAt w0 W g V bk q st) {xs1 : List Int} (hr : (Kd.int .i64).R 3 W1 w0.heap.size (fun _ => True) V.vo xs1) (hf : W.grownBy W1 V.vo.ownBlock) : SndAt w0 W1 g V bk q { st with ord := xs1 } := by
  have hty : ∀ k, V.vo.ownBlock = some k → isTy 3 W k := fun k hk => own_ty h.o hk
  have other : ∀ {t k}, isTy t W k → t ≠ 3 → W1.heap[k]? = W.heap[k]? := fun {t k} hk ht => hf.block k hk.lt (fun e => hk.ne (hty k e.symm) ht rfl)
  have ints : ∀ {v : Value} {xs : List Int}, (Kd.int .i64).R 3 W w0.heap.size (fun _ => True) v xs → Apart V.vo v → (Kd.int .i64).R 3 W1 w0.heap.size (fun _ => True) v xs := fun {v xs} hr hn => flat_move rfl hr (fun k hk => hf.block k (own_ty hr hk).lt (fun e => hn k e.symm hk))
  exact ⟨(other h.ty (by decide)).trans h.hb, h.hg, h.bkC, h.bkc, h.qC, h.qc, pw_below_grown h.bel _ h.bel.size hf (fun k e => Kd.R_base h.o k e), hr, ints h.s h.os, ints h.d h.od, h.os, h.od, h.sd,
    h.m.kept hf (fun e => h.mTy (hty _ e.symm) rfl), h.mg, flat_move rfl h.r (fun k hk => other (own_ty h.r hk) (by decide)), flat_move rfl h.wy (fun k hk => other (own_ty h.wy hk) (by decide)), h.wl, ways_move h.ws (fun k hk => other hk (by decide)), h.mnl⟩
open Go.Sort in
theorem putRow_val {α : Type} [Inhabited α] (f : α → Int) (w : World) (blk off : Nat) (d : Array α) : putRow (fun x => Value.int .i64 (f x)) w blk off d = putRow (Value.int .i64) w blk off (d.map f) := by
  unfold putRow
  congr 1
  funext c
  unfold putCells
  congr 1
  funext k x
  rw [Array.size_map]
  by_cases h : off ≤ k ∧ k < off + d.size
  · rw [if_pos h, if_pos h]
    have hk : k - off < d.size := by omega
    rw [getElem!_pos d (k - off) hk, getElem!_pos (d.map f) (k - off) (by rw [Array.size_map]; exact hk), Array.getElem_map]
  · rw [if_neg h, if_neg h]
open Go.Sort in
theorem holds_val {α : Type} [Inhabited α] (f : α → Int) {w : World} {blk off : Nat} {d : Array α} (h : Holds (Value.int .i64) w blk off (d.map f)) : Holds (fun x => Value.int .i64 (f x)) w blk off d := fun j hj => by
  have h1 := h j (by rw [Array.size_map]; exact hj)
  rw [getElem!_pos (d.map f) j (by rw [Array.size_map]; exact hj), Array.getElem_map] at h1
  rw [getElem!_pos d j hj]
  exact h1
set_option maxHeartbeats 2000000 in
open Go.Sort in
theorem sort_calls {Aq : Option Addr} {cq g5 : Nat} (h : SndAt w0 W g V bk q st) (ho : st.ord = ixX q) (hx : W.heap[g5]? = some (.cells #[Value.slice Aq q.length cq] 47 (0, 0))) (hq : k63.C w0 Aq q.length q) (hl : q.length ≤ 1000000) (hO : OrdOK q) :
    Calls Try.prog 85 #[V.vo, .func (.func 86) #[] #[.pointer (some ⟨g5, 0, none⟩)]] W fun e w' => e = .returned (.tuple #[]) ∧ SndAt w0 w' g V bk q { st with ord := ordX q } := by
  have hr := h.o
  rw [ho] at hr
  have hown := Kd.own_of_R hr
  rcases hown.2 with ⟨hv, hn⟩ | ⟨go, cap, cur, hv, hbase, hb, h1, h2, h3, h4⟩
  · rw [hv]
    have hq0 : q = [] := List.eq_nil_of_length_eq_zero (by rw [← ixX_len]; exact hn)
    refine (Try.slices_SortFunc_none (α := Int) none 0 _ W).mono ?_
    rintro e w' ⟨rfl, rfl⟩
    have e1 : ({ st with ord := ordX q } : SX) = st := by
      have : ordX q = st.ord := by rw [ho, hq0]; unfold ordX; rw [show ixX [] = [] from rfl, List.mergeSort_nil]
      rw [this]
    rw [e1]
    exact ⟨rfl, h⟩
  · rw [hv]
    by_cases hne : q.length = 0
    · rw [show (ixX q).length = 0 by rw [ixX_len]; exact hne]
      have hq0 : q = [] := List.eq_nil_of_length_eq_zero hne
      refine (Try.slices_SortFunc_none (α := Int) _ _ _ W).mono ?_
      rintro e w' ⟨rfl, rfl⟩
      have e1 : ({ st with ord := ordX q } : SX) = st := by
        have : ordX q = st.ord := by rw [ho, hq0]; unfold ordX; rw [show ixX [] = [] from rfl, List.mergeSort_nil]
        rw [this]
      rw [e1]
      exact ⟨rfl, h⟩
    · have hm0 : (0 : Int) ∈ ixX q := List.mem_map.mpr ⟨0, List.mem_range.mpr (by omega), rfl⟩
      let α := { i : Int // i ∈ ixX q }
      have iα : Inhabited α := ⟨⟨0, hm0⟩⟩
      have hf : ∀ (m : Nat) (dk : Array α) (os : Array Obj), sortWorld (fun x : α => Value.int .i64 x.1) W go 0 m dk os = grow (putRow (Value.int .i64) (Sort.ahead W m) go 0 (dk.map (·.1))) os := fun m dk os => by unfold sortWorld; rw [putRow_val]
      have hsz : (ixX q).attach.toArray.size = (ixX q).length := by simp
      have hmap : (ixX q).attach.toArray.map (·.1) = (ixX q).toArray := by simp
      have hvo : V.vo.ownBlock = some go := by rw [hv]; rfl
      have hlt : ∀ (x y : α), (ltOf fun x y : α => cmpX q x.1 y.1) x y = decide (cmpX q x.1 y.1 < 0) := fun _ _ => rfl
      have hcmp : CmpLays1 Try.prog 86 #[.pointer (some ⟨g5, 0, none⟩)] (fun x : α => Value.int .i64 x.1) (fun x y : α => cmpX q x.1 y.1) go 0 (ixX q).attach.toArray.size W := fun m os dk hs x y => by
        rw [hf]
        have hg := grownBy_sortedI (w := W) (g := go) (n := m) (os := os) (dk.map (·.1))
        generalize grow (putRow (Value.int .i64) (Sort.ahead W m) go 0 (dk.map (·.1))) os = W2 at *
        have hb2 := pw_below_grown h.bel _ h.bel.size hg (fun j hj => by cases hj; exact hbase)
        have hx2 : W2.heap[g5]? = some (.cells #[Value.slice Aq q.length cq] 47 (0, 0)) := (hg.block g5 (blk_lt hx) (fun e => (show isTy 47 W g5 from ⟨_, hx⟩).ne ⟨_, hb⟩ (by decide) (Option.some.inj e))).trans hx
        exact cmp_calls ((blk_cell hx2 0).trans rfl) (Kd.C_below hq hb2) x.1 y.1 (ixX_mem x.2).1 (ixX_mem x.2).2 (ixX_mem y.2).1 (ixX_mem y.2).2
      have hswo : SWO (ltOf fun x y : α => cmpX q x.1 y.1) := ⟨fun x => by rw [hlt]; exact decide_eq_false (hO.irrefl x.1 x.2), fun x y z h1 h2 => by rw [hlt] at *; exact decide_eq_true (hO.trans x.1 x.2 y.1 y.2 z.1 z.2 (of_decide_eq_true h1) (of_decide_eq_true h2)), fun x y z h1 h2 => by rw [hlt] at *; exact decide_eq_false (hO.ntrans x.1 x.2 y.1 y.2 z.1 z.2 (of_decide_eq_false h1) (of_decide_eq_false h2))⟩
      have hH : Holds (fun x : α => Value.int .i64 x.1) W go 0 (ixX q).attach.toArray := holds_val _ (by rw [hmap]; exact holds_of_blockI hb (by rw [Nat.mul_one] at h4; exact h4))
      have hcon := Try.slices_SortFunc_total (fun x : α => Value.int .i64 x.1) (fun _ => rfl) (fun x y : α => cmpX q x.1 y.1) hswo 86 #[.pointer (some ⟨g5, 0, none⟩)] go 0 cap (ixX q).attach.toArray W (enters_of Try.func86 (by kernel_rfl) rfl) hcmp hH (blk_lt hb) (by rw [hsz, ixX_len]; omega)
        (fun x y h1 h2 => by rw [hlt] at *; exact Subtype.ext (hO.total x.1 x.2 y.1 y.2 (of_decide_eq_false h1) (of_decide_eq_false h2)))
      rw [hsz] at hcon
      refine hcon.mono ?_
      rintro e w' ⟨rfl, n, os, rfl⟩
      rw [hf]
      have hmm : ((ixX q).attach.toArray.toList.mergeSort fun x y => !(ltOf fun x y : α => cmpX q x.1 y.1) y x).toArray.map (·.1) = (ordX q).toArray := by
        have e1 := List.map_mergeSort (r := fun x y : α => !(ltOf fun x y : α => cmpX q x.1 y.1) y x) (s := fun x y : Int => !decide (cmpX q y x < 0)) (f := fun x : α => x.1) (l := (ixX q).attach) (fun _ _ _ _ => rfl)
        rw [show (ixX q).attach.map (fun x : α => x.1) = ixX q by simp [α]] at e1
        unfold ordX
        rw [← e1]
        exact List.map_toArray
      rw [hmm]
      have hperm : (ordX q).length = (ixX q).length := (List.mergeSort_perm _ _).length_eq
      have hg := grownBy_sortedI (w := W) (g := go) (n := n) (os := os) (ordX q).toArray
      have hown2 := ownsRow_sortedI (n := n) (os := os) (ss := ixX q) (ts := ordX q) hperm hbase hb h1 h2 h3
      refine ⟨rfl, h.sortOrd ?_ (by rw [hvo]; exact hg)⟩
      rw [hv]
      exact Kd.R_of_own (by rw [hperm]; exact hown2) (fun _ _ => trivial)
end
section
variable {w0 W W1 : World} {g : Nat} {V : SV} {bk : List Int} {q : List S63} {st : SX}
theorem apart_nil0 (u : Value) : Apart (.slice none 0 0) u := fun k hk => by cases hk
theorem apart_after {v v1 u : Value} {n : Nat} (h : Apart v u) (hu : ∀ k, u.ownBlock = some k → k < n) (hat : v1.ownBlock = v.ownBlock ∨ ∃ b, v1.ownBlock = some b ∧ n ≤ b) : Apart v1 u := fun k hk hc => by
  rcases hat with e | ⟨b, e, hb⟩
  · exact h k (by rw [← e]; exact hk) hc
  · rw [e] at hk
    cases hk
    have := hu _ hc
    omega
theorem SndAt.ltS' (h : SndAt w0 W g V bk q st) : (∀ k, V.vs.ownBlock = some k → k < W.heap.size) ∧ (∀ k, V.vd.ownBlock = some k → k < W.heap.size) := ⟨Kd.R_lt h.s, Kd.R_lt h.d⟩
theorem opn_new (w : World) : World.ownsMap (H := Unit) (w.alloc (.map #[] 0)) Try.prog 138 (plainElem Try.prog 3) w.heap.size 0 (.map []) := by
  exact ⟨#[], 0, heap_alloc_new w _, ⟨by simp, ⟨by simp, by simp, by simp⟩, by simp⟩, by simp, rfl⟩
theorem keepS {w w' : World} {k : Nat} {v : Value} (h : Below w.heap.size w w') (hx : w.cell? ⟨k, 0, none⟩ = some v) : Below w.heap.size w w' ∧ w'.cell? ⟨k, 0, none⟩ = some v := ⟨h, (h.cell (World.block_lt_of_cell? w _ hx)).trans hx⟩
/-- The sender as it is made. -/
def newS (q : List S63) : SX := ⟨[], List.replicate q.length 0, [], .map [], [], []⟩
theorem sent_new (w : World) {base n : Nat} (hb : base ≤ w.heap.size) (hn : n ≤ 1000000) : (Kd.int .i64).R 3 (w.alloc (.cells (madeCells #[.int .i64 0] n) 3)) base (fun _ => True) (.slice (some ⟨w.heap.size, 0, none⟩) n n) (List.replicate n 0) := by
  have h := own_made' w base 3 .i64 n hb (by omega)
  exact Kd.R_of_own (by simpa [encs, nums] using h) (fun _ _ => trivial)
theorem newS_at {Ab Aq : Option Addr} {cb cq gv gm : Nat} (hB : Below w0.heap.size w0 W) (hb : W.heap[g]? = some (.cells #[.slice Ab bk.length cb, .slice Aq q.length cq, .slice none 0 0, .slice (some ⟨gv, 0, none⟩) q.length q.length, .slice none 0 0, .map (some gm), .slice none 0 0, .slice none 0 0] 110 (0, 0)))
    (hg : w0.heap.size ≤ g) (hbk : (Kd.int .i64).C w0 Ab bk.length bk) (hbc : bk.length ≤ cb) (hq : k63.C w0 Aq q.length q) (hqc : q.length ≤ cq)
    (hs : (Kd.int .i64).R 3 W w0.heap.size (fun _ => True) (.slice (some ⟨gv, 0, none⟩) q.length q.length) (List.replicate q.length 0)) (hm : World.ownsMap (H := Unit) W Try.prog 138 (plainElem Try.prog 3) gm 0 (.map [])) (hmg : w0.heap.size ≤ gm) :
    ∃ V, SndAt w0 W g V bk q (newS q) := by
  refine ⟨⟨Ab, cb, Aq, cq, .slice none 0 0, .slice (some ⟨gv, 0, none⟩) q.length q.length, .slice none 0 0, gm, 0, .slice none 0 0, .slice none 0 0, []⟩, hb, hg, hbk, hbc, hq, hqc, hB, Kd.R_nil _ _ _ _ _, hs, Kd.R_nil _ _ _ _ _, apart_nil0 _, apart_nil0 _, Apart.symm (apart_nil0 _), hm, hmg, Kd.R_nil _ _ _ _ _, Kd.R_nil _ _ _ _ _, rfl, ?_, Nat.le_refl _⟩
  intro j hj
  exact absurd hj (Nat.not_lt_zero j)
theorem alloc_size (w : World) (o : Obj) : (w.alloc o).heap.size = w.heap.size + 1 := by
  unfold World.alloc
  exact Array.size_push _
def sndBlock (bk : List Int) (q : List S63) (Ab Aq : Option Addr) (cb cq gv gm : Nat) : Obj := .cells #[.slice Ab bk.length cb, .slice Aq q.length cq, .slice none 0 0, .slice (some ⟨gv, 0, none⟩) q.length q.length, .slice none 0 0, .map (some gm), .slice none 0 0, .slice none 0 0] 110
theorem newS_A {wA : World} {Ab Aq : Option Addr} {cb cq : Nat} (hB : Below w0.heap.size w0 wA) (hbk : (Kd.int .i64).C w0 Ab bk.length bk) (hbc : bk.length ≤ cb) (hq : k63.C w0 Aq q.length q) (hqc : q.length ≤ cq) (hn : q.length ≤ 1000000) :
    (∃ V, SndAt w0 (((wA.alloc (.cells (madeCells #[.int .i64 0] q.length) 3)).alloc (.map #[] 0)).alloc (sndBlock bk q Ab Aq cb cq wA.heap.size (wA.heap.size + 1))).drew (wA.heap.size + 1 + 1) V bk q (newS q)) := by
  have e1 := alloc_size wA (.cells (madeCells #[.int .i64 0] q.length) 3)
  have hs0 := sent_new wA (base := w0.heap.size) (n := q.length) hB.size hn
  have B1 := below_alloc hB (.cells (madeCells #[.int .i64 0] q.length) 3)
  generalize wA.alloc (.cells (madeCells #[.int .i64 0] q.length) 3) = w1 at *
  have hm0 := opn_new w1
  have e2 := alloc_size w1 (.map #[] 0)
  have b2 := below_alloc (Below.refl w1.heap.size w1) (.map #[] 0)
  generalize w1.alloc (.map #[] 0) = w2 at *
  have b3 := below_drew (below_alloc (Below.refl w2.heap.size w2) (sndBlock bk q Ab Aq cb cq wA.heap.size (wA.heap.size + 1)))
  refine newS_at (gv := wA.heap.size) (gm := wA.heap.size + 1) (below_step (below_step B1 b2) b3) ?_ (by have := hB.size; omega) hbk hbc hq hqc (Kd.R_below (Kd.R_below hs0 b2) b3) ?_ (by have := hB.size; omega)
  · rw [← e1, ← e2]
    exact blk_drew (heap_alloc_new w2 _)
  · rw [e1] at hm0
    exact hm0.kept (grown_of_below b3 none) (by simp)
theorem newS_B {wA : World} {Ab Aq : Option Addr} {cb cq : Nat} (hB : Below w0.heap.size w0 wA) (hbk : (Kd.int .i64).C w0 Ab bk.length bk) (hbc : bk.length ≤ cb) (hq : k63.C w0 Aq q.length q) (hqc : q.length ≤ cq) (hn : q.length ≤ 1000000) :
    (∃ V, SndAt w0 (((wA.alloc (.map #[] 0)).alloc (.cells (madeCells #[.int .i64 0] q.length) 3)).alloc (sndBlock bk q Ab Aq cb cq (wA.heap.size + 1) wA.heap.size)).drew (wA.heap.size + 1 + 1) V bk q (newS q)) := by
  have e1 := alloc_size wA (.map #[] 0)
  have hm0 := opn_new wA
  have B1 : Below w0.heap.size w0 (wA.alloc (.map #[] 0)) := below_alloc hB _
  generalize wA.alloc (.map #[] 0) = w1 at *
  have hs0 := sent_new w1 (base := w0.heap.size) (n := q.length) B1.size hn
  have e2 := alloc_size w1 (.cells (madeCells #[.int .i64 0] q.length) 3)
  have b2 := below_alloc (Below.refl w1.heap.size w1) (.cells (madeCells #[.int .i64 0] q.length) 3)
  generalize w1.alloc (.cells (madeCells #[.int .i64 0] q.length) 3) = w2 at *
  have b3 := below_drew (below_alloc (Below.refl w2.heap.size w2) (sndBlock bk q Ab Aq cb cq (wA.heap.size + 1) wA.heap.size))
  refine newS_at (gv := wA.heap.size + 1) (gm := wA.heap.size) (below_step (below_step B1 b2) b3) ?_ (by have := hB.size; omega) hbk hbc hq hqc ?_ ?_ (by have := hB.size; omega)
  · rw [← e1, ← e2]
    exact blk_drew (heap_alloc_new w2 _)
  · rw [e1] at hs0
    exact Kd.R_below hs0 b3
  · exact (hm0.kept (grown_of_below b2 none) (by simp)).kept (grown_of_below b3 none) (by simp)
/-- An append to a row of whole numbers of the sender's, ahead of the store. -/
theorem SndAt.grownInts (h : SndAt w0 W g V bk q st) {b : Option Nat} (hf : W.grownBy W1 b) (hb : ∀ k, b = some k → isTy 3 W k) {t : TypeId} {k : Nat} (hk : isTy t W k) (ht : t ≠ 3) : W1.heap[k]? = W.heap[k]? :=
  hf.block k hk.lt (fun e => hk.ne (hb k e.symm) ht rfl)
theorem ints_grown {b : Option Nat} (hf : W.grownBy W1 b) {v : Value} {xs : List Int} {base : Nat} (hr : (Kd.int .i64).R 3 W base (fun _ => True) v xs) (hn : ∀ k, v.ownBlock = some k → b ≠ some k) : (Kd.int .i64).R 3 W1 base (fun _ => True) v xs := flat_move rfl hr (fun k hk => hf.block k (own_ty hr hk).lt (fun e => hn k hk e.symm))
theorem ints_put {g : Nat} (hg : isTy 110 W g) {j : Nat} {u v : Value} {xs : List Int} {base : Nat} (hr : (Kd.int .i64).R 3 W base (fun _ => True) v xs) : (Kd.int .i64).R 3 (W.setCell ⟨g, j, none⟩ u) base (fun _ => True) v xs := flat_move rfl hr (fun k hk => Below.heap_setCell W ⟨g, j, none⟩ u k ((own_ty hr hk).ne hg (by decide)))
theorem SndAt.appOrd (h : SndAt w0 W g V bk q st) {v1 : Value} {xs1 : List Int} (hr : (Kd.int .i64).R 3 W1 w0.heap.size (fun _ => True) v1 xs1) (hB : Below w0.heap.size w0 W1) (hf : W.grownBy W1 V.vo.ownBlock) (hat : v1.ownBlock = V.vo.ownBlock ∨ ∃ b, v1.ownBlock = some b ∧ W.heap.size ≤ b) :
    SndAt w0 (W1.setCell ⟨g, 2, none⟩ v1) g { V with vo := v1 } bk q { st with ord := xs1 } := by
  have hty : ∀ k, V.vo.ownBlock = some k → isTy 3 W k := fun k hk => own_ty h.o hk
  have hb1 := (h.grownInts hf hty h.ty (by decide)).trans h.hb
  have hg1 : isTy 110 W1 g := ⟨_, hb1⟩
  have both : ∀ {t k}, isTy t W k → t ≠ 3 → t ≠ 110 → (W1.setCell ⟨g, 2, none⟩ v1).heap[k]? = W.heap[k]? := fun {t k} hk ht ht' => (Below.heap_setCell W1 ⟨g, 2, none⟩ v1 k (hk.ne h.ty ht')).trans (h.grownInts hf hty hk ht)
  have hl := h.ltS'
  exact ⟨blk_put hb1 2 v1 rfl, h.hg, h.bkC, h.bkc, h.qC, h.qc, below_set hB h.hg, ints_put hg1 hr, ints_put hg1 (ints_grown hf h.s (fun k hk e => h.os k e hk)), ints_put hg1 (ints_grown hf h.d (fun k hk e => h.od k e hk)),
    apart_after h.os hl.1 hat, apart_after h.od hl.2 hat, h.sd, World.ownsMap.setCell (h.m.kept hf (fun e => h.mTy (hty _ e.symm) rfl)) (h.mTy h.ty) v1, h.mg, flat_move rfl h.r (fun k hk => both (own_ty h.r hk) (by decide) (by decide)), flat_move rfl h.wy (fun k hk => both (own_ty h.wy hk) (by decide) (by decide)), h.wl, ways_move h.ws (fun k hk => both hk (by decide) (by decide)), h.mnl⟩
theorem SndAt.appDone (h : SndAt w0 W g V bk q st) {v1 : Value} {xs1 : List Int} (hr : (Kd.int .i64).R 3 W1 w0.heap.size (fun _ => True) v1 xs1) (hB : Below w0.heap.size w0 W1) (hf : W.grownBy W1 V.vd.ownBlock) (hat : v1.ownBlock = V.vd.ownBlock ∨ ∃ b, v1.ownBlock = some b ∧ W.heap.size ≤ b) :
    SndAt w0 (W1.setCell ⟨g, 4, none⟩ v1) g { V with vd := v1 } bk q { st with done := xs1 } := by
  have hty : ∀ k, V.vd.ownBlock = some k → isTy 3 W k := fun k hk => own_ty h.d hk
  have hb1 := (h.grownInts hf hty h.ty (by decide)).trans h.hb
  have hg1 : isTy 110 W1 g := ⟨_, hb1⟩
  have both : ∀ {t k}, isTy t W k → t ≠ 3 → t ≠ 110 → (W1.setCell ⟨g, 4, none⟩ v1).heap[k]? = W.heap[k]? := fun {t k} hk ht ht' => (Below.heap_setCell W1 ⟨g, 4, none⟩ v1 k (hk.ne h.ty ht')).trans (h.grownInts hf hty hk ht)
  exact ⟨blk_put hb1 4 v1 rfl, h.hg, h.bkC, h.bkc, h.qC, h.qc, below_set hB h.hg, ints_put hg1 (ints_grown hf h.o (fun k hk e => h.od k hk e)), ints_put hg1 (ints_grown hf h.s (fun k hk e => h.sd k hk e)), ints_put hg1 hr,
    h.os, Apart.symm (apart_after (Apart.symm h.od) (fun k hk => (own_ty h.o hk).lt) hat), Apart.symm (apart_after (Apart.symm h.sd) (fun k hk => (own_ty h.s hk).lt) hat), World.ownsMap.setCell (h.m.kept hf (fun e => h.mTy (hty _ e.symm) rfl)) (h.mTy h.ty) v1, h.mg, flat_move rfl h.r (fun k hk => both (own_ty h.r hk) (by decide) (by decide)), flat_move rfl h.wy (fun k hk => both (own_ty h.wy hk) (by decide) (by decide)), h.wl, ways_move h.ws (fun k hk => both hk (by decide) (by decide)), h.mnl⟩
theorem SndAt.appWay (h : SndAt w0 W g V bk q st) {v1 : Value} {A : Option Addr} {c : Nat} {ss : List S81} (hc : ss.length ≤ c) (hF : Kd.F k81 W (isTy 81 W) A ss.length ss)
    (hr : (Kd.raw 1).R 78 W1 w0.heap.size (fun _ => True) v1 (V.raws ++ [[.slice A ss.length c]])) (hB : Below w0.heap.size w0 W1) (hf : W.grownBy W1 V.vw.ownBlock) :
    SndAt w0 (W1.setCell ⟨g, 7, none⟩ v1) g { V with vw := v1, raws := V.raws ++ [[.slice A ss.length c]] } bk q { st with ways := st.ways ++ [ss] } := by
  have hty : ∀ k, V.vw.ownBlock = some k → isTy 78 W k := fun k hk => own_ty h.wy hk
  have other : ∀ {t k}, isTy t W k → t ≠ 78 → W1.heap[k]? = W.heap[k]? := fun {t k} hk ht => hf.block k hk.lt (fun e => hk.ne (hty k e.symm) ht rfl)
  have hb1 := (other h.ty (by decide)).trans h.hb
  have hg1 : isTy 110 W1 g := ⟨_, hb1⟩
  have both : ∀ {t k}, isTy t W k → t ≠ 78 → t ≠ 110 → (W1.setCell ⟨g, 7, none⟩ v1).heap[k]? = W.heap[k]? := fun {t k} hk ht ht' => (Below.heap_setCell W1 ⟨g, 7, none⟩ v1 k (hk.ne h.ty ht')).trans (other hk ht)
  refine ⟨blk_put hb1 7 v1 rfl, h.hg, h.bkC, h.bkc, h.qC, h.qc, below_set hB h.hg, flat_move rfl h.o (fun k hk => both (own_ty h.o hk) (by decide) (by decide)), flat_move rfl h.s (fun k hk => both (own_ty h.s hk) (by decide) (by decide)), flat_move rfl h.d (fun k hk => both (own_ty h.d hk) (by decide) (by decide)), h.os, h.od, h.sd,
    World.ownsMap.setCell (h.m.kept hf (fun e => h.mTy (hty _ e.symm) rfl)) (h.mTy h.ty) v1, h.mg, flat_move rfl h.r (fun k hk => both (own_ty h.r hk) (by decide) (by decide)), flat_move rfl hr (fun k hk => Below.heap_setCell W1 ⟨g, 7, none⟩ v1 k ((own_ty hr hk).ne hg1 (by decide))), by simp [h.wl], ?_, h.mnl⟩
  have hw := ways_move h.ws (W' := W1.setCell ⟨g, 7, none⟩ v1) (fun k hk => both hk (by decide) (by decide))
  have hF' : Kd.F k81 (W1.setCell ⟨g, 7, none⟩ v1) (isTy 81 (W1.setCell ⟨g, 7, none⟩ v1)) A ss.length ss := Kd.F_mono (Kd.F_step hF (fun k hk _ => both hk (by decide) (by decide))) (fun k hk => by obtain ⟨cs, hk⟩ := hk; exact ⟨cs, (both ⟨cs, hk⟩ (by decide) (by decide)).trans hk⟩)
  intro i hi
  simp only [List.length_append, List.length_singleton] at hi
  by_cases e : i < st.ways.length
  · obtain ⟨A', c', g1, g2, g3⟩ := hw i e
    rw [show (st.ways ++ [ss]).getD i [] = st.ways.getD i [] by rw [List.getD_eq_getElem?_getD, List.getElem?_append_left e, List.getD_eq_getElem?_getD], show (V.raws ++ [[Value.slice A ss.length c]]).getD i [] = V.raws.getD i [] by rw [List.getD_eq_getElem?_getD, List.getElem?_append_left (by rw [h.wl]; exact e), List.getD_eq_getElem?_getD]]
    exact ⟨A', c', g1, g2, g3⟩
  · obtain rfl : i = st.ways.length := by omega
    rw [show (st.ways ++ [ss]).getD st.ways.length [] = ss by simp, show (V.raws ++ [[Value.slice A ss.length c]]).getD st.ways.length [] = [.slice A ss.length c] by rw [← h.wl]; simp]
    exact ⟨A, c, rfl, hc, hF'⟩
end
def wayS (q : List S63) (acc : List (List S81)) : SX := { newS q with ways := acc }
theorem stF_of_own {W : World} {base : Nat} {A : Option Addr} {c : Nat} {s : List S81} (hr : k81.R 81 W base (fun _ => True) (.slice A s.length c) s) : Kd.F k81 W (isTy 81 W) A s.length s := fun W' hW =>
  (Kd.R_reads' (flat_move rfl hr (fun k hk => hW k (own_ty hr hk) (own_ty hr hk).lt))).2.2
def wayOne (k : Nat) (ps : List S33) (b : Int) : Option (List S81) := contact_stretches.f k (rd_T33 ps b).f0 (rd_T33 ps b).f1 (rd_T33 ps b).f2 (rd_T33 ps b).f3
def waysGo (k : Nat) (ps : List S33) : List Int → List (List S81) → Option (List (List S81))
  | [], acc => some acc
  | b :: r, acc => if 0 ≤ b ∧ b < (ps.length : Int) then (wayOne k ps b).bind fun s => waysGo k ps r (acc ++ [s]) else none
/-- Where an item stands that carries nothing. -/
def dnX (x : S63) : Int := if x.f1 = 0 then x.f3 else -1
def newX (k : Nat) (ps : List S33) (bk : List Int) (q : List S63) : Option SX :=
  if q.length ≤ 1000000 ∧ bk.length ≤ 1000000 ∧ OrdOK q then (waysGo k ps bk []).map fun ways => ⟨ordX q, List.replicate q.length 0, q.map dnX, .map [], [], ways⟩ else none
theorem wayInfo : (Try.prog.info? 78).map (fun i => (i.zero, i.size, i.bytes)) = some (some (.slice none 0 0), 1, 24) := by kernel_rfl
def itS (q : List S63) (acc : List (List S81)) (j : Nat) : SX := ⟨(List.range j).map Int.ofNat, List.replicate q.length 0, (q.take j).map dnX, .map [], [], acc⟩
theorem set_last {α : Type} (l : List α) (a v : α) : (l ++ [a]).set l.length v = l ++ [v] := by
  induction l with
  | nil => rfl
  | cons x r ih => simp only [List.cons_append, List.length_cons, List.set_cons_succ, ih]
theorem last_cell {w : World} {base gd n c j : Nat} {l : List Int} {a : Int} (h : (Kd.int .i64).R 3 w base (fun _ => True) (.slice (some ⟨gd, 0, none⟩) n c) (l ++ [a])) (hl : l.length = j) : w.cell? ⟨gd, j, none⟩ = some (.int .i64 a) ∧ w.frozen? ⟨gd, j, none⟩ = false := by
  have hn : n = (l ++ [a]).length := (Kd.R_reads' h).1
  obtain ⟨cs, _, hM, hcc, hfr⟩ := Kd.R_elem h 0 (j : Int) (by omega) (by rw [hn, List.length_append]; simp; omega)
  rw [Int.toNat_natCast] at hM hcc hfr
  have e : (l ++ [a]).getD j 0 = a := by subst hl; simp
  rw [e] at hM
  have hcs : cs = [.int .i64 a] := hM
  subst hcs
  have x := hcc 0 _ rfl
  have y := hfr 0
  rw [show j * (Kd.int .i64).sz + 0 = j from Nat.mul_one j] at x y
  exact ⟨x, y⟩
theorem itS_all (q : List S63) (acc : List (List S81)) : ({ itS q acc q.length with ord := ordX q } : SX) = ⟨ordX q, List.replicate q.length 0, q.map dnX, .map [], [], acc⟩ := by
  unfold itS
  rw [List.take_length]
theorem itS_next {q : List S63} {acc : List (List S81)} {j : Nat} (hj : j < q.length) {x : S63} (hx : x = rd_T63 q (j : Int)) {v : Int} (hv : dnX x = v) : itS q acc (j + 1) = { itS q acc j with ord := (List.range j).map Int.ofNat ++ [(j : Int)], done := (q.take j).map dnX ++ [v] } := by
  have e : q[j] = x := by rw [hx]; unfold rd_T63; rw [Int.toNat_natCast, List.getD_eq_getElem?_getD, List.getElem?_eq_getElem hj]; rfl
  unfold itS
  rw [List.range_succ, List.map_append, List.take_succ_eq_append_getElem hj, List.map_append, List.map_cons, List.map_nil, List.map_cons, List.map_nil, e, hv]
  rfl
set_option maxHeartbeats 8000000 in
set_option maxRecDepth 100000 in
theorem newSender_calls {w0 W : World} {Ap Ab Aq : Option Addr} {cp cb cq : Nat} {ps : List S33} {bk : List Int} {q : List S63} (k : Nat) (r : SX) (hB : Below w0.heap.size w0 W) (hp : k33.C w0 Ap ps.length ps) (hpc : ps.length ≤ cp) (hb : (Kd.int .i64).C w0 Ab bk.length bk) (hbc : bk.length ≤ cb) (hq : k63.C w0 Aq q.length q) (hqc : q.length ≤ cq) (hr : newX k ps bk q = some r) :
    Calls Try.prog 69 #[.slice Ap ps.length cp, .slice Ab bk.length cb, .slice Aq q.length cq] W fun e w' => ∃ g V, e = .returned (.pointer (some ⟨g, 0, none⟩)) ∧ SndAt w0 w' g V bk q r := by
  unfold newX at hr
  obtain ⟨⟨hql, hbl, hord⟩, hr⟩ := guardT hr
  obtain ⟨ways, hways, hr⟩ := Option.map_eq_some_iff.mp hr
  subst hr
  have HB := Aside0.mk hB
  have HP := Aside0.mk hp
  have HBK := Aside0.mk hb
  have HQ := Aside0.mk hq
  have HQL := Aside0.mk hql
  have HBL := Aside0.mk hbl
  have HORD := Aside0.mk hord
  have HWY := Aside0.mk hways
  have hmk := print_make_int (P := Try.prog) 35 3 (.int .i64 0) 8 Try.underlying35 info3 rfl (by decide) (q.length : Int) (by omega) (by omega)
  rw [Int.toNat_natCast] at hmk
  have hmm : ∀ w : World, (Instr.makeMap 106 none).run Try.prog w = .ok (.map (some w.heap.size)) (w.alloc (.map #[] 0)) := fun w => run_makeMap _ w
  clear hB hp hb hq hord hways
  go_enter Try.func69, Try.ntmps69
  go_wp2
  obtain ⟨g5, hg5⟩ : ∃ g5, g5 = W.heap.size := ⟨_, rfl⟩
  obtain ⟨wA, hwA⟩ : ∃ wA, wA = W.alloc (.cells #[Value.slice Aq q.length cq] 47) := ⟨_, rfl⟩
  rw [← hwA, ← hg5]
  have B5 : wA.heap[g5]? = some (.cells #[Value.slice Aq q.length cq] 47 (0, 0)) := by rw [hwA, hg5]; exact heap_alloc_new W _
  have B5A := Aside0.mk B5
  have x5 : wA.cell? ⟨g5, 0, none⟩ = some (.slice Aq q.length cq) := (blk_cell B5 0).trans rfl
  have hn5 := World.new_ne wA _ x5
  have BA := Aside0.mk (show Below w0.heap.size w0 wA by rw [hwA]; exact below_alloc HB.out _)
  have G5 := Aside0.mk (show w0.heap.size ≤ g5 by rw [hg5]; exact HB.out.size)
  clear hwA hg5 B5 HB
  go_cut [7] (fun v7 wx => ∃ gN V, v7 = .pointer (some ⟨gN, 0, none⟩) ∧ Aside0 (SndAt w0 wx gN V bk q (newS q)) ∧ Aside0 (wx.heap[g5]? = some (.cells #[Value.slice Aq q.length cq] 47 (0, 0))))
  case first =>
    go_region_held3 (fun w' => Below wA.heap.size wA w' ∧ w'.cell? ⟨g5, 0, none⟩ = some (.slice Aq q.length cq)) (exact keepS (by repeat (first | with_reducible exact Below.refl _ _ | apply below_alloc | apply below_drew | apply pw_below_drewN)) x5) (first | fail)
    · go_wp2
      go_meet
      obtain ⟨V, hV⟩ := newS_A (bk := bk) (q := q) BA.out HBK.out hbc HQ.out hqc HQL.out
      exact ⟨_, V, rfl, ⟨hV⟩, ⟨blk_below B5A.out (by repeat (first | with_reducible exact Below.refl _ _ | apply below_alloc | apply below_drew | apply pw_below_drewN))⟩⟩
    · go_wp2
      go_meet
      obtain ⟨V, hV⟩ := newS_B (bk := bk) (q := q) BA.out HBK.out hbc HQ.out hqc HQL.out
      exact ⟨_, V, rfl, ⟨hV⟩, ⟨blk_below B5A.out (by repeat (first | with_reducible exact Below.refl _ _ | apply below_alloc | apply below_drew | apply pw_below_drewN))⟩⟩
  case rest =>
    obtain ⟨g, V0, rfl, HS, HX⟩ := hcut
    clear x5 hn5 B5A BA hmk hmm
    go_wp2
    go_loopg [22] bk.length (fun kq v22 w' => ∃ (i : Nat) (acc : List (List S81)) (V : SV), v22 = .int .i64 (i : Int) ∧ Aside0 (kq + i = bk.length) ∧ Aside0 (waysGo k ps (bk.drop i) acc = some ways) ∧ Aside0 (acc.length = i) ∧ Aside0 (SndAt w0 w' g V bk q (wayS q acc)) ∧ Aside0 (w'.heap[g5]? = some (.cells #[Value.slice Aq q.length cq] 47 (0, 0))))
    case atStart => exact ⟨0, [], V0, rfl, ⟨rfl⟩, HWY, ⟨rfl⟩, HS, HX⟩
    case round =>
      clear HS HX HWY
      obtain ⟨i, acc, V, rfl, HK, HWY, HAL, HS, HX⟩ := hrel
      cases gk with
      | zero =>
        have hi : i = bk.length := by have := HK.out; omega
        subst hi
        have H := HWY.out
        rw [List.drop_length] at H
        unfold waysGo at H
        obtain rfl := Option.some.inj H
        clear H HK HWY HAL
        have x5 : wr.cell? ⟨g5, 0, none⟩ = some (.slice Aq q.length cq) := (blk_cell HX.out 0).trans rfl
        go_wp2
        clear x5
        go_loopg [43] q.length (fun kq2 v43 w' => ∃ (j : Nat) (V : SV), v43 = .int .i64 (j : Int) ∧ Aside0 (kq2 + j = q.length) ∧ Aside0 (SndAt w0 w' g V bk q (itS q acc j)) ∧ Aside0 (w'.heap[g5]? = some (.cells #[Value.slice Aq q.length cq] 47 (0, 0))))
        case atStart => exact ⟨0, V, rfl, ⟨rfl⟩, HS, HX⟩
        case round =>
          clear HS HX
          obtain ⟨j, V, rfl, HKJ, HS, HX⟩ := hrel
          cases gk with
          | zero =>
            have hj : j = q.length := by have := HKJ.out; omega
            subst hj
            clear HKJ
            have x2 : wr.cell? ⟨g, 2, none⟩ = some V.vo := (blk_cell HS.out.hb 2).trans rfl
            go_wp2_with (first | (go_at_call 85; go_loud (refine (sort_calls HS.out rfl HX.out HQ.out HQL.out HORD.out).mono ?_); rintro e w7 ⟨rfl, hs7⟩; have HS7 := Aside0.mk hs7; clear hs7 HS HX x2))
            go_ret
            exact ⟨g, V, rfl, by have h := HS7.out; rw [itS_all] at h; exact h⟩
          | succ e =>
            have hj : j < q.length := by have := HKJ.out; omega
            have hj0 : (0 : Int) ≤ (j : Int) := by omega
            have hj1 : (j : Int) < (q.length : Int) := by omega
            have hd2 : decide ((j : Int) < (q.length : Int)) = true := decide_eq_true hj1
            have hwj : wrap64 ((j : Int) + 1) = ((j + 1 : Nat) : Int) := by have := HQL.out; unfold wrap64; omega
            have HJ := Aside0.mk hj
            obtain ⟨adq, eq, y0, y1, y2, y3, y4⟩ := at_T63 (Kd.C_below HQ.out HS.out.bel) (j : Int) hj0 hj1
            cases eq
            obtain ⟨x, hx⟩ : ∃ x, x = rd_T63 q (j : Int) := ⟨_, rfl⟩
            rw [← hx] at y0 y1 y2 y3 y4
            have HXE := Aside0.mk hx
            simp only [Int.toNat_natCast] at y0 y1 y2 y3 y4
            clear hx
            go_upto_region 10 with (fail)
            obtain ⟨g11, hg11⟩ : ∃ g11, g11 = wr.heap.size := ⟨_, rfl⟩
            obtain ⟨w1, hw1⟩ : ∃ w1, w1 = wr.alloc (.cells #[.string x.f0, .int .i64 x.f1, .int .i64 x.f2, .int .i64 x.f3, .int .i64 x.f4] 63) := ⟨_, rfl⟩
            rw [← hw1, ← hg11]
            have HS1 := Aside0.mk (show SndAt w0 w1 g V bk q (itS q acc j) by rw [hw1]; exact HS.out.below (below_alloc (Below.refl _ _) _))
            have HX1 := Aside0.mk (show w1.heap[g5]? = some (.cells #[Value.slice (some adq) q.length cq] 47 (0, 0)) by rw [hw1]; exact blk_alloc HX.out _)
            have HI1 := Aside0.mk (show w1.heap[g11]? = some (.cells #[.string x.f0, .int .i64 x.f1, .int .i64 x.f2, .int .i64 x.f3, .int .i64 x.f4] 63 (0, 0)) by rw [hw1, hg11]; exact heap_alloc_new wr _)
            clear hw1 hg11 y0 y1 y2 y3 y4 HS HX
            have x2 : w1.cell? ⟨g, 2, none⟩ = some V.vo := (blk_cell HS1.out.hb 2).trans rfl
            have hmin : min j q.length = j := by omega
            by_cases hz : x.f1 = 0
            · have dz : (x.f1 == 0) = true := beq_iff_eq.mpr hz
              have HZ := Aside0.mk hz
              clear hz
              go_wp2_with (first | ((with_reducible refine gate_builtin (b := .append) (xs := #[.tmp 52, .tmp 54]) rfl ?_); at_builtin; go_loud (refine Kd.R_append (Kd.int .i64) (w0 := w0) (W := w1) w0.heap.size rfl (.tmp 52) (.tmp 54) 35 3 (.int .i64 0) 8 rfl Try.underlying35 info3 rfl (by decide) (by omega) V.vo ((List.range j).map Int.ofNat) ((j : Int) : Int) [.int .i64 (j : Int)] (fun _ => True) (fun _ => False) rfl (by first | rfl | (go_simp; done) | (simp [World.alloc]; done)) (show Kd.M (Kd.int .i64) _ _ _ (j : Int) [.int .i64 (j : Int)] from rfl) (fun _ h => h.elim) (fun _ _ => trivial) HS1.out.o HS1.out.bel HS1.out.bel.size (by have := HQL.out; have := HJ.out; simp; omega) ?_); go_loud (intro v10 w2 ho hb hf hat; obtain ⟨A10, c10, e10⟩ := Kd.R_slice ho; subst e10; have HOW := Aside0.mk HS1.out.o; have HX2 := Aside0.mk (show w2.heap[g5]? = some (.cells #[Value.slice (some adq) q.length cq] 47 (0, 0)) from (hf.block g5 (blk_lt HX1.out) (fun e => (show isTy 47 w1 g5 from ⟨_, HX1.out⟩).ne (own_ty HOW.out e.symm) (by decide) rfl)).trans HX1.out); have HI2 := Aside0.mk (show w2.heap[g11]? = some (.cells #[.string x.f0, .int .i64 x.f1, .int .i64 x.f2, .int .i64 x.f3, .int .i64 x.f4] 63 (0, 0)) from (hf.block g11 (blk_lt HI1.out) (fun e => (show isTy 63 w1 g11 from ⟨_, HI1.out⟩).ne (own_ty HOW.out e.symm) (by decide) rfl)).trans HI1.out); have HG2 := Aside0.mk (show w2.heap[g]? = some (.cells #[.slice V.Ab bk.length V.cb, .slice V.Aq q.length V.cq, V.vo, V.vs, V.vd, .map (some V.gm), V.vr, V.vw] 110 (0, 0)) from (HS1.out.grownInts hf (fun k hk => own_ty HS1.out.o hk) HS1.out.ty (by decide)).trans HS1.out.hb); have x2 : w2.cell? ⟨g, 2, none⟩ = some V.vo := (blk_cell HG2.out 2).trans rfl; have f2 := blk_frozen HG2.out 2; have HAP := Aside0.mk (HS1.out.appOrd ho hb hf hat); clear ho hb hf hat HOW HS1 HX1 HI1)) | ((with_reducible refine gate_store (t := 35) (p := 57) rfl ?_); refine store_event (t := 35) (p := 57) (v := .tmp 55) (w1 := w2.setCell ⟨g, 2, none⟩ (.slice A10 ((List.range j).map Int.ofNat ++ [(j : Int)]).length c10)) ?hg ?ho ?hn ?hr ?_; (case ho => rfl); (case hg => rfl); (case hn => rfl); (case hr => first | (go_simp; done) | (go_simp; rfl)); intro w3 hw3; have HS3 := Aside0.mk (show SndAt w0 w3 g { V with vo := (.slice A10 ((List.range j).map Int.ofNat ++ [(j : Int)]).length c10) } bk q { itS q acc j with ord := (List.range j).map Int.ofNat ++ [(j : Int)] } by rw [hw3]; exact HAP.out); have HX3 := Aside0.mk (show w3.heap[g5]? = some (.cells #[Value.slice (some adq) q.length cq] 47 (0, 0)) by rw [hw3]; exact (Below.heap_setCell w2 _ _ g5 ((show isTy 47 w2 g5 from ⟨_, HX2.out⟩).ne ⟨_, HG2.out⟩ (by decide))).trans HX2.out); have HI3 := Aside0.mk (show w3.heap[g11]? = some (.cells #[.string x.f0, .int .i64 x.f1, .int .i64 x.f2, .int .i64 x.f3, .int .i64 x.f4] 63 (0, 0)) by rw [hw3]; exact (Below.heap_setCell w2 _ _ g11 ((show isTy 63 w2 g11 from ⟨_, HI2.out⟩).ne ⟨_, HG2.out⟩ (by decide))).trans HI2.out); have HG3 := HS3.out.hb; have x4 : w3.cell? ⟨g, 4, none⟩ = some V.vd := (blk_cell HS3.out.hb 4).trans rfl; clear hw3 HAP HG2 HX2 HI2 HG3 x2 f2) | ((with_reducible refine gate_builtin (b := .append) (xs := #[.tmp 62, .tmp 63]) rfl ?_); at_builtin; go_loud (refine Kd.R_append (Kd.int .i64) (w0 := w0) (W := w3) w0.heap.size rfl (.tmp 62) (.tmp 63) 35 3 (.int .i64 0) 8 rfl Try.underlying35 info3 rfl (by decide) (by omega) V.vd ((q.take j).map dnX) ((-1) : Int) [.int .i64 (-1)] (fun _ => True) (fun _ => False) rfl (by first | rfl | (go_simp; done) | (simp [World.alloc]; done)) (show Kd.M (Kd.int .i64) _ _ _ (-1) [.int .i64 (-1)] from rfl) (fun _ h => h.elim) (fun _ _ => trivial) HS3.out.d HS3.out.bel HS3.out.bel.size (by have := HQL.out; have := HJ.out; simp; omega) ?_); go_loud (intro v11 w4 ho hb hf hat; obtain ⟨A11, c11, e11⟩ := Kd.R_slice ho; subst e11; have HOW := Aside0.mk HS3.out.d; have HX4 := Aside0.mk (show w4.heap[g5]? = some (.cells #[Value.slice (some adq) q.length cq] 47 (0, 0)) from (hf.block g5 (blk_lt HX3.out) (fun e => (show isTy 47 w3 g5 from ⟨_, HX3.out⟩).ne (own_ty HOW.out e.symm) (by decide) rfl)).trans HX3.out); have HI4 := Aside0.mk (show w4.heap[g11]? = some (.cells #[.string x.f0, .int .i64 x.f1, .int .i64 x.f2, .int .i64 x.f3, .int .i64 x.f4] 63 (0, 0)) from (hf.block g11 (blk_lt HI3.out) (fun e => (show isTy 63 w3 g11 from ⟨_, HI3.out⟩).ne (own_ty HOW.out e.symm) (by decide) rfl)).trans HI3.out); have HG4 := Aside0.mk (show w4.heap[g]? = some (.cells #[.slice V.Ab bk.length V.cb, .slice V.Aq q.length V.cq, (.slice A10 ((List.range j).map Int.ofNat ++ [(j : Int)]).length c10), V.vs, V.vd, .map (some V.gm), V.vr, V.vw] 110 (0, 0)) from (HS3.out.grownInts hf (fun k hk => own_ty HS3.out.d hk) HS3.out.ty (by decide)).trans HS3.out.hb); have x4 : w4.cell? ⟨g, 4, none⟩ = some V.vd := (blk_cell HG4.out 4).trans rfl; have f4 := blk_frozen HG4.out 4; have HAP := Aside0.mk (HS3.out.appDone ho hb hf hat); clear ho hb hf hat HOW HS3 HX3 HI3)) | ((with_reducible refine gate_store (t := 35) (p := 66) rfl ?_); refine store_event (t := 35) (p := 66) (v := .tmp 64) (w1 := w4.setCell ⟨g, 4, none⟩ (.slice A11 ((q.take j).map dnX ++ [-1]).length c11)) ?hg ?ho ?hn ?hr ?_; (case ho => rfl); (case hg => rfl); (case hn => rfl); (case hr => first | (go_simp; done) | (go_simp; rfl)); intro w5 hw5; have HS5 := Aside0.mk (show SndAt w0 w5 g { V with vo := (.slice A10 ((List.range j).map Int.ofNat ++ [(j : Int)]).length c10), vd := (.slice A11 ((q.take j).map dnX ++ [-1]).length c11) } bk q { itS q acc j with ord := (List.range j).map Int.ofNat ++ [(j : Int)], done := (q.take j).map dnX ++ [-1] } by rw [hw5]; exact HAP.out); have HX5 := Aside0.mk (show w5.heap[g5]? = some (.cells #[Value.slice (some adq) q.length cq] 47 (0, 0)) by rw [hw5]; exact (Below.heap_setCell w4 _ _ g5 ((show isTy 47 w4 g5 from ⟨_, HX4.out⟩).ne ⟨_, HG4.out⟩ (by decide))).trans HX4.out); have HI5 := Aside0.mk (show w5.heap[g11]? = some (.cells #[.string x.f0, .int .i64 x.f1, .int .i64 x.f2, .int .i64 x.f3, .int .i64 x.f4] 63 (0, 0)) by rw [hw5]; exact (Below.heap_setCell w4 _ _ g11 ((show isTy 63 w4 g11 from ⟨_, HI4.out⟩).ne ⟨_, HG4.out⟩ (by decide))).trans HI4.out); have z1 : w5.cell? ⟨g11, 1, none⟩ = some (.int .i64 x.f1) := (blk_cell HI5.out 1).trans rfl; clear hw5 HAP HG4 HX4 HI4 x4 f4))
              obtain ⟨gd, cd, ed, _⟩ := Kd.R_form HS5.out.d (by simp)
              have ed2 := ed
              injection ed2 with eA1 eA2 eA3
              subst eA1
              have x4 : w5.cell? ⟨g, 4, none⟩ = some (.slice (some ⟨gd, 0, none⟩) (j + 1) c11) := by have h : w5.cell? ⟨g, 4, none⟩ = some (.slice (some ⟨gd, 0, none⟩) ((q.take j).map dnX ++ [-1]).length c11) := (blk_cell HS5.out.hb 4).trans rfl; have hL : ((q.take j).map dnX ++ [(-1 : Int)]).length = j + 1 := (by simp; omega); rw [hL] at h; exact h
              have z3 : w5.cell? ⟨g11, 3, none⟩ = some (.int .i64 x.f3) := (blk_cell HI5.out 3).trans rfl
              have hlen : (j : Int) < ((j + 1 : Nat) : Int) := by omega
              have hlen2 : (j : Int) < (j : Int) + 1 := by omega
              clear hmin
              go_still_tail 8, (by kernel_rfl)
              change wpList _ _ _ _ _ w5.drew
              obtain ⟨w6, hw6⟩ : ∃ w6, w6 = w5.drew := ⟨_, rfl⟩
              rw [← hw6]
              have HS6 := Aside0.mk (show SndAt w0 w6 g { V with vo := (.slice A10 ((List.range j).map Int.ofNat ++ [(j : Int)]).length c10), vd := (.slice (some ⟨gd, 0, none⟩) ((q.take j).map dnX ++ [-1]).length c11) } bk q { itS q acc j with ord := (List.range j).map Int.ofNat ++ [(j : Int)], done := (q.take j).map dnX ++ [-1] } by rw [hw6]; exact HS5.out.below (below_drew (Below.refl _ _)))
              have HX6 := Aside0.mk (show w6.heap[g5]? = some (.cells #[Value.slice (some adq) q.length cq] 47 (0, 0)) by rw [hw6]; exact blk_drew HX5.out)
              obtain ⟨y6, f6⟩ := last_cell HS6.out.d (show ((q.take j).map dnX).length = j by rw [List.length_map, List.length_take]; omega)
              have hsame : (HX6 = HX6) := rfl
              clear hsame hw6 HS5 HX5 HI5 x4 z3
              go_wp2
              have HSF := Aside0.mk (show SndAt w0 (w6.setCell ⟨gd, j, none⟩ (.int .i64 x.f3)) g { V with vo := (.slice A10 ((List.range j).map Int.ofNat ++ [(j : Int)]).length c10), vd := (.slice (some ⟨gd, 0, none⟩) ((q.take j).map dnX ++ [-1]).length c11) } bk q (itS q acc (j + 1)) by have h := HS6.out.setDone rfl (j : Int) x.f3; rw [Int.toNat_natCast] at h; rw [itS_next hj HXE.out (show dnX x = x.f3 from if_pos HZ.out)]; have e := set_last ((q.take j).map dnX) (-1) x.f3; rw [List.length_map, List.length_take, Nat.min_eq_left (Nat.le_of_lt hj)] at e; rw [← e]; exact h)
              have HX7 := Aside0.mk (show (w6.setCell ⟨gd, j, none⟩ (.int .i64 x.f3)).heap[g5]? = some (.cells #[Value.slice (some adq) q.length cq] 47 (0, 0)) from (Below.heap_setCell w6 ⟨gd, j, none⟩ _ g5 ((show isTy 47 w6 g5 from ⟨_, HX6.out⟩).ne (own_ty HS6.out.d rfl) (by decide))).trans HX6.out)
              go_roundg e
              case measure => omega
              case rel => exact ⟨j + 1, _, (by first | rfl | (rw [hwj]) | (simp [hwj]; done) | (simp; done)), ⟨by have := HKJ.out; omega⟩, HSF, HX7⟩
            · have dz : (x.f1 == 0) = false := beq_eq_false_iff_ne.mpr hz
              have HZ := Aside0.mk hz
              clear hz
              go_wp2_with (first | ((with_reducible refine gate_builtin (b := .append) (xs := #[.tmp 52, .tmp 54]) rfl ?_); at_builtin; go_loud (refine Kd.R_append (Kd.int .i64) (w0 := w0) (W := w1) w0.heap.size rfl (.tmp 52) (.tmp 54) 35 3 (.int .i64 0) 8 rfl Try.underlying35 info3 rfl (by decide) (by omega) V.vo ((List.range j).map Int.ofNat) ((j : Int) : Int) [.int .i64 (j : Int)] (fun _ => True) (fun _ => False) rfl (by first | rfl | (go_simp; done) | (simp [World.alloc]; done)) (show Kd.M (Kd.int .i64) _ _ _ (j : Int) [.int .i64 (j : Int)] from rfl) (fun _ h => h.elim) (fun _ _ => trivial) HS1.out.o HS1.out.bel HS1.out.bel.size (by have := HQL.out; have := HJ.out; simp; omega) ?_); go_loud (intro v10 w2 ho hb hf hat; obtain ⟨A10, c10, e10⟩ := Kd.R_slice ho; subst e10; have HOW := Aside0.mk HS1.out.o; have HX2 := Aside0.mk (show w2.heap[g5]? = some (.cells #[Value.slice (some adq) q.length cq] 47 (0, 0)) from (hf.block g5 (blk_lt HX1.out) (fun e => (show isTy 47 w1 g5 from ⟨_, HX1.out⟩).ne (own_ty HOW.out e.symm) (by decide) rfl)).trans HX1.out); have HI2 := Aside0.mk (show w2.heap[g11]? = some (.cells #[.string x.f0, .int .i64 x.f1, .int .i64 x.f2, .int .i64 x.f3, .int .i64 x.f4] 63 (0, 0)) from (hf.block g11 (blk_lt HI1.out) (fun e => (show isTy 63 w1 g11 from ⟨_, HI1.out⟩).ne (own_ty HOW.out e.symm) (by decide) rfl)).trans HI1.out); have HG2 := Aside0.mk (show w2.heap[g]? = some (.cells #[.slice V.Ab bk.length V.cb, .slice V.Aq q.length V.cq, V.vo, V.vs, V.vd, .map (some V.gm), V.vr, V.vw] 110 (0, 0)) from (HS1.out.grownInts hf (fun k hk => own_ty HS1.out.o hk) HS1.out.ty (by decide)).trans HS1.out.hb); have x2 : w2.cell? ⟨g, 2, none⟩ = some V.vo := (blk_cell HG2.out 2).trans rfl; have f2 := blk_frozen HG2.out 2; have HAP := Aside0.mk (HS1.out.appOrd ho hb hf hat); clear ho hb hf hat HOW HS1 HX1 HI1)) | ((with_reducible refine gate_store (t := 35) (p := 57) rfl ?_); refine store_event (t := 35) (p := 57) (v := .tmp 55) (w1 := w2.setCell ⟨g, 2, none⟩ (.slice A10 ((List.range j).map Int.ofNat ++ [(j : Int)]).length c10)) ?hg ?ho ?hn ?hr ?_; (case ho => rfl); (case hg => rfl); (case hn => rfl); (case hr => first | (go_simp; done) | (go_simp; rfl)); intro w3 hw3; have HS3 := Aside0.mk (show SndAt w0 w3 g { V with vo := (.slice A10 ((List.range j).map Int.ofNat ++ [(j : Int)]).length c10) } bk q { itS q acc j with ord := (List.range j).map Int.ofNat ++ [(j : Int)] } by rw [hw3]; exact HAP.out); have HX3 := Aside0.mk (show w3.heap[g5]? = some (.cells #[Value.slice (some adq) q.length cq] 47 (0, 0)) by rw [hw3]; exact (Below.heap_setCell w2 _ _ g5 ((show isTy 47 w2 g5 from ⟨_, HX2.out⟩).ne ⟨_, HG2.out⟩ (by decide))).trans HX2.out); have HI3 := Aside0.mk (show w3.heap[g11]? = some (.cells #[.string x.f0, .int .i64 x.f1, .int .i64 x.f2, .int .i64 x.f3, .int .i64 x.f4] 63 (0, 0)) by rw [hw3]; exact (Below.heap_setCell w2 _ _ g11 ((show isTy 63 w2 g11 from ⟨_, HI2.out⟩).ne ⟨_, HG2.out⟩ (by decide))).trans HI2.out); have HG3 := HS3.out.hb; have x4 : w3.cell? ⟨g, 4, none⟩ = some V.vd := (blk_cell HS3.out.hb 4).trans rfl; clear hw3 HAP HG2 HX2 HI2 HG3 x2 f2) | ((with_reducible refine gate_builtin (b := .append) (xs := #[.tmp 62, .tmp 63]) rfl ?_); at_builtin; go_loud (refine Kd.R_append (Kd.int .i64) (w0 := w0) (W := w3) w0.heap.size rfl (.tmp 62) (.tmp 63) 35 3 (.int .i64 0) 8 rfl Try.underlying35 info3 rfl (by decide) (by omega) V.vd ((q.take j).map dnX) ((-1) : Int) [.int .i64 (-1)] (fun _ => True) (fun _ => False) rfl (by first | rfl | (go_simp; done) | (simp [World.alloc]; done)) (show Kd.M (Kd.int .i64) _ _ _ (-1) [.int .i64 (-1)] from rfl) (fun _ h => h.elim) (fun _ _ => trivial) HS3.out.d HS3.out.bel HS3.out.bel.size (by have := HQL.out; have := HJ.out; simp; omega) ?_); go_loud (intro v11 w4 ho hb hf hat; obtain ⟨A11, c11, e11⟩ := Kd.R_slice ho; subst e11; have HOW := Aside0.mk HS3.out.d; have HX4 := Aside0.mk (show w4.heap[g5]? = some (.cells #[Value.slice (some adq) q.length cq] 47 (0, 0)) from (hf.block g5 (blk_lt HX3.out) (fun e => (show isTy 47 w3 g5 from ⟨_, HX3.out⟩).ne (own_ty HOW.out e.symm) (by decide) rfl)).trans HX3.out); have HI4 := Aside0.mk (show w4.heap[g11]? = some (.cells #[.string x.f0, .int .i64 x.f1, .int .i64 x.f2, .int .i64 x.f3, .int .i64 x.f4] 63 (0, 0)) from (hf.block g11 (blk_lt HI3.out) (fun e => (show isTy 63 w3 g11 from ⟨_, HI3.out⟩).ne (own_ty HOW.out e.symm) (by decide) rfl)).trans HI3.out); have HG4 := Aside0.mk (show w4.heap[g]? = some (.cells #[.slice V.Ab bk.length V.cb, .slice V.Aq q.length V.cq, (.slice A10 ((List.range j).map Int.ofNat ++ [(j : Int)]).length c10), V.vs, V.vd, .map (some V.gm), V.vr, V.vw] 110 (0, 0)) from (HS3.out.grownInts hf (fun k hk => own_ty HS3.out.d hk) HS3.out.ty (by decide)).trans HS3.out.hb); have x4 : w4.cell? ⟨g, 4, none⟩ = some V.vd := (blk_cell HG4.out 4).trans rfl; have f4 := blk_frozen HG4.out 4; have HAP := Aside0.mk (HS3.out.appDone ho hb hf hat); clear ho hb hf hat HOW HS3 HX3 HI3)) | ((with_reducible refine gate_store (t := 35) (p := 66) rfl ?_); refine store_event (t := 35) (p := 66) (v := .tmp 64) (w1 := w4.setCell ⟨g, 4, none⟩ (.slice A11 ((q.take j).map dnX ++ [-1]).length c11)) ?hg ?ho ?hn ?hr ?_; (case ho => rfl); (case hg => rfl); (case hn => rfl); (case hr => first | (go_simp; done) | (go_simp; rfl)); intro w5 hw5; have HS5 := Aside0.mk (show SndAt w0 w5 g { V with vo := (.slice A10 ((List.range j).map Int.ofNat ++ [(j : Int)]).length c10), vd := (.slice A11 ((q.take j).map dnX ++ [-1]).length c11) } bk q { itS q acc j with ord := (List.range j).map Int.ofNat ++ [(j : Int)], done := (q.take j).map dnX ++ [-1] } by rw [hw5]; exact HAP.out); have HX5 := Aside0.mk (show w5.heap[g5]? = some (.cells #[Value.slice (some adq) q.length cq] 47 (0, 0)) by rw [hw5]; exact (Below.heap_setCell w4 _ _ g5 ((show isTy 47 w4 g5 from ⟨_, HX4.out⟩).ne ⟨_, HG4.out⟩ (by decide))).trans HX4.out); have HI5 := Aside0.mk (show w5.heap[g11]? = some (.cells #[.string x.f0, .int .i64 x.f1, .int .i64 x.f2, .int .i64 x.f3, .int .i64 x.f4] 63 (0, 0)) by rw [hw5]; exact (Below.heap_setCell w4 _ _ g11 ((show isTy 63 w4 g11 from ⟨_, HI4.out⟩).ne ⟨_, HG4.out⟩ (by decide))).trans HI4.out); have z1 : w5.cell? ⟨g11, 1, none⟩ = some (.int .i64 x.f1) := (blk_cell HI5.out 1).trans rfl; clear hw5 HAP HG4 HX4 HI4 x4 f4))
              have HSF := Aside0.mk (show SndAt w0 w5 g { V with vo := (.slice A10 ((List.range j).map Int.ofNat ++ [(j : Int)]).length c10), vd := (.slice A11 ((q.take j).map dnX ++ [-1]).length c11) } bk q (itS q acc (j + 1)) by have h := HS5.out; rw [itS_next hj HXE.out (show dnX x = -1 from if_neg HZ.out)]; exact h)
              go_roundg e
              case measure => omega
              case rel => exact ⟨j + 1, _, (by first | rfl | (rw [hwj]) | (simp [hwj]; done) | (simp; done)), ⟨by have := HKJ.out; omega⟩, HSF, HX5⟩
      | succ d =>
        have hi : i < bk.length := by have := HK.out; omega
        have hi0 : (0 : Int) ≤ (i : Int) := by omega
        have hi1 : (i : Int) < (bk.length : Int) := by omega
        have hd1 : decide ((i : Int) < (bk.length : Int)) = true := decide_eq_true hi1
        have hwi : wrap64 ((i : Int) + 1) = ((i + 1 : Nat) : Int) := by have := HBL.out; unfold wrap64; omega
        have H := HWY.out
        rw [List.drop_eq_getElem_cons hi, waysGo.eq_2] at H
        obtain ⟨b, hbb⟩ : ∃ b, b = bk[i] := ⟨_, rfl⟩
        rw [← hbb] at H
        obtain ⟨⟨b0, b1⟩, H⟩ := guardT H
        obtain ⟨s, hs, H⟩ := Option.bind_eq_some_iff.mp H
        obtain ⟨p, hpe⟩ : ∃ p, p = rd_T33 ps b := ⟨_, rfl⟩
        unfold wayOne at hs
        rw [← hpe] at hs
        have HF := Aside0.mk hs
        have HW2 := Aside0.mk H
        clear hs H HWY
        obtain ⟨adb, eab, xb⟩ := Kd.at_int (Kd.C_below HBK.out HS.out.bel) (i : Int) hi0 hi1
        cases eab
        rw [rd_of hi, ← hbb] at xb
        simp only [Int.toNat_natCast] at xb
        obtain ⟨ad, A3, c3, ep, y0, y1, y2, y3, l3, g3⟩ := at_T33 HP.out b b0 b1
        cases ep
        rw [← hpe] at y0 y1 y2 y3 l3 g3
        clear hbb hpe
        have HY := Aside0.mk (And.intro y0 (And.intro y1 (And.intro y2 y3)))
        have HL3 := Aside0.mk l3
        have HG3 := Aside0.mk g3
        clear y0 y1 y2 y3 l3 g3
        go_wp2
        clear xb
        obtain ⟨Aw, cw, evw⟩ := Kd.R_slice HS.out.wy
        have HEV := Aside0.mk evw
        clear evw
        refine start_ (n := 15) (S := fun w' => w'.heap[g]? = some (.cells #[.slice V.Ab bk.length V.cb, .slice V.Aq q.length V.cq, V.vo, V.vs, V.vd, .map (some V.gm), V.vr, V.vw] 110 (0, 0)) ∧ Below w0.heap.size w0 w') (ds := [14]) #[false, false, false, false, false, false, false, false, false, false, false, false, false, false, false] (by kernel_rfl) rfl rfl ⟨HS.out.hb, (HS.out.below (below_drew (Below.refl _ _))).bel⟩ (fun hHeld => ?_)
        obtain ⟨wd, hwd⟩ : ∃ wd, wd = wr.drew := ⟨_, rfl⟩
        have hwd' : ({ wr with drawn := wr.drawn + 1 } : World) = wd := hwd.symm
        have HSd := Aside0.mk (show SndAt w0 wd g V bk q (wayS q acc) by rw [hwd]; exact HS.out.below (below_drew (Below.refl _ _)))
        have HXd := Aside0.mk (show wd.heap[g5]? = some (.cells #[Value.slice Aq q.length cq] 47 (0, 0)) by rw [hwd]; exact HX.out)
        rw [← hwd] at hHeld ⊢
        clear HS HX hwd'
        refine pure_ (i := 0) (N := some 26) (v := ?_) (a' := ?_) #[true, false, false, false, false, false, false, false, false, false, false, false, false, false, false] rfl rfl (by kernel_rfl) (fun _ _ _ h => h) (Or.inl ⟨by rfl, ?_⟩) ?_ ?_
        rotate_left
        · intro w'
          go_simp
          with_reducible rfl
        rotate_left
        · simp only [Act.put, List.setIfInBounds_toArray, List.set_cons_zero, List.set_cons_succ, i64_w, i32_w]
          rfl
        refine pure_ (i := 1) (N := some 27) (v := ?_) (a' := ?_) #[true, true, false, false, false, false, false, false, false, false, false, false, false, false, false] rfl rfl (by kernel_rfl) (fun _ _ _ h => h) (Or.inl ⟨by rfl, ?_⟩) ?_ ?_
        rotate_left
        · intro w'
          go_simp
          with_reducible rfl
        rotate_left
        · simp only [Act.put, List.setIfInBounds_toArray, List.set_cons_zero, List.set_cons_succ, i64_w, i32_w]
          rfl
        refine pure_ (i := 2) (N := some 28) (v := ?_) (a' := ?_) #[true, true, true, false, false, false, false, false, false, false, false, false, false, false, false] rfl rfl (by kernel_rfl) (fun _ _ _ h => h) (Or.inl ⟨by rfl, ?_⟩) ?_ ?_
        rotate_left
        · intro w'
          go_simp
          with_reducible rfl
        rotate_left
        · simp only [Act.put, List.setIfInBounds_toArray, List.set_cons_zero, List.set_cons_succ, i64_w, i32_w]
          rfl
        refine pure_ (i := 3) (N := some 29) (v := ?_) (a' := ?_) #[true, true, true, true, false, false, false, false, false, false, false, false, false, false, false] rfl rfl (by kernel_rfl) (fun _ _ _ h => h) (Or.inl ⟨by rfl, ?_⟩) ?_ ?_
        rotate_left
        · intro w'
          go_simp
          with_reducible rfl
        rotate_left
        · simp only [Act.put, List.setIfInBounds_toArray, List.set_cons_zero, List.set_cons_succ, i64_w, i32_w]
          rfl
        refine take_ (i := 4) (N := some 30) (v := .slice Aw V.raws.length cw) (a' := ?_) #[true, true, true, true, true, false, false, false, false, false, false, false, false, false, false] rfl rfl (by kernel_rfl) (fun _ _ _ h => h) (Or.inl ⟨by rfl, ?_⟩) hHeld ?_ ?_
        · rintro w' ⟨sb, sB⟩
          have x7 : w'.cell? ⟨g, 7, none⟩ = some V.vw := (blk_cell sb 7).trans rfl
          rw [HEV.out] at x7
          go_simp
          all_goals (first | done | with_reducible rfl)
        rotate_left
        · simp only [Act.put, List.setIfInBounds_toArray, List.set_cons_zero, List.set_cons_succ, i64_w, i32_w]
          rfl
        refine pure_ (i := 5) (N := some 31) (v := ?_) (a' := ?_) #[true, true, true, true, true, true, false, false, false, false, false, false, false, false, false] rfl rfl (by kernel_rfl) (fun _ _ _ h => h) (Or.inl ⟨by rfl, ?_⟩) ?_ ?_
        rotate_left
        · intro w'
          go_simp
          with_reducible rfl
        rotate_left
        · simp only [Act.put, List.setIfInBounds_toArray, List.set_cons_zero, List.set_cons_succ, i64_w, i32_w]
          rfl
        refine pure_ (i := 6) (N := some 32) (v := ?_) (a' := ?_) #[true, true, true, true, true, true, true, false, false, false, false, false, false, false, false] rfl rfl (by kernel_rfl) (fun _ _ _ h => h) (Or.inl ⟨by rfl, ?_⟩) ?_ ?_
        rotate_left
        · intro w'
          go_simp
          with_reducible rfl
        rotate_left
        · simp only [Act.put, List.setIfInBounds_toArray, List.set_cons_zero, List.set_cons_succ, i64_w, i32_w]
          rfl
        refine pure_ (i := 7) (N := some 33) (v := ?_) (a' := ?_) #[true, true, true, true, true, true, true, true, false, false, false, false, false, false, false] rfl rfl (by kernel_rfl) (fun _ _ _ h => h) (Or.inl ⟨by rfl, ?_⟩) ?_ ?_
        rotate_left
        · intro w'
          go_simp
          with_reducible rfl
        rotate_left
        · simp only [Act.put, List.setIfInBounds_toArray, List.set_cons_zero, List.set_cons_succ, i64_w, i32_w]
          rfl
        refine take_ (i := 8) (N := some 34) (v := .agg #[.string p.f0, .int .i64 p.f1, .int .i64 p.f2, .slice A3 p.f3.length c3]) (a' := ?_) #[true, true, true, true, true, true, true, true, true, false, false, false, false, false, false] rfl rfl (by kernel_rfl) (fun _ _ _ h => h) (Or.inl ⟨by rfl, ?_⟩) hHeld ?_ ?_
        · rintro w' ⟨sb, sB⟩
          have y0 := (sB.cell (World.block_lt_of_cell? w0 _ HY.out.1)).trans HY.out.1
          have y1 := (sB.cell (World.block_lt_of_cell? w0 _ HY.out.2.1)).trans HY.out.2.1
          have y2 := (sB.cell (World.block_lt_of_cell? w0 _ HY.out.2.2.1)).trans HY.out.2.2.1
          have y3 := (sB.cell (World.block_lt_of_cell? w0 _ HY.out.2.2.2)).trans HY.out.2.2.2
          go_simp
          all_goals (first | done | with_reducible rfl)
        rotate_left
        · simp only [Act.put, List.setIfInBounds_toArray, List.set_cons_zero, List.set_cons_succ, i64_w, i32_w]
          rfl
        refine one_ (i := 9) (N := some 35) #[true, true, true, true, true, true, true, true, true, true, false, false, false, false, false] rfl rfl (by kernel_rfl) (by decide) (fun K hK => ?_)
        refine goes_ Try.func45 (by kernel_rfl) rfl #[.agg #[.string p.f0, .int .i64 p.f1, .int .i64 p.f2, .slice A3 p.f3.length c3]] (by rfl) rfl rfl (by (try simp only [List.map_toArray, List.map_cons, List.map_nil]); rfl) ?_
        refine (contact_stretches.calls k p.f0 p.f1 p.f2 A3 c3 p.f3 s wd (Kd.C_below HG3.out HSd.out.bel) HL3.out HF.out).mono ?_
        rintro e w1 ⟨v0, rfl, hr1, hb1⟩
        obtain ⟨A1, c1, e1⟩ := Kd.R_slice hr1
        subst e1
        have HF1 := Aside0.mk (stF_of_own hr1)
        have HC1 := Aside0.mk (Kd.R_reads' hr1).2.1
        have HS1 := Aside0.mk (HSd.out.below hb1)
        have HX1 := Aside0.mk (blk_below HXd.out hb1)
        clear hr1 hb1 HSd HXd hHeld
        refine ⟨_, rfl, ?_⟩
        refine hK.out _ _ ⟨HS1.out.hb, HS1.out.bel⟩ (fun hHeld => ?_)
        clear hK K
        refine norm_ (a' := ?_) ?_ ?_
        rotate_left
        · show Act.put _ (some 35) _ = _
          simp only [Act.put, List.setIfInBounds_toArray, List.set_cons_zero, List.set_cons_succ, i64_w, i32_w]
          rfl
        refine one_ (i := 10) (N := some 36) #[true, true, true, true, true, true, true, true, true, true, true, false, false, false, false] rfl rfl (by kernel_rfl) (by decide) (fun K hK => ?_)
        refine event_step (v := .slice (some ⟨w1.heap.size, 0, none⟩) 1 1) (w1 := w1.alloc (.cells [Value.slice A1 s.length c1].toArray 78)) (by rfl) ?hr ?_
        (case hr => first | (go_simp; done) | (go_simp; rfl))
        refine hK.out _ _ ⟨(HS1.out.below (below_alloc (Below.refl _ _) _)).hb, (HS1.out.below (below_alloc (Below.refl _ _) _)).bel⟩ (fun hHeld => ?_)
        clear hK K
        refine norm_ (a' := ?_) ?_ ?_
        rotate_left
        · show Act.put _ (some 36) _ = _
          simp only [Act.put, List.setIfInBounds_toArray, List.set_cons_zero, List.set_cons_succ, i64_w, i32_w]
          rfl
        refine one_ (i := 11) (N := some 37) #[true, true, true, true, true, true, true, true, true, true, true, true, false, false, false] rfl rfl (by kernel_rfl) (by decide) (fun K hK => ?_)
        refine Kd.R_append_step (Kd.raw 1) (w0 := w0) (W := w1) w0.heap.size (by rfl) (.tmp 30) (.tmp 36) 108 78 (.slice none 0 0) 24 rfl Try.underlying108 wayInfo rfl (by decide) (by omega) V.vw V.raws [.slice A1 s.length c1] [.slice A1 s.length c1] (fun _ => True) (fun _ => False) (by rw [HEV.out]; rfl) rfl ⟨rfl, rfl, fun u hu => by have := List.mem_singleton.mp hu; subst this; rfl⟩ (fun _ h => h.elim) (fun _ _ => trivial) HS1.out.wy HS1.out.bel HS1.out.bel.size (by have := HBL.out; have e1 := HS1.out.wl; have e2 := HAL.out; rw [e1]; show (acc.length + 1) * 24 ≤ _; omega) ?_
        intro va wa ho hb hg_ _
        obtain ⟨Aa, ca, ea⟩ := Kd.R_slice ho
        subst ea
        have HBa := Aside0.mk (show wa.heap[g]? = some (.cells #[.slice V.Ab bk.length V.cb, .slice V.Aq q.length V.cq, V.vo, V.vs, V.vd, .map (some V.gm), V.vr, V.vw] 110 (0, 0)) from (hg_.block g HS1.out.ty.lt (fun e => HS1.out.ty.ne (own_ty HS1.out.wy e.symm) (by decide) rfl)).trans HS1.out.hb)
        have HXa := Aside0.mk (show wa.heap[g5]? = some (.cells #[Value.slice Aq q.length cq] 47 (0, 0)) from (hg_.block g5 (blk_lt HX1.out) (fun e => (show isTy 47 w1 g5 from ⟨_, HX1.out⟩).ne (own_ty HS1.out.wy e.symm) (by decide) rfl)).trans HX1.out)
        have HOa := Aside0.mk ho
        have HGa := Aside0.mk hg_
        have HBB := Aside0.mk hb
        clear ho hb hg_ hHeld
        have fz7 : wa.frozen? ⟨g, 7, none⟩ = false := blk_frozen HBa.out 7
        have x7 : wa.cell? ⟨g, 7, none⟩ = some V.vw := (blk_cell HBa.out 7).trans rfl
        refine hK.out _ _ ⟨HBa.out, HBB.out⟩ (fun hHeld => ?_)
        clear hK K
        refine norm_ (a' := ?_) ?_ ?_
        rotate_left
        · show Act.put _ (some 37) _ = _
          simp only [Act.put, List.setIfInBounds_toArray, List.set_cons_zero, List.set_cons_succ, i64_w, i32_w]
          rfl
        refine pure_ (i := 12) (N := some 38) (v := ?_) (a' := ?_) #[true, true, true, true, true, true, true, true, true, true, true, true, true, false, false] rfl rfl (by kernel_rfl) (fun _ _ _ h => h) (Or.inl ⟨by rfl, ?_⟩) ?_ ?_
        rotate_left
        · intro w'
          go_simp
          with_reducible rfl
        rotate_left
        · simp only [Act.put, List.setIfInBounds_toArray, List.set_cons_zero, List.set_cons_succ, i64_w, i32_w]
          rfl
        refine pure_ (i := 13) (N := some 39) (v := ?_) (a' := ?_) #[true, true, true, true, true, true, true, true, true, true, true, true, true, true, false] rfl rfl (by kernel_rfl) (fun _ _ _ h => h) (Or.inl ⟨by rfl, ?_⟩) ?_ ?_
        rotate_left
        · intro w'
          go_simp
          with_reducible rfl
        rotate_left
        · simp only [Act.put, List.setIfInBounds_toArray, List.set_cons_zero, List.set_cons_succ, i64_w, i32_w]
          rfl
        refine last_ (i := 14) (N := none) #[true, true, true, true, true, true, true, true, true, true, true, true, true, true, true] rfl rfl (by kernel_rfl) (by decide) (fun K hK => ?_)
        refine snd_store_step (w1 := wa.setCell ⟨g, 7, none⟩ (.slice Aa (V.raws ++ [[Value.slice A1 s.length c1]]).length ca)) (by rfl) rfl ?hr ?_
        (case hr => first | (go_simp; done) | (go_simp; rfl))
        refine hK.out _ _ ?_
        clear hK K
        refine norm_ (a' := ?_) ?_ ?_
        rotate_left
        · show Act.put _ none undef = _
          simp only [Act.put]
          rfl
        refine done_ (by kernel_rfl) ?_
        have hq5 := HS1.out.appWay HC1.out HF1.out HOa.out HBB.out HGa.out
        obtain ⟨w5, hw5⟩ : ∃ w5, w5 = wa.setCell ⟨g, 7, none⟩ (.slice Aa (V.raws ++ [[Value.slice A1 s.length c1]]).length ca) := ⟨_, rfl⟩
        have HX5 := Aside0.mk (show w5.heap[g5]? = some (.cells #[Value.slice Aq q.length cq] 47 (0, 0)) by rw [hw5]; exact (Below.heap_setCell wa ⟨g, 7, none⟩ _ g5 ((show isTy 47 w1 g5 from ⟨_, HX1.out⟩).ne HS1.out.ty (by decide))).trans HXa.out)
        rw [← hw5] at hq5 ⊢
        have HS5 := Aside0.mk hq5
        clear hq5 hw5 HBa HOa HGa HBB fz7 x7 HF1 HC1 HS1 HX1 HXa hHeld
        go_wp2
        go_roundg d
        case measure => omega
        case rel => exact ⟨i + 1, acc ++ [s], _, (by first | rfl | (rw [hwi]) | (simp [hwi]; done) | (simp; done)), ⟨by have := HK.out; omega⟩, HW2, ⟨by rw [List.length_append, HAL.out]; rfl⟩, HS5, HX5⟩
def slices_Sort_int_int.f (l0 : List Int) : Option (List Int) := if l0.length < 4611686018427387904 then some (l0.mergeSort fun x y => decide (x ≤ y)) else none
open Go.Sort in
theorem slices_Sort_int_int.calls (P0_ : Nat → Prop) (u9000_ : Value) (l0 : List Int) (r : List Int) (w0 w : World) (hB : Below w0.heap.size w0 w) (ho0 : Kd.R (Kd.int .i64) 3 w w0.heap.size P0_ u9000_ l0) (h : slices_Sort_int_int.f l0 = some r) :
 Calls Try.prog 101 #[u9000_] w fun e w' => e = .returned (.tuple #[]) ∧ Kd.R (Kd.int .i64) 3 w' w0.heap.size (fun k_ => (P0_ k_ ∨ w.heap.size ≤ k_)) u9000_ r ∧ Below w0.heap.size w0 w' ∧ Kept w w' (fun k_ => P0_ k_) := by
 unfold slices_Sort_int_int.f at h
 split at h
 · rename_i hl
   obtain rfl := Option.some.inj h
   have ho := Kd.own_of_R ho0
   rcases ho.2 with ⟨hv, hn⟩ | ⟨g, cap, cur, hv, hbase, hb, h1, h2, h3, h4⟩
   · subst hv
     obtain rfl : l0 = [] := List.eq_nil_of_length_eq_zero hn
     refine (Try.slices_Sort_int_none none 0 w).mono ?_
     rintro e w' ⟨rfl, rfl⟩
     exact ⟨rfl, by rw [List.mergeSort_nil]; exact Kd.R_nil _ _ _ _ _, hB, Kept.refl _ _⟩
   · subst hv
     have hp : P0_ g := ho0.1 g rfl
     have hperm := List.mergeSort_perm l0 (fun x y => decide (x ≤ y))
     refine (Try.slices_Sort_int g 0 cap l0 w (holds_of_blockI hb (by rw [Nat.mul_one] at h4; exact h4)) (blk_lt hb) hl).mono ?_
     rintro e w' ⟨rfl, n, os, rfl⟩
     have hg := grownBy_sortedI (w := w) (g := g) (n := n) (os := os) (l0.mergeSort fun x y => decide (x ≤ y)).toArray
     have hown := ownsRow_sortedI (n := n) (os := os) hperm.length_eq hbase hb h1 h2 h3
     refine ⟨rfl, Kd.R_of_own (by rw [hperm.length_eq]; exact hown) (fun k hk => .inl ((show g = k from by simpa [Value.ownBlock] using hk) ▸ hp)), pw_below_grown hB _ hB.size hg (fun j hj => by cases hj; exact hbase), ⟨hg.size, fun i hi hn => hg.block i hi (fun e => hn ((show g = i from by simpa using e.symm) ▸ hp))⟩⟩
 · cases h
theorem slices_Compact_int_int.short (l : List Int) : (Lib.compact l).length ≤ l.length := by
  unfold Lib.compact Lib.compactUpTo
  rw [List.length_map]
  exact Nat.le_trans (List.length_filter_le _ _) (by rw [List.length_range]; exact Nat.le_refl _)
def slices_Compact_int_int.f (l0 : List Int) : Option (List Int) := some (Lib.compact l0)
open Go.Sort in
theorem slices_Compact_int_int.calls (P0_ : Nat → Prop) (u9000_ : Value) (l0 : List Int) (r : List Int) (w0 w : World) (hB : Below w0.heap.size w0 w) (ho0 : Kd.R (Kd.int .i64) 3 w w0.heap.size P0_ u9000_ l0) (h : slices_Compact_int_int.f l0 = some r) :
 Calls Try.prog 102 #[u9000_] w fun e w' => ∃ v0_ : Value, e = .returned (v0_) ∧ Kd.R (Kd.int .i64) 3 w' w0.heap.size (fun k_ => (P0_ k_ ∨ w.heap.size ≤ k_)) v0_ r ∧ Below w0.heap.size w0 w' ∧ Kept w w' (fun k_ => P0_ k_) := by
 obtain rfl := Option.some.inj h
 have ho := Kd.own_of_R ho0
 rcases ho.2 with ⟨hv, hn⟩ | ⟨g, cap, cur, hv, hbase, hb, h1, h2, h3, h4⟩
 · subst hv
   obtain rfl : l0 = [] := List.eq_nil_of_length_eq_zero hn
   refine (Try.slices_Compact_int_empty none 0 w).mono ?_
   rintro e w' ⟨rfl, rfl⟩
   exact ⟨_, rfl, Kd.R_nil _ _ _ _ _, hB, Kept.refl _ _⟩
 · subst hv
   have hp : P0_ g := ho0.1 g rfl
   have hs := slices_Compact_int_int.short l0
   have hmax : l0.length ≤ 9223372036854775807 := by have := h2; unfold maxLen at this; omega
   refine (Try.slices_Compact_int g 0 cap l0 w (holds_of_blockI hb (by rw [Nat.mul_one] at h4; exact h4)) hmax h1).mono ?_
   rintro e w' ⟨rfl, n, rfl⟩
   have hlen : (Lib.compact l0 ++ List.replicate (l0.length - (Lib.compact l0).length) 0).length = l0.length := by rw [List.length_append, List.length_replicate]; omega
   have hg := grownBy_sortedI (w := w) (g := g) (n := n) (os := #[]) (Lib.compact l0 ++ List.replicate (l0.length - (Lib.compact l0).length) 0).toArray
   have hown := ownsRow_sortedI (n := n) (os := #[]) hlen hbase hb h1 h2 h3
   rw [Sort.grow_empty] at hg hown
   have hR : Kd.R (Kd.int .i64) 3 (putRow (Value.int .i64) (Sort.ahead w n) g 0 (Lib.compact l0 ++ List.replicate (l0.length - (Lib.compact l0).length) 0).toArray) w0.heap.size (fun k_ => (P0_ k_ ∨ w.heap.size ≤ k_)) (.slice (some ⟨g, 0, none⟩) (Lib.compact l0 ++ List.replicate (l0.length - (Lib.compact l0).length) (0 : Int)).length cap) (Lib.compact l0 ++ List.replicate (l0.length - (Lib.compact l0).length) 0) :=
    Kd.R_of_own (by rw [hlen]; exact hown) (fun k hk => .inl ((show g = k from by simpa [Value.ownBlock] using hk) ▸ hp))
   have hT := Kd.R_take (m := (Lib.compact l0).length) hR (by rw [hlen]; exact hs)
   rw [List.take_left] at hT
   refine ⟨_, rfl, hT, pw_below_grown hB _ hB.size hg (fun j hj => by cases hj; exact hbase), ⟨hg.size, fun i hi hn => hg.block i hi (fun e => hn ((show g = i from by simpa using e.symm) ▸ hp))⟩⟩
end Go.Proofs.Ytbngmblgkkdhpaa.Q
