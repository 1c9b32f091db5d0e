-- Made by wip/tools/claimp.py of this session's texts; Lean checks it.
import Derived.Test.YtbngmblgkkdhpaaC10Q0
import Derived.Test.YtbngmblgkkdhpaaC10Gs1
import Derived.Test.YtbngmblgkkdhpaaC10Gs14
import Derived.Test.YtbngmblgkkdhpaaC10Gs2
import Derived.Test.YtbngmblgkkdhpaaC10Gs3
import Derived.Test.YtbngmblgkkdhpaaC10Gs13
import Derived.Test.YtbngmblgkkdhpaaC10Gs5
import Derived.Test.YtbngmblgkkdhpaaC10Gs6
import Derived.Test.YtbngmblgkkdhpaaC10Gs7
import Derived.Test.YtbngmblgkkdhpaaC10Gs8
namespace Go.Proofs.Ytbngmblgkkdhpaa.Q
open Go.RowKit Go.Proofs.YtbngmblgkkdhpaaW.PrintWords Go.Proofs.YtbngmblgkkdhpaaW.PrintLast Go.Proofs.YtbngmblgkkdhpaaW.PrintMore
attribute [local go_sem] max2_int min2_int max_two min_two max_three min_three max_four min_four
open Go.Proofs.Ytbngmblgkkdhpaa.Base
attribute [local go_sem high] str_leq str_gtr str_geq
set_option linter.unusedVariables false
set_option linter.unusedSimpArgs false
def cmpRow (x y : SRow) : Int := if x.p.f2 = y.p.f2 then (if x.p.f1 = y.p.f1 then wrap64 (x.n - y.n) else wrap64 (x.p.f1 - y.p.f1)) else wrap64 (x.p.f2 - y.p.f2)
set_option maxHeartbeats 4000000 in
set_option maxRecDepth 100000 in
open Go.Sort in
theorem cmpRow_calls (x y : SRow) (W : World) : Calls Try.prog 95 #[.agg #[.string x.p.f0, .int .i64 x.p.f1, .int .i64 x.p.f2, .int .i64 x.p.f3, .int .i64 x.p.f4, .int .i64 x.n], .agg #[.string y.p.f0, .int .i64 y.p.f1, .int .i64 y.p.f2, .int .i64 y.p.f3, .int .i64 y.p.f4, .int .i64 y.n]] W fun e w' => e = .returned (.int .i64 (cmpRow x y)) ∧ ∃ n os, w' = grow (W.drewN n) os := by
  obtain ⟨r, hr⟩ : ∃ r, r = cmpRow x y := ⟨_, rfl⟩
  rw [← hr]
  unfold cmpRow at hr
  have HR := Aside0.mk hr
  clear hr
  by_cases c1 : x.p.f2 = y.p.f2
  · have d1 : (x.p.f2 == y.p.f2) = true := beq_iff_eq.mpr c1
    have H1 := Aside0.mk (HR.out.trans (if_pos c1))
    clear c1 HR
    by_cases c2 : x.p.f1 = y.p.f1
    · have d2 : (x.p.f1 == y.p.f1) = true := beq_iff_eq.mpr c2
      have H2 := Aside0.mk (H1.out.trans (if_pos c2))
      clear c2 H1
      go_enter Try.func95, Try.ntmps95
      go_wp2
      go_ret
      exact ⟨by rw [H2.out]; rfl, 0, #[_, _], by simp only [alloc_eq_grow, grow_grow]; rfl⟩
    · have d2 : (x.p.f1 == y.p.f1) = false := beq_eq_false_iff_ne.mpr c2
      have H2 := Aside0.mk (H1.out.trans (if_neg c2))
      clear c2 H1
      go_enter Try.func95, Try.ntmps95
      go_wp2
      go_ret
      exact ⟨by rw [H2.out]; rfl, 0, #[_, _], by simp only [alloc_eq_grow, grow_grow]; rfl⟩
  · have d1 : (x.p.f2 == y.p.f2) = false := beq_eq_false_iff_ne.mpr c1
    have H1 := Aside0.mk (HR.out.trans (if_neg c1))
    clear c1 HR
    go_enter Try.func95, Try.ntmps95
    go_wp2
    go_ret
    exact ⟨by rw [H1.out]; rfl, 0, #[_, _], by simp only [alloc_eq_grow, grow_grow]; rfl⟩
def rowsX (l : List SRow) : List SRow := l.mergeSort fun x y => !decide (cmpRow y x < 0)
/-- The order of the rows parts whatever two that are not one. -/
structure RowOK (l : List SRow) : Prop where
  trans : ∀ x ∈ l, ∀ y ∈ l, ∀ z ∈ l, cmpRow x y < 0 → cmpRow y z < 0 → cmpRow x z < 0
  ntrans : ∀ x ∈ l, ∀ y ∈ l, ∀ z ∈ l, ¬ cmpRow x y < 0 → ¬ cmpRow y z < 0 → ¬ cmpRow x z < 0
  irrefl : ∀ x ∈ l, ¬ cmpRow x x < 0
  total : ∀ x ∈ l, ∀ y ∈ l, ¬ cmpRow x y < 0 → ¬ cmpRow y x < 0 → x = y
noncomputable instance (l : List SRow) : Decidable (RowOK l) := Classical.propDecidable _
instance : Inhabited SRow := ⟨zRow⟩
section
variable {w0 W W1 : World} {g : Nat} {V : SV} {bk : List Int} {q : List S63} {st : SX}
theorem SndAt.sortRows (h : SndAt w0 W g V bk q st) {xs1 : List SRow} (hr : kRow.R 130 W1 w0.heap.size (fun _ => True) V.vr xs1) (hf : W.grownBy W1 V.vr.ownBlock) (hl : st.rows.length ≤ xs1.length) : SndAt w0 W1 g V bk q { st with rows := xs1 } := by
  have hty : ∀ k, V.vr.ownBlock = some k → isTy 130 W k := fun k hk => own_ty h.r hk
  have other : ∀ {t k}, isTy t W k → t ≠ 130 → W1.heap[k]? = W.heap[k]? := fun {t k} hk ht => hf.block k hk.lt (fun e => hk.ne (hty k e.symm) ht rfl)
  exact ⟨(other h.ty (by decide)).trans h.hb, h.hg, h.bkC, h.bkc, h.qC, h.qc, pw_below_grown h.bel _ h.bel.size hf (fun k e => Kd.R_base h.r k e), flat_move rfl h.o (fun k hk => other (own_ty h.o hk) (by decide)), flat_move rfl h.s (fun k hk => other (own_ty h.s hk) (by decide)), flat_move rfl h.d (fun k hk => other (own_ty h.d hk) (by decide)), h.os, h.od, h.sd,
    h.m.kept hf (fun e => h.mTy (hty _ e.symm) rfl), h.mg, hr, flat_move rfl h.wy (fun k hk => other (own_ty h.wy hk) (by decide)), h.wl, ways_move h.ws (fun k hk => other hk (by decide)), Nat.le_trans h.mnl hl⟩
theorem rowCells_len (x : SRow) : (rowCells x).length = 6 := rfl
open Go.Sort Go.RowKit in
theorem flat_get (l : List SRow) (t : Nat) (h : t < l.length * 6) : (flatK rowCells 6 l.toArray).toList[t]? = (rowCells (rowAt l (t / 6)))[t % 6]? := by
  have hs : t < (flatK rowCells 6 l.toArray).size := by rw [size_flatK]; simpa using h
  have h6 : t / 6 < l.length := by omega
  rw [Array.getElem?_toList, Array.getElem?_eq_getElem hs, ← getElem!_pos (flatK rowCells 6 l.toArray) t hs, get_flatK _ _ _ _ (by simpa using h)]
  have e : l.toArray[t / 6]! = rowAt l (t / 6) := by
    rw [getElem!_pos l.toArray (t / 6) (by simpa using h6)]
    unfold rowAt
    rw [List.getD_eq_getElem?_getD, List.getElem?_eq_getElem h6]
    simp
  rw [e]
  have hm : t % 6 < (rowCells (rowAt l (t / 6))).length := by rw [rowCells_len]; omega
  rw [getElem!_pos (rowCells (rowAt l (t / 6))) (t % 6) hm, List.getElem?_eq_getElem hm]
open Go.Sort Go.RowKit in
theorem reps_flat {W : World} {base : Nat} {ok : Nat → Prop} {l : List SRow} {inner : List Value} (h : Reps (kRow.M W base ok) 6 l inner) : inner = (flatK rowCells 6 l.toArray).toList := by
  obtain ⟨hl, hj⟩ := h
  apply List.ext_getElem?
  intro t
  by_cases ht : t < l.length * 6
  · rw [flat_get l t ht]
    have h6 : t / 6 < l.length := by omega
    have e := kRow_openM (hj (t / 6) (rowAt l (t / 6)) (by unfold rowAt; rw [List.getD_eq_getElem?_getD, List.getElem?_eq_getElem h6]; rfl))
    have e2 : (inner.drop (t / 6 * 6)).take 6 = rowCells (rowAt l (t / 6)) := e
    rw [← e2, List.getElem?_take_of_lt (by omega), List.getElem?_drop]
    congr 1
    omega
  · rw [List.getElem?_eq_none (by omega), List.getElem?_eq_none (by rw [Array.length_toList, size_flatK]; simp; omega)]
open Go.Sort Go.RowKit in
theorem flat_reps (W : World) (base : Nat) (ok : Nat → Prop) (l : List SRow) : Reps (kRow.M W base ok) 6 l (flatK rowCells 6 l.toArray).toList := by
  refine ⟨by rw [Array.length_toList, size_flatK]; simp, fun j p hp => ?_⟩
  have hj : j < l.length := by
    rcases Nat.lt_or_ge j l.length with h | h
    · exact h
    · rw [List.getElem?_eq_none h] at hp; cases hp
  have hpe : rowAt l j = p := by unfold rowAt; rw [List.getD_eq_getElem?_getD, hp]; rfl
  have e : ((flatK rowCells 6 l.toArray).toList.drop (j * 6)).take 6 = rowCells p := by
    apply List.ext_getElem?
    intro t
    by_cases ht : t < 6
    · rw [List.getElem?_take_of_lt ht, List.getElem?_drop, flat_get l _ (by omega), show (j * 6 + t) / 6 = j by omega, show (j * 6 + t) % 6 = t by omega, hpe]
    · rw [List.getElem?_eq_none (by rw [List.length_take]; omega), List.getElem?_eq_none (by rw [rowCells_len]; omega)]
  rw [e]
  exact kRow_mkM _ _ _ _
open Go.Sort in
theorem holds_of_blockK {w : World} {k : Nat} {cur : Array Value} {e : TypeId} {F : Array Value} (hb : w.heap[k]? = some (.cells cur e (0, 0))) (ht : cur.toList.take F.size = F.toList) : Holds id w k 0 F := by
  intro j hj
  refine ⟨?_, by simp [World.frozen?, hb]⟩
  have h1 : (cur.toList.take F.size)[j]? = F.toList[j]? := by rw [ht]
  rw [List.getElem?_take_of_lt hj] at h1
  simp only [World.cell?, hb, Nat.zero_add]
  simp only [Option.isSome_none, Bool.false_eq_true, if_false]
  rw [← Array.getElem?_toList, h1]
  simp [hj]
open Go.Sort in
theorem heap_sortedK {w : World} {k n : Nat} {os : Array Obj} {cur : Array Value} {e : TypeId} {fr : Nat × Nat} (F : Array Value) (hb : w.heap[k]? = some (.cells cur e fr)) : (grow (putRow id (Sort.ahead w n) k 0 F) os).heap[k]? = some (.cells (putCells id 0 F cur) e fr) := by
  have hg : k < w.heap.size := (Array.getElem?_eq_some_iff.1 hb).1
  rw [heap_grow_old _ _ (by simpa using hg)]
  simp [putRow, mapBlock, Sort.ahead, Array.getElem?_modify, hb, onCells]
open Go.Sort in
theorem grownBy_sortedK {w : World} {k n : Nat} {os : Array Obj} (F : Array Value) : w.grownBy (grow (putRow id (Sort.ahead w n) k 0 F) os) (some k) := by
  refine ⟨rfl, rfl, rfl, by simp, fun j hj hne => ?_⟩
  rw [heap_grow_old _ _ (by simpa using hj)]
  have : k ≠ j := fun e => hne (by rw [e])
  simp [putRow, mapBlock, Sort.ahead, Array.getElem?_modify, this]
open Go.Sort in
theorem take_putCellsK (cur F : Array Value) (h : F.size ≤ cur.size) : (putCells id 0 F cur).toList.take F.size = F.toList := by
  apply List.ext_getElem?
  intro j
  by_cases hj : j < F.size
  · rw [List.getElem?_take_of_lt hj, Array.getElem?_toList]
    simp [putCells, hj, show j < cur.size by omega]
  · rw [List.getElem?_take_eq_none (by omega), List.getElem?_eq_none (by simp; omega)]
set_option maxHeartbeats 2000000 in
open Go.Sort Go.RowKit in
theorem sortRows_calls (h : SndAt w0 W g V bk q st) (hl : st.rows.length ≤ 1000000000) (hO : RowOK st.rows) :
    Calls Try.prog 94 #[V.vr, .func (.func 95) #[] #[]] W fun e w' => e = .returned (.tuple #[]) ∧ SndAt w0 w' g V bk q { st with rows := rowsX st.rows } := by
  obtain ⟨hok, inner, hown, hrep⟩ := h.r
  have hin := reps_flat hrep
  have none_ : ∀ (A : Option Addr) (c : Nat), st.rows = [] → Calls Try.prog 94 #[.slice A 0 c, .func (.func 95) #[] #[]] W fun e w' => e = .returned (.tuple #[]) ∧ SndAt w0 w' g V bk q { st with rows := rowsX st.rows } := fun A c hr0 => by
    refine (Try.slices_SortFunc_row_none (α := SRow) A c _ W).mono ?_
    rintro e w' ⟨rfl, rfl⟩
    have e1 : ({ st with rows := rowsX st.rows } : SX) = st := by
      have : rowsX st.rows = st.rows := by rw [hr0]; unfold rowsX; rw [List.mergeSort_nil]
      rw [this]
    rw [e1]
    exact ⟨rfl, h⟩
  rcases hown.2 with ⟨hv, hn⟩ | ⟨go, cap, cur, hv, hbase, hb, h1, h2, h3, h4⟩
  · rw [hv]
    exact none_ _ _ (List.eq_nil_of_length_eq_zero hn)
  · rw [hv]
    by_cases hne : st.rows.length = 0
    · rw [hne]
      exact none_ _ _ (List.eq_nil_of_length_eq_zero hne)
    · let α := { x : SRow // x ∈ st.rows }
      have hm0 : st.rows[0]'(by omega) ∈ st.rows := List.getElem_mem _
      have iα : Inhabited α := ⟨⟨_, hm0⟩⟩
      have hfl : ∀ dk : Array α, flatK (fun x : α => rowCells x.1) 6 dk = flatK rowCells 6 (dk.map (·.1)) := fun dk => by
        apply Array.ext (by rw [size_flatK, size_flatK, Array.size_map])
        intro i hi1 hi2
        rw [size_flatK] at hi1
        have h6 : i / 6 < dk.size := by omega
        rw [← getElem!_pos (flatK (fun x : α => rowCells x.1) 6 dk) i (by rw [size_flatK]; exact hi1), ← getElem!_pos (flatK rowCells 6 (dk.map (·.1))) i hi2, get_flatK _ _ _ _ hi1, get_flatK _ _ _ _ (by rw [Array.size_map]; exact hi1),
          getElem!_pos dk (i / 6) h6, getElem!_pos (dk.map (·.1)) (i / 6) (by rw [Array.size_map]; exact h6), Array.getElem_map]
      have hf : ∀ (m : Nat) (dk : Array α) (os : Array Obj), sortWorldK (fun x : α => rowCells x.1) 6 W go 0 m dk os = grow (putRow id (Sort.ahead W m) go 0 (flatK rowCells 6 (dk.map (·.1)))) os := fun m dk os => by unfold sortWorldK putRowK; rw [hfl]
      have hsz : st.rows.attach.toArray.size = st.rows.length := by simp
      have hmap : st.rows.attach.toArray.map (·.1) = st.rows.toArray := by simp
      have hvo : V.vr.ownBlock = some go := by rw [hv]; rfl
      have hlt : ∀ (x y : α), (ltOf fun x y : α => cmpRow x.1 y.1) x y = decide (cmpRow x.1 y.1 < 0) := fun _ _ => rfl
      have hcmp : CmpLays Try.prog 95 #[] (fun x : α => rowCells x.1) 6 (fun x y : α => cmpRow x.1 y.1) go 0 st.rows.attach.toArray.size W := fun m os dk hs x y => cmpRow_calls x.1 y.1 _
      have hswo : SWO (ltOf fun x y : α => cmpRow x.1 y.1) := ⟨fun x => by rw [hlt]; exact decide_eq_false (hO.irrefl x.1 x.2), fun x y z h1 h2 => by rw [hlt] at *; exact decide_eq_true (hO.trans x.1 x.2 y.1 y.2 z.1 z.2 (of_decide_eq_true h1) (of_decide_eq_true h2)), fun x y z h1 h2 => by rw [hlt] at *; exact decide_eq_false (hO.ntrans x.1 x.2 y.1 y.2 z.1 z.2 (of_decide_eq_false h1) (of_decide_eq_false h2))⟩
      have hH : HoldsK (fun x : α => rowCells x.1) 6 W go 0 st.rows.attach.toArray := by
        unfold HoldsK
        rw [hfl, hmap]
        exact holds_of_blockK hb (by rw [size_flatK, ← hin, ← h4]; simp; rfl)
      have hcon := Try.slices_SortFunc_row (fun x : α => rowCells x.1) (fun _ => rfl) (fun x v hv => by simp [rowCells] at hv; rcases hv with rfl | rfl | rfl | rfl | rfl | rfl <;> rfl) (fun x y : α => cmpRow x.1 y.1) hswo 95 #[] go 0 cap st.rows.attach.toArray W (enters_of Try.func95 (by kernel_rfl) rfl) hcmp hH (blk_lt hb) (by rw [hsz]; omega)
        (fun x y h1 h2 => by rw [hlt] at *; exact Subtype.ext (hO.total x.1 x.2 y.1 y.2 (of_decide_eq_false h1) (of_decide_eq_false h2)))
      rw [hsz] at hcon
      refine hcon.mono ?_
      rintro e w' ⟨rfl, n, os, rfl⟩
      rw [hf]
      have hmm : (st.rows.attach.toArray.toList.mergeSort fun x y => !(ltOf fun x y : α => cmpRow x.1 y.1) y x).toArray.map (·.1) = (rowsX st.rows).toArray := by
        have e1 := List.map_mergeSort (r := fun x y : α => !(ltOf fun x y : α => cmpRow x.1 y.1) y x) (s := fun x y : SRow => !decide (cmpRow y x < 0)) (f := fun x : α => x.1) (l := st.rows.attach) (fun _ _ _ _ => rfl)
        rw [show st.rows.attach.map (fun x : α => x.1) = st.rows by simp [α]] at e1
        unfold rowsX
        rw [← e1]
        exact List.map_toArray
      rw [hmm]
      have hperm : (rowsX st.rows).length = st.rows.length := (List.mergeSort_perm _ _).length_eq
      have hg := grownBy_sortedK (w := W) (k := go) (n := n) (os := os) (flatK rowCells 6 (rowsX st.rows).toArray)
      refine ⟨rfl, h.sortRows ?_ (by rw [hvo]; exact hg) (by rw [hperm]; exact Nat.le_refl _)⟩
      refine ⟨hok, (flatK rowCells 6 (rowsX st.rows).toArray).toList, ⟨?_, .inr ⟨go, cap, _, by rw [hv, hperm], hbase, heap_sortedK _ hb, by rw [hperm]; exact h1, h2, by simp [putCells]; exact h3, ?_⟩⟩, flat_reps _ _ _ _⟩
      · rw [Array.length_toList, size_flatK]; simp; rfl
      · have h3' : cur.size = cap * 6 := h3
        have e := take_putCellsK cur (flatK rowCells 6 (rowsX st.rows).toArray) (by rw [size_flatK]; simp; omega)
        rw [size_flatK] at e
        have e2 : (rowsX st.rows).toArray.size * 6 = (rowsX st.rows).length * kRow.sz := by simp; rfl
        rw [e2] at e
        exact e
end
/-- The parts, in order. -/
def partsX (rows : List SRow) : List S61 := (rowsX rows).map (·.p)
theorem partInfo : (Try.prog.info? 61).map (fun i => (i.zero, i.size, i.bytes)) = some (some (.agg #[.string ⟨#[]⟩, .int .i64 0, .int .i64 0, .int .i64 0, .int .i64 0]), 5, 48) := by kernel_rfl
set_option maxHeartbeats 8000000 in
set_option maxRecDepth 100000 in
theorem parts_calls {w0 W : World} {g : Nat} {V : SV} {bk : List Int} {q : List S63} {st : SX} (h : SndAt w0 W g V bk q st) (hl : st.rows.length ≤ 1000000000) (hO : RowOK st.rows) :
    Calls Try.prog 73 #[.pointer (some ⟨g, 0, none⟩)] W fun e w' => ∃ v : Value, e = .returned v ∧ Kd.R k61 61 w' w0.heap.size (fun _ => True) v (partsX st.rows) ∧ Below w0.heap.size w0 w' := by
  have HS := Aside0.mk h
  have HL := Aside0.mk hl
  have HO := Aside0.mk hO
  have x6 : W.cell? ⟨g, 6, none⟩ = some V.vr := (blk_cell h.hb 6).trans rfl
  have HLR := Aside0.mk (show (rowsX st.rows).length = st.rows.length from (List.mergeSort_perm _ _).length_eq)
  obtain ⟨Ar, cr, er⟩ := Kd.R_slice h.r
  have HER := Aside0.mk er
  clear h hl hO er
  obtain ⟨l, hll⟩ : ∃ l, l = rowsX st.rows := ⟨_, rfl⟩
  have HLL := Aside0.mk hll
  clear hll
  go_enter Try.func73, Try.ntmps73
  go_upto_region 3 with (first | (go_at_call 94; go_loud (refine (sortRows_calls HS.out HL.out HO.out).mono ?_); rintro e w1 ⟨rfl, hs1⟩; rw [← HLL.out] at hs1; have HS1 := Aside0.mk hs1; clear hs1 HS x6))
  have x6 : w1.cell? ⟨g, 6, none⟩ = some (.slice Ar l.length cr) := by have a := (blk_cell HS1.out.hb 6).trans rfl; rw [HLL.out, HLR.out]; rw [← HER.out]; exact a
  go_wp2
  clear x6
  go_loopg [3, 16] l.length (fun kq v3 v16 w' => ∃ (i : Nat) (acc : List S61), v16 = .int .i64 (i : Int) ∧ Aside0 (kq + i = l.length) ∧ Aside0 (acc = (l.take i).map (·.p)) ∧ Aside0 (Kd.R k61 61 w' w0.heap.size (fun _ => True) v3 acc) ∧ Aside0 (SndAt w0 w' g V bk q { st with rows := l }))
  case atStart => exact ⟨0, [], rfl, ⟨rfl⟩, ⟨rfl⟩, ⟨Kd.R_nil _ _ _ _ _⟩, HS1⟩
  case round =>
    clear HS1
    obtain ⟨i, acc, rfl, HK, HA, HR, HS1⟩ := hrel
    obtain ⟨A3, c3, e3⟩ := Kd.R_slice HR.out
    subst e3
    cases gk with
    | zero =>
      have hi : i = l.length := by have := HK.out; omega
      subst hi
      have HF := Aside0.mk (show acc = partsX st.rows by rw [HA.out, List.take_length, HLL.out]; rfl)
      clear HK HA
      go_wp2
      go_ret
      exact ⟨_, rfl, by rw [← HF.out]; exact HR.out, HS1.out.bel⟩
    | succ d =>
      have hi : i < l.length := by have := HK.out; omega
      have hi0 : (0 : Int) ≤ (i : Int) := by omega
      have hi1 : (i : Int) < (l.length : Int) := by omega
      have hd1 : decide ((i : Int) < (l.length : Int)) = true := decide_eq_true hi1
      have hwi : wrap64 ((i : Int) + 1) = ((i + 1 : Nat) : Int) := by have := HL.out; have := HLR.out; rw [← HLL.out] at this; unfold wrap64; omega
      obtain ⟨x, hx⟩ : ∃ x, x = rowAt l i := ⟨_, rfl⟩
      obtain ⟨gr, c, ev, _, hrow, _⟩ := HS1.out.row hi
      have ev2 : Ar = some ⟨gr, 0, none⟩ := by have := HER.out.symm.trans ev; injection this
      subst ev2
      rw [show rowAt ({ st with rows := l } : SX).rows i = x from hx.symm] at hrow
      have y0 : wr.cell? ⟨gr, i * 6, none⟩ = some (.string x.p.f0) := hrow 0 _ rfl
      have y1 : wr.cell? ⟨gr, i * 6 + 1, none⟩ = some (.int .i64 x.p.f1) := hrow 1 _ rfl
      have y2 : wr.cell? ⟨gr, i * 6 + 2, none⟩ = some (.int .i64 x.p.f2) := hrow 2 _ rfl
      have y3 : wr.cell? ⟨gr, i * 6 + 3, none⟩ = some (.int .i64 x.p.f3) := hrow 3 _ rfl
      have y4 : wr.cell? ⟨gr, i * 6 + 4, none⟩ = some (.int .i64 x.p.f4) := hrow 4 _ rfl
      have y5 : wr.cell? ⟨gr, i * 6 + 5, none⟩ = some (.int .i64 x.n) := hrow 5 _ rfl
      have ea : (⟨gr, 0, none⟩ : Addr).add (i * 6) = ⟨gr, i * 6, none⟩ := add_plain _ _
      have HA2 := Aside0.mk (show acc ++ [x.p] = (l.take (i + 1)).map (·.p) by rw [HA.out, List.take_succ_eq_append_getElem hi, List.map_append, hx]; unfold rowAt; rw [List.getD_eq_getElem?_getD, List.getElem?_eq_getElem hi]; rfl)
      have HAL := Aside0.mk (show acc.length ≤ 1000000000 by rw [HA.out, List.length_map, List.length_take]; have := HL.out; have := HLR.out; rw [← HLL.out] at this; omega)
      clear hrow ev hx HA
      go_upto_region 6 with (fail)
      obtain ⟨g5, hg5⟩ : ∃ g5, g5 = wr.heap.size := ⟨_, rfl⟩
      obtain ⟨w1, hw1⟩ : ∃ w1, w1 = wr.alloc (.cells #[.string x.p.f0, .int .i64 x.p.f1, .int .i64 x.p.f2, .int .i64 x.p.f3, .int .i64 x.p.f4, .int .i64 x.n] 130) := ⟨_, rfl⟩
      rw [← hw1, ← hg5]
      have HR1 := Aside0.mk (show Kd.R k61 61 w1 w0.heap.size (fun _ => True) (.slice A3 acc.length c3) acc by rw [hw1]; exact Kd.R_below HR.out (below_alloc (Below.refl _ _) _))
      have HS2 := Aside0.mk (show SndAt w0 w1 g V bk q { st with rows := l } by rw [hw1]; exact HS1.out.below (below_alloc (Below.refl _ _) _))
      have BK := Aside0.mk (show w1.heap[g5]? = some (.cells #[.string x.p.f0, .int .i64 x.p.f1, .int .i64 x.p.f2, .int .i64 x.p.f3, .int .i64 x.p.f4, .int .i64 x.n] 130 (0, 0)) by rw [hw1, hg5]; exact heap_alloc_new wr _)
      clear hw1 hg5 y0 y1 y2 y3 y4 y5 ea HR HS1
      have z0 : w1.cell? ⟨g5, 0, none⟩ = some (.string x.p.f0) := (blk_cell BK.out 0).trans rfl
      have z1 : w1.cell? ⟨g5, 1, none⟩ = some (.int .i64 x.p.f1) := (blk_cell BK.out 1).trans rfl
      have z2 : w1.cell? ⟨g5, 2, none⟩ = some (.int .i64 x.p.f2) := (blk_cell BK.out 2).trans rfl
      have z3 : w1.cell? ⟨g5, 3, none⟩ = some (.int .i64 x.p.f3) := (blk_cell BK.out 3).trans rfl
      have z4 : w1.cell? ⟨g5, 4, none⟩ = some (.int .i64 x.p.f4) := (blk_cell BK.out 4).trans rfl
      go_wp2_with (first | ((with_reducible refine gate_builtin (b := .append) (xs := #[.tmp 20, .tmp 23]) rfl ?_); at_builtin; go_loud (refine Kd.R_append k61 (w0 := w0) (W := w1) w0.heap.size rfl (.tmp 20) (.tmp 23) 54 61 (.agg #[.string ⟨#[]⟩, .int .i64 0, .int .i64 0, .int .i64 0, .int .i64 0]) 48 rfl Try.underlying54 partInfo rfl (by decide) (by omega) (.slice A3 acc.length c3) acc x.p [.string x.p.f0, .int .i64 x.p.f1, .int .i64 x.p.f2, .int .i64 x.p.f3, .int .i64 x.p.f4] (fun _ => True) (fun _ => False) rfl (by first | rfl | (go_simp; done) | (simp [World.alloc]; done)) (k61_mkM _ _ _ _) (fun _ h => h.elim) (fun _ _ => trivial) HR1.out HS2.out.bel HS2.out.bel.size (by have := HAL.out; omega) ?_); go_loud (intro v3b w3 ho hb hf hat; have HR3 := Aside0.mk ho; have HS3 := Aside0.mk (show SndAt w0 w3 g V bk q { st with rows := l } from HS2.out.grown hf hb (fun k hk => ⟨61, own_ty HR1.out hk, by decide, by decide, by decide, by decide, by decide⟩)); clear ho hb hf hat)))
      go_roundg d
      case measure => omega
      case rel => exact ⟨i + 1, acc ++ [x.p], (by first | rfl | (rw [hwi]) | (simp [hwi]; done) | (simp; done)), ⟨by have := HK.out; omega⟩, HA2, HR3, HS3⟩
/-- A row goes ahead of another one. -/
def kLt (x y : SRow) : Prop := x.p.f2 < y.p.f2 ∨ x.p.f2 = y.p.f2 ∧ (x.p.f1 < y.p.f1 ∨ x.p.f1 = y.p.f1 ∧ x.n < y.n)
instance (x y : SRow) : Decidable (kLt x y) := by unfold kLt; infer_instance
structure SmallRow (x : SRow) : Prop where
  frm : 0 ≤ x.p.f2 ∧ x.p.f2 ≤ 1000000000000
  pass : 0 ≤ x.p.f1 ∧ x.p.f1 ≤ 1000000
  num : 0 ≤ x.n ∧ x.n ≤ 1000000000
theorem sw64 {x : Int} (h1 : -9223372036854775808 ≤ x) (h2 : x ≤ 9223372036854775807) : wrap64 x = x := by unfold wrap64; omega
theorem cmpRow_lt {x y : SRow} (hx : SmallRow x) (hy : SmallRow y) : cmpRow x y < 0 ↔ kLt x y := by
  have a1 := hx.frm; have a2 := hx.pass; have a3 := hx.num
  have b1 := hy.frm; have b2 := hy.pass; have b3 := hy.num
  unfold cmpRow kLt
  by_cases c1 : x.p.f2 = y.p.f2
  · rw [if_pos c1]
    by_cases c2 : x.p.f1 = y.p.f1
    · rw [if_pos c2, sw64 (by omega) (by omega)]
      omega
    · rw [if_neg c2, sw64 (by omega) (by omega)]
      omega
  · rw [if_neg c1, sw64 (by omega) (by omega)]
    omega
theorem kLt_trans {x y z : SRow} (h : kLt x y) (k : kLt y z) : kLt x z := by
  unfold kLt at *
  omega
theorem kLt_irrefl {x : SRow} : ¬ kLt x x := by
  unfold kLt
  omega
theorem rows_ok {l : List SRow} (hs : ∀ x ∈ l, SmallRow x) (hu : ∀ x ∈ l, ∀ y ∈ l, x.n = y.n → x = y) : RowOK l := by
  refine ⟨fun x hx y hy z hz => ?_, fun x hx y hy z hz => ?_, fun x hx => ?_, fun x hx y hy h1 h2 => ?_⟩
  · rw [cmpRow_lt (hs x hx) (hs y hy), cmpRow_lt (hs y hy) (hs z hz), cmpRow_lt (hs x hx) (hs z hz)]
    exact kLt_trans
  · rw [cmpRow_lt (hs x hx) (hs y hy), cmpRow_lt (hs y hy) (hs z hz), cmpRow_lt (hs x hx) (hs z hz)]
    unfold kLt
    omega
  · rw [cmpRow_lt (hs x hx) (hs x hx)]
    exact kLt_irrefl
  · rw [cmpRow_lt (hs x hx) (hs y hy)] at h1
    rw [cmpRow_lt (hs y hy) (hs x hx)] at h2
    refine hu x hx y hy ?_
    unfold kLt at h1 h2
    omega
/-- The rows have their numbers, and are small. -/
def rowGood (l : List SRow) (i : Nat) : Prop := (rowAt l i).n = (i : Int) ∧ (0 ≤ (rowAt l i).p.f2 ∧ (rowAt l i).p.f2 ≤ 1000000000000) ∧ (0 ≤ (rowAt l i).p.f1 ∧ (rowAt l i).p.f1 ≤ 1000000)
instance (l : List SRow) (i : Nat) : Decidable (rowGood l i) := by unfold rowGood; infer_instance
def rowsGood (l : List SRow) : Prop := l.length ≤ 1000000000 ∧ ∀ i, i < l.length → rowGood l i
instance (l : List SRow) : Decidable (rowsGood l) := by unfold rowsGood; infer_instance
theorem rowsGood.few {l : List SRow} (h : rowsGood l) : l.length ≤ 1000000000 := h.1
theorem rowsGood.small {l : List SRow} (h : rowsGood l) : ∀ x ∈ l, SmallRow x := fun x hx => by
  obtain ⟨i, hi, rfl⟩ := List.mem_iff_getElem.1 hx
  have hl := h.1
  obtain ⟨h1, h2, h3⟩ := h.2 i hi
  have e : rowAt l i = l[i] := by unfold rowAt; rw [List.getD_eq_getElem?_getD, List.getElem?_eq_getElem hi]; rfl
  rw [e] at h1 h2 h3
  exact ⟨h2, h3, by omega⟩
theorem rowsGood.nums {l : List SRow} (h : rowsGood l) : l.Pairwise (fun x y => x.n < y.n) := List.pairwise_iff_getElem.2 fun i j hi hj hij => by
  have h1 := (h.2 i hi).1
  have h2 := (h.2 j hj).1
  have e1 : rowAt l i = l[i] := by unfold rowAt; rw [List.getD_eq_getElem?_getD, List.getElem?_eq_getElem hi]; rfl
  have e2 : rowAt l j = l[j] := by unfold rowAt; rw [List.getD_eq_getElem?_getD, List.getElem?_eq_getElem hj]; rfl
  rw [e1] at h1
  rw [e2] at h2
  omega
theorem rowsGood.ok {l : List SRow} (h : rowsGood l) : RowOK l := rows_ok h.small fun x hx y hy e => by
  obtain ⟨i, hi, rfl⟩ := List.mem_iff_getElem.1 hx
  obtain ⟨j, hj, rfl⟩ := List.mem_iff_getElem.1 hy
  rcases Nat.lt_trichotomy i j with hl | hl | hl
  · have := List.pairwise_iff_getElem.1 h.nums i j hi hj hl
    omega
  · subst hl; rfl
  · have := List.pairwise_iff_getElem.1 h.nums j i hj hi hl
    omega
def contact_Send.f (k : Nat) (l0 : List S33) (l1 : List Int) (l2 : List S63) : Option (List S61 × Int) :=
  (sendingX k l0 l1 l2 1000000000000).bind fun p => match p with
    | (c, none) => some ([], c)
    | (_, some r) => if rowsGood r.rows then (if 30000 < (r.rows.length : Int) then some ([], 2) else some (partsX r.rows, 0)) else none
set_option maxHeartbeats 4000000 in
set_option maxRecDepth 100000 in
theorem contact_Send.calls (k : Nat) (A0 : Option Addr) (c0 : Nat) (l0 : List S33) (A1 : Option Addr) (c1 : Nat) (l1 : List Int) (A2 : Option Addr) (c2 : Nat) (l2 : List S63) (r1 : List S61) (r2 : Int) (w : World) (hr0 : Kd.C k33 w A0 l0.length l0) (hc0 : l0.length ≤ c0) (hr1 : Kd.C (Kd.int .i64) w A1 l1.length l1) (hc1 : l1.length ≤ c1) (hr2 : Kd.C k63 w A2 l2.length l2) (hc2 : l2.length ≤ c2) (h : contact_Send.f k l0 l1 l2 = some (r1, r2)) :
 Calls Try.prog 35 #[.slice A0 l0.length c0, .slice A1 l1.length c1, .slice A2 l2.length c2] w fun e w' => ∃ v0_ : Value, e = .returned (.tuple #[v0_, .int .i64 r2]) ∧ Kd.R k61 61 w' w.heap.size (fun _ => True) v0_ r1 ∧ Below w.heap.size w w' := by
 unfold contact_Send.f at h
 obtain ⟨⟨c, p⟩, h1, h⟩ := Option.bind_eq_some_iff.mp h
 have HR0 := Aside0.mk hr0
 have HR1 := Aside0.mk hr1
 have HR2 := Aside0.mk hr2
 have H1 := Aside0.mk h1
 clear hr0 hr1 hr2 h1
 cases p with
 | none =>
  have h := Option.some.inj h
  injection h with ha hb
  subst ha hb
  have hcn : c ≠ 0 := by
   have := H1.out
   exact sendingX_none this
  have d : (c != 0) = true := by simpa using hcn
  clear hcn
  go_enter Try.func35, Try.ntmps35
  go_wp2_with (first
   | (go_at_call 64; go_loud (with_reducible refine (sending_calls 1000000000000 k (c, none) (Below.refl _ _) HR0.out hc0 HR1.out hc1 HR2.out hc2 H1.out).mono ?_); rintro e w1 hs; obtain ⟨_, rfl, hb1⟩ := (show c ≠ 0 ∧ e = .returned (.tuple #[.pointer none, .int .i64 c]) ∧ Below w.heap.size w w1 from hs); have HB1 := Aside0.mk hb1; clear hb1 hs))
  go_ret2
  exact ⟨_, rfl, Kd.R_nil _ _ _ _ _, HB1.out⟩
 | some r =>
  by_cases hk : rowsGood r.rows
  · have h : (if rowsGood r.rows then (if 30000 < (r.rows.length : Int) then some (([] : List S61), (2 : Int)) else some (partsX r.rows, 0)) else none) = some (r1, r2) := h
    rw [if_pos hk] at h
    have HK := Aside0.mk hk
    clear hk
    by_cases hl : 30000 < (r.rows.length : Int)
    · rw [if_pos hl] at h
      have h := Option.some.inj h
      injection h with ha hb
      subst ha hb
      have hd : decide (30000 < (r.rows.length : Int)) = true := decide_eq_true hl
      have hd2 : decide ((r.rows.length : Int) > 30000) = true := decide_eq_true hl
      clear hl
      go_enter Try.func35, Try.ntmps35
      go_upto_region 4 with (first
       | (go_at_call 64; go_loud (with_reducible refine (sending_calls 1000000000000 k (c, some r) (Below.refl _ _) HR0.out hc0 HR1.out hc1 HR2.out hc2 H1.out).mono ?_); rintro e w1 hs; obtain ⟨_, g, V, rfl, h3⟩ := (show c = 0 ∧ ∃ g V, e = .returned (.tuple #[.pointer (some ⟨g, 0, none⟩), .int .i64 0]) ∧ SndAt w w1 g V l1 l2 r from hs); have H3 := Aside0.mk h3; clear h3 hs))
      obtain ⟨Ar, cr, er, x6⟩ := H3.out.c6
      clear er
      go_wp2
      go_ret2
      exact ⟨_, rfl, Kd.R_nil _ _ _ _ _, H3.out.bel⟩
    · rw [if_neg hl] at h
      have h := Option.some.inj h
      injection h with ha hb
      subst ha hb
      have hd : decide (30000 < (r.rows.length : Int)) = false := decide_eq_false hl
      have hd2 : decide ((r.rows.length : Int) > 30000) = false := decide_eq_false hl
      clear hl
      go_enter Try.func35, Try.ntmps35
      go_upto_region 4 with (first
       | (go_at_call 64; go_loud (with_reducible refine (sending_calls 1000000000000 k (c, some r) (Below.refl _ _) HR0.out hc0 HR1.out hc1 HR2.out hc2 H1.out).mono ?_); rintro e w1 hs; obtain ⟨_, g, V, rfl, h3⟩ := (show c = 0 ∧ ∃ g V, e = .returned (.tuple #[.pointer (some ⟨g, 0, none⟩), .int .i64 0]) ∧ SndAt w w1 g V l1 l2 r from hs); have H3 := Aside0.mk h3; clear h3 hs))
      obtain ⟨Ar, cr, er, x6⟩ := H3.out.c6
      clear er
      go_wp2_with (first
       | (go_at_call 73; go_loud (with_reducible refine (parts_calls H3.out (rowsGood.few HK.out) (rowsGood.ok HK.out)).mono ?_); rintro e w2 ⟨v, rfl, hv, hb2⟩; have HV := Aside0.mk hv; have HB2 := Aside0.mk hb2; clear hv hb2))
      go_ret2
      exact ⟨v, rfl, HV.out, HB2.out⟩
  · have h : (if rowsGood r.rows then (if 30000 < (r.rows.length : Int) then some (([] : List S61), (2 : Int)) else some (partsX r.rows, 0)) else none) = some (r1, r2) := h
    rw [if_neg hk] at h
    cases h
/-- What became of an item. -/
def sentOf (q : List S63) (sent done : List Int) (i : Nat) : S65 := ⟨(rd_T63 q (i : Int)).f0, rd sent (i : Int), rd done (i : Int)⟩
def sentsOf (q : List S63) (sent done : List Int) (n : Nat) : List S65 := (List.range n).map (sentOf q sent done)
theorem sentsOf_len (q : List S63) (sent done : List Int) (n : Nat) : (sentsOf q sent done n).length = n := by unfold sentsOf; rw [List.length_map, List.length_range]
theorem sentsOf_succ (q : List S63) (sent done : List Int) (n : Nat) : sentsOf q sent done (n + 1) = sentsOf q sent done n ++ [sentOf q sent done n] := by unfold sentsOf; rw [List.range_succ, List.map_append]; rfl
theorem next_eq {d i n : Nat} (h : d + 1 + i = n) : d + (i + 1) = n := by omega
theorem sentInfo : (Try.prog.info? 65).map (fun i => (i.zero, i.size, i.bytes)) = some (some (.agg #[.string ⟨#[]⟩, .int .i64 0, .int .i64 0]), 3, 32) := by kernel_rfl
def contact_Result.f (k : Nat) (l0 : List S33) (l1 : List Int) (l2 : List S63) : Option (List S65 × Int) :=
  (sendingX k l0 l1 l2 1000000000000).bind fun p => match p with
    | (c, none) => some ([], c)
    | (_, some r) => if (r.sent.length = l2.length ∧ r.done.length = l2.length) ∧ l2.length ≤ 1000000 then some (sentsOf l2 r.sent r.done l2.length, 0) else none
set_option maxHeartbeats 4000000 in
set_option maxRecDepth 100000 in
theorem contact_Result.calls (k : Nat) (A0 : Option Addr) (c0 : Nat) (l0 : List S33) (A1 : Option Addr) (c1 : Nat) (l1 : List Int) (A2 : Option Addr) (c2 : Nat) (l2 : List S63) (r1 : List S65) (r2 : Int) (w : World) (hr0 : Kd.C k33 w A0 l0.length l0) (hc0 : l0.length ≤ c0) (hr1 : Kd.C (Kd.int .i64) w A1 l1.length l1) (hc1 : l1.length ≤ c1) (hr2 : Kd.C k63 w A2 l2.length l2) (hc2 : l2.length ≤ c2) (h : contact_Result.f k l0 l1 l2 = some (r1, r2)) :
 Calls Try.prog 36 #[.slice A0 l0.length c0, .slice A1 l1.length c1, .slice A2 l2.length c2] w fun e w' => ∃ v0_ : Value, e = .returned (.tuple #[v0_, .int .i64 r2]) ∧ Kd.R k65 65 w' w.heap.size (fun _ => True) v0_ r1 ∧ Below w.heap.size w w' := by
 unfold contact_Result.f at h
 obtain ⟨⟨c, p⟩, h1, h⟩ := Option.bind_eq_some_iff.mp h
 have HR0 := Aside0.mk hr0
 have HR1 := Aside0.mk hr1
 have HR2 := Aside0.mk hr2
 have H1 := Aside0.mk h1
 clear hr0 hr1 hr2 h1
 cases p with
 | none =>
  have h := Option.some.inj h
  injection h with ha hb
  subst ha hb
  have hcn : c ≠ 0 := by
   have := H1.out
   exact sendingX_none this
  have d : (c != 0) = true := by simpa using hcn
  clear hcn
  go_enter Try.func36, Try.ntmps36
  go_wp2_with (first
   | (go_at_call 64; go_loud (with_reducible refine (sending_calls 1000000000000 k (c, none) (Below.refl _ _) HR0.out hc0 HR1.out hc1 HR2.out hc2 H1.out).mono ?_); rintro e w1 hs; obtain ⟨_, rfl, hb1⟩ := (show c ≠ 0 ∧ e = .returned (.tuple #[.pointer none, .int .i64 c]) ∧ Below w.heap.size w w1 from hs); have HB1 := Aside0.mk hb1; clear hb1 hs))
  go_ret2
  exact ⟨_, rfl, Kd.R_nil _ _ _ _ _, HB1.out⟩
 | some r =>
  by_cases hk : (r.sent.length = l2.length ∧ r.done.length = l2.length) ∧ l2.length ≤ 1000000
  · have h : (if (r.sent.length = l2.length ∧ r.done.length = l2.length) ∧ l2.length ≤ 1000000 then some (sentsOf l2 r.sent r.done l2.length, (0 : Int)) else none) = some (r1, r2) := h
    rw [if_pos hk] at h
    have h := Option.some.inj h
    injection h with ha hb
    subst ha hb
    have HK := Aside0.mk hk
    clear hk
    go_enter Try.func36, Try.ntmps36
    go_wp2_with (first
     | (go_at_call 64; go_loud (with_reducible refine (sending_calls 1000000000000 k (c, some r) (Below.refl _ _) HR0.out hc0 HR1.out hc1 HR2.out hc2 H1.out).mono ?_); rintro e w1 hs; obtain ⟨_, g, V, rfl, h3⟩ := (show c = 0 ∧ ∃ g V, e = .returned (.tuple #[.pointer (some ⟨g, 0, none⟩), .int .i64 0]) ∧ SndAt w w1 g V l1 l2 r from hs); have H3 := Aside0.mk h3; clear h3 hs))
    go_loopg [10, 25] l2.length (fun kq v10 v25 w' => ∃ (i : Nat) (acc : List S65), v25 = .int .i64 (i : Int) ∧ Aside0 (kq + i = l2.length) ∧ Aside0 (acc = sentsOf l2 r.sent r.done i) ∧ Aside0 (Kd.R k65 65 w' w1.heap.size (fun _ => True) v10 acc) ∧ Aside0 (Below w1.heap.size w1 w'))
    case atStart => exact ⟨0, [], rfl, ⟨rfl⟩, ⟨rfl⟩, ⟨Kd.R_nil _ _ _ _ _⟩, ⟨Below.refl _ _⟩⟩
    case round =>
     obtain ⟨i, acc, rfl, HKi, HA, HR, HB⟩ := hrel
     obtain ⟨A3, c3, e3⟩ := Kd.R_slice HR.out
     subst e3
     cases gk with
     | zero =>
      have hi : i = l2.length := by have := HKi.out; omega
      subst hi
      have HF := Aside0.mk HA.out
      clear HKi HA
      go_wp2
      go_ret2
      exact ⟨_, rfl, by rw [← HF.out]; exact Kd.R_lower HR.out H3.out.bel.size, below_step H3.out.bel HB.out⟩
     | succ d =>
      have hi : i < l2.length := by have := HKi.out; omega
      have hi0 : (0 : Int) ≤ (i : Int) := by omega
      have hi1 : (i : Int) < (l2.length : Int) := by omega
      have his : (i : Int) < (r.sent.length : Int) := by rw [HK.out.1.1]; exact hi1
      have hid : (i : Int) < (r.done.length : Int) := by rw [HK.out.1.2]; exact hi1
      have hd1 : decide ((i : Int) < (l2.length : Int)) = true := decide_eq_true hi1
      have hwi : wrap64 ((i : Int) + 1) = ((i + 1 : Nat) : Int) := by have := HK.out.2; unfold wrap64; omega
      have hb0 := H3.out.below HB.out
      obtain ⟨adq, eq, y0, y1, y2, y3, y4⟩ := at_T63 (Kd.C_below HR2.out hb0.bel) (i : Int) hi0 hi1
      subst eq
      obtain ⟨x, hx⟩ : ∃ x, x = rd_T63 l2 (i : Int) := ⟨_, rfl⟩
      rw [← hx] at y0 y1 y2 y3 y4
      simp only [Int.toNat_natCast] at y0 y1 y2 y3 y4
      obtain ⟨sv, hsv⟩ : ∃ sv, sv = rd r.sent (i : Int) := ⟨_, rfl⟩
      obtain ⟨dn, hdn⟩ : ∃ dn, dn = rd r.done (i : Int) := ⟨_, rfl⟩
      have hst : acc ++ [(⟨x.f0, sv, dn⟩ : S65)] = sentsOf l2 r.sent r.done (i + 1) := by rw [sentsOf_succ, ← HA.out, hx, hsv, hdn]; rfl
      have HST := Aside0.mk hst
      have HSV := Aside0.mk hsv
      have HDN := Aside0.mk hdn
      have HAL := Aside0.mk (show acc.length ≤ 1000000 by rw [HA.out, sentsOf_len]; exact Nat.le_trans (Nat.le_of_lt hi) HK.out.2)
      clear hx hb0 hst hsv hdn HA
      go_upto_region 8 with (fail)
      obtain ⟨g5, hg5⟩ : ∃ g5, g5 = wr.heap.size := ⟨_, rfl⟩
      obtain ⟨w5, hw5⟩ : ∃ w5, w5 = wr.alloc (.cells #[.string x.f0, .int .i64 x.f1, .int .i64 x.f2, .int .i64 x.f3, .int .i64 x.f4] 63) := ⟨_, rfl⟩
      rw [← hw5, ← hg5]
      have HR5 := Aside0.mk (show Kd.R k65 65 w5 w1.heap.size (fun _ => True) (.slice A3 acc.length c3) acc by rw [hw5]; exact Kd.R_below HR.out (below_alloc (Below.refl _ _) _))
      have HB5 := Aside0.mk (show Below w1.heap.size w1 w5 by rw [hw5]; exact below_alloc HB.out _)
      have BK := Aside0.mk (show w5.heap[g5]? = some (.cells #[.string x.f0, .int .i64 x.f1, .int .i64 x.f2, .int .i64 x.f3, .int .i64 x.f4] 63 (0, 0)) by rw [hw5, hg5]; exact heap_alloc_new wr _)
      clear hw5 hg5 y0 y1 y2 y3 y4 HR HB
      have z0 : w5.cell? ⟨g5, 0, none⟩ = some (.string x.f0) := (blk_cell BK.out 0).trans rfl
      obtain ⟨asn, csn, x3, u3⟩ : ∃ ad cd, w5.cell? ⟨g, 3, none⟩ = some (.slice (some ad) r.sent.length cd) ∧ w5.cell? (ad.add i) = some (.int .i64 sv) := (by obtain ⟨A, c, _, a2, a3⟩ := (H3.out.below HB5.out).c3; obtain ⟨ad, ea, hx⟩ := Kd.at_int a3 (i : Int) hi0 his; subst ea; rw [← HSV.out] at hx; simp only [Int.toNat_natCast] at hx; exact ⟨ad, c, a2, hx⟩)
      obtain ⟨ad, cd, x4, u4⟩ : ∃ ad cd, w5.cell? ⟨g, 4, none⟩ = some (.slice (some ad) r.done.length cd) ∧ w5.cell? (ad.add i) = some (.int .i64 dn) := (by obtain ⟨A, c, _, a2, a3⟩ := (H3.out.below HB5.out).c4; obtain ⟨ad, ea, hx⟩ := Kd.at_int a3 (i : Int) hi0 hid; subst ea; rw [← HDN.out] at hx; simp only [Int.toNat_natCast] at hx; exact ⟨ad, c, a2, hx⟩)
      -- REGION
      refine start_ (n := 21) (S := fun w' => Below w5.heap.size w5 w') (ds := [19]) #[false, false, false, false, false, false, false, false, false, false, false, false, false, false, false, false, false, false, false, false, false] (by kernel_rfl) rfl rfl (below_drew (Below.refl _ _)) (fun hHeld => ?_)
      obtain ⟨wd, hwd⟩ : ∃ wd, wd = w5.drew := ⟨_, rfl⟩
      have hwd' : ({ w5 with drawn := w5.drawn + 1 } : World) = wd := hwd.symm
      have HBd := Aside0.mk (show Below w5.heap.size w5 wd by rw [hwd]; exact below_drew (Below.refl _ _))
      rw [← hwd] at hHeld ⊢
      clear hwd'
      refine pure_ (i := 0) (N := some 30) (v := ?_) (a' := ?_) #[true, false, false, false, false, false, false, false, false, false, false, false, false, false, false, false, false, false, false, false, false] rfl rfl (by kernel_rfl) (fun _ _ _ h => h) (Or.inl ⟨by rfl, ?_⟩) ?_ ?_
      rotate_left
      · intro w'
        go_simp
        with_reducible rfl
      rotate_left
      · simp only [Act.put, List.setIfInBounds_toArray, List.set_cons_zero, List.set_cons_succ, i64_w, i32_w]
        rfl
      refine pure_ (i := 1) (N := some 31) (v := ?_) (a' := ?_) #[true, true, false, false, false, false, false, false, false, false, false, false, false, false, false, false, false, false, false, false, false] rfl rfl (by kernel_rfl) (fun _ _ _ h => h) (Or.inl ⟨by rfl, ?_⟩) ?_ ?_
      rotate_left
      · intro w'
        go_simp
        with_reducible rfl
      rotate_left
      · simp only [Act.put, List.setIfInBounds_toArray, List.set_cons_zero, List.set_cons_succ, i64_w, i32_w]
        rfl
      refine take_ (i := 2) (N := some 32) (v := .string x.f0) (a' := ?_) #[true, true, true, false, false, false, false, false, false, false, false, false, false, false, false, false, false, false, false, false, false] rfl rfl (by kernel_rfl) (fun _ _ _ h => h) (Or.inl ⟨by rfl, ?_⟩) hHeld ?_ ?_
      · rintro w' sB
        have z0b := (sB.cell (World.block_lt_of_cell? w5 _ z0)).trans z0
        clear z0 x3 u3 x4 u4
        go_simp
        all_goals (first | done | with_reducible rfl)
      rotate_left
      · simp only [Act.put, List.setIfInBounds_toArray, List.set_cons_zero, List.set_cons_succ, i64_w, i32_w]
        rfl
      refine pure_ (i := 3) (N := some 33) (v := ?_) (a' := ?_) #[true, true, true, true, false, false, false, false, false, false, false, false, false, false, false, false, false, false, false, false, false] rfl rfl (by kernel_rfl) (fun _ _ _ h => h) (Or.inl ⟨by rfl, ?_⟩) ?_ ?_
      rotate_left
      · intro w'
        go_simp
        with_reducible rfl
      rotate_left
      · simp only [Act.put, List.setIfInBounds_toArray, List.set_cons_zero, List.set_cons_succ, i64_w, i32_w]
        rfl
      refine pure_ (i := 4) (N := some 34) (v := ?_) (a' := ?_) #[true, true, true, true, true, false, false, false, false, false, false, false, false, false, false, false, false, false, false, false, false] rfl rfl (by kernel_rfl) (fun _ _ _ h => h) (Or.inl ⟨by rfl, ?_⟩) ?_ ?_
      rotate_left
      · intro w'
        go_simp
        with_reducible rfl
      rotate_left
      · simp only [Act.put, List.setIfInBounds_toArray, List.set_cons_zero, List.set_cons_succ, i64_w, i32_w]
        rfl
      refine pure_ (i := 5) (N := some 35) (v := ?_) (a' := ?_) #[true, true, true, true, true, true, false, false, false, false, false, false, false, false, false, false, false, false, false, false, false] rfl rfl (by kernel_rfl) (fun _ _ _ h => h) (Or.inl ⟨by rfl, ?_⟩) ?_ ?_
      rotate_left
      · intro w'
        go_simp
        with_reducible rfl
      rotate_left
      · simp only [Act.put, List.setIfInBounds_toArray, List.set_cons_zero, List.set_cons_succ, i64_w, i32_w]
        rfl
      refine take_ (i := 6) (N := some 36) (v := .slice (some asn) r.sent.length csn) (a' := ?_) #[true, true, true, true, true, true, true, false, false, false, false, false, false, false, false, false, false, false, false, false, false] rfl rfl (by kernel_rfl) (fun _ _ _ h => h) (Or.inl ⟨by rfl, ?_⟩) hHeld ?_ ?_
      · rintro w' sB
        have x3b := (sB.cell (World.block_lt_of_cell? w5 _ x3)).trans x3
        clear z0 x3 u3 x4 u4
        go_simp
        all_goals (first | done | with_reducible rfl)
      rotate_left
      · simp only [Act.put, List.setIfInBounds_toArray, List.set_cons_zero, List.set_cons_succ, i64_w, i32_w]
        rfl
      refine pure_ (i := 7) (N := some 37) (v := ?_) (a' := ?_) #[true, true, true, true, true, true, true, true, false, false, false, false, false, false, false, false, false, false, false, false, false] rfl rfl (by kernel_rfl) (fun _ _ _ h => h) (Or.inl ⟨by rfl, ?_⟩) ?_ ?_
      rotate_left
      · intro w'
        go_simp
        with_reducible rfl
      rotate_left
      · simp only [Act.put, List.setIfInBounds_toArray, List.set_cons_zero, List.set_cons_succ, i64_w, i32_w]
        rfl
      refine pure_ (i := 8) (N := some 38) (v := ?_) (a' := ?_) #[true, true, true, true, true, true, true, true, true, false, false, false, false, false, false, false, false, false, false, false, false] rfl rfl (by kernel_rfl) (fun _ _ _ h => h) (Or.inl ⟨by rfl, ?_⟩) ?_ ?_
      rotate_left
      · intro w'
        go_simp
        with_reducible rfl
      rotate_left
      · simp only [Act.put, List.setIfInBounds_toArray, List.set_cons_zero, List.set_cons_succ, i64_w, i32_w]
        rfl
      refine take_ (i := 9) (N := some 39) (v := .int .i64 sv) (a' := ?_) #[true, true, true, true, true, true, true, true, true, true, false, false, false, false, false, false, false, false, false, false, false] rfl rfl (by kernel_rfl) (fun _ _ _ h => h) (Or.inl ⟨by rfl, ?_⟩) hHeld ?_ ?_
      · rintro w' sB
        have u3b := (sB.cell (World.block_lt_of_cell? w5 _ u3)).trans u3
        clear z0 x3 u3 x4 u4
        go_simp
        all_goals (first | done | with_reducible rfl)
      rotate_left
      · simp only [Act.put, List.setIfInBounds_toArray, List.set_cons_zero, List.set_cons_succ, i64_w, i32_w]
        rfl
      refine pure_ (i := 10) (N := some 40) (v := ?_) (a' := ?_) #[true, true, true, true, true, true, true, true, true, true, true, false, false, false, false, false, false, false, false, false, false] rfl rfl (by kernel_rfl) (fun _ _ _ h => h) (Or.inl ⟨by rfl, ?_⟩) ?_ ?_
      rotate_left
      · intro w'
        go_simp
        with_reducible rfl
      rotate_left
      · simp only [Act.put, List.setIfInBounds_toArray, List.set_cons_zero, List.set_cons_succ, i64_w, i32_w]
        rfl
      refine pure_ (i := 11) (N := some 41) (v := ?_) (a' := ?_) #[true, true, true, true, true, true, true, true, true, true, true, true, false, false, false, false, false, false, false, false, false] rfl rfl (by kernel_rfl) (fun _ _ _ h => h) (Or.inl ⟨by rfl, ?_⟩) ?_ ?_
      rotate_left
      · intro w'
        go_simp
        with_reducible rfl
      rotate_left
      · simp only [Act.put, List.setIfInBounds_toArray, List.set_cons_zero, List.set_cons_succ, i64_w, i32_w]
        rfl
      refine pure_ (i := 12) (N := some 42) (v := ?_) (a' := ?_) #[true, true, true, true, true, true, true, true, true, true, true, true, true, false, false, false, false, false, false, false, false] rfl rfl (by kernel_rfl) (fun _ _ _ h => h) (Or.inl ⟨by rfl, ?_⟩) ?_ ?_
      rotate_left
      · intro w'
        go_simp
        with_reducible rfl
      rotate_left
      · simp only [Act.put, List.setIfInBounds_toArray, List.set_cons_zero, List.set_cons_succ, i64_w, i32_w]
        rfl
      refine take_ (i := 13) (N := some 43) (v := .slice (some ad) r.done.length cd) (a' := ?_) #[true, true, true, true, true, true, true, true, true, true, true, true, true, true, false, false, false, false, false, false, false] rfl rfl (by kernel_rfl) (fun _ _ _ h => h) (Or.inl ⟨by rfl, ?_⟩) hHeld ?_ ?_
      · rintro w' sB
        have x4b := (sB.cell (World.block_lt_of_cell? w5 _ x4)).trans x4
        clear z0 x3 u3 x4 u4
        go_simp
        all_goals (first | done | with_reducible rfl)
      rotate_left
      · simp only [Act.put, List.setIfInBounds_toArray, List.set_cons_zero, List.set_cons_succ, i64_w, i32_w]
        rfl
      refine pure_ (i := 14) (N := some 44) (v := ?_) (a' := ?_) #[true, true, true, true, true, true, true, true, true, true, true, true, true, true, true, false, false, false, false, false, false] rfl rfl (by kernel_rfl) (fun _ _ _ h => h) (Or.inl ⟨by rfl, ?_⟩) ?_ ?_
      rotate_left
      · intro w'
        go_simp
        with_reducible rfl
      rotate_left
      · simp only [Act.put, List.setIfInBounds_toArray, List.set_cons_zero, List.set_cons_succ, i64_w, i32_w]
        rfl
      refine pure_ (i := 15) (N := some 45) (v := ?_) (a' := ?_) #[true, true, true, true, true, true, true, true, true, true, true, true, true, true, true, true, false, false, false, false, false] rfl rfl (by kernel_rfl) (fun _ _ _ h => h) (Or.inl ⟨by rfl, ?_⟩) ?_ ?_
      rotate_left
      · intro w'
        go_simp
        with_reducible rfl
      rotate_left
      · simp only [Act.put, List.setIfInBounds_toArray, List.set_cons_zero, List.set_cons_succ, i64_w, i32_w]
        rfl
      refine take_ (i := 16) (N := some 46) (v := .int .i64 dn) (a' := ?_) #[true, true, true, true, true, true, true, true, true, true, true, true, true, true, true, true, true, false, false, false, false] rfl rfl (by kernel_rfl) (fun _ _ _ h => h) (Or.inl ⟨by rfl, ?_⟩) hHeld ?_ ?_
      · rintro w' sB
        have u4b := (sB.cell (World.block_lt_of_cell? w5 _ u4)).trans u4
        clear z0 x3 u3 x4 u4
        go_simp
        all_goals (first | done | with_reducible rfl)
      rotate_left
      · simp only [Act.put, List.setIfInBounds_toArray, List.set_cons_zero, List.set_cons_succ, i64_w, i32_w]
        rfl
      refine pure_ (i := 17) (N := some 47) (v := ?_) (a' := ?_) #[true, true, true, true, true, true, true, true, true, true, true, true, true, true, true, true, true, true, false, false, false] rfl rfl (by kernel_rfl) (fun _ _ _ h => h) (Or.inl ⟨by rfl, ?_⟩) ?_ ?_
      rotate_left
      · intro w'
        go_simp
        with_reducible rfl
      rotate_left
      · simp only [Act.put, List.setIfInBounds_toArray, List.set_cons_zero, List.set_cons_succ, i64_w, i32_w]
        rfl
      refine one_ (i := 18) (N := some 48) #[true, true, true, true, true, true, true, true, true, true, true, true, true, true, true, true, true, true, true, false, false] rfl rfl (by kernel_rfl) (by decide) (fun K hK => ?_)
      refine event_step (v := .slice (some ⟨wd.heap.size, 0, none⟩) 1 1) (w1 := wd.alloc (.cells ([.string x.f0, .int .i64 sv, .int .i64 dn] : List Value).toArray 65)) (by rfl) ?hr ?_
      (case hr => first | (go_simp; done) | (go_simp; rfl))
      refine hK.out _ _ (below_alloc HBd.out _) (fun hHeld => ?_)
      clear hK K
      refine norm_ (a' := ?_) ?_ ?_
      rotate_left
      · show Act.put _ (some 48) _ = _
        simp only [Act.put, List.setIfInBounds_toArray, List.set_cons_zero, List.set_cons_succ, i64_w, i32_w]
        rfl
      refine last_ (i := 19) (N := some 49) #[true, true, true, true, true, true, true, true, true, true, true, true, true, true, true, true, true, true, true, true, false] rfl rfl (by kernel_rfl) (by decide) (fun K hK => ?_)
      have HR6 := Aside0.mk (Kd.R_below HR5.out HBd.out)
      have HB6 := Aside0.mk (below_step HB5.out HBd.out)
      refine Kd.R_append_step k65 (w0 := w1) (W := wd) w1.heap.size (by rfl) (.tmp 30) (.tmp 48) 57 65 (.agg #[.string ⟨#[]⟩, .int .i64 0, .int .i64 0]) 32 rfl Try.underlying57 sentInfo rfl (by decide) (by omega) (.slice A3 acc.length c3) acc ⟨x.f0, sv, dn⟩ [.string x.f0, .int .i64 sv, .int .i64 dn] (fun _ => True) (fun _ => False) (by rfl) rfl (k65_mkM _ _ _ _) (fun _ h => h.elim) (fun _ _ => trivial) HR6.out HB6.out HB6.out.size (by have := HAL.out; omega) ?_
      intro va wa ho hb hg_ _
      have HR3 := Aside0.mk ho
      have HB3 := Aside0.mk hb
      clear ho hb hHeld HR6 HB6
      refine hK.out _ _ ?_
      clear hK K
      refine norm_ (a' := ?_) ?_ ?_
      rotate_left
      · show Act.put _ (some 49) _ = _
        simp only [Act.put, List.setIfInBounds_toArray, List.set_cons_zero, List.set_cons_succ, i64_w, i32_w]
        rfl
      refine pure_ (i := 20) (N := some 10) (v := ?_) (a' := ?_) #[true, true, true, true, true, true, true, true, true, true, true, true, true, true, true, true, true, true, true, true, true] rfl rfl (by kernel_rfl) (fun _ _ _ h => h) (Or.inl ⟨by rfl, ?_⟩) ?_ ?_
      rotate_left
      · intro w'
        go_simp
        with_reducible rfl
      rotate_left
      · simp only [Act.put, List.setIfInBounds_toArray, List.set_cons_zero, List.set_cons_succ, i64_w, i32_w]
        rfl
      refine done_ (by kernel_rfl) ?_
      -- END
      go_wp2
      go_roundg d
      case measure => omega
      case rel => exact ⟨i + 1, acc ++ [⟨x.f0, sv, dn⟩], (by first | rfl | (rw [hwi]) | (simp [hwi]; done) | (simp; done)), ⟨next_eq HKi.out⟩, HST, HR3, HB3⟩
  · have h : (if (r.sent.length = l2.length ∧ r.done.length = l2.length) ∧ l2.length ≤ 1000000 then some (sentsOf l2 r.sent r.done l2.length, (0 : Int)) else none) = some (r1, r2) := h
    rw [if_neg hk] at h
    cases h
end Go.Proofs.Ytbngmblgkkdhpaa.Q
