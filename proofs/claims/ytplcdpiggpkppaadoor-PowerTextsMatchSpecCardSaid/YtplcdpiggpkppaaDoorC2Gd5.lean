-- Made by wip/tools/claimp.py of this session's texts; Lean checks it.
import Derived.Test.YtplcdpiggpkppaaDoorC2Q0
import Derived.Test.YtplcdpiggpkppaaDoorC2Gd3
import Derived.Test.YtplcdpiggpkppaaDoorC2Gd4
namespace Go.Proofs.YtplcdpiggpkppaaDoor.Q
open Go.RowKit Go.Proofs.YtplcdpiggpkppaaDoorW.PrintWords Go.Proofs.YtplcdpiggpkppaaDoorW.PrintLast Go.Proofs.YtplcdpiggpkppaaDoorW.PrintMore
attribute [local go_sem] max2_int min2_int max_two min_two max_three min_three max_four min_four
open Go.Proofs.YtplcdpiggpkppaaDoor.Base
attribute [local go_sem high] str_leq str_gtr str_geq
set_option linter.unusedVariables false
set_option linter.unusedSimpArgs false
theorem eqA32 (d : Nat) (w : World) (x0 y0 : ByteArray) (x1 y1 : Int) (x2 y2 : Int) :
    (Op.equalIn (d + 2) 32 (.agg #[.string x0, .int .i64 x1, .int .i64 x2]) (.agg #[.string y0, .int .i64 y1, .int .i64 y2])).run Tryd.prog w = .ok (x0.toList == y0.toList && (x1 == y1 && (x2 == y2))) w := by
  refine eqA_of Tryd.underlying32 (by kernel_rfl) ?_
  refine eqf_cons (by rfl) (by go_simp; rfl) (by go_simp; rfl) (by go_simp) ?_
  refine eqf_cons (by rfl) (by go_simp; rfl) (by go_simp; rfl) (by go_simp) ?_
  exact eqf_last (by rfl) (by go_simp; rfl) (by go_simp; rfl) (by go_simp)
theorem eqA35 (d : Nat) (w : World) (x0 y0 : ByteArray) (x1 y1 : Int) (x2 y2 : Int) :
    (Op.equalIn (d + 2) 35 (.agg #[.string x0, .int .i64 x1, .int .i64 x2]) (.agg #[.string y0, .int .i64 y1, .int .i64 y2])).run Tryd.prog w = .ok (x0.toList == y0.toList && (x1 == y1 && (x2 == y2))) w := by
  refine eqA_of Tryd.underlying35 (by kernel_rfl) ?_
  refine eqf_cons (by rfl) (by go_simp; rfl) (by go_simp; rfl) (by go_simp) ?_
  refine eqf_cons (by rfl) (by go_simp; rfl) (by go_simp; rfl) (by go_simp) ?_
  exact eqf_last (by rfl) (by go_simp; rfl) (by go_simp; rfl) (by go_simp)
attribute [local go_sem high] eqA32
/-- The two lists as they lie in memory: each in a box of its own. -/
structure RI2 (w W : World) (gl gu : Nat) (vl vu : Value) (l : List S32) (u : List S35) : Prop where
  bl : W.heap[gl]? = some (.cells #[vl] 22 (0, 0))
  bu : W.heap[gu]? = some (.cells #[vu] 23 (0, 0))
  rl : Kd.R k32 32 W w.heap.size (fun _ => True) vl l
  ru : Kd.R k35 35 W w.heap.size (fun _ => True) vu u
  un : u = [] → vu = .slice none 0 0
  bel : Below w.heap.size w W
  gl0 : w.heap.size ≤ gl
  gu0 : w.heap.size ≤ gu
theorem RI2.below {w W W2 : World} {gl gu : Nat} {vl vu : Value} {l : List S32} {u : List S35} (h : RI2 w W gl gu vl vu l u) (hb : Below W.heap.size W W2) : RI2 w W2 gl gu vl vu l u :=
  ⟨blk_below h.bl hb, blk_below h.bu hb, Kd.R_below h.rl hb, Kd.R_below h.ru hb, h.un, below_step h.bel hb, h.gl0, h.gu0⟩
theorem RI2.drewN {w W : World} {gl gu : Nat} {vl vu : Value} {l : List S32} {u : List S35} (h : RI2 w W gl gu vl vu l u) (n : Nat) : RI2 w (W.drewN n) gl gu vl vu l u := h.below (pw_below_drewN (Below.refl _ _) n)
theorem RI2.drew {w W : World} {gl gu : Nat} {vl vu : Value} {l : List S32} {u : List S35} (h : RI2 w W gl gu vl vu l u) : RI2 w W.drew gl gu vl vu l u := h.below (below_drew (Below.refl _ _))
theorem own_ne {α : Type} {d : Kd α} {e : Nat} {W : World} {base : Nat} {ok : Nat → Prop} {v : Value} {xs : List α} (h : d.R e W base ok v xs) {g : Nat} {cs : Array Value} {ty : TypeId} (hb : W.heap[g]? = some (.cells cs ty (0, 0))) (hne : ty ≠ e) : some g ≠ v.ownBlock := fun he => by
  obtain ⟨cells, hc⟩ := Kd.R_typed h g he.symm
  exact blk_ne hb hc hne rfl
theorem grown_set (W : World) (g i : Nat) (v : Value) : W.grownBy (W.setCell ⟨g, i, none⟩ v) (some g) := ⟨rfl, rfl, rfl, Nat.le_of_eq (by simp [World.setCell]), fun k _ hk => Below.heap_setCell W ⟨g, i, none⟩ v k (fun e => hk (by rw [e]))⟩
theorem R_set {α : Type} {d : Kd α} {e : Nat} {W : World} {base : Nat} {ok : Nat → Prop} {v : Value} {xs : List α} (h : d.R e W base ok v xs) {g : Nat} {cs : Array Value} {ty : TypeId} (hb : W.heap[g]? = some (.cells cs ty (0, 0))) (hne : ∀ q, q ∈ e :: d.E → q ≠ ty) (u : Value) : d.R e (W.setCell ⟨g, 0, none⟩ u) base ok v xs :=
  Kd.R_over' (v := .slice (some ⟨g, 0, none⟩) 0 0) h (fun k hk => by
    obtain rfl : g = k := by simpa [Value.ownBlock] using hk
    exact ⟨cs, hb⟩) hne (grown_set W g 0 u)
theorem RI2.put_l {w W W1 : World} {gl gu : Nat} {vl vu v1 : Value} {l l' : List S32} {u : List S35} (h : RI2 w W gl gu vl vu l u) (ho : Kd.R k32 32 W1 w.heap.size (fun _ => True) v1 l') (hb : Below w.heap.size w W1) (hg : W.grownBy W1 vl.ownBlock) : RI2 w (W1.setCell ⟨gl, 0, none⟩ v1) gl gu v1 vu l' u := by
  have b1 := blk_grown h.bl hg (own_ne h.rl h.bl (by decide))
  have b2 := blk_grown h.bu hg (own_ne h.rl h.bu (by decide))
  exact ⟨blk_set b1 0 v1, blk_far b2 (blk_ne b2 b1 (by decide)) v1, R_set ho b1 (by decide) v1, R_set (Kd.R_over' h.ru (Kd.R_typed h.rl) (by decide) hg) b1 (by decide) v1, h.un, below_set hb h.gl0, h.gl0, h.gu0⟩
theorem RI2.put_u {w W W1 : World} {gl gu : Nat} {vl vu v1 : Value} {l : List S32} {u u' : List S35} (h : RI2 w W gl gu vl vu l u) (ho : Kd.R k35 35 W1 w.heap.size (fun _ => True) v1 u') (hu : u' ≠ []) (hb : Below w.heap.size w W1) (hg : W.grownBy W1 vu.ownBlock) : RI2 w (W1.setCell ⟨gu, 0, none⟩ v1) gl gu vl v1 l u' := by
  have b1 := blk_grown h.bl hg (own_ne h.ru h.bl (by decide))
  have b2 := blk_grown h.bu hg (own_ne h.ru h.bu (by decide))
  exact ⟨blk_far b1 (blk_ne b1 b2 (by decide)) v1, blk_set b2 0 v1, R_set (Kd.R_over' h.rl (Kd.R_typed h.ru) (by decide) hg) b2 (by decide) v1, R_set ho b2 (by decide) v1, fun e => absurd e hu, below_set hb h.gu0, h.gl0, h.gu0⟩
def ReadInv (w W : World) (gl gu : Nat) (l : List S32) (u : List S35) : Prop := ∃ vl vu, RI2 w W gl gu vl vu l u
theorem ReadInv.mk {w W : World} {gl gu : Nat} {vl vu : Value} {l : List S32} {u : List S35} (h : RI2 w W gl gu vl vu l u) : ReadInv w W gl gu l u := ⟨vl, vu, h⟩
theorem ReadInv.below {w W W2 : World} {gl gu : Nat} {l : List S32} {u : List S35} (h : ReadInv w W gl gu l u) (hb : Below W.heap.size W W2) : ReadInv w W2 gl gu l u := by
  obtain ⟨vl, vu, h⟩ := h
  exact ⟨vl, vu, h.below hb⟩
theorem ReadInv.drewN {w W : World} {gl gu : Nat} {l : List S32} {u : List S35} (h : ReadInv w W gl gu l u) (n : Nat) : ReadInv w (W.drewN n) gl gu l u := h.below (pw_below_drewN (Below.refl _ _) n)
theorem ReadInv.bel {w W : World} {gl gu : Nat} {l : List S32} {u : List S35} (h : ReadInv w W gl gu l u) : Below w.heap.size w W := h.choose_spec.choose_spec.bel
theorem rd_store_step {PP : Program} {ops : Array Oper} {o : Oper} {a : Act} {Q : Exit → Act → World → Prop} {Kc : Act → World → Prop} {W w1 : World} (hw : Region.wanted o (yielded ops a.tmps) = true) (hN : o.dst = none) (hrun : (execOp a.eval o).run PP W = .ok .skip w1) (h : Kc (a.put none undef) w1) : if Region.wanted o (yielded ops a.tmps) = true then Oper.wp PP o a W Kc Q else Kc (a.put none undef) W := by
  rw [if_pos hw]
  unfold Oper.wp
  rw [hrun]
  show Kc (a.put o.dst undef) w1
  rw [hN]
  exact h
theorem rd_event_step {PP : Program} {ops : Array Oper} {o : Oper} {a : Act} {Q : Exit → Act → World → Prop} {Kc : Act → World → Prop} {W w1 : World} {v : Value} (hw : Region.wanted o (yielded ops a.tmps) = true) (hrun : (execOp a.eval o).run PP W = .ok (.value v) w1) (h : Kc (a.put o.dst v) w1) : if Region.wanted o (yielded ops a.tmps) = true then Oper.wp PP o a W Kc Q else Kc (a.put o.dst undef) W := by
  rw [if_pos hw]
  unfold Oper.wp
  rw [hrun]
  exact h
theorem rd_world {PP : Program} {md : Region.Mode} {ops : Array Oper} {Q : Exit → Act → World → Prop} {S : World → Prop} {ds : List Nat} {fuel : Nat} {l : Array Bool} {a : Act} {w : World} (R : World → Prop) (hR : R w) (hS : S w) (h : ∀ w', R w' → S w' → wpAnyLast PP md ops Q S ds fuel l a w') : wpAnyLast PP md ops Q S ds fuel l a w := h w hR hS
theorem load_info : (Tryd.prog.info? 32).map (fun i => (i.zero, i.size, i.bytes)) = some (some (.agg #[.string ⟨#[]⟩, .int .i64 0, .int .i64 0]), 3, 32) := by kernel_rfl
theorem use_info : (Tryd.prog.info? 35).map (fun i => (i.zero, i.size, i.bytes)) = some (some (.agg #[.string ⟨#[]⟩, .int .i64 0, .int .i64 0]), 3, 32) := by kernel_rfl
/-- What the closure does with a line. -/
def ReadOne (K : Nat) (line : ByteArray) (l : List S32) (u : List S35) : Option (Bool × List S32 × List S35) :=
  (strings_Split.f line ⟨#[32]⟩).bind fun t => if t.length = 4 then (power_isWord.f K (rdOf ByteArray.empty t 1)).bind fun ok => if ok = true then (kit_Digits.f K (rdOf ByteArray.empty t 2) 13).bind fun d => (kit_Digits.f K (rdOf ByteArray.empty t 3) 13).bind fun e => if d.2 = true then if e.2 = true then
    (if (rdOf ByteArray.empty t 0).toList = [108, 111, 97, 100] ∧ u = [] then (if l.length < 4398046511104 then some (true, l ++ [⟨rdOf ByteArray.empty t 1, d.1, e.1⟩], u) else none) else if (rdOf ByteArray.empty t 0).toList = [117, 115, 101] then (if u.length < 4398046511104 then some (true, l, u ++ [⟨rdOf ByteArray.empty t 1, d.1, e.1⟩]) else none) else some (false, l, u))
    else some (false, l, u) else some (false, l, u) else some (false, l, u) else some (false, l, u)
set_option maxHeartbeats 8000000 in
set_option maxRecDepth 100000 in
theorem ReadOne.len (K : Nat) (line : ByteArray) (l : List S32) (u : List S35) (gl gu : Nat) (w W : World) (t : List ByteArray) (hV : VarsOK W) (hI : ReadInv w W gl gu l u) (ht : strings_Split.f line (⟨#[32]⟩ : ByteArray) = some t)  (hl : t.length ≠ 4) :
    Calls Tryd.prog 20 #[.string line, .pointer (some ⟨gu, 0, none⟩), .pointer (some ⟨gl, 0, none⟩)] W fun e w' => e = .returned (.bool false) ∧ ReadInv w w' gl gu l u := by
  have HV := Aside0.mk hV
  have HI := Aside0.mk hI
  have A1 := Aside0.mk ht
  clear hV hI ht
  have c1 : ((t.length : Int) != 4) = true := bne_iff_ne.mpr (by omega)
  clear hl
  go_enter Tryd.func20, Tryd.ntmps20
  go_wp2_with (first | (go_at_call 21; go_loud (with_reducible refine (strings_Split.calls line (⟨#[32]⟩ : ByteArray) t _ HV.out A1.out).mono ?_); go_loud (rintro e w1 ⟨v, rfl, ho, hb⟩; have HI1 := Aside0.mk (HI.out.below hb); obtain ⟨A9, c9, ev⟩ := Kd.R_slice ho; subst ev; clear ho hb)))
  go_ret
  exact ⟨by first | rfl | (simp; done) | (simp [*]; done), by repeat (first | exact HI1.out | apply ReadInv.drewN)⟩
set_option maxHeartbeats 8000000 in
set_option maxRecDepth 100000 in
theorem ReadOne.word (K : Nat) (line : ByteArray) (l : List S32) (u : List S35) (gl gu : Nat) (w W : World) (t : List ByteArray) (hV : VarsOK W) (hI : ReadInv w W gl gu l u) (ht : strings_Split.f line (⟨#[32]⟩ : ByteArray) = some t)  (hl : t.length = 4) (ok : Bool) (hw : power_isWord.f K (rdOf ByteArray.empty t 1) = some ok) (ho : ok = false) :
    Calls Tryd.prog 20 #[.string line, .pointer (some ⟨gu, 0, none⟩), .pointer (some ⟨gl, 0, none⟩)] W fun e w' => e = .returned (.bool false) ∧ ReadInv w w' gl gu l u := by
  have HV := Aside0.mk hV
  have HI := Aside0.mk hI
  have A1 := Aside0.mk ht
  clear hV hI ht
  have HL := Aside0.mk hl
  have c1 : ((t.length : Int) != 4) = false := bne_eq_false_iff_eq.mpr (by omega)
  have qi0 : (0 < t.length) = True := eq_true (by omega)
  have qi1 : (1 < t.length) = True := eq_true (by omega)
  have qi2 : (2 < t.length) = True := eq_true (by omega)
  have qi3 : (3 < t.length) = True := eq_true (by omega)
  have q0 : ((0 : Int) < (t.length : Int)) = True := eq_true (by omega)
  have q1 : ((1 : Int) < (t.length : Int)) = True := eq_true (by omega)
  have q2 : ((2 : Int) < (t.length : Int)) = True := eq_true (by omega)
  have q3 : ((3 : Int) < (t.length : Int)) = True := eq_true (by omega)
  clear hl
  have A2 := Aside0.mk hw
  clear hw
  subst ho
  go_enter Tryd.func20, Tryd.ntmps20
  go_wp2_with (first | (go_at_call 21; go_loud (with_reducible refine (strings_Split.calls line (⟨#[32]⟩ : ByteArray) t _ HV.out A1.out).mono ?_); go_loud (rintro e w1 ⟨v, rfl, ho, hb⟩; have HI1 := Aside0.mk (HI.out.below hb); obtain ⟨A9, c9, ev⟩ := Kd.R_slice ho; subst ev; have HRD := Aside0.mk ((Kd.R_reads' ho).2.2); clear ho hb; obtain ⟨ad0, ea0, hx0⟩ := Kd.at_string HRD.out 0 (by omega) (by have := HL.out; omega); cases ea0; (try simp only [show (0 : Int).toNat = 0 from rfl, Nat.reduceMul, Nat.reduceEqDiff, Go.Addr.add, ↓reduceIte] at hx0); (try rw [show ((0 : Int)).toNat = 0 from rfl] at hx0); obtain ⟨ad1, ea1, hx1⟩ := Kd.at_string HRD.out 1 (by omega) (by have := HL.out; omega); cases ea1; (try simp only [show (1 : Int).toNat = 1 from rfl, Nat.reduceMul, Nat.reduceEqDiff, Go.Addr.add, ↓reduceIte] at hx1); (try rw [show ((1 : Int)).toNat = 1 from rfl] at hx1); obtain ⟨ad2, ea2, hx2⟩ := Kd.at_string HRD.out 2 (by omega) (by have := HL.out; omega); cases ea2; (try simp only [show (2 : Int).toNat = 2 from rfl, Nat.reduceMul, Nat.reduceEqDiff, Go.Addr.add, ↓reduceIte] at hx2); (try rw [show ((2 : Int)).toNat = 2 from rfl] at hx2); obtain ⟨ad3, ea3, hx3⟩ := Kd.at_string HRD.out 3 (by omega) (by have := HL.out; omega); cases ea3; (try simp only [show (3 : Int).toNat = 3 from rfl, Nat.reduceMul, Nat.reduceEqDiff, Go.Addr.add, ↓reduceIte] at hx3); (try rw [show ((3 : Int)).toNat = 3 from rfl] at hx3); skip)) | (go_at_call 22; go_loud (with_reducible refine (power_isWord.calls K (rdOf ByteArray.empty t 1) _ _ A2.out).mono ?_); rintro e w' ⟨rfl, ⟨nd, rfl⟩⟩))
  go_ret
  exact ⟨by first | rfl | (simp; done) | (simp [*]; done), by repeat (first | exact HI1.out | apply ReadInv.drewN)⟩
set_option maxHeartbeats 8000000 in
set_option maxRecDepth 100000 in
theorem ReadOne.one (K : Nat) (line : ByteArray) (l : List S32) (u : List S35) (gl gu : Nat) (w W : World) (t : List ByteArray) (hV : VarsOK W) (hI : ReadInv w W gl gu l u) (ht : strings_Split.f line (⟨#[32]⟩ : ByteArray) = some t)  (hl : t.length = 4) (ok : Bool) (hw : power_isWord.f K (rdOf ByteArray.empty t 1) = some ok) (ho : ok = true) (a b : Int) (oa ob : Bool) (ha : kit_Digits.f K (rdOf ByteArray.empty t 2) 13 = some (a, oa)) (hb : kit_Digits.f K (rdOf ByteArray.empty t 3) 13 = some (b, ob)) (hoa : oa = false) :
    Calls Tryd.prog 20 #[.string line, .pointer (some ⟨gu, 0, none⟩), .pointer (some ⟨gl, 0, none⟩)] W fun e w' => e = .returned (.bool false) ∧ ReadInv w w' gl gu l u := by
  have HV := Aside0.mk hV
  have HI := Aside0.mk hI
  have A1 := Aside0.mk ht
  clear hV hI ht
  have HL := Aside0.mk hl
  have c1 : ((t.length : Int) != 4) = false := bne_eq_false_iff_eq.mpr (by omega)
  have qi0 : (0 < t.length) = True := eq_true (by omega)
  have qi1 : (1 < t.length) = True := eq_true (by omega)
  have qi2 : (2 < t.length) = True := eq_true (by omega)
  have qi3 : (3 < t.length) = True := eq_true (by omega)
  have q0 : ((0 : Int) < (t.length : Int)) = True := eq_true (by omega)
  have q1 : ((1 : Int) < (t.length : Int)) = True := eq_true (by omega)
  have q2 : ((2 : Int) < (t.length : Int)) = True := eq_true (by omega)
  have q3 : ((3 : Int) < (t.length : Int)) = True := eq_true (by omega)
  clear hl
  have A2 := Aside0.mk hw
  clear hw
  have A3 := Aside0.mk ha
  have A4 := Aside0.mk hb
  clear ha hb
  subst ho hoa
  go_enter Tryd.func20, Tryd.ntmps20
  go_wp2_with (first | (go_at_call 21; go_loud (with_reducible refine (strings_Split.calls line (⟨#[32]⟩ : ByteArray) t _ HV.out A1.out).mono ?_); go_loud (rintro e w1 ⟨v, rfl, ho, hb⟩; have HI1 := Aside0.mk (HI.out.below hb); obtain ⟨A9, c9, ev⟩ := Kd.R_slice ho; subst ev; have HRD := Aside0.mk ((Kd.R_reads' ho).2.2); clear ho hb; obtain ⟨ad0, ea0, hx0⟩ := Kd.at_string HRD.out 0 (by omega) (by have := HL.out; omega); cases ea0; (try simp only [show (0 : Int).toNat = 0 from rfl, Nat.reduceMul, Nat.reduceEqDiff, Go.Addr.add, ↓reduceIte] at hx0); (try rw [show ((0 : Int)).toNat = 0 from rfl] at hx0); obtain ⟨ad1, ea1, hx1⟩ := Kd.at_string HRD.out 1 (by omega) (by have := HL.out; omega); cases ea1; (try simp only [show (1 : Int).toNat = 1 from rfl, Nat.reduceMul, Nat.reduceEqDiff, Go.Addr.add, ↓reduceIte] at hx1); (try rw [show ((1 : Int)).toNat = 1 from rfl] at hx1); obtain ⟨ad2, ea2, hx2⟩ := Kd.at_string HRD.out 2 (by omega) (by have := HL.out; omega); cases ea2; (try simp only [show (2 : Int).toNat = 2 from rfl, Nat.reduceMul, Nat.reduceEqDiff, Go.Addr.add, ↓reduceIte] at hx2); (try rw [show ((2 : Int)).toNat = 2 from rfl] at hx2); obtain ⟨ad3, ea3, hx3⟩ := Kd.at_string HRD.out 3 (by omega) (by have := HL.out; omega); cases ea3; (try simp only [show (3 : Int).toNat = 3 from rfl, Nat.reduceMul, Nat.reduceEqDiff, Go.Addr.add, ↓reduceIte] at hx3); (try rw [show ((3 : Int)).toNat = 3 from rfl] at hx3); skip)) | (go_at_call 22; go_loud (with_reducible refine (power_isWord.calls K (rdOf ByteArray.empty t 1) _ _ A2.out).mono ?_); rintro e w' ⟨rfl, ⟨nd, rfl⟩⟩) | (go_at_call 23; go_loud (first | (with_reducible refine (kit_Digits.calls K (rdOf ByteArray.empty t 2) 13 _ _ _ A3.out).mono ?_) | (with_reducible refine (kit_Digits.calls K (rdOf ByteArray.empty t 3) 13 _ _ _ A4.out).mono ?_)); rintro e w' ⟨rfl, ⟨nd, rfl⟩⟩))
  go_ret
  exact ⟨by first | rfl | (simp; done) | (simp [*]; done), by repeat (first | exact HI1.out | apply ReadInv.drewN)⟩
set_option maxHeartbeats 8000000 in
set_option maxRecDepth 100000 in
theorem ReadOne.two (K : Nat) (line : ByteArray) (l : List S32) (u : List S35) (gl gu : Nat) (w W : World) (t : List ByteArray) (hV : VarsOK W) (hI : ReadInv w W gl gu l u) (ht : strings_Split.f line (⟨#[32]⟩ : ByteArray) = some t)  (hl : t.length = 4) (ok : Bool) (hw : power_isWord.f K (rdOf ByteArray.empty t 1) = some ok) (ho : ok = true) (a b : Int) (oa ob : Bool) (ha : kit_Digits.f K (rdOf ByteArray.empty t 2) 13 = some (a, oa)) (hb : kit_Digits.f K (rdOf ByteArray.empty t 3) 13 = some (b, ob)) (hoa : oa = true) (hob : ob = false) :
    Calls Tryd.prog 20 #[.string line, .pointer (some ⟨gu, 0, none⟩), .pointer (some ⟨gl, 0, none⟩)] W fun e w' => e = .returned (.bool false) ∧ ReadInv w w' gl gu l u := by
  have HV := Aside0.mk hV
  have HI := Aside0.mk hI
  have A1 := Aside0.mk ht
  clear hV hI ht
  have HL := Aside0.mk hl
  have c1 : ((t.length : Int) != 4) = false := bne_eq_false_iff_eq.mpr (by omega)
  have qi0 : (0 < t.length) = True := eq_true (by omega)
  have qi1 : (1 < t.length) = True := eq_true (by omega)
  have qi2 : (2 < t.length) = True := eq_true (by omega)
  have qi3 : (3 < t.length) = True := eq_true (by omega)
  have q0 : ((0 : Int) < (t.length : Int)) = True := eq_true (by omega)
  have q1 : ((1 : Int) < (t.length : Int)) = True := eq_true (by omega)
  have q2 : ((2 : Int) < (t.length : Int)) = True := eq_true (by omega)
  have q3 : ((3 : Int) < (t.length : Int)) = True := eq_true (by omega)
  clear hl
  have A2 := Aside0.mk hw
  clear hw
  have A3 := Aside0.mk ha
  have A4 := Aside0.mk hb
  clear ha hb
  subst ho hoa hob
  go_enter Tryd.func20, Tryd.ntmps20
  go_wp2_with (first | (go_at_call 21; go_loud (with_reducible refine (strings_Split.calls line (⟨#[32]⟩ : ByteArray) t _ HV.out A1.out).mono ?_); go_loud (rintro e w1 ⟨v, rfl, ho, hb⟩; have HI1 := Aside0.mk (HI.out.below hb); obtain ⟨A9, c9, ev⟩ := Kd.R_slice ho; subst ev; have HRD := Aside0.mk ((Kd.R_reads' ho).2.2); clear ho hb; obtain ⟨ad0, ea0, hx0⟩ := Kd.at_string HRD.out 0 (by omega) (by have := HL.out; omega); cases ea0; (try simp only [show (0 : Int).toNat = 0 from rfl, Nat.reduceMul, Nat.reduceEqDiff, Go.Addr.add, ↓reduceIte] at hx0); (try rw [show ((0 : Int)).toNat = 0 from rfl] at hx0); obtain ⟨ad1, ea1, hx1⟩ := Kd.at_string HRD.out 1 (by omega) (by have := HL.out; omega); cases ea1; (try simp only [show (1 : Int).toNat = 1 from rfl, Nat.reduceMul, Nat.reduceEqDiff, Go.Addr.add, ↓reduceIte] at hx1); (try rw [show ((1 : Int)).toNat = 1 from rfl] at hx1); obtain ⟨ad2, ea2, hx2⟩ := Kd.at_string HRD.out 2 (by omega) (by have := HL.out; omega); cases ea2; (try simp only [show (2 : Int).toNat = 2 from rfl, Nat.reduceMul, Nat.reduceEqDiff, Go.Addr.add, ↓reduceIte] at hx2); (try rw [show ((2 : Int)).toNat = 2 from rfl] at hx2); obtain ⟨ad3, ea3, hx3⟩ := Kd.at_string HRD.out 3 (by omega) (by have := HL.out; omega); cases ea3; (try simp only [show (3 : Int).toNat = 3 from rfl, Nat.reduceMul, Nat.reduceEqDiff, Go.Addr.add, ↓reduceIte] at hx3); (try rw [show ((3 : Int)).toNat = 3 from rfl] at hx3); skip)) | (go_at_call 22; go_loud (with_reducible refine (power_isWord.calls K (rdOf ByteArray.empty t 1) _ _ A2.out).mono ?_); rintro e w' ⟨rfl, ⟨nd, rfl⟩⟩) | (go_at_call 23; go_loud (first | (with_reducible refine (kit_Digits.calls K (rdOf ByteArray.empty t 2) 13 _ _ _ A3.out).mono ?_) | (with_reducible refine (kit_Digits.calls K (rdOf ByteArray.empty t 3) 13 _ _ _ A4.out).mono ?_)); rintro e w' ⟨rfl, ⟨nd, rfl⟩⟩))
  go_ret
  exact ⟨by first | rfl | (simp; done) | (simp [*]; done), by repeat (first | exact HI1.out | apply ReadInv.drewN)⟩
set_option maxHeartbeats 8000000 in
set_option maxRecDepth 100000 in
theorem ReadOne.neither (K : Nat) (line : ByteArray) (l : List S32) (u : List S35) (gl gu : Nat) (w W : World) (t : List ByteArray) (hV : VarsOK W) (hI : ReadInv w W gl gu l u) (ht : strings_Split.f line (⟨#[32]⟩ : ByteArray) = some t)  (hl : t.length = 4) (ok : Bool) (hw : power_isWord.f K (rdOf ByteArray.empty t 1) = some ok) (ho : ok = true) (a b : Int) (oa ob : Bool) (ha : kit_Digits.f K (rdOf ByteArray.empty t 2) 13 = some (a, oa)) (hb : kit_Digits.f K (rdOf ByteArray.empty t 3) 13 = some (b, ob)) (hoa : oa = true) (hob : ob = true) (hA : (rdOf ByteArray.empty t 0).toList ≠ [108, 111, 97, 100]) (hB : (rdOf ByteArray.empty t 0).toList ≠ [117, 115, 101]) :
    Calls Tryd.prog 20 #[.string line, .pointer (some ⟨gu, 0, none⟩), .pointer (some ⟨gl, 0, none⟩)] W fun e w' => e = .returned (.bool false) ∧ ReadInv w w' gl gu l u := by
  have HV := Aside0.mk hV
  have HI := Aside0.mk hI
  have A1 := Aside0.mk ht
  clear hV hI ht
  have HL := Aside0.mk hl
  have c1 : ((t.length : Int) != 4) = false := bne_eq_false_iff_eq.mpr (by omega)
  have qi0 : (0 < t.length) = True := eq_true (by omega)
  have qi1 : (1 < t.length) = True := eq_true (by omega)
  have qi2 : (2 < t.length) = True := eq_true (by omega)
  have qi3 : (3 < t.length) = True := eq_true (by omega)
  have q0 : ((0 : Int) < (t.length : Int)) = True := eq_true (by omega)
  have q1 : ((1 : Int) < (t.length : Int)) = True := eq_true (by omega)
  have q2 : ((2 : Int) < (t.length : Int)) = True := eq_true (by omega)
  have q3 : ((3 : Int) < (t.length : Int)) = True := eq_true (by omega)
  clear hl
  have A2 := Aside0.mk hw
  clear hw
  have A3 := Aside0.mk ha
  have A4 := Aside0.mk hb
  clear ha hb
  subst ho hoa hob
  have hAb : ((rdOf ByteArray.empty t 0).toList == ([108, 111, 97, 100] : List UInt8)) = false := beq_eq_false_iff_ne.mpr hA
  clear hA
  have hBb : ((rdOf ByteArray.empty t 0).toList == ([117, 115, 101] : List UInt8)) = false := beq_eq_false_iff_ne.mpr hB
  clear hB
  go_enter Tryd.func20, Tryd.ntmps20
  go_wp2_with (first | (go_at_call 21; go_loud (with_reducible refine (strings_Split.calls line (⟨#[32]⟩ : ByteArray) t _ HV.out A1.out).mono ?_); go_loud (rintro e w1 ⟨v, rfl, ho, hb⟩; have HI1 := Aside0.mk (HI.out.below hb); obtain ⟨A9, c9, ev⟩ := Kd.R_slice ho; subst ev; have HRD := Aside0.mk ((Kd.R_reads' ho).2.2); clear ho hb; obtain ⟨ad0, ea0, hx0⟩ := Kd.at_string HRD.out 0 (by omega) (by have := HL.out; omega); cases ea0; (try simp only [show (0 : Int).toNat = 0 from rfl, Nat.reduceMul, Nat.reduceEqDiff, Go.Addr.add, ↓reduceIte] at hx0); (try rw [show ((0 : Int)).toNat = 0 from rfl] at hx0); obtain ⟨ad1, ea1, hx1⟩ := Kd.at_string HRD.out 1 (by omega) (by have := HL.out; omega); cases ea1; (try simp only [show (1 : Int).toNat = 1 from rfl, Nat.reduceMul, Nat.reduceEqDiff, Go.Addr.add, ↓reduceIte] at hx1); (try rw [show ((1 : Int)).toNat = 1 from rfl] at hx1); obtain ⟨ad2, ea2, hx2⟩ := Kd.at_string HRD.out 2 (by omega) (by have := HL.out; omega); cases ea2; (try simp only [show (2 : Int).toNat = 2 from rfl, Nat.reduceMul, Nat.reduceEqDiff, Go.Addr.add, ↓reduceIte] at hx2); (try rw [show ((2 : Int)).toNat = 2 from rfl] at hx2); obtain ⟨ad3, ea3, hx3⟩ := Kd.at_string HRD.out 3 (by omega) (by have := HL.out; omega); cases ea3; (try simp only [show (3 : Int).toNat = 3 from rfl, Nat.reduceMul, Nat.reduceEqDiff, Go.Addr.add, ↓reduceIte] at hx3); (try rw [show ((3 : Int)).toNat = 3 from rfl] at hx3); skip)) | (go_at_call 22; go_loud (with_reducible refine (power_isWord.calls K (rdOf ByteArray.empty t 1) _ _ A2.out).mono ?_); rintro e w' ⟨rfl, ⟨nd, rfl⟩⟩) | (go_at_call 23; go_loud (first | (with_reducible refine (kit_Digits.calls K (rdOf ByteArray.empty t 2) 13 _ _ _ A3.out).mono ?_) | (with_reducible refine (kit_Digits.calls K (rdOf ByteArray.empty t 3) 13 _ _ _ A4.out).mono ?_)); rintro e w' ⟨rfl, ⟨nd, rfl⟩⟩))
  go_ret
  exact ⟨by first | rfl | (simp; done) | (simp [*]; done), by repeat (first | exact HI1.out | apply ReadInv.drewN)⟩
set_option maxHeartbeats 8000000 in
set_option maxRecDepth 100000 in
theorem ReadOne.late (K : Nat) (line : ByteArray) (l : List S32) (u : List S35) (gl gu : Nat) (w W : World) (t : List ByteArray) (hV : VarsOK W) (hI : ReadInv w W gl gu l u) (ht : strings_Split.f line (⟨#[32]⟩ : ByteArray) = some t)  (hl : t.length = 4) (ok : Bool) (hw : power_isWord.f K (rdOf ByteArray.empty t 1) = some ok) (ho : ok = true) (a b : Int) (oa ob : Bool) (ha : kit_Digits.f K (rdOf ByteArray.empty t 2) 13 = some (a, oa)) (hb : kit_Digits.f K (rdOf ByteArray.empty t 3) 13 = some (b, ob)) (hoa : oa = true) (hob : ob = true) (hA : (rdOf ByteArray.empty t 0).toList = [108, 111, 97, 100]) (hU : u ≠ []) :
    Calls Tryd.prog 20 #[.string line, .pointer (some ⟨gu, 0, none⟩), .pointer (some ⟨gl, 0, none⟩)] W fun e w' => e = .returned (.bool false) ∧ ReadInv w w' gl gu l u := by
  have HV := Aside0.mk hV
  have HI := Aside0.mk hI
  have A1 := Aside0.mk ht
  clear hV hI ht
  have HL := Aside0.mk hl
  have c1 : ((t.length : Int) != 4) = false := bne_eq_false_iff_eq.mpr (by omega)
  have qi0 : (0 < t.length) = True := eq_true (by omega)
  have qi1 : (1 < t.length) = True := eq_true (by omega)
  have qi2 : (2 < t.length) = True := eq_true (by omega)
  have qi3 : (3 < t.length) = True := eq_true (by omega)
  have q0 : ((0 : Int) < (t.length : Int)) = True := eq_true (by omega)
  have q1 : ((1 : Int) < (t.length : Int)) = True := eq_true (by omega)
  have q2 : ((2 : Int) < (t.length : Int)) = True := eq_true (by omega)
  have q3 : ((3 : Int) < (t.length : Int)) = True := eq_true (by omega)
  clear hl
  have A2 := Aside0.mk hw
  clear hw
  have A3 := Aside0.mk ha
  have A4 := Aside0.mk hb
  clear ha hb
  subst ho hoa hob
  have hB : (rdOf ByteArray.empty t 0).toList ≠ [117, 115, 101] := by rw [hA]; decide
  have hAb : ((rdOf ByteArray.empty t 0).toList == ([108, 111, 97, 100] : List UInt8)) = true := beq_iff_eq.mpr hA
  clear hA
  have hBb : ((rdOf ByteArray.empty t 0).toList == ([117, 115, 101] : List UInt8)) = false := beq_eq_false_iff_ne.mpr hB
  clear hB
  have HU := Aside0.mk hU
  clear hU
  have qn : ∀ (w : World) (a : Option Addr) (n c n' c' : Nat), (binOp .eql 23 (.slice a n c) (.slice none n' c')).run Tryd.prog w = .ok (.bool a.isNone) w := fun w a n c n' c' => Lib.run_eql_slice_nil w _ _ a n c n' c' Tryd.underlying23
  go_enter Tryd.func20, Tryd.ntmps20
  go_wp2_with (first | (go_at_call 21; go_loud (with_reducible refine (strings_Split.calls line (⟨#[32]⟩ : ByteArray) t _ HV.out A1.out).mono ?_); go_loud (rintro e w1 ⟨v, rfl, ho, hb⟩; have HI1 := Aside0.mk (HI.out.below hb); obtain ⟨A9, c9, ev⟩ := Kd.R_slice ho; subst ev; have HRD := Aside0.mk ((Kd.R_reads' ho).2.2); clear ho hb; obtain ⟨ad0, ea0, hx0⟩ := Kd.at_string HRD.out 0 (by omega) (by have := HL.out; omega); cases ea0; (try simp only [show (0 : Int).toNat = 0 from rfl, Nat.reduceMul, Nat.reduceEqDiff, Go.Addr.add, ↓reduceIte] at hx0); (try rw [show ((0 : Int)).toNat = 0 from rfl] at hx0); obtain ⟨ad1, ea1, hx1⟩ := Kd.at_string HRD.out 1 (by omega) (by have := HL.out; omega); cases ea1; (try simp only [show (1 : Int).toNat = 1 from rfl, Nat.reduceMul, Nat.reduceEqDiff, Go.Addr.add, ↓reduceIte] at hx1); (try rw [show ((1 : Int)).toNat = 1 from rfl] at hx1); obtain ⟨ad2, ea2, hx2⟩ := Kd.at_string HRD.out 2 (by omega) (by have := HL.out; omega); cases ea2; (try simp only [show (2 : Int).toNat = 2 from rfl, Nat.reduceMul, Nat.reduceEqDiff, Go.Addr.add, ↓reduceIte] at hx2); (try rw [show ((2 : Int)).toNat = 2 from rfl] at hx2); obtain ⟨ad3, ea3, hx3⟩ := Kd.at_string HRD.out 3 (by omega) (by have := HL.out; omega); cases ea3; (try simp only [show (3 : Int).toNat = 3 from rfl, Nat.reduceMul, Nat.reduceEqDiff, Go.Addr.add, ↓reduceIte] at hx3); (try rw [show ((3 : Int)).toNat = 3 from rfl] at hx3); obtain ⟨vl, vu, RX⟩ := HI1.out; have HX := Aside0.mk RX; clear RX HI1; obtain ⟨Al, cl, el⟩ := Kd.R_slice HX.out.rl; subst el; obtain ⟨Au, cu, eu⟩ := Kd.R_slice HX.out.ru; subst eu; have hAu : ∃ ad, Au = some ad := (by obtain ⟨ad, e, _⟩ := (Kd.R_reads' HX.out.ru).2.2.2.2 (List.length_pos_iff.2 HU.out); exact ⟨ad, e⟩); obtain ⟨adu, eau⟩ := hAu; subst eau; have hbu : w1.cell? ⟨gu, 0, none⟩ = some (.slice (some adu) u.length cu) := (blk_cell HX.out.bu 0).trans rfl; skip)) | (go_at_call 22; go_loud (with_reducible refine (power_isWord.calls K (rdOf ByteArray.empty t 1) _ _ A2.out).mono ?_); rintro e w' ⟨rfl, ⟨nd, rfl⟩⟩) | (go_at_call 23; go_loud (first | (with_reducible refine (kit_Digits.calls K (rdOf ByteArray.empty t 2) 13 _ _ _ A3.out).mono ?_) | (with_reducible refine (kit_Digits.calls K (rdOf ByteArray.empty t 3) 13 _ _ _ A4.out).mono ?_)); rintro e w' ⟨rfl, ⟨nd, rfl⟩⟩))
  go_ret
  exact ⟨by first | rfl | (simp; done) | (simp [*]; done), ⟨_, _, by repeat (first | exact HX.out | apply RI2.drewN | apply RI2.drew)⟩⟩
set_option maxHeartbeats 8000000 in
set_option maxRecDepth 100000 in
theorem ReadOne.load (K : Nat) (line : ByteArray) (l : List S32) (gl gu : Nat) (w W : World) (t : List ByteArray) (hV : VarsOK W) (hI : ReadInv w W gl gu l []) (ht : strings_Split.f line (⟨#[32]⟩ : ByteArray) = some t)  (hl : t.length = 4) (ok : Bool) (hw : power_isWord.f K (rdOf ByteArray.empty t 1) = some ok) (ho : ok = true) (a b : Int) (oa ob : Bool) (ha : kit_Digits.f K (rdOf ByteArray.empty t 2) 13 = some (a, oa)) (hb : kit_Digits.f K (rdOf ByteArray.empty t 3) 13 = some (b, ob)) (hoa : oa = true) (hob : ob = true) (hA : (rdOf ByteArray.empty t 0).toList = [108, 111, 97, 100]) (hlt : l.length < 4398046511104) :
    Calls Tryd.prog 20 #[.string line, .pointer (some ⟨gu, 0, none⟩), .pointer (some ⟨gl, 0, none⟩)] W fun e w' => e = .returned (.bool true) ∧ ReadInv w w' gl gu (l ++ [⟨rdOf ByteArray.empty t 1, a, b⟩]) [] := by
  have HV := Aside0.mk hV
  have HI := Aside0.mk hI
  have A1 := Aside0.mk ht
  clear hV hI ht
  have HL := Aside0.mk hl
  have c1 : ((t.length : Int) != 4) = false := bne_eq_false_iff_eq.mpr (by omega)
  have qi0 : (0 < t.length) = True := eq_true (by omega)
  have qi1 : (1 < t.length) = True := eq_true (by omega)
  have qi2 : (2 < t.length) = True := eq_true (by omega)
  have qi3 : (3 < t.length) = True := eq_true (by omega)
  have q0 : ((0 : Int) < (t.length : Int)) = True := eq_true (by omega)
  have q1 : ((1 : Int) < (t.length : Int)) = True := eq_true (by omega)
  have q2 : ((2 : Int) < (t.length : Int)) = True := eq_true (by omega)
  have q3 : ((3 : Int) < (t.length : Int)) = True := eq_true (by omega)
  clear hl
  have A2 := Aside0.mk hw
  clear hw
  have A3 := Aside0.mk ha
  have A4 := Aside0.mk hb
  clear ha hb
  subst ho hoa hob
  have hAb : ((rdOf ByteArray.empty t 0).toList == ([108, 111, 97, 100] : List UInt8)) = true := beq_iff_eq.mpr hA
  clear hA
  have HLT := Aside0.mk hlt
  clear hlt
  have qn : ∀ (w : World) (a : Option Addr) (n c n' c' : Nat), (binOp .eql 23 (.slice a n c) (.slice none n' c')).run Tryd.prog w = .ok (.bool a.isNone) w := fun w a n c n' c' => Lib.run_eql_slice_nil w _ _ a n c n' c' Tryd.underlying23
  go_enter Tryd.func20, Tryd.ntmps20
  go_wp2_with (first | (go_at_call 21; go_loud (with_reducible refine (strings_Split.calls line (⟨#[32]⟩ : ByteArray) t _ HV.out A1.out).mono ?_); go_loud (rintro e w1 ⟨v, rfl, ho, hb⟩; have HI1 := Aside0.mk (HI.out.below hb); obtain ⟨A9, c9, ev⟩ := Kd.R_slice ho; subst ev; have HRD := Aside0.mk ((Kd.R_reads' ho).2.2); clear ho hb; obtain ⟨ad0, ea0, hx0⟩ := Kd.at_string HRD.out 0 (by omega) (by have := HL.out; omega); cases ea0; (try simp only [show (0 : Int).toNat = 0 from rfl, Nat.reduceMul, Nat.reduceEqDiff, Go.Addr.add, ↓reduceIte] at hx0); (try rw [show ((0 : Int)).toNat = 0 from rfl] at hx0); obtain ⟨ad1, ea1, hx1⟩ := Kd.at_string HRD.out 1 (by omega) (by have := HL.out; omega); cases ea1; (try simp only [show (1 : Int).toNat = 1 from rfl, Nat.reduceMul, Nat.reduceEqDiff, Go.Addr.add, ↓reduceIte] at hx1); (try rw [show ((1 : Int)).toNat = 1 from rfl] at hx1); obtain ⟨ad2, ea2, hx2⟩ := Kd.at_string HRD.out 2 (by omega) (by have := HL.out; omega); cases ea2; (try simp only [show (2 : Int).toNat = 2 from rfl, Nat.reduceMul, Nat.reduceEqDiff, Go.Addr.add, ↓reduceIte] at hx2); (try rw [show ((2 : Int)).toNat = 2 from rfl] at hx2); obtain ⟨ad3, ea3, hx3⟩ := Kd.at_string HRD.out 3 (by omega) (by have := HL.out; omega); cases ea3; (try simp only [show (3 : Int).toNat = 3 from rfl, Nat.reduceMul, Nat.reduceEqDiff, Go.Addr.add, ↓reduceIte] at hx3); (try rw [show ((3 : Int)).toNat = 3 from rfl] at hx3); obtain ⟨vl, vu, RX⟩ := HI1.out; have HX := Aside0.mk RX; clear RX HI1; obtain ⟨Al, cl, el⟩ := Kd.R_slice HX.out.rl; subst el; have eu := HX.out.un rfl; subst eu; have hbu : w1.cell? ⟨gu, 0, none⟩ = some (.slice none 0 0) := (blk_cell HX.out.bu 0).trans rfl; have hbl : w1.cell? ⟨gl, 0, none⟩ = some (.slice Al l.length cl) := (blk_cell HX.out.bl 0).trans rfl; skip)) | (go_at_call 22; go_loud (with_reducible refine (power_isWord.calls K (rdOf ByteArray.empty t 1) _ _ A2.out).mono ?_); rintro e w' ⟨rfl, ⟨nd, rfl⟩⟩) | (go_at_call 23; go_loud (first | (with_reducible refine (kit_Digits.calls K (rdOf ByteArray.empty t 2) 13 _ _ _ A3.out).mono ?_) | (with_reducible refine (kit_Digits.calls K (rdOf ByteArray.empty t 3) 13 _ _ _ A4.out).mono ?_)); rintro e w' ⟨rfl, ⟨nd, rfl⟩⟩))
  refine start_ (n := 10) (S := fun w' => w'.cell? ⟨gl, 0, none⟩ = some (.slice Al l.length cl) ∧ w'.cell? ⟨ad0.block, ad0.off + 1, none⟩ = some (.string (rdOf ByteArray.empty t 1))) (ds := [8, 9]) #[false, false, false, false, false, false, false, false, false, false] (by kernel_rfl) rfl rfl ⟨hbl, hx1⟩ (fun hHeld => ?_)
  refine rd_world (R := fun W2 => RI2 w W2 gl gu (.slice Al l.length cl) (.slice none 0 0) l []) ?hR hHeld (fun W2 hX2 hHeld => ?_)
  (case hR => repeat (first | exact HX.out | apply RI2.drewN | apply RI2.drew))
  have HX2 := Aside0.mk hX2
  clear hX2 HX hx0 hx1 hx2 hx3 hbu HRD hbl
  refine take_ (i := 0) (N := some 52) (v := ?_) (a' := ?_) #[true, false, false, false, false, false, false, false, false, false] rfl rfl (by kernel_rfl) (fun _ _ _ h => h) (Or.inl ⟨by rfl, ?_⟩) hHeld ?_ ?_
  rotate_left
  · rintro w' ⟨s0, s1⟩
    go_simp
    with_reducible rfl
  rotate_left
  · simp only [Act.put, List.setIfInBounds_toArray, List.set_cons_zero, List.set_cons_succ, i64_w, i32_w]
    rfl
  refine pure_ (i := 1) (N := some 53) (v := ?_) (a' := ?_) #[true, true, false, false, false, false, false, false, false, false] rfl rfl (by kernel_rfl) (fun _ _ _ h => h) (Or.inl ⟨by rfl, ?_⟩) ?_ ?_
  rotate_left
  · intro w'
    go_simp
    with_reducible rfl
  rotate_left
  · simp only [Act.put, List.setIfInBounds_toArray, List.set_cons_zero, List.set_cons_succ, i64_w, i32_w]
    rfl
  refine pure_ (i := 2) (N := some 54) (v := ?_) (a' := ?_) #[true, true, true, false, false, false, false, false, false, false] rfl rfl (by kernel_rfl) (fun _ _ _ h => h) (Or.inl ⟨by rfl, ?_⟩) ?_ ?_
  rotate_left
  · intro w'
    go_simp
    with_reducible rfl
  rotate_left
  · simp only [Act.put, List.setIfInBounds_toArray, List.set_cons_zero, List.set_cons_succ, i64_w, i32_w]
    rfl
  refine take_ (i := 3) (N := some 55) (v := ?_) (a' := ?_) #[true, true, true, true, false, false, false, false, false, false] rfl rfl (by kernel_rfl) (fun _ _ _ h => h) (Or.inl ⟨by rfl, ?_⟩) hHeld ?_ ?_
  rotate_left
  · rintro w' ⟨s0, s1⟩
    go_simp
    with_reducible rfl
  rotate_left
  · simp only [Act.put, List.setIfInBounds_toArray, List.set_cons_zero, List.set_cons_succ, i64_w, i32_w]
    rfl
  refine pure_ (i := 4) (N := some 56) (v := ?_) (a' := ?_) #[true, true, true, true, true, false, false, false, false, false] rfl rfl (by kernel_rfl) (fun _ _ _ h => h) (Or.inl ⟨by rfl, ?_⟩) ?_ ?_
  rotate_left
  · intro w'
    go_simp
    with_reducible rfl
  rotate_left
  · simp only [Act.put, List.setIfInBounds_toArray, List.set_cons_zero, List.set_cons_succ, i64_w, i32_w]
    rfl
  refine pure_ (i := 5) (N := some 57) (v := ?_) (a' := ?_) #[true, true, true, true, true, true, false, false, false, false] rfl rfl (by kernel_rfl) (fun _ _ _ h => h) (Or.inl ⟨by rfl, ?_⟩) ?_ ?_
  rotate_left
  · intro w'
    go_simp
    with_reducible rfl
  rotate_left
  · simp only [Act.put, List.setIfInBounds_toArray, List.set_cons_zero, List.set_cons_succ, i64_w, i32_w]
    rfl
  refine pure_ (i := 6) (N := some 58) (v := ?_) (a' := ?_) #[true, true, true, true, true, true, true, false, false, false] rfl rfl (by kernel_rfl) (fun _ _ _ h => h) (Or.inl ⟨by rfl, ?_⟩) ?_ ?_
  rotate_left
  · intro w'
    go_simp
    with_reducible rfl
  rotate_left
  · simp only [Act.put, List.setIfInBounds_toArray, List.set_cons_zero, List.set_cons_succ, i64_w, i32_w]
    rfl
  refine one_ (i := 7) (N := some 59) #[true, true, true, true, true, true, true, true, false, false] rfl rfl (by kernel_rfl) (by decide) (fun K hK => ?_)
  refine rd_event_step (w1 := W2.alloc (.cells ([.string (rdOf ByteArray.empty t 1), .int .i64 a, .int .i64 b] : List Value).toArray 32)) (v := .slice (some ⟨W2.heap.size, 0, none⟩) 1 1) (by rfl) ?hr ?_
  (case hr => first | (go_simp; done) | (go_simp; rfl))
  refine hK.out _ _ ⟨Lib.cell?_alloc_some _ hHeld.1, Lib.cell?_alloc_some _ hHeld.2⟩ (fun hHeld => ?_)
  clear hK K
  refine norm_ (a' := ?_) ?_ ?_
  rotate_left
  · show Act.put _ (some 59) _ = _
    simp only [Act.put, List.setIfInBounds_toArray, List.set_cons_zero, List.set_cons_succ, i64_w, i32_w]
    rfl
  refine last_ (i := 8) (N := some 60) #[true, true, true, true, true, true, true, true, true, false] rfl rfl (by kernel_rfl) (by decide) (fun K hK => ?_)
  refine Kd.R_append_step k32 (w0 := w) w.heap.size (by rfl) (.tmp 52) (.tmp 59) 22 32 (.agg #[.string ⟨#[]⟩, .int .i64 0, .int .i64 0]) 32 rfl Tryd.underlying22 load_info rfl (by decide) (by omega) (.slice Al l.length cl) l (⟨rdOf ByteArray.empty t 1, a, b⟩ : S32) [.string (rdOf ByteArray.empty t 1), .int .i64 a, .int .i64 b] (fun _ => True) (fun _ => False) rfl rfl (k32_mkM _ _ _ (⟨rdOf ByteArray.empty t 1, a, b⟩ : S32)) (fun _ h => h.elim) (fun _ _ => trivial) HX2.out.rl HX2.out.bel (below_size HX2.out.bel) (by have := HLT.out; omega) ?_
  intro v3 W3 ho3 hb3 hg3 _
  obtain ⟨z2, hz2⟩ : ∃ z2 : List S32, z2 = l ++ [(⟨rdOf ByteArray.empty t 1, a, b⟩ : S32)] := ⟨_, rfl⟩
  rw [← hz2] at ho3
  have hzn : z2 ≠ [] := by rw [hz2]; simp
  have HZ := Aside0.mk hz2
  clear hz2
  obtain ⟨A3, c3, e3⟩ := Kd.R_slice ho3
  subst e3
  have b3 := blk_grown HX2.out.bl hg3 (own_ne HX2.out.rl HX2.out.bl (by decide))
  have HF := Aside0.mk (HX2.out.put_l ho3 hb3 hg3)
  have hc3 : W3.cell? ⟨gl, 0, none⟩ = some (.slice Al l.length cl) := (blk_cell b3 0).trans rfl
  have hf3 := blk_frozen b3 0
  clear ho3 hb3 hg3 b3 HX2 hzn
  refine hK.out _ _ ?_
  clear hK K
  refine norm_ (a' := ?_) ?_ ?_
  rotate_left
  · show Act.put _ (some 60) _ = _
    simp only [Act.put, List.setIfInBounds_toArray, List.set_cons_zero, List.set_cons_succ, i64_w, i32_w]
    rfl
  refine last_ (i := 9) (N := none) #[true, true, true, true, true, true, true, true, true, true] rfl rfl (by kernel_rfl) (by decide) (fun K hK => ?_)
  refine rd_store_step (w1 := W3.setCell ⟨gl, 0, none⟩ (.slice A3 z2.length c3)) (by rfl) rfl ?hr ?_
  (case hr => first | (go_simp; done) | (go_simp; rfl))
  refine hK.out _ _ ?_
  clear hK K
  refine norm_ (a' := ?_) ?_ ?_
  rotate_left
  · show Act.put _ none undef = _
    simp only [Act.put]
    rfl
  refine done_ (by kernel_rfl) ?_
  clear hc3 hf3 hHeld
  go_wp2
  go_ret
  rw [← HZ.out]
  exact ⟨rfl, _, _, by repeat (first | exact HF.out | apply RI2.drewN | apply RI2.drew)⟩
set_option maxHeartbeats 8000000 in
set_option maxRecDepth 100000 in
theorem ReadOne.use (K : Nat) (line : ByteArray) (l : List S32) (u : List S35) (gl gu : Nat) (w W : World) (t : List ByteArray) (hV : VarsOK W) (hI : ReadInv w W gl gu l u) (ht : strings_Split.f line (⟨#[32]⟩ : ByteArray) = some t)  (hl : t.length = 4) (ok : Bool) (hw : power_isWord.f K (rdOf ByteArray.empty t 1) = some ok) (ho : ok = true) (a b : Int) (oa ob : Bool) (ha : kit_Digits.f K (rdOf ByteArray.empty t 2) 13 = some (a, oa)) (hb : kit_Digits.f K (rdOf ByteArray.empty t 3) 13 = some (b, ob)) (hoa : oa = true) (hob : ob = true) (hA : (rdOf ByteArray.empty t 0).toList ≠ [108, 111, 97, 100]) (hB : (rdOf ByteArray.empty t 0).toList = [117, 115, 101]) (hlt : u.length < 4398046511104) :
    Calls Tryd.prog 20 #[.string line, .pointer (some ⟨gu, 0, none⟩), .pointer (some ⟨gl, 0, none⟩)] W fun e w' => e = .returned (.bool true) ∧ ReadInv w w' gl gu l (u ++ [⟨rdOf ByteArray.empty t 1, a, b⟩]) := by
  have HV := Aside0.mk hV
  have HI := Aside0.mk hI
  have A1 := Aside0.mk ht
  clear hV hI ht
  have HL := Aside0.mk hl
  have c1 : ((t.length : Int) != 4) = false := bne_eq_false_iff_eq.mpr (by omega)
  have qi0 : (0 < t.length) = True := eq_true (by omega)
  have qi1 : (1 < t.length) = True := eq_true (by omega)
  have qi2 : (2 < t.length) = True := eq_true (by omega)
  have qi3 : (3 < t.length) = True := eq_true (by omega)
  have q0 : ((0 : Int) < (t.length : Int)) = True := eq_true (by omega)
  have q1 : ((1 : Int) < (t.length : Int)) = True := eq_true (by omega)
  have q2 : ((2 : Int) < (t.length : Int)) = True := eq_true (by omega)
  have q3 : ((3 : Int) < (t.length : Int)) = True := eq_true (by omega)
  clear hl
  have A2 := Aside0.mk hw
  clear hw
  have A3 := Aside0.mk ha
  have A4 := Aside0.mk hb
  clear ha hb
  subst ho hoa hob
  have hAb : ((rdOf ByteArray.empty t 0).toList == ([108, 111, 97, 100] : List UInt8)) = false := beq_eq_false_iff_ne.mpr hA
  clear hA
  have hBb : ((rdOf ByteArray.empty t 0).toList == ([117, 115, 101] : List UInt8)) = true := beq_iff_eq.mpr hB
  clear hB
  have HLT := Aside0.mk hlt
  clear hlt
  go_enter Tryd.func20, Tryd.ntmps20
  go_wp2_with (first | (go_at_call 21; go_loud (with_reducible refine (strings_Split.calls line (⟨#[32]⟩ : ByteArray) t _ HV.out A1.out).mono ?_); go_loud (rintro e w1 ⟨v, rfl, ho, hb⟩; have HI1 := Aside0.mk (HI.out.below hb); obtain ⟨A9, c9, ev⟩ := Kd.R_slice ho; subst ev; have HRD := Aside0.mk ((Kd.R_reads' ho).2.2); clear ho hb; obtain ⟨ad0, ea0, hx0⟩ := Kd.at_string HRD.out 0 (by omega) (by have := HL.out; omega); cases ea0; (try simp only [show (0 : Int).toNat = 0 from rfl, Nat.reduceMul, Nat.reduceEqDiff, Go.Addr.add, ↓reduceIte] at hx0); (try rw [show ((0 : Int)).toNat = 0 from rfl] at hx0); obtain ⟨ad1, ea1, hx1⟩ := Kd.at_string HRD.out 1 (by omega) (by have := HL.out; omega); cases ea1; (try simp only [show (1 : Int).toNat = 1 from rfl, Nat.reduceMul, Nat.reduceEqDiff, Go.Addr.add, ↓reduceIte] at hx1); (try rw [show ((1 : Int)).toNat = 1 from rfl] at hx1); obtain ⟨ad2, ea2, hx2⟩ := Kd.at_string HRD.out 2 (by omega) (by have := HL.out; omega); cases ea2; (try simp only [show (2 : Int).toNat = 2 from rfl, Nat.reduceMul, Nat.reduceEqDiff, Go.Addr.add, ↓reduceIte] at hx2); (try rw [show ((2 : Int)).toNat = 2 from rfl] at hx2); obtain ⟨ad3, ea3, hx3⟩ := Kd.at_string HRD.out 3 (by omega) (by have := HL.out; omega); cases ea3; (try simp only [show (3 : Int).toNat = 3 from rfl, Nat.reduceMul, Nat.reduceEqDiff, Go.Addr.add, ↓reduceIte] at hx3); (try rw [show ((3 : Int)).toNat = 3 from rfl] at hx3); obtain ⟨vl, vu, RX⟩ := HI1.out; have HX := Aside0.mk RX; clear RX HI1; obtain ⟨Al, cl, el⟩ := Kd.R_slice HX.out.rl; subst el; obtain ⟨Au, cu, eu⟩ := Kd.R_slice HX.out.ru; subst eu; have hbu : w1.cell? ⟨gu, 0, none⟩ = some (.slice Au u.length cu) := (blk_cell HX.out.bu 0).trans rfl; skip)) | (go_at_call 22; go_loud (with_reducible refine (power_isWord.calls K (rdOf ByteArray.empty t 1) _ _ A2.out).mono ?_); rintro e w' ⟨rfl, ⟨nd, rfl⟩⟩) | (go_at_call 23; go_loud (first | (with_reducible refine (kit_Digits.calls K (rdOf ByteArray.empty t 2) 13 _ _ _ A3.out).mono ?_) | (with_reducible refine (kit_Digits.calls K (rdOf ByteArray.empty t 3) 13 _ _ _ A4.out).mono ?_)); rintro e w' ⟨rfl, ⟨nd, rfl⟩⟩))
  refine start_ (n := 10) (S := fun w' => w'.cell? ⟨gu, 0, none⟩ = some (.slice Au u.length cu) ∧ w'.cell? ⟨ad0.block, ad0.off + 1, none⟩ = some (.string (rdOf ByteArray.empty t 1))) (ds := [8, 9]) #[false, false, false, false, false, false, false, false, false, false] (by kernel_rfl) rfl rfl ⟨hbu, hx1⟩ (fun hHeld => ?_)
  refine rd_world (R := fun W2 => RI2 w W2 gl gu (.slice Al l.length cl) (.slice Au u.length cu) l u) ?hR hHeld (fun W2 hX2 hHeld => ?_)
  (case hR => repeat (first | exact HX.out | apply RI2.drewN | apply RI2.drew))
  have HX2 := Aside0.mk hX2
  clear hX2 HX hx0 hx1 hx2 hx3 hbu HRD
  refine take_ (i := 0) (N := some 66) (v := ?_) (a' := ?_) #[true, false, false, false, false, false, false, false, false, false] rfl rfl (by kernel_rfl) (fun _ _ _ h => h) (Or.inl ⟨by rfl, ?_⟩) hHeld ?_ ?_
  rotate_left
  · rintro w' ⟨s0, s1⟩
    go_simp
    with_reducible rfl
  rotate_left
  · simp only [Act.put, List.setIfInBounds_toArray, List.set_cons_zero, List.set_cons_succ, i64_w, i32_w]
    rfl
  refine pure_ (i := 1) (N := some 67) (v := ?_) (a' := ?_) #[true, true, false, false, false, false, false, false, false, false] rfl rfl (by kernel_rfl) (fun _ _ _ h => h) (Or.inl ⟨by rfl, ?_⟩) ?_ ?_
  rotate_left
  · intro w'
    go_simp
    with_reducible rfl
  rotate_left
  · simp only [Act.put, List.setIfInBounds_toArray, List.set_cons_zero, List.set_cons_succ, i64_w, i32_w]
    rfl
  refine pure_ (i := 2) (N := some 68) (v := ?_) (a' := ?_) #[true, true, true, false, false, false, false, false, false, false] rfl rfl (by kernel_rfl) (fun _ _ _ h => h) (Or.inl ⟨by rfl, ?_⟩) ?_ ?_
  rotate_left
  · intro w'
    go_simp
    with_reducible rfl
  rotate_left
  · simp only [Act.put, List.setIfInBounds_toArray, List.set_cons_zero, List.set_cons_succ, i64_w, i32_w]
    rfl
  refine take_ (i := 3) (N := some 69) (v := ?_) (a' := ?_) #[true, true, true, true, false, false, false, false, false, false] rfl rfl (by kernel_rfl) (fun _ _ _ h => h) (Or.inl ⟨by rfl, ?_⟩) hHeld ?_ ?_
  rotate_left
  · rintro w' ⟨s0, s1⟩
    go_simp
    with_reducible rfl
  rotate_left
  · simp only [Act.put, List.setIfInBounds_toArray, List.set_cons_zero, List.set_cons_succ, i64_w, i32_w]
    rfl
  refine pure_ (i := 4) (N := some 70) (v := ?_) (a' := ?_) #[true, true, true, true, true, false, false, false, false, false] rfl rfl (by kernel_rfl) (fun _ _ _ h => h) (Or.inl ⟨by rfl, ?_⟩) ?_ ?_
  rotate_left
  · intro w'
    go_simp
    with_reducible rfl
  rotate_left
  · simp only [Act.put, List.setIfInBounds_toArray, List.set_cons_zero, List.set_cons_succ, i64_w, i32_w]
    rfl
  refine pure_ (i := 5) (N := some 71) (v := ?_) (a' := ?_) #[true, true, true, true, true, true, false, false, false, false] rfl rfl (by kernel_rfl) (fun _ _ _ h => h) (Or.inl ⟨by rfl, ?_⟩) ?_ ?_
  rotate_left
  · intro w'
    go_simp
    with_reducible rfl
  rotate_left
  · simp only [Act.put, List.setIfInBounds_toArray, List.set_cons_zero, List.set_cons_succ, i64_w, i32_w]
    rfl
  refine pure_ (i := 6) (N := some 72) (v := ?_) (a' := ?_) #[true, true, true, true, true, true, true, false, false, false] rfl rfl (by kernel_rfl) (fun _ _ _ h => h) (Or.inl ⟨by rfl, ?_⟩) ?_ ?_
  rotate_left
  · intro w'
    go_simp
    with_reducible rfl
  rotate_left
  · simp only [Act.put, List.setIfInBounds_toArray, List.set_cons_zero, List.set_cons_succ, i64_w, i32_w]
    rfl
  refine one_ (i := 7) (N := some 73) #[true, true, true, true, true, true, true, true, false, false] rfl rfl (by kernel_rfl) (by decide) (fun K hK => ?_)
  refine rd_event_step (w1 := W2.alloc (.cells ([.string (rdOf ByteArray.empty t 1), .int .i64 a, .int .i64 b] : List Value).toArray 35)) (v := .slice (some ⟨W2.heap.size, 0, none⟩) 1 1) (by rfl) ?hr ?_
  (case hr => first | (go_simp; done) | (go_simp; rfl))
  refine hK.out _ _ ⟨Lib.cell?_alloc_some _ hHeld.1, Lib.cell?_alloc_some _ hHeld.2⟩ (fun hHeld => ?_)
  clear hK K
  refine norm_ (a' := ?_) ?_ ?_
  rotate_left
  · show Act.put _ (some 73) _ = _
    simp only [Act.put, List.setIfInBounds_toArray, List.set_cons_zero, List.set_cons_succ, i64_w, i32_w]
    rfl
  refine last_ (i := 8) (N := some 74) #[true, true, true, true, true, true, true, true, true, false] rfl rfl (by kernel_rfl) (by decide) (fun K hK => ?_)
  refine Kd.R_append_step k35 (w0 := w) w.heap.size (by rfl) (.tmp 66) (.tmp 73) 23 35 (.agg #[.string ⟨#[]⟩, .int .i64 0, .int .i64 0]) 32 rfl Tryd.underlying23 use_info rfl (by decide) (by omega) (.slice Au u.length cu) u (⟨rdOf ByteArray.empty t 1, a, b⟩ : S35) [.string (rdOf ByteArray.empty t 1), .int .i64 a, .int .i64 b] (fun _ => True) (fun _ => False) rfl rfl (k35_mkM _ _ _ (⟨rdOf ByteArray.empty t 1, a, b⟩ : S35)) (fun _ h => h.elim) (fun _ _ => trivial) HX2.out.ru HX2.out.bel (below_size HX2.out.bel) (by have := HLT.out; omega) ?_
  intro v3 W3 ho3 hb3 hg3 _
  obtain ⟨z2, hz2⟩ : ∃ z2 : List S35, z2 = u ++ [(⟨rdOf ByteArray.empty t 1, a, b⟩ : S35)] := ⟨_, rfl⟩
  rw [← hz2] at ho3
  have hzn : z2 ≠ [] := by rw [hz2]; simp
  have HZ := Aside0.mk hz2
  clear hz2
  obtain ⟨A3, c3, e3⟩ := Kd.R_slice ho3
  subst e3
  have b3 := blk_grown HX2.out.bu hg3 (own_ne HX2.out.ru HX2.out.bu (by decide))
  have HF := Aside0.mk (HX2.out.put_u ho3 hzn hb3 hg3)
  have hc3 : W3.cell? ⟨gu, 0, none⟩ = some (.slice Au u.length cu) := (blk_cell b3 0).trans rfl
  have hf3 := blk_frozen b3 0
  clear ho3 hb3 hg3 b3 HX2 hzn
  refine hK.out _ _ ?_
  clear hK K
  refine norm_ (a' := ?_) ?_ ?_
  rotate_left
  · show Act.put _ (some 74) _ = _
    simp only [Act.put, List.setIfInBounds_toArray, List.set_cons_zero, List.set_cons_succ, i64_w, i32_w]
    rfl
  refine last_ (i := 9) (N := none) #[true, true, true, true, true, true, true, true, true, true] rfl rfl (by kernel_rfl) (by decide) (fun K hK => ?_)
  refine rd_store_step (w1 := W3.setCell ⟨gu, 0, none⟩ (.slice A3 z2.length c3)) (by rfl) rfl ?hr ?_
  (case hr => first | (go_simp; done) | (go_simp; rfl))
  refine hK.out _ _ ?_
  clear hK K
  refine norm_ (a' := ?_) ?_ ?_
  rotate_left
  · show Act.put _ none undef = _
    simp only [Act.put]
    rfl
  refine done_ (by kernel_rfl) ?_
  clear hc3 hf3 hHeld
  go_wp2
  go_ret
  rw [← HZ.out]
  exact ⟨rfl, _, _, by repeat (first | exact HF.out | apply RI2.drewN | apply RI2.drew)⟩
theorem ReadOne.calls (K : Nat) (line : ByteArray) (l : List S32) (u : List S35) (b : Bool) (l' : List S32) (u' : List S35) (gl gu : Nat) (w W : World) (hV : VarsOK W) (hI : ReadInv w W gl gu l u) (h : ReadOne K line l u = some (b, l', u')) :
    Calls Tryd.prog 20 #[.string line, .pointer (some ⟨gu, 0, none⟩), .pointer (some ⟨gl, 0, none⟩)] W fun e w' => e = .returned (.bool b) ∧ ReadInv w w' gl gu l' u' := by
  unfold ReadOne at h
  replace h := Option.bind_eq_some_iff.mp h
  obtain ⟨t, ht, h⟩ := h
  by_cases hl : t.length = 4
  · rw [if_pos hl] at h
    replace h := Option.bind_eq_some_iff.mp h
    obtain ⟨ok, hw, h⟩ := h
    by_cases ho : ok = true
    · rw [if_pos ho] at h
      replace h := Option.bind_eq_some_iff.mp h
      obtain ⟨⟨x, ox⟩, hx, h⟩ := h
      replace h := Option.bind_eq_some_iff.mp h
      obtain ⟨⟨y, oy⟩, hy, h⟩ := h
      dsimp only at h
      by_cases h1 : ox = true
      · rw [if_pos h1] at h
        by_cases h2 : oy = true
        · rw [if_pos h2] at h
          by_cases hA : (rdOf ByteArray.empty t 0).toList = [108, 111, 97, 100]
          · by_cases hU : u = []
            · rw [if_pos ⟨hA, hU⟩] at h
              obtain ⟨hlt, h⟩ := guardT h
              have e := Option.some.inj h
              injection e with e1 e2
              injection e2 with e2 e3
              subst e1 e2 e3
              subst hU
              exact ReadOne.load K line l gl gu w W t hV hI ht hl ok hw ho x y ox oy hx hy h1 h2 hA hlt
            · rw [if_neg (fun q => hU q.2), if_neg (by rw [hA]; decide)] at h
              have e := Option.some.inj h
              injection e with e1 e2
              injection e2 with e2 e3
              subst e1 e2 e3
              exact ReadOne.late K line l u gl gu w W t hV hI ht hl ok hw ho x y ox oy hx hy h1 h2 hA hU
          · rw [if_neg (fun q => hA q.1)] at h
            by_cases hB : (rdOf ByteArray.empty t 0).toList = [117, 115, 101]
            · rw [if_pos hB] at h
              obtain ⟨hlt, h⟩ := guardT h
              have e := Option.some.inj h
              injection e with e1 e2
              injection e2 with e2 e3
              subst e1 e2 e3
              exact ReadOne.use K line l u gl gu w W t hV hI ht hl ok hw ho x y ox oy hx hy h1 h2 hA hB hlt
            · rw [if_neg hB] at h
              have e := Option.some.inj h
              injection e with e1 e2
              injection e2 with e2 e3
              subst e1 e2 e3
              exact ReadOne.neither K line l u gl gu w W t hV hI ht hl ok hw ho x y ox oy hx hy h1 h2 hA hB
        · rw [if_neg h2] at h
          have e := Option.some.inj h
          injection e with e1 e2
          injection e2 with e2 e3
          subst e1 e2 e3
          exact ReadOne.two K line l u gl gu w W t hV hI ht hl ok hw ho x y ox oy hx hy h1 (Bool.eq_false_iff.mpr h2)
      · rw [if_neg h1] at h
        have e := Option.some.inj h
        injection e with e1 e2
        injection e2 with e2 e3
        subst e1 e2 e3
        exact ReadOne.one K line l u gl gu w W t hV hI ht hl ok hw ho x y ox oy hx hy (Bool.eq_false_iff.mpr h1)
    · rw [if_neg ho] at h
      have e := Option.some.inj h
      injection e with e1 e2
      injection e2 with e2 e3
      subst e1 e2 e3
      exact ReadOne.word K line l u gl gu w W t hV hI ht hl ok hw (Bool.eq_false_iff.mpr ho)
  · rw [if_neg hl] at h
    have e := Option.some.inj h
    injection e with e1 e2
    injection e2 with e2 e3
    subst e1 e2 e3
    exact ReadOne.len K line l u gl gu w W t hV hI ht hl
def ReadLines : Nat → ByteArray → Int → List S32 → List S35 → Option (Int × List S32 × List S35)
  | 0, _, _, _, _ => none
  | k + 1, x, n, l, u => if x.toList = ([] : List UInt8) then some (0, l, u) else if Lib.indexByte x.data.toList 10 < 0 then some (n, l, u) else
      if Lib.indexByte x.data.toList 10 < (x.size : Int) ∧ 0 ≤ wrap64 (Lib.indexByte x.data.toList 10 + 1) ∧ wrap64 (Lib.indexByte x.data.toList 10 + 1) ≤ (x.size : Int) then (ReadOne k (x.extract 0 (Lib.indexByte x.data.toList 10).toNat) l u).bind fun r => if r.1 = true then ReadLines k (x.extract (wrap64 (Lib.indexByte x.data.toList 10 + 1)).toNat x.size) (wrap64 (n + 1)) r.2.1 r.2.2 else some (n, r.2.1, r.2.2) else none
set_option maxHeartbeats 8000000 in
set_option maxRecDepth 100000 in
theorem ReadLines.calls (k : Nat) (text : ByteArray) (l : List S32) (u : List S35) (r : Int) (l' : List S32) (u' : List S35) (gl gu : Nat) (w W : World) (hV : VarsOK w) (hI : ReadInv w W gl gu l u) (h : ReadLines k text 1 l u = some (r, l', u')) :
    Calls Tryd.prog 19 #[.string text, .func (.func 20) #[] #[.pointer (some ⟨gu, 0, none⟩), .pointer (some ⟨gl, 0, none⟩)]] W fun e w' => e = .returned (.int .i64 r) ∧ ReadInv w w' gl gu l' u' := by
  have HV := Aside0.mk hV
  have HI := Aside0.mk hI
  have H' := Aside0.mk h
  clear hV hI h
  go_enter Tryd.func19, Tryd.ntmps19
  go_wp2
  go_loopg [0, 5] k (fun kq v0 v5 w' => ∃ (x : ByteArray) (n : Int) (l1 : List S32) (u1 : List S35), v0 = .string x ∧ v5 = .int .i64 n ∧ Aside0 (ReadLines kq x n l1 u1 = some (r, l', u')) ∧ Aside0 (kq ≤ k) ∧ Aside0 (ReadInv w w' gl gu l1 u1))
  case atStart => exact ⟨text, 1, l, u, rfl, rfl, H', ⟨Nat.le_refl _⟩, HI⟩
  case round =>
    clear H' HI
    obtain ⟨x, n, l1, u1, rfl, rfl, HA, HK1, HI⟩ := hrel
    cases gk with
    | zero => exact absurd HA.out (by simp [ReadLines])
    | succ k1 =>
      have H := HA.out
      clear HA
      simp only [ReadLines] at H
      by_cases c3 : x.toList = ([] : List UInt8)
      · rw [if_pos c3] at H
        have c3b0 : (x.toList == ([] : List UInt8)) = true := beq_iff_eq.mpr c3
        have c3b1 : (x.toList != ([] : List UInt8)) = false := bne_eq_false_iff_eq.mpr c3
        clear c3
        simp only [Option.some.injEq, Prod.mk.injEq] at H
        obtain ⟨rfl, rfl, rfl⟩ := H
        go_wp2
        go_ret
        exact ⟨rfl, by repeat (first | exact HI.out | apply ReadInv.drewN)⟩
      · rw [if_neg c3] at H
        have c3b0 : (x.toList == ([] : List UInt8)) = false := beq_eq_false_iff_ne.mpr c3
        have c3b1 : (x.toList != ([] : List UInt8)) = true := bne_iff_ne.mpr c3
        clear c3
        have A1 := Aside0.mk (show strings_IndexByte.f x 10 = some (Lib.indexByte x.data.toList 10) from rfl)
        by_cases c4 : Lib.indexByte x.data.toList 10 < 0
        · rw [if_pos c4] at H
          generalize Lib.indexByte x.data.toList 10 = j at c4 A1
          have c4b0 : decide (j < 0) = true := decide_eq_true c4
          clear c4
          simp only [Option.some.injEq, Prod.mk.injEq] at H
          obtain ⟨rfl, rfl, rfl⟩ := H
          go_wp2_with (first | (go_at_call 40; go_loud (with_reducible refine (strings_IndexByte.calls x 10 _ _ A1.out).mono ?_); rintro e w' ⟨rfl, ⟨nd, rfl⟩⟩))
          go_ret
          exact ⟨rfl, by repeat (first | exact HI.out | apply ReadInv.drewN)⟩
        · rw [if_neg c4] at H
          obtain ⟨⟨c5, c6, c7⟩, H⟩ := guardT H
          obtain ⟨i, hi⟩ : ∃ i : Nat, Lib.indexByte x.data.toList 10 = (i : Int) := ⟨(Lib.indexByte x.data.toList 10).toNat, by omega⟩
          rw [hi] at H A1 c5 c6 c7
          rw [Int.toNat_natCast] at H
          have c4b0 : decide ((i : Int) < 0) = false := decide_eq_false (by omega)
          have hle : (i : Int) ≤ (x.size : Int) := by omega
          have hle1 : i ≤ x.size := by omega
          have hq0 : (0 ≤ wrap64 ((i : Int) + 1)) = True := eq_true c6
          have hq1 : (wrap64 ((i : Int) + 1) ≤ (x.size : Int)) = True := eq_true c7
          have hb1 : decide ((i : Int) ≤ (x.size : Int)) = true := decide_eq_true hle
          clear c6 c7
          clear hi c4
          replace H := Option.bind_eq_some_iff.mp H
          obtain ⟨⟨b, l2, u2⟩, hO, H⟩ := H
          have A2 := Aside0.mk hO
          clear hO
          cases b with
          | false =>
            rw [if_neg (show ¬ ((false, l2, u2) : Bool × _).1 = true by simp)] at H
            simp only [Option.some.injEq, Prod.mk.injEq] at H
            obtain ⟨rfl, rfl, rfl⟩ := H
            go_wp2_with (first | (go_at_call 40; go_loud (with_reducible refine (strings_IndexByte.calls x 10 _ _ A1.out).mono ?_); rintro e w' ⟨rfl, ⟨nd, rfl⟩⟩) | ((with_reducible refine (ReadOne.calls k1 _ l1 u1 _ _ _ gl gu w _ (HV.out.below (by repeat (first | exact HI.out.bel | apply pw_below_drewN))) (by repeat (first | exact HI.out | apply ReadInv.drewN)) A2.out).mono ?_); rintro e w2 ⟨rfl, hI2⟩; have HI2 := Aside0.mk hI2; clear hI2))
            go_ret
            exact ⟨rfl, by repeat (first | exact HI2.out | apply ReadInv.drewN)⟩
          | true =>
            rw [if_pos (show ((true, l2, u2) : Bool × _).1 = true from rfl)] at H
            have H' := Aside0.mk H
            clear H
            go_wp2_with (first | (go_at_call 40; go_loud (with_reducible refine (strings_IndexByte.calls x 10 _ _ A1.out).mono ?_); rintro e w' ⟨rfl, ⟨nd, rfl⟩⟩) | ((with_reducible refine (ReadOne.calls k1 _ l1 u1 _ _ _ gl gu w _ (HV.out.below (by repeat (first | exact HI.out.bel | apply pw_below_drewN))) (by repeat (first | exact HI.out | apply ReadInv.drewN)) A2.out).mono ?_); rintro e w2 ⟨rfl, hI2⟩; have HI2 := Aside0.mk hI2; clear hI2))
            go_roundg k1
            case measure => omega
            case rel => exact ⟨_, _, l2, u2, rfl, rfl, H', ⟨by have := HK1.out; omega⟩, ⟨by repeat (first | exact HI2.out | apply ReadInv.drewN)⟩⟩
def power_Read.f (k : Nat) (a0 : ByteArray) : Option (List S32 × List S35 × Int × Int) := if (a0.size : Int) > 50000 then some ([], [], 0, 2) else (ReadLines k a0 1 [] []).bind fun r => if r.1 > 0 then some ([], [], r.1, 10) else (power_CheckUses.f k r.2.1 r.2.2).bind fun f => if f = 0 then some (r.2.1, r.2.2, 0, 0) else some ([], [], 0, f)
set_option maxHeartbeats 8000000 in
set_option maxRecDepth 100000 in
theorem power_Read.calls (k : Nat) (a0 : ByteArray) (r1 : List S32) (r2 : List S35) (r3 r4 : Int) (w : World) (hV : VarsOK w) (h : power_Read.f k a0 = some (r1, r2, r3, r4)) :
    Calls Tryd.prog 8 #[.string a0] w fun e w' => ∃ v0_ v1_ : Value, e = .returned (.tuple #[v0_, v1_, .int .i64 r3, .int .i64 r4]) ∧ Kd.R k32 32 w' w.heap.size (fun _ => True) v0_ r1 ∧ Kd.R k35 35 w' w.heap.size (fun _ => True) v1_ r2 ∧ Below w.heap.size w w' := by
  have HV := Aside0.mk hV
  clear hV
  unfold power_Read.f at h
  by_cases hs : (a0.size : Int) > 50000
  · rw [if_pos hs] at h
    have c1 : decide (50000 < (a0.size : Int)) = true := decide_eq_true hs
    have c2 : decide (50000 < a0.size) = true := decide_eq_true (by omega)
    clear hs
    simp only [Option.some.injEq, Prod.mk.injEq] at h
    obtain ⟨rfl, rfl, rfl, rfl⟩ := h
    go_enter Tryd.func8, Tryd.ntmps8
    go_wp2
    refine bodyPost_ret (results_list (rs := [.tmp 2, .tmp 3, .tmp 4, .tmp 5]) rfl (by simp) (.tmp (.tmp (.tmp (.tmp .nil))))) rfl ?_
    exact ⟨_, _, rfl, Kd.R_nil _ _ _ _ _, Kd.R_nil _ _ _ _ _, by repeat (first | exact Below.refl _ _ | exact Below.refl _ _ | apply pw_below_drewN)⟩
  · rw [if_neg hs] at h
    have c1 : decide (50000 < (a0.size : Int)) = false := decide_eq_false hs
    have c2 : decide (50000 < a0.size) = false := decide_eq_false (by omega)
    clear hs
    replace h := Option.bind_eq_some_iff.mp h
    obtain ⟨⟨n, rl, ru⟩, hL, h⟩ := h
    have A1 := Aside0.mk hL
    clear hL
    dsimp only at h
    by_cases hn : n > 0
    · rw [if_pos hn] at h
      have c3 : decide (0 < n) = true := decide_eq_true hn
      clear hn
      simp only [Option.some.injEq, Prod.mk.injEq] at h
      obtain ⟨rfl, rfl, rfl, rfl⟩ := h
      go_enter Tryd.func8, Tryd.ntmps8
      go_wp2_with (first | ((with_reducible refine gate_dst (N := 6) rfl ?_); refine box_event ?hg (N := 6) ?hd (cs := #[.slice none 0 0]) (t := 22) ?hr ?_; (case hd => rfl); (case hg => rfl); (case hr => first | (go_simp; done) | (go_simp; rfl)); intro gl hgl_ w6 hbox hb; have G6 := Aside0.mk hgl_; have B6 := Aside0.mk hbox; have N6 := Aside0.mk hb; clear hgl_ hbox hb) | ((with_reducible refine gate_dst (N := 7) rfl ?_); refine box_event ?hg (N := 7) ?hd (cs := #[.slice none 0 0]) (t := 23) ?hr ?_; (case hd => rfl); (case hg => rfl); (case hr => first | (go_simp; done) | (go_simp; rfl)); intro gu hgu_ w7 hbox hb; have G7 := Aside0.mk hgu_; have B7 := Aside0.mk hbox; have N7 := Aside0.mk hb; clear hgu_ hbox hb) | (go_at_call 19; go_loud (with_reducible refine (ReadLines.calls k a0 [] [] _ _ _ gl gu w _ (HV.out) (ReadInv.mk (RI2.mk (vl := .slice none 0 0) (vu := .slice none 0 0) (blk_below B6.out N7.out) B7.out (Kd.R_nil _ _ _ _ _) (Kd.R_nil _ _ _ _ _) (fun _ => rfl) (below_step N6.out N7.out) (Nat.le_of_eq G6.out.symm) (Nat.le_trans N6.out.size (Nat.le_of_eq G7.out.symm)))) A1.out).mono ?_); rintro e w8 ⟨rfl, hI⟩; have HI := Aside0.mk hI; clear hI))
      refine bodyPost_ret (results_list (rs := [.tmp 2, .tmp 3, .tmp 4, .tmp 5]) rfl (by simp) (.tmp (.tmp (.tmp (.tmp .nil))))) rfl ?_
      exact ⟨_, _, rfl, Kd.R_nil _ _ _ _ _, Kd.R_nil _ _ _ _ _, by repeat (first | exact Below.refl _ _ | exact HI.out.bel | apply pw_below_drewN)⟩
    · rw [if_neg hn] at h
      have c3 : decide (0 < n) = false := decide_eq_false hn
      clear hn
      replace h := Option.bind_eq_some_iff.mp h
      obtain ⟨f, hC, h⟩ := h
      have A2 := Aside0.mk hC
      clear hC
      by_cases hf : f = 0
      · rw [if_pos hf] at h
        subst hf
        simp only [Option.some.injEq, Prod.mk.injEq] at h
        obtain ⟨rfl, rfl, rfl, rfl⟩ := h
        go_enter Tryd.func8, Tryd.ntmps8
        go_wp2_with (first | ((with_reducible refine gate_dst (N := 6) rfl ?_); refine box_event ?hg (N := 6) ?hd (cs := #[.slice none 0 0]) (t := 22) ?hr ?_; (case hd => rfl); (case hg => rfl); (case hr => first | (go_simp; done) | (go_simp; rfl)); intro gl hgl_ w6 hbox hb; have G6 := Aside0.mk hgl_; have B6 := Aside0.mk hbox; have N6 := Aside0.mk hb; clear hgl_ hbox hb) | ((with_reducible refine gate_dst (N := 7) rfl ?_); refine box_event ?hg (N := 7) ?hd (cs := #[.slice none 0 0]) (t := 23) ?hr ?_; (case hd => rfl); (case hg => rfl); (case hr => first | (go_simp; done) | (go_simp; rfl)); intro gu hgu_ w7 hbox hb; have G7 := Aside0.mk hgu_; have B7 := Aside0.mk hbox; have N7 := Aside0.mk hb; clear hgu_ hbox hb) | (go_at_call 19; go_loud (with_reducible refine (ReadLines.calls k a0 [] [] _ _ _ gl gu w _ (HV.out) (ReadInv.mk (RI2.mk (vl := .slice none 0 0) (vu := .slice none 0 0) (blk_below B6.out N7.out) B7.out (Kd.R_nil _ _ _ _ _) (Kd.R_nil _ _ _ _ _) (fun _ => rfl) (below_step N6.out N7.out) (Nat.le_of_eq G6.out.symm) (Nat.le_trans N6.out.size (Nat.le_of_eq G7.out.symm)))) A1.out).mono ?_); rintro e w8 ⟨rfl, hI⟩; obtain ⟨vl, vu, RX⟩ := hI; have HX := Aside0.mk RX; clear RX; obtain ⟨Al, cl, el⟩ := Kd.R_slice HX.out.rl; subst el; obtain ⟨Au, cu, eu⟩ := Kd.R_slice HX.out.ru; subst eu; have hbl : w8.cell? ⟨gl, 0, none⟩ = some (.slice Al rl.length cl) := (blk_cell HX.out.bl 0).trans rfl; have hbu : w8.cell? ⟨gu, 0, none⟩ = some (.slice Au ru.length cu) := (blk_cell HX.out.bu 0).trans rfl) | (go_at_call 12; go_loud (with_reducible refine (power_CheckUses.calls k _ _ rl _ _ ru _ _ (Kd.R_reads' HX.out.rl).2.2 (Kd.R_reads' HX.out.rl).2.1 (Kd.R_reads' HX.out.ru).2.2 (Kd.R_reads' HX.out.ru).2.1 A2.out).mono ?_); rintro e w9 ⟨rfl, hb9⟩; have HY := Aside0.mk (HX.out.below hb9); clear hb9 hbl hbu; have hbl : w9.cell? ⟨gl, 0, none⟩ = some (.slice Al rl.length cl) := (blk_cell HY.out.bl 0).trans rfl; have hbu : w9.cell? ⟨gu, 0, none⟩ = some (.slice Au ru.length cu) := (blk_cell HY.out.bu 0).trans rfl))
        go_quiet (fail)
        go_wp2
        refine bodyPost_ret (results_list (rs := [.tmp 2, .tmp 3, .tmp 4, .tmp 5]) rfl (by simp) (.tmp (.tmp (.tmp (.tmp .nil))))) rfl ?_
        exact ⟨_, _, rfl, by (with_reducible repeat (first | apply Kd.R_alloc | apply Kd.R_drewN | apply Kd.R_drew)); exact HY.out.rl, by (with_reducible repeat (first | apply Kd.R_alloc | apply Kd.R_drewN | apply Kd.R_drew)); exact HY.out.ru, by repeat (first | exact HY.out.bel | apply pw_below_drewN | apply below_drew | apply below_drew1)⟩
      · rw [if_neg hf] at h
        have c4 : (f != 0) = true := bne_iff_ne.mpr hf
        have c5 : (f == 0) = false := beq_eq_false_iff_ne.mpr hf
        clear hf
        simp only [Option.some.injEq, Prod.mk.injEq] at h
        obtain ⟨rfl, rfl, rfl, rfl⟩ := h
        go_enter Tryd.func8, Tryd.ntmps8
        go_wp2_with (first | ((with_reducible refine gate_dst (N := 6) rfl ?_); refine box_event ?hg (N := 6) ?hd (cs := #[.slice none 0 0]) (t := 22) ?hr ?_; (case hd => rfl); (case hg => rfl); (case hr => first | (go_simp; done) | (go_simp; rfl)); intro gl hgl_ w6 hbox hb; have G6 := Aside0.mk hgl_; have B6 := Aside0.mk hbox; have N6 := Aside0.mk hb; clear hgl_ hbox hb) | ((with_reducible refine gate_dst (N := 7) rfl ?_); refine box_event ?hg (N := 7) ?hd (cs := #[.slice none 0 0]) (t := 23) ?hr ?_; (case hd => rfl); (case hg => rfl); (case hr => first | (go_simp; done) | (go_simp; rfl)); intro gu hgu_ w7 hbox hb; have G7 := Aside0.mk hgu_; have B7 := Aside0.mk hbox; have N7 := Aside0.mk hb; clear hgu_ hbox hb) | (go_at_call 19; go_loud (with_reducible refine (ReadLines.calls k a0 [] [] _ _ _ gl gu w _ (HV.out) (ReadInv.mk (RI2.mk (vl := .slice none 0 0) (vu := .slice none 0 0) (blk_below B6.out N7.out) B7.out (Kd.R_nil _ _ _ _ _) (Kd.R_nil _ _ _ _ _) (fun _ => rfl) (below_step N6.out N7.out) (Nat.le_of_eq G6.out.symm) (Nat.le_trans N6.out.size (Nat.le_of_eq G7.out.symm)))) A1.out).mono ?_); rintro e w8 ⟨rfl, hI⟩; obtain ⟨vl, vu, RX⟩ := hI; have HX := Aside0.mk RX; clear RX; obtain ⟨Al, cl, el⟩ := Kd.R_slice HX.out.rl; subst el; obtain ⟨Au, cu, eu⟩ := Kd.R_slice HX.out.ru; subst eu; have hbl : w8.cell? ⟨gl, 0, none⟩ = some (.slice Al rl.length cl) := (blk_cell HX.out.bl 0).trans rfl; have hbu : w8.cell? ⟨gu, 0, none⟩ = some (.slice Au ru.length cu) := (blk_cell HX.out.bu 0).trans rfl) | (go_at_call 12; go_loud (with_reducible refine (power_CheckUses.calls k _ _ rl _ _ ru _ _ (Kd.R_reads' HX.out.rl).2.2 (Kd.R_reads' HX.out.rl).2.1 (Kd.R_reads' HX.out.ru).2.2 (Kd.R_reads' HX.out.ru).2.1 A2.out).mono ?_); rintro e w9 ⟨rfl, hb9⟩; have HY := Aside0.mk (HX.out.below hb9); clear hb9 hbl hbu; have hbl : w9.cell? ⟨gl, 0, none⟩ = some (.slice Al rl.length cl) := (blk_cell HY.out.bl 0).trans rfl; have hbu : w9.cell? ⟨gu, 0, none⟩ = some (.slice Au ru.length cu) := (blk_cell HY.out.bu 0).trans rfl))
        refine bodyPost_ret (results_list (rs := [.tmp 2, .tmp 3, .tmp 4, .tmp 5]) rfl (by simp) (.tmp (.tmp (.tmp (.tmp .nil))))) rfl ?_
        exact ⟨_, _, rfl, Kd.R_nil _ _ _ _ _, Kd.R_nil _ _ _ _ _, by repeat (first | exact Below.refl _ _ | exact HY.out.bel | apply pw_below_drewN)⟩
def api_Load.l0 : Nat → List (S32) → List (S32) → Int → Int → Option (Bool)
  | 0, _, _, _, _ => none
  | k + 1, x0, x1, x12, x13 => if x13 < x12 then (if 0 ≤ x13 then (if x13 < (x0.length : Int) then (if x13 < (x1.length : Int) then (if (!((((rd_T32 x0 x13).f0).toList) == (((rd_T32 x1 x13).f0).toList)) || (!(((rd_T32 x0 x13).f1) == ((rd_T32 x1 x13).f1)) || (!(((rd_T32 x0 x13).f2) == ((rd_T32 x1 x13).f2))))) = true then (some false) else (api_Load.l0 k x0 x1 x12 (wrap64 (x13 + 1)))) else (none)) else (none)) else (none)) else (some true)
def api_Load.f (k : Nat) (l0 : List (S32)) (l1 : List (S32)) : Option (Bool) := if (l0.length : Int) = (l1.length : Int) then (api_Load.l0 k l0 l1 (l0.length : Int) 0) else (some false)
theorem d9a {p : Prop} (h : p := by repeat (first | exact Drawn0.refl _ | apply Drawn0.step)) : p := h
theorem d9b {p : Prop} (h : p := by first | (with_reducible assumption) | assumption) : p := h
theorem d9c {p : Prop} (h : p := by first | rfl | (simp; done) | (simp [*]; done)) : p := h
set_option maxHeartbeats 8000000 in
set_option maxRecDepth 100000 in
theorem api_Load.calls (k : Nat) (A0 : Option Addr) (c0 : Nat) (l0 : List (S32)) (A1 : Option Addr) (c1 : Nat) (l1 : List (S32)) (r : Bool) (w : World) (hr0 : Kd.C k32 w A0 l0.length l0) (hc0 : l0.length ≤ c0) (hr1 : Kd.C k32 w A1 l1.length l1) (hc1 : l1.length ≤ c1) (h : api_Load.f k l0 l1 = some r) :
 Calls Tryd.prog 9 #[.slice A0 l0.length c0, .slice A1 l1.length c1] w fun e w' => e = .returned (.bool r) ∧ Drawn0 w w' := by
 have hu32 := Tryd.underlying32
 have HR0 := Aside0.mk hr0
 have HC0 := Aside0.mk hc0
 clear hr0 hc0
 have HR1 := Aside0.mk hr1
 have HC1 := Aside0.mk hc1
 clear hr1 hc1
 have H : (if (l0.length : Int) = (l1.length : Int) then (api_Load.l0 k l0 l1 (l0.length : Int) 0) else (some false)) = some r := h
 clear h
 by_cases c3 : (l0.length : Int) = (l1.length : Int)
 · rw [if_pos c3] at H
   have c3b0 : ((l0.length : Int) == (l1.length : Int)) = true := beq_iff_eq.mpr c3
   have c3b1 : ((l0.length : Int) != (l1.length : Int)) = false := bne_eq_false_iff_eq.mpr c3
   have c3b2 : (l0.length == l1.length) = true := by first | simpa using c3 | (simp at c3 ⊢; omega)
   clear c3
   have H' := Aside0.mk H
   clear H
   go_enter Tryd.func9, Tryd.ntmps9
   go_wp2
   go_loopg [13] k (fun kq v13 w' => ∃ (x13_1 : Int), v13 = .int .i64 x13_1 ∧ Aside0 (api_Load.l0 kq l0 l1 (l0.length : Int) x13_1 = some r) ∧ Aside0 (kq ≤ k) ∧ Drawn0 w w')
   case atStart => exact ⟨(0), d9c, H', ⟨Nat.le_refl _⟩, d9a⟩
   case round =>
    clear H'
    try clear c3b0
    try clear c3b1
    try clear c3b2
    obtain ⟨x13_1, rfl, HA, HK1, ⟨m1, rfl⟩⟩ := hrel
    cases gk with
    | zero => exact absurd HA.out (by simp [api_Load.l0])
    | succ k1 =>
     have H := HA.out
     clear HA
     simp only [api_Load.l0] at H
     by_cases c4 : x13_1 < (l0.length : Int)
     · rw [if_pos c4] at H
       have c4b0 : decide (x13_1 < (l0.length : Int)) = true := decide_eq_true c4
       clear c4
       replace H := guardT H; obtain ⟨c5, H⟩ := H
       have c5b0 : decide (0 ≤ x13_1) = true := decide_eq_true c5
       clear c5
       replace H := guardT H; obtain ⟨c6, H⟩ := H
       have c6b0 : decide (x13_1 < (l0.length : Int)) = true := decide_eq_true c6
       clear c6
       replace H := guardT H; obtain ⟨c7, H⟩ := H
       have c7b0 : decide (x13_1 < (l1.length : Int)) = true := decide_eq_true c7
       clear c7
       by_cases c8 : (!((((rd_T32 l0 x13_1).f0).toList) == (((rd_T32 l1 x13_1).f0).toList)) || (!(((rd_T32 l0 x13_1).f1) == ((rd_T32 l1 x13_1).f1)) || (!(((rd_T32 l0 x13_1).f2) == ((rd_T32 l1 x13_1).f2))))) = true
       · rw [if_pos c8] at H
         have c8b0 : (!((((rd_T32 l0 x13_1).f0).toList) == (((rd_T32 l1 x13_1).f0).toList)) || (!(((rd_T32 l0 x13_1).f1) == ((rd_T32 l1 x13_1).f1)) || (!(((rd_T32 l0 x13_1).f2) == ((rd_T32 l1 x13_1).f2))))) = true := c8
         clear c8
         obtain rfl := Option.some.inj H
         have p101 : 0 ≤ (x13_1 : Int) := of_decide_eq_true d9b
         have q101 : x13_1 < (l0.length : Int) := of_decide_eq_true d9b
         obtain ⟨ad101, e101, hx101_0, hx101_1, hx101_2⟩ := at_T32 HR0.out x13_1 p101 q101
         cases e101
         replace p101 := eq_true p101
         replace q101 := eq_true q101
         have p102 : 0 ≤ (x13_1 : Int) := of_decide_eq_true d9b
         have q102 : x13_1 < (l1.length : Int) := of_decide_eq_true d9b
         obtain ⟨ad102, e102, hx102_0, hx102_1, hx102_2⟩ := at_T32 HR1.out x13_1 p102 q102
         cases e102
         replace p102 := eq_true p102
         replace q102 := eq_true q102
         go_wp2
         repeat (go_quiet (fail); try go_wp2)
         go_ret
         exact ⟨d9c, d9a⟩
       · rw [if_neg c8] at H
         have c8b0 : (!((((rd_T32 l0 x13_1).f0).toList) == (((rd_T32 l1 x13_1).f0).toList)) || (!(((rd_T32 l0 x13_1).f1) == ((rd_T32 l1 x13_1).f1)) || (!(((rd_T32 l0 x13_1).f2) == ((rd_T32 l1 x13_1).f2))))) = false := by simpa using c8
         clear c8
         have H' := Aside0.mk H
         clear H
         have p101 : 0 ≤ (x13_1 : Int) := of_decide_eq_true d9b
         have q101 : x13_1 < (l0.length : Int) := of_decide_eq_true d9b
         obtain ⟨ad101, e101, hx101_0, hx101_1, hx101_2⟩ := at_T32 HR0.out x13_1 p101 q101
         cases e101
         replace p101 := eq_true p101
         replace q101 := eq_true q101
         have p102 : 0 ≤ (x13_1 : Int) := of_decide_eq_true d9b
         have q102 : x13_1 < (l1.length : Int) := of_decide_eq_true d9b
         obtain ⟨ad102, e102, hx102_0, hx102_1, hx102_2⟩ := at_T32 HR1.out x13_1 p102 q102
         cases e102
         replace p102 := eq_true p102
         replace q102 := eq_true q102
         go_wp2
         repeat (go_quiet (fail); try go_wp2)
         go_roundg k1
         case measure => have := HK1.out; omega
         case rel => exact ⟨(wrap64 (x13_1 + 1)), d9c, H', ⟨by have := HK1.out; omega⟩, d9a⟩
     · rw [if_neg c4] at H
       have c4b0 : decide (x13_1 < (l0.length : Int)) = false := decide_eq_false c4
       clear c4
       obtain rfl := Option.some.inj H
       go_wp2
       go_ret
       exact ⟨d9c, d9a⟩
 · rw [if_neg c3] at H
   have c3b0 : ((l0.length : Int) == (l1.length : Int)) = false := beq_eq_false_iff_ne.mpr c3
   have c3b1 : ((l0.length : Int) != (l1.length : Int)) = true := bne_iff_ne.mpr c3
   have c3b2 : (l0.length == l1.length) = false := by first | simpa using c3 | (simp at c3 ⊢; omega)
   obtain rfl := Option.some.inj H
   go_enter Tryd.func9, Tryd.ntmps9
   go_wp2
   go_ret
   exact ⟨d9c, d9a⟩
end Go.Proofs.YtplcdpiggpkppaaDoor.Q
