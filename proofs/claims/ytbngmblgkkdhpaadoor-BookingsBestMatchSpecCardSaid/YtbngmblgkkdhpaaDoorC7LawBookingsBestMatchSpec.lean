/- The row of the law perigeelaw10_BookingsBestMatchSpec: for every input the law answers true, and each argument reads afterwards as it read before. No condition. -/
-- Made by wip/tools/claimp.py of this session's texts; Lean checks it.
import Derived.Test.YtbngmblgkkdhpaaDoorRows
import Derived.Test.YtbngmblgkkdhpaaDoorC7StBookingsBestMatchSpec
import Derived.Test.YtbngmblgkkdhpaaDoorC7PureBookingsBestMatchSpec
import Derived.WalkKit
import Derived.ProofKit
import Derived.OpenShut
import Derived.ShutString
import Derived.ChangeOld
import Derived.Below
import Derived.SizedLaws
import Derived.Carry
import Derived.Test.YtbngmblgkkdhpaaDoorTie
import Derived.Test.YtbngmblgkkdhpaaDoorCards
import Derived.Test.YtbngmblgkkdhpaaDoorC7Laid
import Derived.SevenTiedAt
import Derived.Lay
namespace Go.Proofs.YtbngmblgkkdhpaaDoor.bookingsBestMatchSpec
open Go.ChangeShapes Go.WideShapes Go.ChangeAt Go.RowKit Go.Proofs.YtbngmblgkkdhpaaDoorW.PrintWords Go.Proofs.YtbngmblgkkdhpaaDoor.Q Go.Proofs.YtbngmblgkkdhpaaDoor.Opens
open Go.ChangeMaps (open_string shut_string)
open Go.Proofs.YtbngmblgkkdhpaaDoor.Base
set_option linter.unusedVariables false
theorem own : ownKnob Tryd.prog.godebug = none := by kernel_rfl
theorem laidOut : laidOutB Tryd.prog = true := by kernel_rfl
theorem walk (P : perigeelaw10_BookingsBestMatchSpec.Pure) (A0 : Option Addr) (c0 : Nat) (l0 : List (S55)) (a1 : Int) (A2 : Option Addr) (c2 : Nat) (l2 : List Int) (w : World) (hV : VarsOK w) (hr0 : Kd.C k55 w A0 l0.length l0) (hc0 : l0.length ≤ c0) (hr2 : Kd.C (Kd.int .i64) w A2 l2.length l2) (hc2 : l2.length ≤ c2) (q0 : l0.length * 56 ≤ 140737488351232 ∧ ∀ y ∈ l0, Wf55 y) (q1 : (Lit.int .i64 a1).wf = true) (q2 : l2.length * 8 ≤ 140737488351232 ∧ ∀ y ∈ l2, (Lit.int .i64 y).wf = true) :
    Calls Tryd.prog 5 #[.slice A0 l0.length c0, .int .i64 a1, .slice A2 l2.length c2] w fun e w' => e = .returned (.bool true) ∧ Below w.heap.size w w' := by
  obtain ⟨k, h⟩ := P l0 a1 l2 q0 q1 q2
  refine (perigeelaw10_BookingsBestMatchSpec.calls k _ _ l0 a1 _ _ l2 true w hr0 hc0 hr2 hc2 hV h).mono ?_
  rintro e w' ⟨rfl, hd⟩
  exact ⟨rfl, hd⟩
set_option maxRecDepth 100000 in
theorem lifted (os : Os) (started : os.Started) (H : Type) (enc : TypeId × Value → H) :
    ReturnsInHanded {} Tryd.checked os 5 .any (fun w args => (Rows.bookingsBestMatchSpecSpec.pre enc Tryd.prog Tryd.f5 Rows.bookingsBestMatchSpecRow.domain false w args ∧ laidMetH Tryd.prog Rows.bookingsBestMatchSpecRow.laid w) ∧ sizedMet enc Tryd.prog Tryd.f5 (OpenSpec.ofChange Rows.bookingsBestMatchSpecSpec) false w args)
      (Rows.bookingsBestMatchSpecSpec.post enc Tryd.prog Tryd.f5 false true false false) := by
  refine returns_laid (C := Tryd.checked) (X := fun w _ => laidMetH Tryd.prog Rows.bookingsBestMatchSpecRow.laid w) (fun _ _ _ hh h => h.of_heap hh) own started (by kernel_rfl) Tryd.func5
    (witness_laid (enc := enc) (C := Tryd.checked) (X := fun w _ => laidMetH Tryd.prog Rows.bookingsBestMatchSpecRow.laid w) (World.laidAll Tryd.prog os Rows.bookingsBestMatchSpecRow.laid) #[.slice none 0 0, .int .i64 0, .slice none 0 0] 8 (World.laidAll_os _ _ _) (World.shaped_of_ZipB (by kernel_rfl) (by kernel_rfl)) (by kernel_rfl) (by kernel_rfl) (by kernel_rfl) (laidMet_laidAll #[.slice none 0 0, .int .i64 0, .slice none 0 0] (by kernel_rfl) (by kernel_rfl))) ?_
  intro W base args ds gs before hval0 hW hcnd hsz0 hL hsh _
  have hV : VarsOK W := vars_of hsh (show laidMet Tryd.prog Rows.bookingsBestMatchSpecRow.laid W from hL)
  have HVV := Aside0.mk hV
  clear hV
  have hsz : (DataW.weightsEach Tryd.prog (Tryd.f5.params.toList ++ Rows.bookingsBestMatchSpecSpec.plain.varTypes Tryd.prog) (ds ++ gs)).all (· ≤ reachBytes) = true := hsz0
  have hval : ∀ (j : Nat) t v, Tryd.f5.params[j]? = some t → args[j]? = some v → Value.okWide Tryd.prog W .any base t v := hval0
  have hW' := hW
  obtain ⟨p, q, hA0, hV, rfl, hfz, hnd⟩ := hW
  have hA : DataW.TrodAll enc Tryd.prog W 0 (fun _ => true) true Tryd.f5.params.toList args.toList ds p := hA0
  rw [Tryd.params5] at hA hval hsz
  obtain ⟨v0, vs0, d0, ds0, p0, q0, hargs, rfl, rfl, h0, r0⟩ := trodAll_cons hA
  obtain ⟨v1, vs1, d1, ds1, p1, q1, rfl, rfl, rfl, h1, r1⟩ := trodAll_cons r0
  obtain ⟨v2, vs2, d2, ds2, p2, q2, rfl, rfl, rfl, h2, r2⟩ := trodAll_cons r1
  obtain ⟨rfl, rfl, rfl⟩ := trodAll_nil r2
  obtain rfl : args = #[v0, v1, v2] := by cases args; simp_all
  obtain ⟨rfl, rfl⟩ := trodVars_none hV
  obtain ⟨a0, len0, cap0, rfl⟩ := okWide_slice Tryd.underlying22 (hval 0 22 v0 rfl rfl)
  have k0 := h0
  have lt0 : ∀ x ∈ p0, x.block < W.heap.size := by obtain ⟨m, hm⟩ := k0; exact DataW.trod_lt m _ _ _ hm
  have sm0 : Small Tryd.prog 22 d0 := small_each (j := 0) hsz rfl rfl
  obtain ⟨l0, rfl, hc0, hr0, wf0⟩ := slice_arg opens22 h0 sm0
  obtain ⟨a1, rfl, rfl, rfl, w1⟩ := open_int Tryd.underlying3 (hval 1 3 v1 rfl rfl) h1
  obtain ⟨a2, len2, cap2, rfl⟩ := okWide_slice Tryd.underlying31 (hval 2 31 v2 rfl rfl)
  have k2 := h2
  have lt2 : ∀ x ∈ p2, x.block < W.heap.size := by obtain ⟨m, hm⟩ := k2; exact DataW.trod_lt m _ _ _ hm
  have sm2 : Small Tryd.prog 31 d2 := small_each (j := 2) hsz rfl rfl
  obtain ⟨l2, rfl, hc2, hr2, wf2⟩ := slice_arg opens31 h2 sm2
  clear hA0 hval0 hsz0 hsz
  refine (walk Pure.BookingsBestMatchSpec a0 cap0 l0 a1 a2 cap2 l2 W HVV.out hr0 hc0 hr2 hc2 wf0 w1 wf2).mono fun e W' ⟨he, bel⟩ => ?_
  subst he
  exact ⟨_, rfl, _, _, _, [], _, [], hW', trodAll_mk1 (shut_bool Tryd.underlying4 _), (trodAll_cons_mk (Below.trod laidOut (by kernel_rfl) (of_decide_eq_true (by kernel_rfl)) k0 bel lt0) (trodAll_cons_mk (shut_int Tryd.underlying3 w1) (trodAll_cons_mk (Below.trod laidOut (by kernel_rfl) (of_decide_eq_true (by kernel_rfl)) k2 bel lt2) trodAll_mk0))), rfl, bel.frame _, fun h => by cases h⟩
theorem over : Rows.bookingsBestMatchSpecRow.holds Tryd.pinned (OpenSpec.ofChange Rows.bookingsBestMatchSpecSpec) :=
  OpenClaim.holds_of_wide 5 Tryd.f5 rfl rfl rfl rfl rfl rfl rfl ⟨rfl, rfl, rfl, rfl, rfl⟩ rfl rfl rfl rfl rfl (by kernel_rfl) Tryd.func5 (by kernel_rfl)
    (of_decide_eq_true (by kernel_rfl)) (by unfold Func.isWrapper; first | (rw [if_pos (by decide +kernel)]; kernel_rfl) | (rw [if_neg (by decide +kernel)]; exact ⟨rfl, rfl⟩))
    (fun os started H enc _ => lifted os started H enc)
theorem card : Rows.BookingsBestMatchSpecCardSaid :=
  Claim7.holds_tied_plain_at .later [] [.data, .data, .data] true (true, "a5ca3c692977541c33f01c0bee7e09d281cfa989c7b0d5188d37ff47f275770e") true
    over (fun _ h => by cases h) (by kernel_rfl) (fun _ h => by cases h) bookingsBestMatchSpec_row_tie rfl ⟨rfl, rfl⟩ (by kernel_rfl) rfl
    (fun f fn hf hfn => by
      obtain rfl : f = 5 := Option.some.inj ((show Tryd.prog.funcNamed Rows.bookingsBestMatchSpecRow.func = some 5 by kernel_rfl).symm.trans hf) |>.symm
      obtain rfl : fn = Tryd.f5 := (Option.some.inj (Tryd.func5.symm.trans hfn)).symm
      refine ⟨by kernel_rfl, fun j t ht => ?_⟩
      rw [Tryd.params5] at ht
      have hm : t ∈ (#[22, 3, 31] : Array TypeId) := Array.mem_of_getElem? ht
      have hall : ∀ t ∈ (#[22, 3, 31] : Array TypeId), Tryd.prog.wantsStandIn t = false := by
        intro t ht
        simp only [List.mem_toArray, List.mem_cons, List.not_mem_nil, or_false] at ht
        rcases ht with rfl | rfl | rfl
        all_goals kernel_rfl
      exact hall t hm)
    (by kernel_rfl)
#print axioms card
end Go.Proofs.YtbngmblgkkdhpaaDoor.bookingsBestMatchSpec
namespace Go.Proofs.YtbngmblgkkdhpaaDoor
/-- The tied card, under a short name, for the claim. -/
theorem bookingsBestMatchSpec_holds : Rows.BookingsBestMatchSpecCardSaid := bookingsBestMatchSpec.card
end Go.Proofs.YtbngmblgkkdhpaaDoor
