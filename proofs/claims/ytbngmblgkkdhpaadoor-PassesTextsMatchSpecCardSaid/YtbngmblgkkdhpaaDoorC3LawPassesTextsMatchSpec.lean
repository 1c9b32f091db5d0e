/- The row of the law perigeelaw10_PassesTextsMatchSpec: for every input the law answers true, and each argument reads afterwards as it read before. No condition. -/
-- Made by wip/tools/claimp.py of this session's texts; Lean checks it.
import Derived.Test.YtbngmblgkkdhpaaDoorRows
import Derived.Test.YtbngmblgkkdhpaaDoorC3StPassesTextsMatchSpec
import Derived.Test.YtbngmblgkkdhpaaDoorC3PurePassesTextsMatchSpec
import Derived.WalkKit
import Derived.ProofKit
import Derived.OpenShut
import Derived.ShutString
import Derived.ChangeOld
import Derived.Below
import Derived.SizedLaws
import Derived.Carry
import Derived.Test.YtbngmblgkkdhpaaDoorTie
import Derived.Test.YtbngmblgkkdhpaaDoorCards
import Derived.Test.YtbngmblgkkdhpaaDoorC3Laid
import Derived.SevenTiedAt
import Derived.Lay
namespace Go.Proofs.YtbngmblgkkdhpaaDoor.passesTextsMatchSpec
open Go.ChangeShapes Go.WideShapes Go.ChangeAt Go.RowKit Go.Proofs.YtbngmblgkkdhpaaDoorW.PrintWords Go.Proofs.YtbngmblgkkdhpaaDoor.Q Go.Proofs.YtbngmblgkkdhpaaDoor.Opens
open Go.ChangeMaps (open_string shut_string)
open Go.Proofs.YtbngmblgkkdhpaaDoor.Base
set_option linter.unusedVariables false
theorem own : ownKnob Tryd.prog.godebug = none := by kernel_rfl
theorem laidOut : laidOutB Tryd.prog = true := by kernel_rfl
theorem walk (P : perigeelaw10_PassesTextsMatchSpec.Pure) (A0 : Option Addr) (c0 : Nat) (l0 : List (S55)) (a1 : ByteArray) (w : World) (hV : VarsOK w) (hr0 : Kd.C k55 w A0 l0.length l0) (hc0 : l0.length ≤ c0) (q0 : l0.length * 56 ≤ 140737488351232 ∧ ∀ y ∈ l0, Wf55 y) (q1 : a1.size ≤ 140737488351232) :
    Calls Tryd.prog 4 #[.slice A0 l0.length c0, .string a1] w fun e w' => e = .returned (.bool true) ∧ Below w.heap.size w w' := by
  obtain ⟨k, h⟩ := P l0 a1 q0 q1
  refine (perigeelaw10_PassesTextsMatchSpec.calls k _ _ l0 a1 true w hr0 hc0 hV h).mono ?_
  rintro e w' ⟨rfl, hd⟩
  exact ⟨rfl, hd⟩
set_option maxRecDepth 100000 in
theorem lifted (os : Os) (started : os.Started) (H : Type) (enc : TypeId × Value → H) :
    ReturnsInHanded {} Tryd.checked os 4 .any (fun w args => (Rows.passesTextsMatchSpecSpec.pre enc Tryd.prog Tryd.f4 Rows.passesTextsMatchSpecRow.domain false w args ∧ laidMetH Tryd.prog Rows.passesTextsMatchSpecRow.laid w) ∧ sizedMet enc Tryd.prog Tryd.f4 (OpenSpec.ofChange Rows.passesTextsMatchSpecSpec) false w args)
      (Rows.passesTextsMatchSpecSpec.post enc Tryd.prog Tryd.f4 false true false false) := by
  refine returns_laid (C := Tryd.checked) (X := fun w _ => laidMetH Tryd.prog Rows.passesTextsMatchSpecRow.laid w) (fun _ _ _ hh h => h.of_heap hh) own started (by kernel_rfl) Tryd.func4
    (witness_laid (enc := enc) (C := Tryd.checked) (X := fun w _ => laidMetH Tryd.prog Rows.passesTextsMatchSpecRow.laid w) (World.laidAll Tryd.prog os Rows.passesTextsMatchSpecRow.laid) #[.slice none 0 0, .string ByteArray.empty] 8 (World.laidAll_os _ _ _) (World.shaped_of_ZipB (by kernel_rfl) (by kernel_rfl)) (by kernel_rfl) (by kernel_rfl) (by kernel_rfl) (laidMet_laidAll #[.slice none 0 0, .string ByteArray.empty] (by kernel_rfl) (by kernel_rfl))) ?_
  intro W base args ds gs before hval0 hW hcnd hsz0 hL hsh _
  have hV : VarsOK W := vars_of hsh (show laidMet Tryd.prog Rows.passesTextsMatchSpecRow.laid W from hL)
  have HVV := Aside0.mk hV
  clear hV
  have hsz : (DataW.weightsEach Tryd.prog (Tryd.f4.params.toList ++ Rows.passesTextsMatchSpecSpec.plain.varTypes Tryd.prog) (ds ++ gs)).all (· ≤ reachBytes) = true := hsz0
  have hval : ∀ (j : Nat) t v, Tryd.f4.params[j]? = some t → args[j]? = some v → Value.okWide Tryd.prog W .any base t v := hval0
  have hW' := hW
  obtain ⟨p, q, hA0, hV, rfl, hfz, hnd⟩ := hW
  have hA : DataW.TrodAll enc Tryd.prog W 0 (fun _ => true) true Tryd.f4.params.toList args.toList ds p := hA0
  rw [Tryd.params4] at hA hval hsz
  obtain ⟨v0, vs0, d0, ds0, p0, q0, hargs, rfl, rfl, h0, r0⟩ := trodAll_cons hA
  obtain ⟨v1, vs1, d1, ds1, p1, q1, rfl, rfl, rfl, h1, r1⟩ := trodAll_cons r0
  obtain ⟨rfl, rfl, rfl⟩ := trodAll_nil r1
  obtain rfl : args = #[v0, v1] := by cases args; simp_all
  obtain ⟨rfl, rfl⟩ := trodVars_none hV
  obtain ⟨a0, len0, cap0, rfl⟩ := okWide_slice Tryd.underlying22 (hval 0 22 v0 rfl rfl)
  have k0 := h0
  have lt0 : ∀ x ∈ p0, x.block < W.heap.size := by obtain ⟨m, hm⟩ := k0; exact DataW.trod_lt m _ _ _ hm
  have sm0 : Small Tryd.prog 22 d0 := small_each (j := 0) hsz rfl rfl
  obtain ⟨l0, rfl, hc0, hr0, wf0⟩ := slice_arg opens22 h0 sm0
  obtain ⟨a1, rfl, rfl, rfl, y1⟩ := open_string Tryd.underlying9 (hval 1 9 v1 rfl rfl) h1
  have w1 : a1.size ≤ 140737488351232 := by
    have z := sized_string hsz (j := 1) (t := 9) rfl rfl
    rw [Array.length_toList] at z
    exact z
  clear hA0 hval0 hsz0 hsz
  refine (walk Pure.PassesTextsMatchSpec a0 cap0 l0 a1 W HVV.out hr0 hc0 wf0 w1).mono fun e W' ⟨he, bel⟩ => ?_
  subst he
  exact ⟨_, rfl, _, _, _, [], _, [], hW', trodAll_mk1 (shut_bool Tryd.underlying4 _), (trodAll_cons_mk (Below.trod laidOut (by kernel_rfl) (of_decide_eq_true (by kernel_rfl)) k0 bel lt0) (trodAll_cons_mk (shut_string Tryd.underlying9 y1) trodAll_mk0)), rfl, bel.frame _, fun h => by cases h⟩
theorem over : Rows.passesTextsMatchSpecRow.holds Tryd.pinned (OpenSpec.ofChange Rows.passesTextsMatchSpecSpec) :=
  OpenClaim.holds_of_wide 4 Tryd.f4 rfl rfl rfl rfl rfl rfl rfl ⟨rfl, rfl, rfl, rfl, rfl⟩ rfl rfl rfl rfl rfl (by kernel_rfl) Tryd.func4 (by kernel_rfl)
    (of_decide_eq_true (by kernel_rfl)) (by unfold Func.isWrapper; first | (rw [if_pos (by decide +kernel)]; kernel_rfl) | (rw [if_neg (by decide +kernel)]; exact ⟨rfl, rfl⟩))
    (fun os started H enc _ => lifted os started H enc)
theorem card : Rows.PassesTextsMatchSpecCardSaid :=
  Claim7.holds_tied_plain_at .later [] [.data, .data, .data, .data, .pinned] true (true, "a5ca3c692977541c33f01c0bee7e09d281cfa989c7b0d5188d37ff47f275770e") true
    over (fun _ h => by cases h) (by kernel_rfl) (fun _ h => by cases h) passesTextsMatchSpec_row_tie rfl ⟨rfl, rfl⟩ (by kernel_rfl) rfl
    (fun f fn hf hfn => by
      obtain rfl : f = 4 := Option.some.inj ((show Tryd.prog.funcNamed Rows.passesTextsMatchSpecRow.func = some 4 by kernel_rfl).symm.trans hf) |>.symm
      obtain rfl : fn = Tryd.f4 := (Option.some.inj (Tryd.func4.symm.trans hfn)).symm
      refine ⟨by kernel_rfl, fun j t ht => ?_⟩
      rw [Tryd.params4] at ht
      have hm : t ∈ (#[22, 9] : Array TypeId) := Array.mem_of_getElem? ht
      have hall : ∀ t ∈ (#[22, 9] : Array TypeId), Tryd.prog.wantsStandIn t = false := by
        intro t ht
        simp only [List.mem_toArray, List.mem_cons, List.not_mem_nil, or_false] at ht
        rcases ht with rfl | rfl
        all_goals kernel_rfl
      exact hall t hm)
    (by kernel_rfl)
#print axioms card
end Go.Proofs.YtbngmblgkkdhpaaDoor.passesTextsMatchSpec
namespace Go.Proofs.YtbngmblgkkdhpaaDoor
/-- The tied card, under a short name, for the claim. -/
theorem passesTextsMatchSpec_holds : Rows.PassesTextsMatchSpecCardSaid := passesTextsMatchSpec.card
end Go.Proofs.YtbngmblgkkdhpaaDoor
