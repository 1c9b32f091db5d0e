/- The row of the law perigeelaw9_PowerReadsMatchSpec: for every input the law answers true, and each argument reads afterwards as it read before. No condition. -/
-- Made by wip/tools/claimp.py of this session's texts; Lean checks it.
import Derived.Test.YtplcdpiggpkppaaDoorRows
import Derived.Test.YtplcdpiggpkppaaDoorC1StPowerReadsMatchSpec
import Derived.Test.YtplcdpiggpkppaaDoorC1PurePowerReadsMatchSpec
import Derived.WalkKit
import Derived.ProofKit
import Derived.OpenShut
import Derived.ShutString
import Derived.ChangeOld
import Derived.Below
import Derived.SizedLaws
import Derived.Carry
import Derived.Test.YtplcdpiggpkppaaDoorTie
import Derived.Test.YtplcdpiggpkppaaDoorCards
import Derived.Test.YtplcdpiggpkppaaDoorC1Laid
import Derived.SevenTiedAt
import Derived.Lay
namespace Go.Proofs.YtplcdpiggpkppaaDoor.powerReadsMatchSpec
open Go.ChangeShapes Go.WideShapes Go.ChangeAt Go.RowKit Go.Proofs.YtplcdpiggpkppaaDoorW.PrintWords Go.Proofs.YtplcdpiggpkppaaDoor.Q
open Go.ChangeMaps (open_string shut_string)
open Go.Proofs.YtplcdpiggpkppaaDoor.Base
set_option linter.unusedVariables false
theorem own : ownKnob Tryd.prog.godebug = none := by kernel_rfl
theorem laidOut : laidOutB Tryd.prog = true := by kernel_rfl
theorem walk (P : perigeelaw9_PowerReadsMatchSpec.Pure) (a0 : ByteArray) (w : World) (hV : VarsOK w)  (q0 : a0.size ≤ 140737488351232) :
    Calls Tryd.prog 4 #[.string a0] w fun e w' => e = .returned (.bool true) ∧ Below w.heap.size w w' := by
  obtain ⟨k, h⟩ := P a0 q0
  refine (perigeelaw9_PowerReadsMatchSpec.calls k a0 true w  hV h).mono ?_
  rintro e w' ⟨rfl, hd⟩
  exact ⟨rfl, hd⟩
set_option maxRecDepth 100000 in
theorem lifted (os : Os) (started : os.Started) (H : Type) (enc : TypeId × Value → H) :
    ReturnsInHanded {} Tryd.checked os 4 .any (fun w args => (Rows.powerReadsMatchSpecSpec.pre enc Tryd.prog Tryd.f4 Rows.powerReadsMatchSpecRow.domain false w args ∧ laidMetH Tryd.prog Rows.powerReadsMatchSpecRow.laid w) ∧ sizedMet enc Tryd.prog Tryd.f4 (OpenSpec.ofChange Rows.powerReadsMatchSpecSpec) false w args)
      (Rows.powerReadsMatchSpecSpec.post enc Tryd.prog Tryd.f4 false true false false) := by
  refine returns_laid (C := Tryd.checked) (X := fun w _ => laidMetH Tryd.prog Rows.powerReadsMatchSpecRow.laid w) (fun _ _ _ hh h => h.of_heap hh) own started (by kernel_rfl) Tryd.func4
    (witness_laid (enc := enc) (C := Tryd.checked) (X := fun w _ => laidMetH Tryd.prog Rows.powerReadsMatchSpecRow.laid w) (World.laidAll Tryd.prog os Rows.powerReadsMatchSpecRow.laid) #[.string ByteArray.empty] 8 (World.laidAll_os _ _ _) (World.shaped_of_ZipB (by kernel_rfl) (by kernel_rfl)) (by kernel_rfl) (by kernel_rfl) (by kernel_rfl) (laidMet_laidAll #[.string ByteArray.empty] (by kernel_rfl) (by kernel_rfl))) ?_
  intro W base args ds gs before hval0 hW hcnd hsz0 hL hsh _
  have hV : VarsOK W := vars_of hsh (show laidMet Tryd.prog Rows.powerReadsMatchSpecRow.laid W from hL)
  have HVV := Aside0.mk hV
  clear hV
  have hsz : (DataW.weightsEach Tryd.prog (Tryd.f4.params.toList ++ Rows.powerReadsMatchSpecSpec.plain.varTypes Tryd.prog) (ds ++ gs)).all (· ≤ reachBytes) = true := hsz0
  have hval : ∀ (j : Nat) t v, Tryd.f4.params[j]? = some t → args[j]? = some v → Value.okWide Tryd.prog W .any base t v := hval0
  have hW' := hW
  obtain ⟨p, q, hA0, hV, rfl, hfz, hnd⟩ := hW
  have hA : DataW.TrodAll enc Tryd.prog W 0 (fun _ => true) true Tryd.f4.params.toList args.toList ds p := hA0
  rw [Tryd.params4] at hA hval hsz
  obtain ⟨v0, vs0, d0, ds0, p0, q0, hargs, rfl, rfl, h0, r0⟩ := trodAll_cons hA
  obtain ⟨rfl, rfl, rfl⟩ := trodAll_nil r0
  obtain rfl : args = #[v0] := by cases args; simp_all
  obtain ⟨rfl, rfl⟩ := trodVars_none hV
  obtain ⟨a0, rfl, rfl, rfl, y0⟩ := open_string Tryd.underlying9 (hval 0 9 v0 rfl rfl) h0
  have w0 : a0.size ≤ 140737488351232 := by
    have z := sized_string hsz (j := 0) (t := 9) rfl rfl
    rw [Array.length_toList] at z
    exact z
  clear hA0 hval0 hsz0 hsz
  refine (walk Pure.PowerReadsMatchSpec a0 W HVV.out  w0).mono fun e W' ⟨he, bel⟩ => ?_
  subst he
  exact ⟨_, rfl, _, _, _, [], _, [], hW', trodAll_mk1 (shut_bool Tryd.underlying4 _), (trodAll_cons_mk (shut_string Tryd.underlying9 y0) trodAll_mk0), rfl, bel.frame _, fun h => by cases h⟩
theorem over : Rows.powerReadsMatchSpecRow.holds Tryd.pinned (OpenSpec.ofChange Rows.powerReadsMatchSpecSpec) :=
  OpenClaim.holds_of_wide 4 Tryd.f4 rfl rfl rfl rfl rfl rfl rfl ⟨rfl, rfl, rfl, rfl, rfl⟩ rfl rfl rfl rfl rfl (by kernel_rfl) Tryd.func4 (by kernel_rfl)
    (of_decide_eq_true (by kernel_rfl)) (by unfold Func.isWrapper; first | (rw [if_pos (by decide +kernel)]; kernel_rfl) | (rw [if_neg (by decide +kernel)]; exact ⟨rfl, rfl⟩))
    (fun os started H enc _ => lifted os started H enc)
theorem card : Rows.PowerReadsMatchSpecCardSaid :=
  Claim7.holds_tied_plain_at .later [] [.data, .data, .data, .data, .sentinel, .sentinel, .pinned] true (true, "8c0e139fb81fb0ab864e5049374f8336c2e111bc53517c5c2a5f481d255d66f9") true
    over (fun _ h => by cases h) (by kernel_rfl) (fun _ h => by cases h) powerReadsMatchSpec_row_tie rfl ⟨rfl, rfl⟩ (by kernel_rfl) rfl
    (fun f fn hf hfn => by
      obtain rfl : f = 4 := Option.some.inj ((show Tryd.prog.funcNamed Rows.powerReadsMatchSpecRow.func = some 4 by kernel_rfl).symm.trans hf) |>.symm
      obtain rfl : fn = Tryd.f4 := (Option.some.inj (Tryd.func4.symm.trans hfn)).symm
      refine ⟨by kernel_rfl, fun j t ht => ?_⟩
      rw [Tryd.params4] at ht
      have hm : t ∈ (#[9] : Array TypeId) := Array.mem_of_getElem? ht
      have hall : ∀ t ∈ (#[9] : Array TypeId), Tryd.prog.wantsStandIn t = false := by
        intro t ht
        simp only [List.mem_toArray, List.mem_cons, List.not_mem_nil, or_false] at ht
        rcases ht with rfl
        all_goals kernel_rfl
      exact hall t hm)
    (by kernel_rfl)
#print axioms card
end Go.Proofs.YtplcdpiggpkppaaDoor.powerReadsMatchSpec
namespace Go.Proofs.YtplcdpiggpkppaaDoor
/-- The tied card, under a short name, for the claim. -/
theorem powerReadsMatchSpec_holds : Rows.PowerReadsMatchSpecCardSaid := powerReadsMatchSpec.card
end Go.Proofs.YtplcdpiggpkppaaDoor
