-- Made by wip/tools/claimp.py of this session's texts; Lean checks it.
import Derived.Test.YtplcdpiggpkppaaDoorC2Q0
import Derived.Test.YtplcdpiggpkppaaDoorC2Gd4
import Derived.Test.YtplcdpiggpkppaaDoorC2Gd7
namespace Go.Proofs.YtplcdpiggpkppaaDoor.Q
open Go.RowKit Go.Proofs.YtplcdpiggpkppaaDoorW.PrintWords Go.Proofs.YtplcdpiggpkppaaDoorW.PrintLast Go.Proofs.YtplcdpiggpkppaaDoorW.PrintMore
attribute [local go_sem] max2_int min2_int max_two min_two max_three min_three max_four min_four
open Go.Proofs.YtplcdpiggpkppaaDoor.Base
attribute [local go_sem high] str_leq str_gtr str_geq
set_option linter.unusedVariables false
set_option linter.unusedSimpArgs false
def strings_Cut.f (a0 a1 : ByteArray) : Option (ByteArray × ByteArray × Bool) := if a0.size < 4294967281 then some (⟨(Lib.cut a0.data.toList a1.data.toList).1.toArray⟩, ⟨(Lib.cut a0.data.toList a1.data.toList).2.1.toArray⟩, (Lib.cut a0.data.toList a1.data.toList).2.2) else none
def perigeeref9_isRow.l0 : Nat → ByteArray → Int → Int → Option (Bool)
  | 0, _, _, _ => none
  | k + 1, x0, x5, x6 => if x6 < x5 then (if 0 ≤ x6 then (if x6 < (x0.size : Int) then (if (bt x0 x6) < 33 then (some false) else (if (bt x0 x6) > 126 then (some false) else (perigeeref9_isRow.l0 k x0 x5 (wrap64 (x6 + 1))))) else (none)) else (none)) else (some (x0.toList != ([] : List UInt8)))
def perigeeref9_isRow.f (k : Nat) (a0 : ByteArray) : Option (Bool) := perigeeref9_isRow.l0 k a0 (a0.size : Int) 0
def asciiB (l : List UInt8) : Bool := l.all fun b => decide (b.toNat < 128)
def strings_Trim.f (a0 a1 : ByteArray) : Option ByteArray := if a0.size ≤ 9223372036854775807 ∧ a1.size < 4294967281 ∧ asciiB a1.data.toList = true then some ⟨(Lib.trimS a0.data.toList a1.data.toList).toArray⟩ else none
def strconv_Atoi.f (a0 : ByteArray) : Option (Int × Option Int) := if a0.size ≤ 18 then (Lib.atoi a0.data.toList).map fun n => (n, none) else none
def perigeeref9_number.f (a0 : ByteArray) : Option (Int × Bool) := if a0.toList = ([] : List UInt8) then (some (0, false)) else (if (a0.size : Int) > 13 then (some (0, false)) else (if (a0.size : Int) > 1 then (if 0 < (a0.size : Int) then (if (bt a0 0) = 48 then (some (0, false)) else ((strings_Trim.f a0 (⟨#[48, 49, 50, 51, 52, 53, 54, 55, 56, 57]⟩ : ByteArray)).bind fun t101 => (if t101.toList = ([] : List UInt8) then ((strconv_Atoi.f a0).bind fun bt102 => (some (bt102.1, true))) else (some (0, false))))) else (none)) else ((strings_Trim.f a0 (⟨#[48, 49, 50, 51, 52, 53, 54, 55, 56, 57]⟩ : ByteArray)).bind fun t104 => (if t104.toList = ([] : List UInt8) then ((strconv_Atoi.f a0).bind fun bt105 => (some (bt105.1, true))) else (some (0, false))))))
mutual
def perigeeref9_Read.l0 : Nat → ByteArray → List (S32) → List (S35) → Int → Option ((List (S32)) × (List (S35)) × Int × Int)
  | 0, _, _, _, _ => none
  | k + 1, x0, x6, x7, x8 => if x0.toList = ([] : List UInt8) then ((perigeeref9_CheckUses.f k x6 x7).bind fun t101 => (if t101 = 0 then (some (x6, x7, 0, 0)) else (some (([] : List (S32)), ([] : List (S35)), 0, t101)))) else ((strings_Cut.f x0 (⟨#[10]⟩ : ByteArray)).bind fun bt102 => ((strings_Split.f bt102.1 (⟨#[32]⟩ : ByteArray)).bind fun t105 => (if bt102.2.2 = true then (if (t105.length : Int) = 4 then (if 1 < (t105.length : Int) then ((perigeeref9_isRow.f k (rdOf ByteArray.empty t105 1)).bind fun t109 => (perigeeref9_Read.j1 k x6 x7 x8 bt102.2.1 t105 (!t109))) else (none)) else (perigeeref9_Read.j1 k x6 x7 x8 bt102.2.1 t105 true)) else (perigeeref9_Read.j1 k x6 x7 x8 bt102.2.1 t105 true))))
def perigeeref9_Read.j1 : Nat → List (S32) → List (S35) → Int → ByteArray → List ByteArray → Bool → Option ((List (S32)) × (List (S35)) × Int × Int)
  | 0, _, _, _, _, _, _ => none
  | k + 1, x6, x7, x8, x10, x12, x46 => if x46 = true then (some (([] : List (S32)), ([] : List (S35)), x8, 10)) else (if 2 < (x12.length : Int) then ((perigeeref9_number.f (rdOf ByteArray.empty x12 2)).bind fun bt111 => (if 3 < (x12.length : Int) then ((perigeeref9_number.f (rdOf ByteArray.empty x12 3)).bind fun bt114 => (if bt111.2 = true then (perigeeref9_Read.j2 k x6 x7 x8 x10 x12 bt111.1 bt114.1 (!bt114.2)) else (perigeeref9_Read.j2 k x6 x7 x8 x10 x12 bt111.1 bt114.1 true))) else (none))) else (none))
def perigeeref9_Read.j2 : Nat → List (S32) → List (S35) → Int → ByteArray → List ByteArray → Int → Int → Bool → Option ((List (S32)) × (List (S35)) × Int × Int)
  | 0, _, _, _, _, _, _, _, _ => none
  | k + 1, x6, x7, x8, x10, x12, x13, x15, x63 => if x63 = true then (some (([] : List (S32)), ([] : List (S35)), x8, 10)) else (if 0 < (x12.length : Int) then (if (rdOf ByteArray.empty x12 0).toList = ([108, 111, 97, 100] : List UInt8) then (perigeeref9_Read.j3 k x6 x7 x8 x10 x12 x13 x15 ((x7.length : Int) == 0)) else (perigeeref9_Read.j3 k x6 x7 x8 x10 x12 x13 x15 false)) else (none))
def perigeeref9_Read.j3 : Nat → List (S32) → List (S35) → Int → ByteArray → List ByteArray → Int → Int → Bool → Option ((List (S32)) × (List (S35)) × Int × Int)
  | 0, _, _, _, _, _, _, _, _ => none
  | k + 1, x6, x7, x8, x10, x12, x13, x15, x71 => if x71 = true then (if 1 < (x12.length : Int) then (if x6.length < 4398046511104 then (perigeeref9_Read.l0 k x10 (x6 ++ [(⟨rdOf ByteArray.empty x12 1, x13, x15⟩ : S32)]) x7 (wrap64 (x8 + 1))) else (none)) else (none)) else (if 0 < (x12.length : Int) then (if (rdOf ByteArray.empty x12 0).toList = ([117, 115, 101] : List UInt8) then (if 1 < (x12.length : Int) then (if x7.length < 4398046511104 then (perigeeref9_Read.l0 k x10 x6 (x7 ++ [(⟨rdOf ByteArray.empty x12 1, x13, x15⟩ : S35)]) (wrap64 (x8 + 1))) else (none)) else (none)) else (some (([] : List (S32)), ([] : List (S35)), x8, 10))) else (none))
end
def strconv_Itoa.f (a0 : Int) : Option ByteArray := if -9223372036854775808 ≤ a0 ∧ a0 ≤ 9223372036854775807 then some ⟨(Lib.itoa a0).toArray⟩ else none
theorem itoa_grow (w : World) (k : Nat) (os : Array Obj) : Below w.heap.size w (Go.Sort.grow (w.drewN k) os) :=
  ⟨rfl, rfl, rfl, by show w.heap.size ≤ (w.heap ++ os).size; rw [Array.size_append]; omega, fun j hj => by show (w.heap ++ os)[j]? = w.heap[j]?; exact Array.getElem?_append_left hj⟩
theorem strconv_Itoa.calls (a0 : Int) (r : ByteArray) (w : World) (hV : VarsOK w) (h : strconv_Itoa.f a0 = some r) :
 Calls Tryd.prog 14 #[.int .i64 a0] w fun e w' => e = .returned (.string r) ∧ Below w.heap.size w w' := by
 unfold strconv_Itoa.f at h
 obtain ⟨⟨h1, h2⟩, h⟩ := guardT h
 obtain rfl := Option.some.inj h
 refine (Tryd.strconv_Itoa a0 h1 h2 w hV.2).mono ?_
 rintro e w' ⟨rfl, k, os, rfl⟩
 exact ⟨rfl, itoa_grow w k os⟩
end Go.Proofs.YtplcdpiggpkppaaDoor.Q
