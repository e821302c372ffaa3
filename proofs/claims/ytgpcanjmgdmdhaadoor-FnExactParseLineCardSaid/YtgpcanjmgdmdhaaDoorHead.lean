/-
  THE HEAD LINE OF THIS TRANSLATION, its characters written out, and what hangs on it; written by a program of my own (wip/vc/head.py). No condition.
-/
import Derived.Test.YtgpcanjmgdmdhaaDoorRows
import Derived.KernelRfl
import Derived.ProofKit
namespace Go.Proofs.YtgpcanjmgdmdhaaDoor.Head
open Go
set_option maxRecDepth 100000
def signs : List Char := ['h', 'a', 'r', 'n', 'e', 's', 's', ' ', '0', '2', '5', 'a', 'a', 'e', '7', '8', '7', '6', '7', '6', 'a', '6', '0', '4', 'e', '2', 'c', 'd', '9', 'd', '8', 'e', '4', 'e', 'e', 'b', '7', 'e', '4', 'e', 'd', '7', 'b', '6', '0', '0', '0', 'c', '0', '5', '9', 'b', '1', '4', 'e', '6', 'f', 'a', 'b', '4', '1', '2', '1', '5', '3', 'e', '6', '0', 'a', '2', 'b', '4', ' ', 'c', 'u', 't', ' ', 'a', 't', ' ', 'l', 'o', 'o', 'p', '.', 'e', 'x', 'a', 'm', 'p', 'l', 'e', '/', 's', '0', '2', '8', '8', '1', '/', 'l', 'a', 'w', 's', '.', 'F', 'n', 'E', 'x', 'a', 'c', 't', 'D', 'e', 'c', 'o', 'd', 'e', 'I', 'n', 'o', 'd', 'e', ' ', 'l', 'o', 'o', 'p', '.', 'e', 'x', 'a', 'm', 'p', 'l', 'e', '/', 's', '0', '2', '8', '8', '1', '/', 'l', 'a', 'w', 's', '.', 'F', 'n', 'B', 'y', 't', 'e', 's', ' ', 'l', 'o', 'o', 'p', '.', 'e', 'x', 'a', 'm', 'p', 'l', 'e', '/', 's', '0', '2', '8', '8', '1', '/', 'l', 'a', 'w', 's', '.', 'F', 'n', 'E', 'x', 'a', 'c', 't', 'F', 'o', 'r', 'm', 'a', 't', 'A', 'n', 's', 'w', 'e', 'r', ' ', 'l', 'o', 'o', 'p', '.', 'e', 'x', 'a', 'm', 'p', 'l', 'e', '/', 's', '0', '2', '8', '8', '1', '/', 'l', 'a', 'w', 's', '.', 'F', 'n', 'E', 'x', 'a', 'c', 't', 'P', 'a', 'r', 's', 'e', 'L', 'i', 'n', 'e']
theorem order : Tryd.pinned.checked.prog.initOrder = String.ofList signs := by kernel_rfl
theorem chars : Tryd.pinned.checked.prog.initOrder.toList = signs := by rw [order]; exact String.toList_ofList
def words : List (List Char) := [['c', 'u', 't'], ['a', 't'], ['l', 'o', 'o', 'p', '.', 'e', 'x', 'a', 'm', 'p', 'l', 'e', '/', 's', '0', '2', '8', '8', '1', '/', 'l', 'a', 'w', 's', '.', 'F', 'n', 'E', 'x', 'a', 'c', 't', 'D', 'e', 'c', 'o', 'd', 'e', 'I', 'n', 'o', 'd', 'e'], ['l', 'o', 'o', 'p', '.', 'e', 'x', 'a', 'm', 'p', 'l', 'e', '/', 's', '0', '2', '8', '8', '1', '/', 'l', 'a', 'w', 's', '.', 'F', 'n', 'B', 'y', 't', 'e', 's'], ['l', 'o', 'o', 'p', '.', 'e', 'x', 'a', 'm', 'p', 'l', 'e', '/', 's', '0', '2', '8', '8', '1', '/', 'l', 'a', 'w', 's', '.', 'F', 'n', 'E', 'x', 'a', 'c', 't', 'F', 'o', 'r', 'm', 'a', 't', 'A', 'n', 's', 'w', 'e', 'r'], ['l', 'o', 'o', 'p', '.', 'e', 'x', 'a', 'm', 'p', 'l', 'e', '/', 's', '0', '2', '8', '8', '1', '/', 'l', 'a', 'w', 's', '.', 'F', 'n', 'E', 'x', 'a', 'c', 't', 'P', 'a', 'r', 's', 'e', 'L', 'i', 'n', 'e']]
theorem split : behindMainWord (wordsSigns signs) = words := by kernel_rfl
theorem make_of {P : Program} {r : List (List Char)} (h : behindMainWord (wordsSigns P.initOrder.toList) = ['c', 'u', 't'] :: r) : P.make = some .cut := by
  unfold Program.make
  rw [h]
  rfl
theorem lifts_of {P : Program} {l : List (List Char)} (h : behindMainWord (wordsSigns P.initOrder.toList) = l) (h1 : (stripLifts liftWords l).1.contains "finals" = false) (h2 : (l.head? == some "carried".toList) = false) : P.liftsFinal = false := by
  unfold Program.liftsFinal Program.headLifts
  rw [h]
  simp only [h2, Bool.false_and, Bool.false_or]
  split
  · exact h1
  · rfl
theorem mayEnter_of {P : Program} {c : List Char} {r : List (List Char)} (h : behindMainWord (wordsSigns P.initOrder.toList) = c :: r) (h1 : (stripLifts liftWords (c :: r)).2.head? == some "cut".toList) (h2 : P.laysLater = false) (h3 : P.bearsReflect = false)
    (h4 : (stripLifts liftWords (c :: r)).1 = []) (h5 : P.doorFits [] = true) : P.mayEnter = true := by
  unfold Program.mayEnter
  rw [h]
  simp only [h1, h2, h3, h4, h5]
  simp
theorem ai {a b : Bool} (ha : a = true) (hb : b = true) : (a && b) = true := by rw [ha, hb]; rfl
theorem laid : laidOutB Tryd.pinned.checked.prog = true := by kernel_rfl
theorem rowed : mapsRowed Tryd.pinned.checked.prog = true := by kernel_rfl
theorem heard : Tryd.pinned.checked.prog.stopsHeard = true := by kernel_rfl
theorem plain : Tryd.pinned.checked.prog.plainKeys = true := by kernel_rfl
theorem here : behindMainWord (wordsSigns Tryd.pinned.checked.prog.initOrder.toList) = words := by rw [chars]; exact split
theorem mayEnter : Tryd.pinned.checked.prog.mayEnter = true := mayEnter_of here (by kernel_rfl) (by kernel_rfl) (by kernel_rfl) (by kernel_rfl) (by kernel_rfl)
theorem lifts : Tryd.pinned.checked.prog.liftsFinal = false := lifts_of here (by kernel_rfl) (by kernel_rfl)
theorem make : Tryd.pinned.checked.prog.make = some .cut := make_of here
end Go.Proofs.YtgpcanjmgdmdhaaDoor.Head
