/- Part 7 of what the proof rests on: a machine that runs functions of the program on pure values, proved sound; the functions that the law reaches, and what they compute. -/
import Derived.Test.YtedhjaaikeakoaaDoorQ6
import Derived.Test.YtedhjaaikeakoaaDoorCards
import Derived.WalkKit
import Derived.ProofKit
set_option linter.all false
namespace Go.Proofs.YtedhjaaikeakoaaDoor
set_option maxRecDepth 100000
@[reducible] def ch (n:Nat):Char:=Char.ofNat n
theorem ioS:Tryd.prog.initOrder=String.ofList [ch 104,ch 97,ch 114,ch 110,ch 101,ch 115,ch 115,ch 32,ch 53,ch 48,ch 57,ch 55,ch 100,ch 48,ch 50,ch 48,ch 49,ch 52,ch 98,ch 55,ch 102,ch 57,ch 98,ch 100,ch 99,ch 52,ch 53,ch 55,ch 53,ch 56,ch 56,ch 102,ch 49,ch 54,ch 97,ch 54,ch 49,ch 49,ch 55,ch 57,ch 102,ch 57,ch 54,ch 100,ch 97,ch 101,ch 101,ch 52,ch 97,ch 48,ch 56,ch 53,ch 99,ch 48,ch 97,ch 50,ch 99,ch 53,ch 52,ch 54,ch 50,ch 100,ch 56,ch 54,ch 51,ch 100,ch 98,ch 52,ch 51,ch 100,ch 98,ch 102,ch 32,ch 99,ch 117,ch 116,ch 32,ch 97,ch 116,ch 32,ch 111,ch 118,ch 101,ch 114,ch 98,ch 117,ch 114,ch 100,ch 101,ch 110,ch 47,ch 111,ch 118,ch 101,ch 114,ch 98,ch 117,ch 114,ch 100,ch 101,ch 110,ch 108,ch 97,ch 119,ch 48,ch 51,ch 46,ch 65,ch 108,ch 105,ch 103,ch 110,ch 66,ch 108,ch 97,ch 109,ch 101,ch 115,ch 32,ch 111,ch 118,ch 101,ch 114,ch 98,ch 117,ch 114,ch 100,ch 101,ch 110,ch 47,ch 111,ch 118,ch 101,ch 114,ch 98,ch 117,ch 114,ch 100,ch 101,ch 110,ch 108,ch 97,ch 119,ch 48,ch 51,ch 46,ch 65,ch 108,ch 105,ch 103,ch 110,ch 70,ch 101,ch 119,ch 101,ch 115,ch 116,ch 32,ch 111,ch 118,ch 101,ch 114,ch 98,ch 117,ch 114,ch 100,ch 101,ch 110,ch 47,ch 111,ch 118,ch 101,ch 114,ch 98,ch 117,ch 114,ch 100,ch 101,ch 110,ch 108,ch 97,ch 119,ch 48,ch 51,ch 46,ch 65,ch 108,ch 105,ch 103,ch 110,ch 84,ch 117,ch 114,ch 110,ch 101,ch 100,ch 32,ch 111,ch 118,ch 101,ch 114,ch 98,ch 117,ch 114,ch 100,ch 101,ch 110,ch 47,ch 111,ch 118,ch 101,ch 114,ch 98,ch 117,ch 114,ch 100,ch 101,ch 110,ch 108,ch 97,ch 119,ch 48,ch 51,ch 46,ch 65,ch 108,ch 105,ch 103,ch 110,ch 66,ch 111,ch 117,ch 110,ch 100,ch 115,ch 32,ch 111,ch 118,ch 101,ch 114,ch 98,ch 117,ch 114,ch 100,ch 101,ch 110,ch 47,ch 111,ch 118,ch 101,ch 114,ch 98,ch 117,ch 114,ch 100,ch 101,ch 110,ch 108,ch 97,ch 119,ch 48,ch 51,ch 46,ch 65,ch 108,ch 105,ch 103,ch 110,ch 70,ch 111,ch 108,ch 108,ch 111,ch 119,ch 115,ch 32,ch 111,ch 118,ch 101,ch 114,ch 98,ch 117,ch 114,ch 100,ch 101,ch 110,ch 47,ch 111,ch 118,ch 101,ch 114,ch 98,ch 117,ch 114,ch 100,ch 101,ch 110,ch 108,ch 97,ch 119,ch 48,ch 51,ch 46,ch 65,ch 108,ch 105,ch 103,ch 110,ch 80,ch 117,ch 108,ch 115,ch 101,ch 115,ch 32,ch 111,ch 118,ch 101,ch 114,ch 98,ch 117,ch 114,ch 100,ch 101,ch 110,ch 47,ch 111,ch 118,ch 101,ch 114,ch 98,ch 117,ch 114,ch 100,ch 101,ch 110,ch 108,ch 97,ch 119,ch 48,ch 51,ch 46,ch 65,ch 108,ch 105,ch 103,ch 110,ch 65,ch 116,ch 116,ch 97,ch 105,ch 110,ch 115,ch 32,ch 111,ch 118,ch 101,ch 114,ch 98,ch 117,ch 114,ch 100,ch 101,ch 110,ch 47,ch 111,ch 118,ch 101,ch 114,ch 98,ch 117,ch 114,ch 100,ch 101,ch 110,ch 108,ch 97,ch 119,ch 48,ch 51,ch 46,ch 65,ch 108,ch 105,ch 103,ch 110,ch 67,ch 104,ch 101,ch 99,ch 107,ch 115,ch 32,ch 111,ch 118,ch 101,ch 114,ch 98,ch 117,ch 114,ch 100,ch 101,ch 110,ch 47,ch 111,ch 118,ch 101,ch 114,ch 98,ch 117,ch 114,ch 100,ch 101,ch 110,ch 108,ch 97,ch 119,ch 48,ch 51,ch 46,ch 65,ch 108,ch 105,ch 103,ch 110,ch 67,ch 111,ch 110,ch 116,ch 114,ch 97,ch 100,ch 105,ch 99,ch 116,ch 115,ch 32,ch 111,ch 118,ch 101,ch 114,ch 98,ch 117,ch 114,ch 100,ch 101,ch 110,ch 47,ch 111,ch 118,ch 101,ch 114,ch 98,ch 117,ch 114,ch 100,ch 101,ch 110,ch 108,ch 97,ch 119,ch 48,ch 51,ch 46,ch 65,ch 108,ch 105,ch 103,ch 110,ch 69,ch 105,ch 116,ch 104,ch 101,ch 114,ch 32,ch 111,ch 118,ch 101,ch 114,ch 98,ch 117,ch 114,ch 100,ch 101,ch 110,ch 47,ch 111,ch 118,ch 101,ch 114,ch 98,ch 117,ch 114,ch 100,ch 101,ch 110,ch 108,ch 97,ch 119,ch 48,ch 51,ch 46,ch 65,ch 108,ch 105,ch 103,ch 110,ch 67,ch 104,ch 97,ch 105,ch 110,ch 115,ch 32,ch 111,ch 118,ch 101,ch 114,ch 98,ch 117,ch 114,ch 100,ch 101,ch 110,ch 47,ch 111,ch 118,ch 101,ch 114,ch 98,ch 117,ch 114,ch 100,ch 101,ch 110,ch 108,ch 97,ch 119,ch 48,ch 51,ch 46,ch 65,ch 108,ch 105,ch 103,ch 110,ch 80,ch 114,ch 111,ch 118,ch 101,ch 115,ch 32,ch 111,ch 118,ch 101,ch 114,ch 98,ch 117,ch 114,ch 100,ch 101,ch 110,ch 47,ch 111,ch 118,ch 101,ch 114,ch 98,ch 117,ch 114,ch 100,ch 101,ch 110,ch 108,ch 97,ch 119,ch 48,ch 51,ch 46,ch 65,ch 108,ch 105,ch 103,ch 110,ch 67,ch 108,ch 111,ch 99,ch 107,ch 115,ch 32,ch 111,ch 118,ch 101,ch 114,ch 98,ch 117,ch 114,ch 100,ch 101,ch 110,ch 47,ch 111,ch 118,ch 101,ch 114,ch 98,ch 117,ch 114,ch 100,ch 101,ch 110,ch 108,ch 97,ch 119,ch 48,ch 51,ch 46,ch 65,ch 108,ch 105,ch 103,ch 110,ch 78,ch 101,ch 101,ch 100,ch 115,ch 32,ch 111,ch 118,ch 101,ch 114,ch 98,ch 117,ch 114,ch 100,ch 101,ch 110,ch 47,ch 111,ch 118,ch 101,ch 114,ch 98,ch 117,ch 114,ch 100,ch 101,ch 110,ch 108,ch 97,ch 119,ch 48,ch 51,ch 46,ch 65,ch 108,ch 105,ch 103,ch 110,ch 69,ch 112,ch 111,ch 99,ch 104,ch 115,ch 32,ch 111,ch 118,ch 101,ch 114,ch 98,ch 117,ch 114,ch 100,ch 101,ch 110,ch 47,ch 111,ch 118,ch 101,ch 114,ch 98,ch 117,ch 114,ch 100,ch 101,ch 110,ch 108,ch 97,ch 119,ch 48,ch 51,ch 46,ch 65,ch 108,ch 105,ch 103,ch 110,ch 68,ch 114,ch 105,ch 102,ch 116,ch 115,ch 32,ch 111,ch 118,ch 101,ch 114,ch 98,ch 117,ch 114,ch 100,ch 101,ch 110,ch 47,ch 111,ch 118,ch 101,ch 114,ch 98,ch 117,ch 114,ch 100,ch 101,ch 110,ch 108,ch 97,ch 119,ch 48,ch 51,ch 46,ch 65,ch 108,ch 105,ch 103,ch 110,ch 77,ch 101,ch 114,ch 103,ch 101,ch 115]:=by kernel_rfl
theorem ioL:Tryd.prog.initOrder.toList=[ch 104,ch 97,ch 114,ch 110,ch 101,ch 115,ch 115,ch 32,ch 53,ch 48,ch 57,ch 55,ch 100,ch 48,ch 50,ch 48,ch 49,ch 52,ch 98,ch 55,ch 102,ch 57,ch 98,ch 100,ch 99,ch 52,ch 53,ch 55,ch 53,ch 56,ch 56,ch 102,ch 49,ch 54,ch 97,ch 54,ch 49,ch 49,ch 55,ch 57,ch 102,ch 57,ch 54,ch 100,ch 97,ch 101,ch 101,ch 52,ch 97,ch 48,ch 56,ch 53,ch 99,ch 48,ch 97,ch 50,ch 99,ch 53,ch 52,ch 54,ch 50,ch 100,ch 56,ch 54,ch 51,ch 100,ch 98,ch 52,ch 51,ch 100,ch 98,ch 102,ch 32,ch 99,ch 117,ch 116,ch 32,ch 97,ch 116,ch 32,ch 111,ch 118,ch 101,ch 114,ch 98,ch 117,ch 114,ch 100,ch 101,ch 110,ch 47,ch 111,ch 118,ch 101,ch 114,ch 98,ch 117,ch 114,ch 100,ch 101,ch 110,ch 108,ch 97,ch 119,ch 48,ch 51,ch 46,ch 65,ch 108,ch 105,ch 103,ch 110,ch 66,ch 108,ch 97,ch 109,ch 101,ch 115,ch 32,ch 111,ch 118,ch 101,ch 114,ch 98,ch 117,ch 114,ch 100,ch 101,ch 110,ch 47,ch 111,ch 118,ch 101,ch 114,ch 98,ch 117,ch 114,ch 100,ch 101,ch 110,ch 108,ch 97,ch 119,ch 48,ch 51,ch 46,ch 65,ch 108,ch 105,ch 103,ch 110,ch 70,ch 101,ch 119,ch 101,ch 115,ch 116,ch 32,ch 111,ch 118,ch 101,ch 114,ch 98,ch 117,ch 114,ch 100,ch 101,ch 110,ch 47,ch 111,ch 118,ch 101,ch 114,ch 98,ch 117,ch 114,ch 100,ch 101,ch 110,ch 108,ch 97,ch 119,ch 48,ch 51,ch 46,ch 65,ch 108,ch 105,ch 103,ch 110,ch 84,ch 117,ch 114,ch 110,ch 101,ch 100,ch 32,ch 111,ch 118,ch 101,ch 114,ch 98,ch 117,ch 114,ch 100,ch 101,ch 110,ch 47,ch 111,ch 118,ch 101,ch 114,ch 98,ch 117,ch 114,ch 100,ch 101,ch 110,ch 108,ch 97,ch 119,ch 48,ch 51,ch 46,ch 65,ch 108,ch 105,ch 103,ch 110,ch 66,ch 111,ch 117,ch 110,ch 100,ch 115,ch 32,ch 111,ch 118,ch 101,ch 114,ch 98,ch 117,ch 114,ch 100,ch 101,ch 110,ch 47,ch 111,ch 118,ch 101,ch 114,ch 98,ch 117,ch 114,ch 100,ch 101,ch 110,ch 108,ch 97,ch 119,ch 48,ch 51,ch 46,ch 65,ch 108,ch 105,ch 103,ch 110,ch 70,ch 111,ch 108,ch 108,ch 111,ch 119,ch 115,ch 32,ch 111,ch 118,ch 101,ch 114,ch 98,ch 117,ch 114,ch 100,ch 101,ch 110,ch 47,ch 111,ch 118,ch 101,ch 114,ch 98,ch 117,ch 114,ch 100,ch 101,ch 110,ch 108,ch 97,ch 119,ch 48,ch 51,ch 46,ch 65,ch 108,ch 105,ch 103,ch 110,ch 80,ch 117,ch 108,ch 115,ch 101,ch 115,ch 32,ch 111,ch 118,ch 101,ch 114,ch 98,ch 117,ch 114,ch 100,ch 101,ch 110,ch 47,ch 111,ch 118,ch 101,ch 114,ch 98,ch 117,ch 114,ch 100,ch 101,ch 110,ch 108,ch 97,ch 119,ch 48,ch 51,ch 46,ch 65,ch 108,ch 105,ch 103,ch 110,ch 65,ch 116,ch 116,ch 97,ch 105,ch 110,ch 115,ch 32,ch 111,ch 118,ch 101,ch 114,ch 98,ch 117,ch 114,ch 100,ch 101,ch 110,ch 47,ch 111,ch 118,ch 101,ch 114,ch 98,ch 117,ch 114,ch 100,ch 101,ch 110,ch 108,ch 97,ch 119,ch 48,ch 51,ch 46,ch 65,ch 108,ch 105,ch 103,ch 110,ch 67,ch 104,ch 101,ch 99,ch 107,ch 115,ch 32,ch 111,ch 118,ch 101,ch 114,ch 98,ch 117,ch 114,ch 100,ch 101,ch 110,ch 47,ch 111,ch 118,ch 101,ch 114,ch 98,ch 117,ch 114,ch 100,ch 101,ch 110,ch 108,ch 97,ch 119,ch 48,ch 51,ch 46,ch 65,ch 108,ch 105,ch 103,ch 110,ch 67,ch 111,ch 110,ch 116,ch 114,ch 97,ch 100,ch 105,ch 99,ch 116,ch 115,ch 32,ch 111,ch 118,ch 101,ch 114,ch 98,ch 117,ch 114,ch 100,ch 101,ch 110,ch 47,ch 111,ch 118,ch 101,ch 114,ch 98,ch 117,ch 114,ch 100,ch 101,ch 110,ch 108,ch 97,ch 119,ch 48,ch 51,ch 46,ch 65,ch 108,ch 105,ch 103,ch 110,ch 69,ch 105,ch 116,ch 104,ch 101,ch 114,ch 32,ch 111,ch 118,ch 101,ch 114,ch 98,ch 117,ch 114,ch 100,ch 101,ch 110,ch 47,ch 111,ch 118,ch 101,ch 114,ch 98,ch 117,ch 114,ch 100,ch 101,ch 110,ch 108,ch 97,ch 119,ch 48,ch 51,ch 46,ch 65,ch 108,ch 105,ch 103,ch 110,ch 67,ch 104,ch 97,ch 105,ch 110,ch 115,ch 32,ch 111,ch 118,ch 101,ch 114,ch 98,ch 117,ch 114,ch 100,ch 101,ch 110,ch 47,ch 111,ch 118,ch 101,ch 114,ch 98,ch 117,ch 114,ch 100,ch 101,ch 110,ch 108,ch 97,ch 119,ch 48,ch 51,ch 46,ch 65,ch 108,ch 105,ch 103,ch 110,ch 80,ch 114,ch 111,ch 118,ch 101,ch 115,ch 32,ch 111,ch 118,ch 101,ch 114,ch 98,ch 117,ch 114,ch 100,ch 101,ch 110,ch 47,ch 111,ch 118,ch 101,ch 114,ch 98,ch 117,ch 114,ch 100,ch 101,ch 110,ch 108,ch 97,ch 119,ch 48,ch 51,ch 46,ch 65,ch 108,ch 105,ch 103,ch 110,ch 67,ch 108,ch 111,ch 99,ch 107,ch 115,ch 32,ch 111,ch 118,ch 101,ch 114,ch 98,ch 117,ch 114,ch 100,ch 101,ch 110,ch 47,ch 111,ch 118,ch 101,ch 114,ch 98,ch 117,ch 114,ch 100,ch 101,ch 110,ch 108,ch 97,ch 119,ch 48,ch 51,ch 46,ch 65,ch 108,ch 105,ch 103,ch 110,ch 78,ch 101,ch 101,ch 100,ch 115,ch 32,ch 111,ch 118,ch 101,ch 114,ch 98,ch 117,ch 114,ch 100,ch 101,ch 110,ch 47,ch 111,ch 118,ch 101,ch 114,ch 98,ch 117,ch 114,ch 100,ch 101,ch 110,ch 108,ch 97,ch 119,ch 48,ch 51,ch 46,ch 65,ch 108,ch 105,ch 103,ch 110,ch 69,ch 112,ch 111,ch 99,ch 104,ch 115,ch 32,ch 111,ch 118,ch 101,ch 114,ch 98,ch 117,ch 114,ch 100,ch 101,ch 110,ch 47,ch 111,ch 118,ch 101,ch 114,ch 98,ch 117,ch 114,ch 100,ch 101,ch 110,ch 108,ch 97,ch 119,ch 48,ch 51,ch 46,ch 65,ch 108,ch 105,ch 103,ch 110,ch 68,ch 114,ch 105,ch 102,ch 116,ch 115,ch 32,ch 111,ch 118,ch 101,ch 114,ch 98,ch 117,ch 114,ch 100,ch 101,ch 110,ch 47,ch 111,ch 118,ch 101,ch 114,ch 98,ch 117,ch 114,ch 100,ch 101,ch 110,ch 108,ch 97,ch 119,ch 48,ch 51,ch 46,ch 65,ch 108,ch 105,ch 103,ch 110,ch 77,ch 101,ch 114,ch 103,ch 101,ch 115]:=(congrArg String.toList ioS).trans String.toList_ofList
theorem ioW:wordsSigns Tryd.prog.initOrder.toList=[[ch 104,ch 97,ch 114,ch 110,ch 101,ch 115,ch 115],[ch 53,ch 48,ch 57,ch 55,ch 100,ch 48,ch 50,ch 48,ch 49,ch 52,ch 98,ch 55,ch 102,ch 57,ch 98,ch 100,ch 99,ch 52,ch 53,ch 55,ch 53,ch 56,ch 56,ch 102,ch 49,ch 54,ch 97,ch 54,ch 49,ch 49,ch 55,ch 57,ch 102,ch 57,ch 54,ch 100,ch 97,ch 101,ch 101,ch 52,ch 97,ch 48,ch 56,ch 53,ch 99,ch 48,ch 97,ch 50,ch 99,ch 53,ch 52,ch 54,ch 50,ch 100,ch 56,ch 54,ch 51,ch 100,ch 98,ch 52,ch 51,ch 100,ch 98,ch 102],[ch 99,ch 117,ch 116],[ch 97,ch 116],[ch 111,ch 118,ch 101,ch 114,ch 98,ch 117,ch 114,ch 100,ch 101,ch 110,ch 47,ch 111,ch 118,ch 101,ch 114,ch 98,ch 117,ch 114,ch 100,ch 101,ch 110,ch 108,ch 97,ch 119,ch 48,ch 51,ch 46,ch 65,ch 108,ch 105,ch 103,ch 110,ch 66,ch 108,ch 97,ch 109,ch 101,ch 115],[ch 111,ch 118,ch 101,ch 114,ch 98,ch 117,ch 114,ch 100,ch 101,ch 110,ch 47,ch 111,ch 118,ch 101,ch 114,ch 98,ch 117,ch 114,ch 100,ch 101,ch 110,ch 108,ch 97,ch 119,ch 48,ch 51,ch 46,ch 65,ch 108,ch 105,ch 103,ch 110,ch 70,ch 101,ch 119,ch 101,ch 115,ch 116],[ch 111,ch 118,ch 101,ch 114,ch 98,ch 117,ch 114,ch 100,ch 101,ch 110,ch 47,ch 111,ch 118,ch 101,ch 114,ch 98,ch 117,ch 114,ch 100,ch 101,ch 110,ch 108,ch 97,ch 119,ch 48,ch 51,ch 46,ch 65,ch 108,ch 105,ch 103,ch 110,ch 84,ch 117,ch 114,ch 110,ch 101,ch 100],[ch 111,ch 118,ch 101,ch 114,ch 98,ch 117,ch 114,ch 100,ch 101,ch 110,ch 47,ch 111,ch 118,ch 101,ch 114,ch 98,ch 117,ch 114,ch 100,ch 101,ch 110,ch 108,ch 97,ch 119,ch 48,ch 51,ch 46,ch 65,ch 108,ch 105,ch 103,ch 110,ch 66,ch 111,ch 117,ch 110,ch 100,ch 115],[ch 111,ch 118,ch 101,ch 114,ch 98,ch 117,ch 114,ch 100,ch 101,ch 110,ch 47,ch 111,ch 118,ch 101,ch 114,ch 98,ch 117,ch 114,ch 100,ch 101,ch 110,ch 108,ch 97,ch 119,ch 48,ch 51,ch 46,ch 65,ch 108,ch 105,ch 103,ch 110,ch 70,ch 111,ch 108,ch 108,ch 111,ch 119,ch 115],[ch 111,ch 118,ch 101,ch 114,ch 98,ch 117,ch 114,ch 100,ch 101,ch 110,ch 47,ch 111,ch 118,ch 101,ch 114,ch 98,ch 117,ch 114,ch 100,ch 101,ch 110,ch 108,ch 97,ch 119,ch 48,ch 51,ch 46,ch 65,ch 108,ch 105,ch 103,ch 110,ch 80,ch 117,ch 108,ch 115,ch 101,ch 115],[ch 111,ch 118,ch 101,ch 114,ch 98,ch 117,ch 114,ch 100,ch 101,ch 110,ch 47,ch 111,ch 118,ch 101,ch 114,ch 98,ch 117,ch 114,ch 100,ch 101,ch 110,ch 108,ch 97,ch 119,ch 48,ch 51,ch 46,ch 65,ch 108,ch 105,ch 103,ch 110,ch 65,ch 116,ch 116,ch 97,ch 105,ch 110,ch 115],[ch 111,ch 118,ch 101,ch 114,ch 98,ch 117,ch 114,ch 100,ch 101,ch 110,ch 47,ch 111,ch 118,ch 101,ch 114,ch 98,ch 117,ch 114,ch 100,ch 101,ch 110,ch 108,ch 97,ch 119,ch 48,ch 51,ch 46,ch 65,ch 108,ch 105,ch 103,ch 110,ch 67,ch 104,ch 101,ch 99,ch 107,ch 115],[ch 111,ch 118,ch 101,ch 114,ch 98,ch 117,ch 114,ch 100,ch 101,ch 110,ch 47,ch 111,ch 118,ch 101,ch 114,ch 98,ch 117,ch 114,ch 100,ch 101,ch 110,ch 108,ch 97,ch 119,ch 48,ch 51,ch 46,ch 65,ch 108,ch 105,ch 103,ch 110,ch 67,ch 111,ch 110,ch 116,ch 114,ch 97,ch 100,ch 105,ch 99,ch 116,ch 115],[ch 111,ch 118,ch 101,ch 114,ch 98,ch 117,ch 114,ch 100,ch 101,ch 110,ch 47,ch 111,ch 118,ch 101,ch 114,ch 98,ch 117,ch 114,ch 100,ch 101,ch 110,ch 108,ch 97,ch 119,ch 48,ch 51,ch 46,ch 65,ch 108,ch 105,ch 103,ch 110,ch 69,ch 105,ch 116,ch 104,ch 101,ch 114],[ch 111,ch 118,ch 101,ch 114,ch 98,ch 117,ch 114,ch 100,ch 101,ch 110,ch 47,ch 111,ch 118,ch 101,ch 114,ch 98,ch 117,ch 114,ch 100,ch 101,ch 110,ch 108,ch 97,ch 119,ch 48,ch 51,ch 46,ch 65,ch 108,ch 105,ch 103,ch 110,ch 67,ch 104,ch 97,ch 105,ch 110,ch 115],[ch 111,ch 118,ch 101,ch 114,ch 98,ch 117,ch 114,ch 100,ch 101,ch 110,ch 47,ch 111,ch 118,ch 101,ch 114,ch 98,ch 117,ch 114,ch 100,ch 101,ch 110,ch 108,ch 97,ch 119,ch 48,ch 51,ch 46,ch 65,ch 108,ch 105,ch 103,ch 110,ch 80,ch 114,ch 111,ch 118,ch 101,ch 115],[ch 111,ch 118,ch 101,ch 114,ch 98,ch 117,ch 114,ch 100,ch 101,ch 110,ch 47,ch 111,ch 118,ch 101,ch 114,ch 98,ch 117,ch 114,ch 100,ch 101,ch 110,ch 108,ch 97,ch 119,ch 48,ch 51,ch 46,ch 65,ch 108,ch 105,ch 103,ch 110,ch 67,ch 108,ch 111,ch 99,ch 107,ch 115],[ch 111,ch 118,ch 101,ch 114,ch 98,ch 117,ch 114,ch 100,ch 101,ch 110,ch 47,ch 111,ch 118,ch 101,ch 114,ch 98,ch 117,ch 114,ch 100,ch 101,ch 110,ch 108,ch 97,ch 119,ch 48,ch 51,ch 46,ch 65,ch 108,ch 105,ch 103,ch 110,ch 78,ch 101,ch 101,ch 100,ch 115],[ch 111,ch 118,ch 101,ch 114,ch 98,ch 117,ch 114,ch 100,ch 101,ch 110,ch 47,ch 111,ch 118,ch 101,ch 114,ch 98,ch 117,ch 114,ch 100,ch 101,ch 110,ch 108,ch 97,ch 119,ch 48,ch 51,ch 46,ch 65,ch 108,ch 105,ch 103,ch 110,ch 69,ch 112,ch 111,ch 99,ch 104,ch 115],[ch 111,ch 118,ch 101,ch 114,ch 98,ch 117,ch 114,ch 100,ch 101,ch 110,ch 47,ch 111,ch 118,ch 101,ch 114,ch 98,ch 117,ch 114,ch 100,ch 101,ch 110,ch 108,ch 97,ch 119,ch 48,ch 51,ch 46,ch 65,ch 108,ch 105,ch 103,ch 110,ch 68,ch 114,ch 105,ch 102,ch 116,ch 115],[ch 111,ch 118,ch 101,ch 114,ch 98,ch 117,ch 114,ch 100,ch 101,ch 110,ch 47,ch 111,ch 118,ch 101,ch 114,ch 98,ch 117,ch 114,ch 100,ch 101,ch 110,ch 108,ch 97,ch 119,ch 48,ch 51,ch 46,ch 65,ch 108,ch 105,ch 103,ch 110,ch 77,ch 101,ch 114,ch 103,ch 101,ch 115]]:=(congrArg wordsSigns ioL).trans (by kernel_rfl)
theorem ioB:behindMainWord (wordsSigns Tryd.prog.initOrder.toList)=[[ch 99,ch 117,ch 116],[ch 97,ch 116],[ch 111,ch 118,ch 101,ch 114,ch 98,ch 117,ch 114,ch 100,ch 101,ch 110,ch 47,ch 111,ch 118,ch 101,ch 114,ch 98,ch 117,ch 114,ch 100,ch 101,ch 110,ch 108,ch 97,ch 119,ch 48,ch 51,ch 46,ch 65,ch 108,ch 105,ch 103,ch 110,ch 66,ch 108,ch 97,ch 109,ch 101,ch 115],[ch 111,ch 118,ch 101,ch 114,ch 98,ch 117,ch 114,ch 100,ch 101,ch 110,ch 47,ch 111,ch 118,ch 101,ch 114,ch 98,ch 117,ch 114,ch 100,ch 101,ch 110,ch 108,ch 97,ch 119,ch 48,ch 51,ch 46,ch 65,ch 108,ch 105,ch 103,ch 110,ch 70,ch 101,ch 119,ch 101,ch 115,ch 116],[ch 111,ch 118,ch 101,ch 114,ch 98,ch 117,ch 114,ch 100,ch 101,ch 110,ch 47,ch 111,ch 118,ch 101,ch 114,ch 98,ch 117,ch 114,ch 100,ch 101,ch 110,ch 108,ch 97,ch 119,ch 48,ch 51,ch 46,ch 65,ch 108,ch 105,ch 103,ch 110,ch 84,ch 117,ch 114,ch 110,ch 101,ch 100],[ch 111,ch 118,ch 101,ch 114,ch 98,ch 117,ch 114,ch 100,ch 101,ch 110,ch 47,ch 111,ch 118,ch 101,ch 114,ch 98,ch 117,ch 114,ch 100,ch 101,ch 110,ch 108,ch 97,ch 119,ch 48,ch 51,ch 46,ch 65,ch 108,ch 105,ch 103,ch 110,ch 66,ch 111,ch 117,ch 110,ch 100,ch 115],[ch 111,ch 118,ch 101,ch 114,ch 98,ch 117,ch 114,ch 100,ch 101,ch 110,ch 47,ch 111,ch 118,ch 101,ch 114,ch 98,ch 117,ch 114,ch 100,ch 101,ch 110,ch 108,ch 97,ch 119,ch 48,ch 51,ch 46,ch 65,ch 108,ch 105,ch 103,ch 110,ch 70,ch 111,ch 108,ch 108,ch 111,ch 119,ch 115],[ch 111,ch 118,ch 101,ch 114,ch 98,ch 117,ch 114,ch 100,ch 101,ch 110,ch 47,ch 111,ch 118,ch 101,ch 114,ch 98,ch 117,ch 114,ch 100,ch 101,ch 110,ch 108,ch 97,ch 119,ch 48,ch 51,ch 46,ch 65,ch 108,ch 105,ch 103,ch 110,ch 80,ch 117,ch 108,ch 115,ch 101,ch 115],[ch 111,ch 118,ch 101,ch 114,ch 98,ch 117,ch 114,ch 100,ch 101,ch 110,ch 47,ch 111,ch 118,ch 101,ch 114,ch 98,ch 117,ch 114,ch 100,ch 101,ch 110,ch 108,ch 97,ch 119,ch 48,ch 51,ch 46,ch 65,ch 108,ch 105,ch 103,ch 110,ch 65,ch 116,ch 116,ch 97,ch 105,ch 110,ch 115],[ch 111,ch 118,ch 101,ch 114,ch 98,ch 117,ch 114,ch 100,ch 101,ch 110,ch 47,ch 111,ch 118,ch 101,ch 114,ch 98,ch 117,ch 114,ch 100,ch 101,ch 110,ch 108,ch 97,ch 119,ch 48,ch 51,ch 46,ch 65,ch 108,ch 105,ch 103,ch 110,ch 67,ch 104,ch 101,ch 99,ch 107,ch 115],[ch 111,ch 118,ch 101,ch 114,ch 98,ch 117,ch 114,ch 100,ch 101,ch 110,ch 47,ch 111,ch 118,ch 101,ch 114,ch 98,ch 117,ch 114,ch 100,ch 101,ch 110,ch 108,ch 97,ch 119,ch 48,ch 51,ch 46,ch 65,ch 108,ch 105,ch 103,ch 110,ch 67,ch 111,ch 110,ch 116,ch 114,ch 97,ch 100,ch 105,ch 99,ch 116,ch 115],[ch 111,ch 118,ch 101,ch 114,ch 98,ch 117,ch 114,ch 100,ch 101,ch 110,ch 47,ch 111,ch 118,ch 101,ch 114,ch 98,ch 117,ch 114,ch 100,ch 101,ch 110,ch 108,ch 97,ch 119,ch 48,ch 51,ch 46,ch 65,ch 108,ch 105,ch 103,ch 110,ch 69,ch 105,ch 116,ch 104,ch 101,ch 114],[ch 111,ch 118,ch 101,ch 114,ch 98,ch 117,ch 114,ch 100,ch 101,ch 110,ch 47,ch 111,ch 118,ch 101,ch 114,ch 98,ch 117,ch 114,ch 100,ch 101,ch 110,ch 108,ch 97,ch 119,ch 48,ch 51,ch 46,ch 65,ch 108,ch 105,ch 103,ch 110,ch 67,ch 104,ch 97,ch 105,ch 110,ch 115],[ch 111,ch 118,ch 101,ch 114,ch 98,ch 117,ch 114,ch 100,ch 101,ch 110,ch 47,ch 111,ch 118,ch 101,ch 114,ch 98,ch 117,ch 114,ch 100,ch 101,ch 110,ch 108,ch 97,ch 119,ch 48,ch 51,ch 46,ch 65,ch 108,ch 105,ch 103,ch 110,ch 80,ch 114,ch 111,ch 118,ch 101,ch 115],[ch 111,ch 118,ch 101,ch 114,ch 98,ch 117,ch 114,ch 100,ch 101,ch 110,ch 47,ch 111,ch 118,ch 101,ch 114,ch 98,ch 117,ch 114,ch 100,ch 101,ch 110,ch 108,ch 97,ch 119,ch 48,ch 51,ch 46,ch 65,ch 108,ch 105,ch 103,ch 110,ch 67,ch 108,ch 111,ch 99,ch 107,ch 115],[ch 111,ch 118,ch 101,ch 114,ch 98,ch 117,ch 114,ch 100,ch 101,ch 110,ch 47,ch 111,ch 118,ch 101,ch 114,ch 98,ch 117,ch 114,ch 100,ch 101,ch 110,ch 108,ch 97,ch 119,ch 48,ch 51,ch 46,ch 65,ch 108,ch 105,ch 103,ch 110,ch 78,ch 101,ch 101,ch 100,ch 115],[ch 111,ch 118,ch 101,ch 114,ch 98,ch 117,ch 114,ch 100,ch 101,ch 110,ch 47,ch 111,ch 118,ch 101,ch 114,ch 98,ch 117,ch 114,ch 100,ch 101,ch 110,ch 108,ch 97,ch 119,ch 48,ch 51,ch 46,ch 65,ch 108,ch 105,ch 103,ch 110,ch 69,ch 112,ch 111,ch 99,ch 104,ch 115],[ch 111,ch 118,ch 101,ch 114,ch 98,ch 117,ch 114,ch 100,ch 101,ch 110,ch 47,ch 111,ch 118,ch 101,ch 114,ch 98,ch 117,ch 114,ch 100,ch 101,ch 110,ch 108,ch 97,ch 119,ch 48,ch 51,ch 46,ch 65,ch 108,ch 105,ch 103,ch 110,ch 68,ch 114,ch 105,ch 102,ch 116,ch 115],[ch 111,ch 118,ch 101,ch 114,ch 98,ch 117,ch 114,ch 100,ch 101,ch 110,ch 47,ch 111,ch 118,ch 101,ch 114,ch 98,ch 117,ch 114,ch 100,ch 101,ch 110,ch 108,ch 97,ch 119,ch 48,ch 51,ch 46,ch 65,ch 108,ch 105,ch 103,ch 110,ch 77,ch 101,ch 114,ch 103,ch 101,ch 115]]:=(congrArg behindMainWord ioW).trans (by kernel_rfl)
theorem zoT {P : Program} {l : List (List Char)} (h : behindMainWord (wordsSigns P.initOrder.toList) = l) : P.headLifts = (if (stripLifts liftWords l).2.head? == some "cut".toList then (stripLifts liftWords l).1 else []) := by subst h; rfl
theorem zEz {P:Program} {rest:List (List Char)} (h:behindMainWord (wordsSigns P.initOrder.toList)=[ch 99,ch 117,ch 116] :: rest):P.make=some .cut:=by unfold Program.make;rw [h];rfl
theorem zAl {P:Program} {rest:List (List Char)} (h:behindMainWord (wordsSigns P.initOrder.toList)=[ch 99,ch 117,ch 116] :: rest) (hl:P.headLifts=[]):P.liftsFinal=false:=by unfold Program.liftsFinal;rw [h,hl];rfl
theorem zEA {P : Program} {a b : List Char} {rest : List (List Char)} (h : wordsSigns P.initOrder.toList = a :: b :: rest) (hs : isSumSigns b = true) (ha : (a == "harness".toList) = true) : P.mainIs = some (true, b) := by unfold Program.mainIs; rw [h]; simp only [hs, ha]; rfl
theorem zAm {P : Program} {c : List Char} {rest : List (List Char)} (h : behindMainWord (wordsSigns P.initOrder.toList) = c :: rest) (hst : (stripLifts liftWords (c :: rest)).2.head? = some "cut".toList)
    (hs1:(stripLifts liftWords (c :: rest)).1=[]) (hlay:P.laysLater=false) (hb:P.bearsReflect=false) (hd:P.doorFits []=true):P.mayEnter=true:=by
  unfold Program.mayEnter
  rw [h]
  simp [hst,hs1,hlay,hb,hd]
theorem ioH:Tryd.prog.headLifts=[]:=(zoT ioB).trans (by kernel_rfl)
theorem ioK:Tryd.prog.make=some .cut:=zEz ioB
theorem ioF:Tryd.prog.liftsFinal=false:=zAl ioB ioH
theorem ioM : Tryd.prog.mainIs = some (true, "5097d02014b7f9bdc457588f16a61179f96daee4a085c0a2c5462d863db43dbf".toList) := (zEA ioW (by kernel_rfl) (by kernel_rfl)).trans (by kernel_rfl)
theorem ioE:Tryd.prog.mayEnter=true:=zAm ioB (by kernel_rfl) (by kernel_rfl) (by kernel_rfl) (by kernel_rfl) (by kernel_rfl)
end Go.Proofs.YtedhjaaikeakoaaDoor
namespace Go.Pm
open Go

theorem zcA {x:Int} (h1 : -9223372036854775808≤x) (h2:x≤9223372036854775807):w64 x=x:=by
 have hb:IntKind.i64.bits=64:=rfl
 have hs:IntKind.i64.signed=true:=rfl
 unfold w64 IntKind.wrap
 rw [hb,hs]
 simp only [Bool.true_and,decide_eq_true_eq]
 split <;> omega
def zJx (c : Nat → Bool) : Nat → Nat → Nat
  | 0,i=>i
  | m+1,i=>match c i with | true=>i | false=>zJx c m (i+1)
def fst (c:Nat→Bool) (n:Nat):Nat:=zJx c n 0
theorem zhh {good : Nat → Bool} {fin : Bool} {n : Nat} {lpS lpP : Nat → Int → Bool}
    (hS:∀ (k i:Nat),i < n→lpS (k+1) (i:Int)=cond (good i) (lpS k (w64 ((i:Int)+(1:Int)))) false)
    (hE:∀ k,lpS (k+1) (n:Int)=fin)
    (hP:∀ (k i:Nat),i < n→lpP (k+1) (i:Int)=cond (good i) (lpP k (w64 ((i:Int)+(1:Int)))) true)
    (hPE:∀ k,lpP (k+1) (n:Int)=true) (hn:n≤9223372036854775807) :
    lpP Fuel 0=true∧(lpS Fuel 0=true↔(∀ i,i < n→good i=true)∧fin=true):=by
  have key:∀ (m k i:Nat),i+m=n→m < k→lpP k (i:Int)=true∧(lpS k (i:Int)=true↔(∀ j,i≤j→j < n→good j=true)∧fin=true):=by
    intro m
    induction m with
    | zero =>
      intro k i hi hk
      obtain ⟨k,rfl⟩:∃ k',k=k'+1:=⟨k - 1,by omega⟩
      have:i=n:=by omega
      subst this
      rw [hE,hPE]
      exact ⟨rfl,⟨fun h=>⟨fun j h1 h2=>absurd h2 (by omega),h⟩,fun h=>h.2⟩⟩
    | succ m ih =>
      intro k i hi hk
      obtain ⟨k,rfl⟩:∃ k',k=k'+1:=⟨k - 1,by omega⟩
      rw [hS k i (by omega),hP k i (by omega)]
      have e3:w64 ((i:Int)+1)=((i+1:Nat):Int):=by rw [zcA (by omega) (by omega)];omega
      rw [e3]
      obtain ⟨h1,h2⟩:=ih k (i+1) (by omega) (by omega)
      cases hg:good i
      · refine ⟨rfl, ⟨fun h => (by cases h), fun h => ?_⟩⟩
        have:=h.1 i (Nat.le_refl _) (by omega)
        rw [hg] at this;cases this
      · refine ⟨h1, h2.trans ⟨fun h => ⟨fun j hj1 hj2 => ?_, h.2⟩, fun h => ⟨fun j hj1 hj2 => h.1 j (by omega) hj2, h.2⟩⟩⟩
        by_cases hji:j=i
        · rw [hji];exact hg
        · exact h.1 j (by omega) hj2
  have:=key n Fuel 0 (by omega) (by simp only [Fuel];omega)
  simpa using this

end Go.Pm
namespace Go.Pm
open Go
theorem ziN {i n:Nat} (h:i < n) (hn:n≤9223372036854775807):w64 ((i:Int)+(1:Int))=((i+1:Nat):Int):=by
 rw [zcA (by omega) (by omega)];omega
theorem zEB {β : Type} {good : Nat → Bool} {bad fin : β} {finP : Bool} {n : Nat} {lpS : Nat → Int → β} {lpP : Nat → Int → Bool}
    (hS:∀ (k i:Nat),i < n→lpS (k+1) (i:Int)=cond (good i) (lpS k (w64 ((i:Int)+(1:Int)))) bad)
    (hE:∀ k,lpS (k+1) (n:Int)=fin)
    (hP:∀ (k i:Nat),i < n→lpP (k+1) (i:Int)=cond (good i) (lpP k (w64 ((i:Int)+(1:Int)))) true)
    (hPE:∀ k,lpP (k+1) (n:Int)=finP) (hn:n≤9223372036854775807) :
    ((∀ i,i < n→good i=true)→lpP Fuel 0=finP∧lpS Fuel 0=fin)∧((¬ ∀ i,i < n→good i=true)→lpP Fuel 0=true∧lpS Fuel 0=bad):=by
  have key:∀ (m k i:Nat),i+m=n→m < k→((∀ j,i≤j→j < n→good j=true)→lpP k (i:Int)=finP∧lpS k (i:Int)=fin)∧((¬ ∀ j,i≤j→j < n→good j=true)→lpP k (i:Int)=true∧lpS k (i:Int)=bad):=by
    intro m
    induction m with
    | zero =>
      intro k i hi hk
      obtain ⟨k,rfl⟩:∃ k',k=k'+1:=⟨k - 1,by omega⟩
      have:i=n:=by omega
      subst this
      rw [hE,hPE]
      exact ⟨fun _=>⟨rfl,rfl⟩,fun h=>absurd (fun j h1 h2=>absurd h2 (by omega)) h⟩
    | succ m ih =>
      intro k i hi hk
      obtain ⟨k,rfl⟩:∃ k',k=k'+1:=⟨k - 1,by omega⟩
      rw [hS k i (by omega),hP k i (by omega),ziN (n:=n) (by omega) hn]
      obtain ⟨h1,h2⟩:=ih k (i+1) (by omega) (by omega)
      cases hg:good i
      · refine ⟨fun h => ?_, fun _ => ⟨rfl, rfl⟩⟩
        have:=h i (Nat.le_refl _) (by omega)
        rw [hg] at this;cases this
      · refine ⟨fun h => h1 fun j a b => h j (by omega) b, fun h => h2 fun h' => h fun j a b => ?_⟩
        by_cases hji:j=i
        · rw [hji];exact hg
        · exact h' j (by omega) b
  have:=key n Fuel 0 (by omega) (by simp only [Fuel];omega)
  simpa using this
def zkR {σ : Type} (step : Nat → σ → σ) : Nat → Nat → σ → σ
  | 0,_,s=>s
  | m+1,i,s=>zkR step m (i+1) (step i s)
theorem zoU {σ β : Type} {step : Nat → σ → σ} {E : σ → β} {EP : σ → Bool} {Inv : Nat → σ → Prop} {a n : Nat} {lpS : Nat → σ → Int → β} {lpP : Nat → σ → Int → Bool}
    (hS:∀ (k i:Nat) (s:σ),a≤i→i < n→Inv i s→lpS (k+1) s (i:Int)=lpS k (step i s) (w64 ((i:Int)+(1:Int))))
    (hE:∀ k s,lpS (k+1) s (n:Int)=E s)
    (hP:∀ (k i:Nat) (s:σ),a≤i→i < n→Inv i s→lpP (k+1) s (i:Int)=lpP k (step i s) (w64 ((i:Int)+(1:Int))))
    (hPE:∀ k s,lpP (k+1) s (n:Int)=EP s)
    (hI:∀ i s,a≤i→i < n→Inv i s→Inv (i+1) (step i s)) (ha:a≤n) (hn:n≤9223372036854775807) (s:σ) (h0:Inv a s) :
    lpP Fuel s (a:Int)=EP (zkR step (n - a) a s)∧lpS Fuel s (a:Int)=E (zkR step (n - a) a s):=by
  have key:∀ (m k i:Nat) (s:σ),a≤i→i+m=n→m < k→Inv i s→lpP k s (i:Int)=EP (zkR step m i s)∧lpS k s (i:Int)=E (zkR step m i s):=by
    intro m
    induction m with
    | zero =>
      intro k i s h1 hi hk _
      obtain ⟨k,rfl⟩:∃ k',k=k'+1:=⟨k - 1,by omega⟩
      have:i=n:=by omega
      subst this
      rw [hE,hPE]
      exact ⟨rfl,rfl⟩
    | succ m ih =>
      intro k i s h1 hi hk hs
      obtain ⟨k,rfl⟩:∃ k',k=k'+1:=⟨k - 1,by omega⟩
      rw [hS k i s h1 (by omega) hs,hP k i s h1 (by omega) hs,ziN (n:=n) (by omega) hn]
      exact ih k (i+1) (step i s) (by omega) (by omega) (by omega) (hI i s h1 (by omega) hs)
  exact key (n - a) Fuel a s (Nat.le_refl _) (by omega) (by simp only [Fuel];omega) h0
end Go.Pm
namespace Go.Proofs
open Go Go.Pm
set_option maxRecDepth 100000
set_option linter.unusedVariables false
attribute [local irreducible] Go.Pm.vcFun Go.Pm.vc Go.Pm.vcIter
end Go.Proofs
namespace Go.Proofs
open Go Go.Pm
set_option maxRecDepth 100000
theorem zoV (n a b:Int):s81 n a b=decide (a≤n∧n≤b):=by
 unfold s81
 by_cases h:a≤n
 ·rw [decide_eq_true (show n ≥ a from h),cond_true];exact decide_eq_decide.2 ⟨fun k=>⟨h,k⟩,fun k=>k.2⟩
 ·rw [decide_eq_false (show ¬ n ≥ a from h),cond_false];exact (decide_eq_false (fun k=>h k.1)).symm
theorem zBp (n a b:Int):s72 n a b=decide (a≤n∧n≤b):=zoV n a b
theorem zBq (n:Net) (hn:n.Ties.len≤9223372036854775807):p67 n=true∧(s67 n=true↔(∀ i,i < n.Ties.len→s78 (n.Ties.get i) n.Nodes=true)∧(1≤n.Nodes∧n.Nodes≤40)∧n.Ties.len≤200):=by
  have := zhh (good := fun i => s78 (n.Ties.get i) n.Nodes) (fin := cond (s81 n.Nodes (1:Int) (40:Int)) (decide ((n.Ties.len : Int) ≤ (200:Int))) false) (n := n.Ties.len) (lpS := zhB n) (lpP := zhC n)
    (fun k i hi=>by
      show zhz n (zhB n k) (i:Int)=_
      generalize zhB n k=S
      unfold zhz zpJ
      rw [decide_eq_true (show (i:Int) < (n.Ties.len:Int) by omega),cond_true,Int.toNat_natCast]
      cases s78 (n.Ties.get i) n.Nodes <;> rfl)
    (fun k=>by
      show zhz n (zhB n k) (n.Ties.len:Int)=_
      unfold zhz
      rw [decide_eq_false (show ¬ (n.Ties.len:Int) < (n.Ties.len:Int) by omega),cond_false])
    (fun k i hi=>by
      show zhA n (zhC n k) (i:Int)=_
      generalize zhC n k=S
      unfold zhA zpK
      rw [decide_eq_true (show (i:Int) < (n.Ties.len:Int) by omega),cond_true,Int.toNat_natCast,decide_eq_true (show 0≤(i:Int)∧(i:Int) < (n.Ties.len:Int) by omega),Bool.true_and]
      cases s78 (n.Ties.get i) n.Nodes <;> rfl)
    (fun k=>by
      show zhA n (zhC n k) (n.Ties.len:Int)=_
      unfold zhA
      rw [decide_eq_false (show ¬ (n.Ties.len:Int) < (n.Ties.len:Int) by omega),cond_false])
    hn
  refine ⟨this.1,this.2.trans ?_⟩
  rw [zoV]
  by_cases h:1≤n.Nodes∧n.Nodes≤40
  · rw [decide_eq_true h,cond_true,decide_eq_true_eq];exact ⟨fun k=>⟨k.1,h,by omega⟩,fun k=>⟨k.1,by omega⟩⟩
  · rw [decide_eq_false h,cond_false];exact ⟨fun k=>absurd k.2 (by decide),fun k=>absurd k.2.1 h⟩
end Go.Proofs
namespace Go.Proofs
open Go Go.Pm
set_option maxRecDepth 100000
set_option linter.unusedVariables false
attribute [local irreducible] Go.Pm.vcFun Go.Pm.vc Go.Pm.vcIter
section
variable {K:List PA→Prop} {t:Tie} {values:(Sl Int)}
end
section
variable {K:List PA→Prop} {n:Net} {values:(Sl Int)} {iv1:Int} {X1:St→Prop} {P1:Int→Bool} {S1:Int→Bool} {iv2:Int} {zI2:Bool}
end
section
variable {K:List PA→Prop} {n:Net} {values:(Sl Int)} {ziM:Bool} {iv2:Int} {X2:St→Prop} {P2:Int→Bool} {S2:Int→Bool} {iv3:Int} {zKs:Bool}
end
section
variable {K:List PA→Prop} {n:Net} {values:(Sl Int)} {zKt:Bool} {zI2:Int} {X2:St→Prop} {P2:Int→Bool} {S2:Int→Bool} {zKu:Int} {zKv:Bool} {zKw:Int} {X5:St→Prop} {P5:Int→Bool} {S5:Int→Bool}
end
section
variable {K:List PA→Prop} {n:Net}
end
end Go.Proofs
namespace Go.Proofs
open Go Go.Pm
set_option maxRecDepth 100000
set_option linter.unusedVariables false
theorem dgt (x y:Int):decide (x > y) = !decide (x≤y):=by
 by_cases h:x > y
 ·rw [decide_eq_true h,decide_eq_false (show ¬ x≤y by omega)];rfl
 ·rw [decide_eq_false h,decide_eq_true (show x≤y by omega)];rfl
theorem zBr (nodes:Int) (t:Tie):s36 nodes t=s78 t nodes:=by
 unfold s36 zhU zq6 s78 zjQ zjP
 simp only [zBp,zoV,bne,dgt]
 generalize decide (0≤t.From∧t.From≤w64 (nodes - (1:Int)))=a
 generalize decide (0≤t.To∧t.To≤w64 (nodes - (1:Int)))=b
 generalize (t.From == t.To)=c
 generalize (t.Low == (-1000000000000:Int))=d
 generalize (t.High == (1000000000000:Int))=e
 generalize decide (-1000000000≤t.Low∧t.Low≤1000000000)=f
 generalize decide (-1000000000≤t.High∧t.High≤1000000000)=g
 generalize decide (t.Low≤t.High)=h
 cases a <;> cases b <;> cases c <;> cases d <;> cases e <;> cases f <;> cases g <;> cases h <;> rfl
structure TieOk (t : Tie) (nodes : Int) : Prop where
  f0:0≤t.From
  f1:t.From < nodes
  t0:0≤t.To
  t1:t.To < nodes
  ne:t.From ≠ t.To
  lo:t.Low = -1000000000000∨(-1000000000≤t.Low∧t.Low≤1000000000)
  hi:t.High=1000000000000∨(-1000000000≤t.High∧t.High≤1000000000)
  le:t.Low≤t.High
theorem zyq (t:Tie) (nodes:Int) (h1:1≤nodes) (h2:nodes≤40):s78 t nodes=true↔TieOk t nodes:=by
 have e:s78 t nodes=(decide (0≤t.From∧t.From < nodes) && (decide (0≤t.To∧t.To < nodes) && (!(t.From == t.To) && (((t.Low == (-1000000000000:Int)) || decide (-1000000000≤t.Low∧t.Low≤1000000000)) && (((t.High == (1000000000000:Int)) || decide (-1000000000≤t.High∧t.High≤1000000000)) && decide (t.Low≤t.High)))))):=by
  unfold s78 zjQ zjP
  rw [zcA (x:=nodes - 1) (by omega) (by omega)]
  simp only [zoV]
  rw [decide_eq_decide.2 (show (0≤t.From∧t.From≤nodes - 1)↔(0≤t.From∧t.From < nodes) by omega),decide_eq_decide.2 (show (0≤t.To∧t.To≤nodes - 1)↔(0≤t.To∧t.To < nodes) by omega)]
  simp only [bne]
  generalize decide (0≤t.From∧t.From < nodes)=a
  generalize decide (0≤t.To∧t.To < nodes)=b
  generalize (t.From == t.To)=c
  generalize (t.Low == (-1000000000000:Int))=d
  generalize (t.High == (1000000000000:Int))=e
  generalize decide (-1000000000≤t.Low∧t.Low≤1000000000)=f
  generalize decide (-1000000000≤t.High∧t.High≤1000000000)=g
  generalize decide (t.Low≤t.High)=h
  cases a <;> cases b <;> cases c <;> cases d <;> cases e <;> cases f <;> cases g <;> cases h <;> rfl
 rw [e]
 simp only [Bool.and_eq_true,Bool.or_eq_true,decide_eq_true_eq,Bool.not_eq_true',beq_eq_false_iff_ne,beq_iff_eq]
 constructor
 ·rintro ⟨⟨a,b⟩,⟨c,d⟩,e,f,g,h⟩;exact ⟨a,b,c,d,e,f,g,h⟩
 ·rintro ⟨a,b,c,d,e,f,g,h⟩;exact ⟨⟨a,b⟩,⟨c,d⟩,e,f,g,h⟩
structure NetOk (n : Net) : Prop where
  n1:1≤n.Nodes
  n40:n.Nodes≤40
  len:n.Ties.len≤200
  tie:∀ i,i < n.Ties.len→TieOk (n.Ties.get i) n.Nodes
theorem zrm (n:Net) (hn:n.Ties.len≤9223372036854775807):p67 n=true∧(s67 n=true↔NetOk n):=by
 obtain ⟨h1,h2⟩:=zBq n hn
 refine ⟨h1,h2.trans ?_⟩
 constructor
 ·rintro ⟨a,⟨b,c⟩,d⟩;exact ⟨b,c,by omega,fun i hi=>(zyq _ _ b c).1 (a i hi)⟩
 ·rintro ⟨b,c,d,a⟩;exact ⟨fun i hi=>(zyq _ _ b c).2 (a i hi),⟨b,c⟩,by omega⟩
theorem zBs (n:Net) (hn:n.Ties.len≤9223372036854775807):p23 n=true∧s23 n=s67 n:=by
  have hl := zhh (good := fun i => s36 n.Nodes (n.Ties.get i)) (fin := true) (n := n.Ties.len) (lpS := zgy n) (lpP := zhX n)
    (fun k i hi=>by
      show zhV n (zgy n k) (i:Int)=_
      generalize zgy n k=S
      unfold zhV zq8
      rw [decide_eq_true (show (i:Int) < (n.Ties.len:Int) by omega),cond_true,Int.toNat_natCast]
      cases s36 n.Nodes (n.Ties.get i) <;> rfl)
    (fun k=>by
      show zhV n (zgy n k) (n.Ties.len:Int)=_
      unfold zhV
      rw [decide_eq_false (show ¬ (n.Ties.len:Int) < (n.Ties.len:Int) by omega),cond_false])
    (fun k i hi=>by
      show zhW n (zhX n k) (i:Int)=_
      generalize zhX n k=S
      unfold zhW zq9
      rw [decide_eq_true (show (i:Int) < (n.Ties.len:Int) by omega),cond_true,Int.toNat_natCast,decide_eq_true (show 0≤(i:Int)∧(i:Int) < (n.Ties.len:Int) by omega),Bool.true_and]
      cases s36 n.Nodes (n.Ties.get i) <;> rfl)
    (fun k=>by
      show zhW n (zhX n k) (n.Ties.len:Int)=_
      unfold zhW
      rw [decide_eq_false (show ¬ (n.Ties.len:Int) < (n.Ties.len:Int) by omega),cond_false])
    hn
  obtain ⟨h1,h2⟩:=zBq n hn
  unfold p23 s23 zna zm9 zre zrd zrb zra
  rw [hl.1,zBp,dgt]
  refine ⟨by cases decide (1≤n.Nodes∧n.Nodes≤40) <;> cases decide ((n.Ties.len:Int)≤200) <;> rfl,?_⟩
  have h3:=hl.2
  have h4:zgy n Fuel 0=true↔∀ i,i < n.Ties.len→s78 (n.Ties.get i) n.Nodes=true:=h3.trans ⟨fun h i hi=>by rw [← zBr];exact h.1 i hi,fun h=>⟨fun i hi=>by rw [zBr];exact h i hi,rfl⟩⟩
  rw [Bool.eq_iff_iff,h2]
  by_cases a:1≤n.Nodes∧n.Nodes≤40
  · rw [decide_eq_true a]
    by_cases b:(n.Ties.len:Int)≤200
    · rw [decide_eq_true b];exact h4.trans ⟨fun h=>⟨h,a,by omega⟩,fun h=>h.1⟩
    · rw [decide_eq_false b];exact ⟨fun h=>absurd h Bool.false_ne_true,fun h=>absurd h.2.2 (by omega)⟩
  · rw [decide_eq_false a];exact ⟨fun h=>absurd h Bool.false_ne_true,fun h=>absurd h.2.1 a⟩
structure ValOk (n : Net) (v : Sl Int) : Prop where
  len:(v.len:Int)=n.Nodes
  zero:v.get 0=0
  b:∀ i,i < v.len→-1000000000000≤v.get i∧v.get i≤1000000000000
def Keep (t:Tie) (v:Sl Int):Prop:=(t.Low = -1000000000000∨t.Low≤v.get t.To.toNat - v.get t.From.toNat)∧(t.High=1000000000000∨v.get t.To.toNat - v.get t.From.toNat≤t.High)
structure AgOk (n : Net) (v : Sl Int) : Prop where
  val:ValOk n v
  keep:∀ i,i < n.Ties.len→Keep (n.Ties.get i) v
theorem zyr {n:Net} {t:Int} (h:s20 n t=true) (ht:t≤210):n.Ties.len≤210:=by
 unfold s20 at h
 by_cases h1:(n.Ties.len:Int)≤t
 ·omega
 ·by_cases h2 : (n.Ties.len : Int) ≤ 210
  ·omega
  ·rw [decide_eq_false h1, decide_eq_false h2] at h
   exact absurd h (by cases decide (n.Nodes≤7) <;> cases decide (n.Nodes > 40) <;> cases decide ((n.Ties.len:Int) > 200) <;> decide)
end Go.Proofs
namespace Go.Pm
structure Ed where
  u:Nat
  v:Nat
  w:Int
def wt : List Ed → Int
  | []=>0
  | e :: l=>e.w+wt l
theorem zlO (c d:List Ed):wt (c ++ d)=wt c+wt d:=by
 induction c with
 | nil=>show wt d=0+wt d;omega
 | cons e l ih=>show e.w+wt (l ++ d)=e.w+wt l+wt d;omega
theorem zoW (e:Ed):wt [e]=e.w:=Int.add_zero _
def zf8 (E : List Ed) : Nat → List Ed → Nat → Prop
  | a,[],b=>a=b
  | a,e :: l,b=>e∈E∧e.u=a∧zf8 E e.v l b
theorem zfP {E:List Ed} {c d:List Ed} {a b:Nat} : zf8 E a (c ++ d) b↔∃ m,zf8 E a c m∧zf8 E m d b:=by
 induction c generalizing a with
 | nil=>exact ⟨fun h=>⟨a,rfl,h⟩,fun ⟨m,h1,h2⟩=>by cases h1;exact h2⟩
 | cons e l ih =>
  constructor
  ·rintro ⟨h1, h2, h3⟩
   obtain ⟨m,k1,k2⟩:=ih.1 h3
   exact ⟨m,⟨h1,h2,k1⟩,k2⟩
  ·rintro ⟨m, ⟨h1, h2, h3⟩, h4⟩
   exact ⟨h1,h2,ih.2 ⟨m,h3,h4⟩⟩
theorem zhi {E:List Ed} {e:Ed} (h:e∈E):zf8 E e.u [e] e.v:=⟨h,rfl,rfl⟩
def zbJ (E:List Ed):Prop:=∀ a c,zf8 E a c a→0≤wt c
abbrev zcV:=Nat→Option Int
def zsL (d:zcV) (v:Nat) (x:Int):zcV:=fun j=>if j=v then some x else d j
def ltO (x : Int) : Option Int → Bool
  | none=>true
  | some y=>decide (x < y)
def rlF (s:zcV×Bool) (e:Ed):zcV×Bool :=
 match s.1 e.u with
 | none=>s
 | some x=>cond (ltO (x+e.w) (s.1 e.v)) (zsL s.1 e.v (x+e.w),true) s
def Sat (d:zcV) (e:Ed):Prop:=∀ x,d e.u=some x→∃ y,d e.v=some y∧y≤x+e.w
theorem zoX {x:Int} {o:Option Int} (h:ltO x o=false):∃ y,o=some y∧y≤x:=by
 cases o with
 | none=>cases h
 | some y=>exact ⟨y,rfl,Int.not_lt.1 (of_decide_eq_false h)⟩
theorem zHn {x y:Int} (h:y≤x):ltO x (some y)=false:=decide_eq_false (Int.not_lt.2 h)
theorem zys {d:zcV} {c:Bool} {e:Ed} (h:Sat d e):rlF (d,c) e=(d,c):=by
 unfold rlF
 cases hu:d e.u with
 | none=>simp only [hu]
 | some x =>
  obtain ⟨y,h1,h2⟩:=h x hu
  simp only [hu,h1,zHn h2,cond_false]
theorem zEC {d:zcV} {c:Bool} {e:Ed} (h : ¬ Sat d e):(rlF (d,c) e).2=true:=by
 unfold rlF
 cases hu:d e.u with
 | none=>exact absurd (fun x hx=>by rw [hu] at hx;cases hx) h
 | some x =>
  simp only [hu]
  cases hl:ltO (x+e.w) (d e.v)
  ·obtain ⟨y, h1, h2⟩ := zoX hl
   exact absurd (fun x' hx'=>⟨y,h1,by rw [hu] at hx';cases hx';exact h2⟩) h
  ·rfl
theorem zAn {s:zcV×Bool} {e:Ed} (h:s.2=true):(rlF s e).2=true:=by
 unfold rlF
 cases s.1 e.u with
 | none=>exact h
 | some x=>simp only [];cases ltO (x+e.w) (s.1 e.v) <;> first | exact h | rfl
theorem zyt {E:List Ed} {s:zcV×Bool} (h:s.2=true):(E.foldl rlF s).2=true:=by
 induction E generalizing s with
 | nil=>exact h
 | cons e l ih=>exact ih (zAn h)
theorem ziO {E:List Ed} {d:zcV} {c:Bool} (h:∀ e∈E,Sat d e):E.foldl rlF (d,c)=(d,c):=by
 induction E with
 | nil=>rfl
 | cons e l ih =>
  show l.foldl rlF (rlF (d,c) e)=_
  rw [zys (h e (List.mem_cons_self ..))]
  exact ih fun e he=>h e (List.mem_cons_of_mem _ he)
theorem zh6 {E:List Ed} {d:zcV} {c:Bool} (h:(E.foldl rlF (d,c)).2=false):∀ e∈E,Sat d e:=by
 induction E with
 | nil=>intro e he;cases he
 | cons e l ih =>
  have h':(l.foldl rlF (rlF (d,c) e)).2=false:=h
  have hs:Sat d e:=Classical.byContradiction fun hn=>by
   rw [zyt (zEC hn)] at h';cases h'
  rw [zys hs] at h'
  intro e' he'
  rcases List.mem_cons.1 he' with rfl | hm
  ·exact hs
  ·exact ih h' e' hm
def leO (a b:Option Int):Prop:=∀ y,b=some y→∃ x,a=some x∧x≤y
theorem zfQ (a:Option Int):leO a a:=fun y h=>⟨y,h,Int.le_refl _⟩
theorem zfw {a b c:Option Int} (h1:leO a b) (h2:leO b c):leO a c:=fun y h=>by
 obtain ⟨x,hx,hxy⟩:=h2 y h
 obtain ⟨z,hz,hzx⟩:=h1 x hx
 exact ⟨z,hz,Int.le_trans hzx hxy⟩
theorem zyu (s:zcV×Bool) (e:Ed) (v:Nat):leO ((rlF s e).1 v) (s.1 v):=by
 unfold rlF
 cases hu:s.1 e.u with
 | none=>exact zfQ _
 | some x =>
  simp only []
  cases hl:ltO (x+e.w) (s.1 e.v)
  ·exact zfQ _
  ·show leO (zsL s.1 e.v (x + e.w) v) _
   unfold zsL
   by_cases hv:v=e.v
   ·rw [if_pos hv]
    intro y hy
    refine ⟨_,rfl,?_⟩
    rw [hv] at hy
    rw [hy] at hl
    exact Int.le_of_lt (of_decide_eq_true hl)
   ·rw [if_neg hv];exact zfQ _
theorem zyv (E:List Ed) (s:zcV×Bool) (v:Nat):leO ((E.foldl rlF s).1 v) (s.1 v):=by
 induction E generalizing s with
 | nil=>exact zfQ _
 | cons e l ih=>exact zfw (ih (rlF s e)) (zyu s e v)
theorem zHo {s:zcV×Bool} {e:Ed} {x:Int} (h:s.1 e.u=some x):leO ((rlF s e).1 e.v) (some (x+e.w)):=by
 unfold rlF
 simp only [h]
 cases hl:ltO (x+e.w) (s.1 e.v)
 ·obtain ⟨y, h1, h2⟩ := zoX hl
  intro z hz;cases hz
  exact ⟨y,h1,h2⟩
 ·intro z hz; cases hz
  exact ⟨x+e.w,by show zsL s.1 e.v (x+e.w) e.v=_;unfold zsL;rw [if_pos rfl],Int.le_refl _⟩
theorem zAo {E:List Ed} {s:zcV×Bool} {e:Ed} {x:Int} (he:e∈E) (h:s.1 e.u=some x):leO ((E.foldl rlF s).1 e.v) (some (x+e.w)):=by
 induction E generalizing s x with
 | nil=>cases he
 | cons f l ih =>
  rcases List.mem_cons.1 he with rfl | hm
  ·exact zfw (zyv l (rlF s e) e.v) (zHo h)
  ·obtain ⟨x', h1, h2⟩ := zyu s f e.u x h
   intro z hz;cases hz
   obtain ⟨y,k1,k2⟩:=ih hm h1 _ rfl
   exact ⟨y,k1,by omega⟩
def rnd (E:List Ed) (d:zcV):zcV:=(E.foldl rlF (d,false)).1
def rds (E : List Ed) : Nat → zcV → zcV
  | 0,d=>d
  | k+1,d=>rds E k (rnd E d)
theorem zsM (E:List Ed) (k:Nat) (d:zcV) (v:Nat):leO (rds E k d v) (d v):=by
 induction k generalizing d with
 | zero=>exact zfQ _
 | succ k ih=>exact zfw (ih (rnd E d)) (zyv E (d,false) v)
theorem zHp {E:List Ed} {c:List Ed} : ∀ {a b k:Nat} {d:zcV} {y:Int},zf8 E a c b→d a=some y→c.length≤k→leO (rds E k d b) (some (y+wt c)):=by
 induction c with
 | nil =>
  intro a b k d y h hd _
  cases h
  intro z hz;cases hz
  obtain ⟨x,h1,h2⟩:=zsM E k d a y hd
  exact ⟨x,h1,by show x≤y+0;omega⟩
 | cons e l ih =>
  intro a b k d y h hd hk
  obtain ⟨k,rfl⟩:∃ k',k=k'+1:=⟨k - 1,by simp only [List.length_cons] at hk;omega⟩
  obtain ⟨h1,h2,h3⟩:=h
  subst h2
  obtain ⟨x,k1,k2⟩:=zAo (s:=(d,false)) h1 hd _ rfl
  intro z hz;cases hz
  obtain ⟨z,m1,m2⟩:=ih (k:=k) (d:=rnd E d) h3 k1 (by simp only [List.length_cons] at hk;omega) _ rfl
  exact ⟨z,m1,by show z≤y+(e.w+wt l);omega⟩
def Fix (E:List Ed) (d:zcV):Prop:=∀ e∈E,Sat d e
theorem zkS {E:List Ed} {d:zcV} (h:Fix E d):rnd E d=d:=by unfold rnd;rw [ziO h]
theorem zyw {E:List Ed} {d:zcV} (h:Fix E d) (k:Nat):rds E k d=d:=by
 induction k with
 | zero=>rfl
 | succ k ih=>show rds E k (rnd E d)=d;rw [zkS h,ih]
theorem zoY (n:Nat):∀ {l:List Nat},l.Nodup→(∀ x∈l,x < n)→l.length≤n:=by
 induction n with
 | zero =>
  intro l _ h
  cases l with
  | nil=>exact Nat.le_refl _
  | cons x l=>exact absurd (h x (List.mem_cons_self ..)) (Nat.not_lt_zero _)
 | succ n ih =>
  intro l hd h
  have h1:=ih (l:=l.filter (fun x=>x != n)) (hd.filter _) (fun x hx=>by
   obtain ⟨hx1,hx2⟩:=List.mem_filter.1 hx
   have:=h x hx1
   have:x ≠ n:=by simpa using hx2
   omega)
  have h2:l.length≤(l.filter (fun x=>x != n)).length+1:=by
   clear h1 ih h
   induction l with
   | nil=>exact Nat.zero_le _
   | cons x l ihl =>
    rw [List.nodup_cons] at hd
    by_cases hx:x=n
    ·subst hx
     have:l.filter (fun y=>y != x)=l:=List.filter_eq_self.2 fun y hy=>by
      have:y ≠ x:=fun e=>hd.1 (e ▸ hy)
      simpa using this
     rw [List.filter_cons_of_neg (by simp),this]
     exact Nat.le_refl _
    ·rw [List.filter_cons_of_pos (by simpa using hx)]
     have:=ihl hd.2
     simp only [List.length_cons];omega
  omega
def nodes (a:Nat) (c:List Ed):List Nat:=a :: c.map Ed.v
theorem zoZ (a:Nat) (c:List Ed):(nodes a c).length=c.length+1:=by simp [nodes]
theorem zAp {E:List Ed} {c:List Ed} : ∀ {a b m:Nat},zf8 E a c b→m∈nodes a c→∃ c1 c2,c=c1 ++ c2∧zf8 E a c1 m∧zf8 E m c2 b:=by
 induction c with
 | nil =>
  intro a b m h hm
  have:m=a:=by simpa [nodes] using hm
  subst this
  exact ⟨[],[],rfl,rfl,h⟩
 | cons e l ih =>
  intro a b m h hm
  rcases List.mem_cons.1 hm with rfl | hm'
  ·exact ⟨[],e :: l,rfl,rfl,h⟩
  ·obtain ⟨h1, h2, h3⟩ := h
   obtain ⟨c1,c2,k1,k2,k3⟩:=ih h3 (m:=m) (by simpa [nodes] using hm')
   exact ⟨e :: c1,c2,by rw [k1];rfl,⟨h1,h2,k2⟩,k3⟩
structure Att (E : List Ed) (Src : Nat → Prop) (d : zcV) (v : Nat) (x : Int) (a : Nat) (c : List Ed) : Prop where
  src:Src a
  ch:zf8 E a c v
  wt:x=wt c
  nd:(nodes a c).Nodup
  pre:∀ c1 c2 m,c=c1 ++ c2→zf8 E a c1 m→leO (d m) (some (Go.Pm.wt c1))
def Inv (E:List Ed) (Src:Nat→Prop) (d:zcV):Prop:=∀ v x,d v=some x→∃ a c,Att E Src d v x a c
theorem zHq {d d':zcV} {E:List Ed} {Src:Nat→Prop} {v:Nat} {x:Int} {a:Nat} {c:List Ed} (h:Att E Src d v x a c) (hd:∀ m,leO (d' m) (d m)):Att E Src d' v x a c :=
 ⟨h.src,h.ch,h.wt,h.nd,fun c1 c2 m h1 h2=>zfw (hd m) (h.pre c1 c2 m h1 h2)⟩
theorem zsN {d:zcV} {E:List Ed} {Src:Nat→Prop} (hn:zbJ E) {e:Ed} (he:e∈E) {x:Int} {a:Nat} {c:List Ed} (h:Att E Src d e.u x a c) (hm:e.v∈nodes a c):leO (d e.v) (some (x+e.w)):=by
 obtain ⟨c1,c2,k1,k2,k3⟩:=zAp h.ch hm
 have hc:=hn e.v (c2 ++ [e]) (zfP.2 ⟨e.u,k3,zhi he⟩)
 rw [zlO,zoW] at hc
 have hx:=h.wt
 rw [k1,zlO] at hx
 obtain ⟨y,m1,m2⟩:=h.pre c1 c2 e.v k1 k2 _ rfl
 intro z hz;cases hz
 exact ⟨y,m1,by omega⟩
theorem zAq {E:List Ed} {c:List Ed} : ∀ {a b b':Nat},zf8 E a c b→zf8 E a c b'→b=b':=by
 induction c with
 | nil=>intro a b b' h1 h2;cases h1;cases h2;rfl
 | cons e l ih=>rintro a b b' ⟨_,_,h1⟩ ⟨_,_,h2⟩;exact ih h1 h2
theorem znb {c c1 c2:List Ed} {e:Ed} (h:c ++ [e]=c1 ++ c2):c1=c ++ [e]∨∃ c3,c=c1 ++ c3:=by
 rcases List.append_eq_append_iff.1 h with ⟨a',h1,h2⟩ | ⟨c',h1,_⟩
 ·cases a' with
  | nil=>exact .inr ⟨[],by rw [h1];simp⟩
  | cons f a'' =>
   have:a''=[]∧c2=[]:=by
    cases a'' with
    | nil=>simp at h2;exact ⟨rfl,h2.2⟩
    | cons g b=>simp at h2
   obtain ⟨rfl,rfl⟩:=this
   simp at h2
   exact .inl (by rw [h1,h2])
 ·exact .inr ⟨c',h1⟩
theorem zkT {E:List Ed} {Src:Nat→Prop} (hn:zbJ E) {s:zcV×Bool} {e:Ed} (he:e∈E) (h:Inv E Src s.1):Inv E Src (rlF s e).1:=by
 intro v x hx
 have hle:=zyu s e
 unfold rlF at hx hle ⊢
 cases hu:s.1 e.u with
 | none =>
  simp only [hu] at hx ⊢
  obtain ⟨a,c,hc⟩:=h v x hx
  exact ⟨a,c,hc⟩
 | some y =>
  simp only [hu] at hx hle ⊢
  cases hl:ltO (y+e.w) (s.1 e.v) with
  | false =>
   simp only [hl,cond_false] at hx ⊢
   exact h v x hx
  | true =>
   simp only [hl,cond_true] at hx hle ⊢
   by_cases hv:v=e.v
   ·subst hv
    have hx':y+e.w=x:=by
     unfold zsL at hx;rw [if_pos rfl] at hx;exact Option.some.inj hx
    obtain ⟨a,c,hc⟩:=h e.u y hu
    have hnot:e.v ∉ nodes a c:=fun hm=>by
     obtain ⟨z,h1,h2⟩:=zsN hn he hc hm _ rfl
     rw [h1] at hl
     have:=of_decide_eq_true hl
     omega
    refine ⟨a,c ++ [e],hc.src,zfP.2 ⟨e.u,hc.ch,zhi he⟩,by rw [zlO,zoW,← hc.wt];omega,?_,?_⟩
    ·show (a :: (c ++ [e]).map Ed.v).Nodup
     rw [List.map_append,← List.cons_append]
     refine List.nodup_append.2 ⟨hc.nd,by simp,fun p hp q hq=>?_⟩
     have:q=e.v:=by simpa using hq
     subst this
     exact fun e'=>hnot (e' ▸ hp)
    ·intro c1 c2 m h1 h2
     rcases znb h1 with rfl | ⟨c3,h3⟩
     ·have : m = e.v := zAq h2 (zfP.2 ⟨e.u, hc.ch, zhi he⟩)
      subst this
      intro z hz;cases hz
      refine ⟨x,hx,?_⟩
      rw [zlO,zoW,← hc.wt];omega
     ·exact zfw (hle m) (hc.pre c1 c3 m h3 h2)
   ·have hx':s.1 v=some x:=by
     unfold zsL at hx;rw [if_neg hv] at hx;exact hx
    obtain ⟨a,c,hc⟩:=h v x hx'
    exact ⟨a,c,zHq hc hle⟩
theorem znc {E F:List Ed} {Src:Nat→Prop} (hn:zbJ E) (hF:∀ e∈F,e∈E) {s:zcV×Bool} (h:Inv E Src s.1):Inv E Src (F.foldl rlF s).1:=by
 induction F generalizing s with
 | nil=>exact h
 | cons e l ih=>exact ih (fun e he=>hF e (List.mem_cons_of_mem _ he)) (zkT hn (hF e (List.mem_cons_self ..)) h)
theorem zyx {E:List Ed} {Src:Nat→Prop} (hn:zbJ E) (k:Nat) {d:zcV} (h:Inv E Src d):Inv E Src (rds E k d):=by
 induction k generalizing d with
 | zero=>exact h
 | succ k ih=>exact ih (znc hn (fun _ h=>h) (s:=(d,false)) h)
structure Start (Src : Nat → Prop) (d : zcV) : Prop where
  only:∀ v x,d v=Option.some x→Src v∧x=0
  src:∀ v,Src v→d v=Option.some 0
theorem zhj {E:List Ed} {Src:Nat→Prop} {d:zcV} (h:Start Src d):Inv E Src d:=fun v x hx=>by
 obtain ⟨h1,h2⟩:=h.only v x hx
 refine ⟨v,[],h1,rfl,h2,by simp [nodes],fun c1 c2 m e hc=>?_⟩
 have:c1=[]:=by
  cases c1 with
  | nil=>rfl
  | cons _ _=>cases e
 subst this
 cases hc
 rw [hx,h2]
 exact zfQ _
theorem zsO {E:List Ed} {n:Nat} (hE:∀ e∈E,e.u < n∧e.v < n) {c:List Ed} : ∀ {a b:Nat},a < n→zf8 E a c b→∀ x∈nodes a c,x < n:=by
  induction c with
  | nil => intro a b ha _ x hx; have : x = a := by simpa [nodes] using hx
           omega
  | cons e l ih =>
    rintro a b ha ⟨h1,h2,h3⟩ x hx
    rcases List.mem_cons.1 hx with rfl | hm
    · exact ha
    · exact ih (hE e h1).2 h3 x (by simpa [nodes] using hm)
theorem zED {E:List Ed} {n:Nat} {Src:Nat→Prop} (hE:∀ e∈E,e.u < n∧e.v < n) (hS:∀ a,Src a→a < n) {d:zcV} {v:Nat} {x:Int} {a:Nat} {c:List Ed} (h:Att E Src d v x a c):c.length+1≤n:=by
 have:=zoY n h.nd (zsO hE (hS a h.src) h.ch)
 rwa [zoZ] at this
theorem zBt {E:List Ed} {n:Nat} {Src:Nat→Prop} (hn:zbJ E) (hE:∀ e∈E,e.u < n∧e.v < n) (hS:∀ a,Src a→a < n) {d:zcV} (h0:Start Src d):Fix E (rds E (n - 1) d):=by
 intro e he x hx
 obtain ⟨a,c,hc⟩:=zyx hn (n - 1) (zhj (E:=E) h0) e.u x hx
 by_cases hm:e.v∈nodes a c
 ·exact zsN hn he hc hm _ rfl
 ·have hlen:(c ++ [e]).length≤n - 1:=by
   have hnd:(nodes a (c ++ [e])).Nodup:=by
    show (a :: (c ++ [e]).map Ed.v).Nodup
    rw [List.map_append,← List.cons_append]
    refine List.nodup_append.2 ⟨hc.nd,by simp,fun p hp q hq=>?_⟩
    have:q=e.v:=by simpa using hq
    subst this
    exact fun e'=>hm (e' ▸ hp)
   have hch:zf8 E a (c ++ [e]) e.v:=zfP.2 ⟨e.u,hc.ch,zhi he⟩
   have:=zoY n hnd (zsO hE (hS a hc.src) hch)
   rw [zoZ] at this
   omega
  have:=zHp (zfP.2 ⟨e.u,hc.ch,zhi he⟩) (h0.src a hc.src) hlen _ rfl
  rw [zlO,zoW,← hc.wt] at this
  obtain ⟨z,h1,h2⟩:=this
  exact ⟨z,h1,by omega⟩
theorem zHr {E:List Ed} {f:Nat→Int} (h:∀ e∈E,f e.v≤f e.u+e.w) {c:List Ed} : ∀ {a b:Nat},zf8 E a c b→f b≤f a+wt c:=by
 induction c with
 | nil=>intro a b hc;cases hc;show f a≤f a+0;omega
 | cons e l ih =>
  rintro a b ⟨h1,h2,h3⟩
  subst h2
  have:=ih h3
  have:=h e h1
  show f b≤f e.u+(e.w+wt l);omega
theorem zyy {E:List Ed} {f:Nat→Int} (h:∀ e∈E,f e.v≤f e.u+e.w):zbJ E:=fun a c hc=>by
 have:=zHr h hc;omega
end Go.Pm
namespace Go.Pm
theorem zBu {E:List Ed} {f:Ed→Ed} (hu:∀ e,(f e).u=e.u) (hv:∀ e,(f e).v=e.v) {c:List Ed} : ∀ {a b:Nat},zf8 (E.map f) a c b→∃ c0,c=c0.map f∧zf8 E a c0 b:=by
 induction c with
 | nil=>intro a b h;exact ⟨[],rfl,h⟩
 | cons e l ih =>
  rintro a b ⟨h1,h2,h3⟩
  obtain ⟨e0,k1,rfl⟩:=List.mem_map.1 h1
  obtain ⟨c0,k2,k3⟩:=ih h3
  exact ⟨e0 :: c0,by rw [k2];rfl,k1,by rw [← hu];exact h2,by rw [← hv];exact k3⟩
def edM (e:Ed):Ed:=⟨e.u,e.v,e.w * 1048576+1⟩
def edR (e:Ed):Ed:=⟨e.v,e.u,e.w⟩
theorem zJy (c:List Ed):wt (c.map edM)=wt c * 1048576+c.length:=by
 induction c with
 | nil=>rfl
 | cons e l ih =>
  show e.w * 1048576+1+wt (l.map edM)=(e.w+wt l) * 1048576+((l.length+1:Nat):Int)
  omega
theorem zJz (c:List Ed):wt (c.reverse.map edR)=wt c:=by
 induction c with
 | nil=>rfl
 | cons e l ih =>
  rw [List.reverse_cons,List.map_append,zlO,ih]
  show wt l+wt [edR e]=e.w+wt l
  rw [zoW]
  show wt l+e.w=_
  omega
theorem zJA {E:List Ed} {c:List Ed} : ∀ {a b:Nat},zf8 E a c b→zf8 (E.map edR) b (c.reverse.map edR) a:=by
 induction c with
 | nil=>intro a b h;exact Eq.symm h
 | cons e l ih =>
  rintro a b ⟨h1,h2,h3⟩
  rw [List.reverse_cons,List.map_append]
  exact zfP.2 ⟨e.v,ih h3,List.mem_map_of_mem h1,rfl,h2⟩
theorem zBv (E:List Ed):(E.map edR).map edR=E:=by
 rw [List.map_map]
 exact (List.map_congr_left fun e _=>rfl).trans (List.map_id E)
theorem zHs {E:List Ed} {c:List Ed} {a b:Nat} (h:zf8 (E.map edR) a c b):∃ c0,zf8 E b c0 a∧wt c0=wt c∧c0.length=c.length:=by
 have:=zJA h
 rw [zBv] at this
 exact ⟨_,this,zJz c,by simp⟩
theorem zh7 {E:List Ed} (h:zbJ E):zbJ (E.map edR):=fun a c hc=>by
 obtain ⟨c0,h1,h2,_⟩:=zHs hc
 rw [← h2];exact h a c0 h1
theorem zfx {E:List Ed} (h:zbJ E):zbJ (E.map edM):=fun a c hc=>by
 obtain ⟨c0,rfl,h1⟩:=zBu (f:=edM) (fun _=>rfl) (fun _=>rfl) hc
 rw [zJy]
 have:=h a c0 h1
 omega
theorem zBw {E F:List Ed} (h:∀ e∈E,e∈F) {c:List Ed} : ∀ {a b:Nat},zf8 E a c b→zf8 F a c b:=by
 induction c with
 | nil=>intro a b h;exact h
 | cons e l ih=>rintro a b ⟨h1,h2,h3⟩;exact ⟨h e h1,h2,ih h3⟩
theorem zfy {E F:List Ed} (h:∀ e∈E,e∈F) (hF:zbJ F):zbJ E:=fun a c hc=>hF a c (zBw h hc)
def zHO : Option Int → Int × Int
  | none=>((1000000000000:Int),(0:Int))
  | some x=>(x / 1048576,x % 1048576)
theorem zrn {L U:Int} (h0:0≤U) (h1:U < 1048576):zHO (some (L * 1048576+U))=(L,U):=by
 show ((L * 1048576+U) / 1048576,(L * 1048576+U) % 1048576)=(L,U)
 rw [show (L * 1048576+U) / 1048576=L by omega,show (L * 1048576+U) % 1048576=U by omega]
def zyz (s:Nat):zcV:=fun v=>if v=s then some 0 else none
theorem zfR (s:Nat):Start (fun v=>v=s) (zyz s) :=
 ⟨fun v x h=>(by
  unfold zyz at h
  by_cases hv:v=s
  ·rw [if_pos hv] at h;cases h;exact ⟨hv,rfl⟩
  ·rw [if_neg hv] at h;cases h),fun v h=>if_pos h⟩
structure EdOk (E : List Ed) (n : Nat) : Prop where
  lt:∀ e∈E,e.u < n∧e.v < n
  w:∀ e∈E,-1000000000≤e.w∧e.w≤1000000000
  n1:1≤n
  n40:n≤40
theorem EdOk.R {E:List Ed} {n:Nat} (h:EdOk E n):EdOk (E.map edR) n :=
  ⟨fun e he=>(by obtain ⟨f,h1,rfl⟩:=List.mem_map.1 he;exact ⟨(h.lt f h1).2,(h.lt f h1).1⟩),
   fun e he=>(by obtain ⟨f,h1,rfl⟩:=List.mem_map.1 he;exact h.w f h1),h.n1,h.n40⟩
theorem EdOk.ltM {E:List Ed} {n:Nat} (h:EdOk E n):∀ e∈E.map edM,e.u < n∧e.v < n :=
 fun e he=>by obtain ⟨f,h1,rfl⟩:=List.mem_map.1 he;exact h.lt f h1
theorem zsP {E:List Ed} {n:Nat} (h:EdOk E n) {c:List Ed} : ∀ {a b:Nat},zf8 E a c b→-1000000000 * (c.length:Int)≤wt c∧wt c≤1000000000 * (c.length:Int):=by
 induction c with
 | nil=>intro a b _;exact ⟨(by show _≤(0:Int);simp),(by show (0:Int)≤_;simp)⟩
 | cons e l ih =>
  rintro a b ⟨h1,_,h3⟩
  have:=ih h3
  have:=h.w e h1
  show _≤e.w+wt l∧e.w+wt l≤_
  simp only [List.length_cons]
  omega
structure Ent (E : List Ed) (n s v : Nat) (x L U : Int) (c : List Ed) : Prop where
  ch:zf8 E s c v
  x:x=L * 1048576+U
  L:L=wt c
  U:U=c.length
  len:c.length < n
theorem zBx {E:List Ed} {n:Nat} (hE:EdOk E n) {s:Nat} (hs:s < n) {d:zcV} (hd:Inv (E.map edM) (fun v=>v=s) d) {v:Nat} {x:Int} (hx:d v=some x):∃ c,Ent E n s v x (wt c) c.length c:=by
 obtain ⟨a,c,hc⟩:=hd v x hx
 have hl:=zED hE.ltM (fun a ha=>Nat.lt_of_le_of_lt (Nat.le_of_eq ha) hs) hc
 obtain ⟨c0,rfl,h1⟩:=zBu (f:=edM) (fun _=>rfl) (fun _=>rfl) hc.ch
 obtain rfl:a=s:=hc.src
 exact ⟨c0,h1,by rw [hc.wt,zJy],rfl,rfl,by rw [List.length_map] at hl;omega⟩
def dst (E:List Ed) (n s:Nat):zcV:=rds (E.map edM) (n - 1) (zyz s)
theorem zEE {E:List Ed} {n s:Nat} (hn:zbJ E):Inv (E.map edM) (fun v=>v=s) (dst E n s):=zyx (zfx hn) _ (zhj (zfR s))
theorem zro {E:List Ed} {n s:Nat} (hE:EdOk E n) (hn:zbJ E) (hs:s < n):Fix (E.map edM) (dst E n s):=zBt (zfx hn) hE.ltM (fun a ha=>Nat.lt_of_le_of_lt (Nat.le_of_eq ha) hs) (zfR s)
theorem dst_at {E:List Ed} {n s v:Nat} (hE:EdOk E n) (hn:zbJ E) (hs:s < n) {x:Int} (hx:dst E n s v=some x):∃ c,Ent E n s v x (wt c) c.length c:=zBx hE hs (zEE hn) hx
theorem zAr {E:List Ed} {n s:Nat} : ∃ x,dst E n s s=some x:=by
 obtain ⟨x,h,_⟩:=zsM (E.map edM) (n - 1) (zyz s) s 0 (if_pos rfl)
 exact ⟨x,h⟩
theorem zyA {E:List Ed} {n s:Nat} (hE:EdOk E n) (hn:zbJ E) (hs:s < n) {c:List Ed} : ∀ {a v:Nat} {x:Int},dst E n s a=some x→zf8 E a c v→∃ y,dst E n s v=some y∧y / 1048576≤x / 1048576+wt c:=by
 induction c with
 | nil=>intro a v x hx h;cases h;exact ⟨x,hx,by show _≤_+(0:Int);omega⟩
 | cons e l ih =>
  rintro a v x hx ⟨h1,h2,h3⟩
  subst h2
  obtain ⟨y,k1,k2⟩:=zro hE hn hs (edM e) (List.mem_map_of_mem h1) x hx
  obtain ⟨z,m1,m2⟩:=ih (a:=e.v) k1 h3
  obtain ⟨c1,hc1⟩:=dst_at hE hn hs hx
  obtain ⟨c2,hc2⟩:=dst_at hE hn hs (show dst E n s e.v=some y from k1)
  refine ⟨z,m1,?_⟩
  have k2':y≤x+(e.w * 1048576+1):=k2
  have:=hE.n40
  have:=hc1.len
  have:=hc1.x
  have:=hc2.len
  have:=hc2.x
  show _≤_+(e.w+wt l)
  omega
theorem zEF {E:List Ed} {n s v:Nat} (hE:EdOk E n) (hn:zbJ E) (hs:s < n) {c:List Ed} (hc:zf8 E s c v):∃ x,dst E n s v=some x∧x / 1048576≤wt c:=by
 obtain ⟨x0,h1⟩:=zAr (E:=E) (n:=n) (s:=s)
 obtain ⟨y,k1,k2⟩:=zyA hE hn hs h1 hc
 have h3:x0≤0:=by
  obtain ⟨x',h1',h2'⟩:=zsM (E.map edM) (n - 1) (zyz s) s 0 (if_pos rfl)
  have:x'=x0:=Option.some.inj (h1'.symm.trans h1)
  omega
 exact ⟨y,k1,by omega⟩
def zyB (o:Option Int):Int:=(zHO o).1
theorem zyC {E:List Ed} {n s v:Nat} (hE:EdOk E n) (hn:zbJ E) (hs:s < n) {x:Int} (hx:dst E n s v=some x):∃ c,zf8 E s c v∧zyB (dst E n s v)=wt c∧c.length < n:=by
 obtain ⟨c,hc⟩:=dst_at hE hn hs hx
 refine ⟨c,hc.ch,?_,hc.len⟩
 rw [hx]
 show x / 1048576=_
 have:=hc.x;have:=hc.len;have:=hE.n40
 omega
theorem zrp {E:List Ed} {n s v:Nat} (hE:EdOk E n) (hn:zbJ E) (hs:s < n) {c:List Ed} (hc:zf8 E s c v):zyB (dst E n s v)≤wt c:=by
 obtain ⟨x,h1,h2⟩:=zEF hE hn hs hc
 rw [h1];exact h2
theorem zcW {E:List Ed} {n s v:Nat} (hE:EdOk E n) (hn:zbJ E) (hs:s < n):(dst E n s v=none∧zyB (dst E n s v)=1000000000000)∨∃ c,dst E n s v ≠ none∧zf8 E s c v∧zyB (dst E n s v)=wt c∧c.length < n∧-40000000000≤wt c∧wt c≤40000000000:=by
 cases h:dst E n s v with
 | none=>exact .inl ⟨rfl,rfl⟩
 | some x =>
  obtain ⟨c,h1,h2,h3⟩:=zyC hE hn hs h
  have:=zsP hE h1
  have:=hE.n40
  rw [h] at h2
  exact .inr ⟨c,(by intro h;cases h),h1,h2,h3,by omega,by omega⟩
theorem zkU {E F:List Ed} {n s v:Nat} (hE:EdOk E n) (hF:EdOk F n) (hn:zbJ F) (hs:s < n) (h:∀ e∈E,e∈F):zyB (dst F n s v)≤zyB (dst E n s v):=by
 rcases zcW (v:=v) hE (zfy h hn) hs with ⟨_,h2⟩ | ⟨c,_,h1,h2,_⟩
 ·rw [h2]
  rcases zcW (v:=v) hF hn hs with ⟨_,h2⟩ | ⟨c,_,_,h2,_,_,_⟩ <;> omega
 ·rw [h2];exact zrp hF hn hs (zBw h h1)
theorem zyD {E F:List Ed} {n s v:Nat} (hE:EdOk E n) (hF:EdOk F n) (hn:zbJ F) (hs:s < n) (h:∀ e∈E,e∈F) (h':∀ e∈F,e∈E):zyB (dst F n s v)=zyB (dst E n s v) :=
 Int.le_antisymm (zkU hE hF hn hs h) (zkU hF hE (zfy h hn) hs h')
end Go.Pm
namespace Go.Pm
def znd (E : List Ed) : Nat → zcV → Bool
  | 0,_=>true
  | k+1,d=>cond (E.foldl rlF (d,false)).2 (znd E k (rnd E d)) false
theorem zrq {E:List Ed} {k:Nat} : ∀ {m:Nat} {d:zcV},Fix E (rds E k d)→k < m→znd E m d=false:=by
 induction k with
 | zero =>
  intro m d h hm
  obtain ⟨m,rfl⟩:∃ m',m=m'+1:=⟨m - 1,by omega⟩
  show cond (E.foldl rlF (d,false)).2 _ _=false
  rw [ziO (show ∀ e∈E,Sat d e from h)];rfl
 | succ k ih =>
  intro m d h hm
  obtain ⟨m,rfl⟩:∃ m',m=m'+1:=⟨m - 1,by omega⟩
  show cond (E.foldl rlF (d,false)).2 (znd E m (rnd E d)) false=false
  rw [ih (m:=m) (d:=rnd E d) h (by omega)]
  cases (E.foldl rlF (d,false)).2 <;> rfl
theorem zAs {E:List Ed} {m:Nat} : ∀ {d:zcV},znd E m d=false→∃ k,Fix E (rds E k d):=by
 induction m with
 | zero=>intro d h;cases h
 | succ m ih =>
  intro d h
  have h':cond (E.foldl rlF (d,false)).2 (znd E m (rnd E d)) false=false:=h
  cases hc:(E.foldl rlF (d,false)).2
  ·exact ⟨0,zh6 hc⟩
  ·rw [hc] at h'
   obtain ⟨k,hk⟩:=ih h'
   exact ⟨k+1,hk⟩
def zyP (n:Nat):zcV:=fun v=>if v < n then some 0 else none
theorem ztH (n:Nat):Start (fun v=>v < n) (zyP n) :=
 ⟨fun v x h=>(by
  unfold zyP at h
  by_cases hv:v < n
  ·rw [if_pos hv] at h;cases h;exact ⟨hv,rfl⟩
  ·rw [if_neg hv] at h;cases h),fun v h=>if_pos h⟩
theorem zAt {E:List Ed} {n:Nat} (hE:EdOk E n):znd E n (zyP n)=false↔zbJ E:=by
 constructor
 ·intro h
  obtain ⟨k,hk⟩:=zAs h
  have hsome:∀ v,v < n→∃ x,rds E k (zyP n) v=some x:=fun v hv=>by
   obtain ⟨x,hx,_⟩:=zsM E k (zyP n) v 0 (if_pos hv)
   exact ⟨x,hx⟩
  refine zyy (f:=fun v=>(rds E k (zyP n) v).getD 0) fun e he=>?_
  obtain ⟨x,hx⟩:=hsome e.u (hE.lt e he).1
  obtain ⟨y,hy,hxy⟩:=hk e he x hx
  show (rds E k (zyP n) e.v).getD 0≤(rds E k (zyP n) e.u).getD 0+e.w
  rw [hx,hy];exact hxy
 ·intro h
  have:=hE.n1
  exact zrq (zBt h hE.lt (fun a ha=>ha) (ztH n)) (by omega)
end Go.Pm
namespace Go.Proofs
open Go Go.Pm
set_option maxRecDepth 100000
set_option linter.unusedVariables false
theorem zeW {n:Nat} {F:Tab} {k:Nat} (hk:k < n):tg n F k=F k:=by
 unfold tg zk6
 have h:(zm (zgD 0 n F))[k]? = some (.p (.int .i64 (F k))):=by
  rw [zm,List.getElem?_map,zfA n 0 F k hk,Nat.zero_add];rfl
 rw [h]
theorem zBy {n:Nat} {F:Tab} {k:Nat} {v:Int} {j:Nat} (hj:j < n):ts n F k [v] j=if j=k then v else F j:=by
 show (match Nat.beq j k with | true=>v | false=>tg n F j)=_
 by_cases h:j=k
 ·rw [if_pos h,show Nat.beq j k=true from by rw [h];exact Nat.beq_refl _]
 ·rw [if_neg h,show Nat.beq j k=false from Bool.eq_false_iff.2 fun e=>h (Nat.eq_of_beq_eq_true e)];exact zeW hj
theorem zdh {n:Nat} {F:Tab} {k:Nat} {v w:Int} {j:Nat} (hj:j < n):ts n F k [v,w] j=if j=k+1 then w else if j=k then v else F j:=by
 show (match Nat.beq j (k+1) with | true=>w | false=>(match Nat.beq j k with | true=>v | false=>tg n F j))=_
 by_cases h:j=k+1
 ·rw [if_pos h,show Nat.beq j (k+1)=true from by rw [h];exact Nat.beq_refl _]
 ·rw [if_neg h, show Nat.beq j (k + 1) = false from Bool.eq_false_iff.2 fun e => h (Nat.eq_of_beq_eq_true e)]
  by_cases h':j=k
  ·rw [if_pos h',show Nat.beq j k=true from by rw [h'];exact Nat.beq_refl _]
  ·rw [if_neg h',show Nat.beq j k=false from Bool.eq_false_iff.2 fun e=>h' (Nat.eq_of_beq_eq_true e)];exact zeW hj
def fwS (t:Tie) (i:Nat):step:=⟨⟨(i:Int),false⟩,t.From,t.To,t.High⟩
def bwS (t:Tie) (i:Nat):step:=⟨⟨(i:Int),true⟩,t.To,t.From,w64 (0 - t.Low)⟩
def zEX (a:web) (i:Nat):Bool:=(zsX (a.out.F [(i:Int)]) 0) != 0
def stK (a:web) (i:Nat):List step :=
 cond (zEX a i) [] ((cond ((a.Net.Ties.get i).High != (1000000000000:Int)) [fwS (a.Net.Ties.get i) i] []) ++ (cond ((a.Net.Ties.get i).Low != (-1000000000000:Int)) [bwS (a.Net.Ties.get i) i] []))
def stL (a : web) : Nat → Nat → List step
  | 0,_=>[]
  | m+1,i=>stK a i ++ stL a m (i+1)
theorem zrr (a:web) (hn:a.Net.Ties.len≤9223372036854775807):zkZ a=true∧zhl a=stL a a.Net.Ties.len 0:=by
 have key:∀ (m k i:Nat),i+m=a.Net.Ties.len→m < k→zd2 a k (i:Int)=true∧zd1 a k (i:Int)=stL a m i:=by
  intro m
  induction m with
  | zero =>
   intro k i hi hk
   obtain ⟨k,rfl⟩:∃ k',k=k'+1:=⟨k - 1,by omega⟩
   constructor
   ·show zeC a (zd2 a k) (i : Int) = true
    unfold zeC
    rw [decide_eq_false (show ¬ (i:Int) < (a.Net.Ties.len:Int) by omega),cond_false]
   ·show zeB a (zd1 a k) (i : Int) = []
    unfold zeB
    rw [decide_eq_false (show ¬ (i:Int) < (a.Net.Ties.len:Int) by omega),cond_false]
  | succ m ih =>
   intro k i hi hk
   obtain ⟨k,rfl⟩:∃ k',k=k'+1:=⟨k - 1,by omega⟩
   obtain ⟨h1,h2⟩:=ih k (i+1) (by omega) (by omega)
   constructor
   ·show zeC a (zd2 a k) (i : Int) = true
    unfold zeC
    rw [decide_eq_true (show (i:Int) < (a.Net.Ties.len:Int) by omega),cond_true,decide_eq_true (show 0≤(i:Int)∧(i:Int) < (a.Net.Ties.len:Int) by omega),Bool.true_and,ziN (n:=a.Net.Ties.len) (by omega) hn,h1]
    generalize (zsX (a.out.F [(i:Int)]) 0 != 0)=b1
    generalize (s94 (⟨(a.Net.Ties.get ((i:Int)).toNat),(i:Int)⟩:tie)).2=b2
    generalize (s95 (⟨(a.Net.Ties.get ((i:Int)).toNat),(i:Int)⟩:tie)).2=b3
    cases b1 <;> cases b2 <;> cases b3 <;> rfl
   ·show zeB a (zd1 a k) (i : Int) = stK a i ++ stL a m (i + 1)
    unfold zeB
    rw [decide_eq_true (show (i:Int) < (a.Net.Ties.len:Int) by omega),cond_true,Int.toNat_natCast,ziN (n:=a.Net.Ties.len) (by omega) hn,h2]
    unfold stK zEX s94 s95
    generalize (zsX (a.out.F [(i:Int)]) 0 != 0)=b1
    show cond b1 _ (cond ((a.Net.Ties.get i).High != (1000000000000:Int)) (_ :: cond ((a.Net.Ties.get i).Low != (-1000000000000:Int)) (_ :: _) _) (cond ((a.Net.Ties.get i).Low != (-1000000000000:Int)) (_ :: _) _))=_
    generalize ((a.Net.Ties.get i).High != (1000000000000:Int))=b2
    generalize ((a.Net.Ties.get i).Low != (-1000000000000:Int))=b3
    cases b1 <;> cases b2 <;> cases b3 <;> rfl
 exact key a.Net.Ties.len Fuel 0 (by omega) (by simp only [Fuel];omega)
theorem zne {a:web} {y:step} : ∀ {m i:Nat},y∈stL a m i↔∃ j,i≤j∧j < i+m∧y∈stK a j:=by
 intro m
 induction m with
 | zero=>intro i;exact ⟨fun h=>(by cases h),fun ⟨j,h1,h2,_⟩=>(by omega)⟩
 | succ m ih =>
  intro i
  show y∈stK a i ++ stL a m (i+1)↔_
  rw [List.mem_append,ih]
  constructor
  ·rintro (h | ⟨j, h1, h2, h3⟩)
   ·exact ⟨i,Nat.le_refl _,by omega,h⟩
   ·exact ⟨j,by omega,by omega,h3⟩
  ·rintro ⟨j, h1, h2, h3⟩
   by_cases h:j=i
   ·subst h;exact .inl h3
   ·exact .inr ⟨j,by omega,by omega,h3⟩
theorem znf {a:web} {y:step} {j:Nat} : y∈stK a j↔zEX a j=false∧(((a.Net.Ties.get j).High ≠ 1000000000000∧y=fwS (a.Net.Ties.get j) j)∨((a.Net.Ties.get j).Low ≠ -1000000000000∧y=bwS (a.Net.Ties.get j) j)):=by
 unfold stK
 cases h:zEX a j
 ·rw [cond_false, List.mem_append]
  by_cases h1:(a.Net.Ties.get j).High=1000000000000
  ·rw [show ((a.Net.Ties.get j).High != (1000000000000:Int)) = false by rw [h1]; rfl, cond_false]
   by_cases h2:(a.Net.Ties.get j).Low = -1000000000000
   ·rw [show ((a.Net.Ties.get j).Low != (-1000000000000:Int)) = false by rw [h2]; rfl, cond_false]
    simp [h1,h2]
   ·rw [bne_iff_ne.2 h2, cond_true]
    simp [h1,h2]
  ·rw [bne_iff_ne.2 h1, cond_true]
   by_cases h2:(a.Net.Ties.get j).Low = -1000000000000
   ·rw [show ((a.Net.Ties.get j).Low != (-1000000000000:Int)) = false by rw [h2]; rfl, cond_false]
    simp [h1,h2]
   ·rw [bne_iff_ne.2 h2, cond_true]
    simp [h1,h2]
 ·rw [cond_true];simp
theorem zEG (a:web):∀ m i,(stL a m i).length≤2 * m:=by
 intro m
 induction m with
 | zero=>intro i;exact Nat.le_refl _
 | succ m ih =>
  intro i
  show (stK a i ++ stL a m (i+1)).length≤_
  rw [List.length_append]
  have:=ih (i+1)
  have:(stK a i).length≤2:=by
   unfold stK
   cases zEX a i <;> cases ((a.Net.Ties.get i).High != (1000000000000:Int)) <;> cases ((a.Net.Ties.get i).Low != (-1000000000000:Int)) <;> simp
  omega
def edS (y:step):Ed:=⟨y.from_.toNat,y.to.toNat,y.length⟩
structure StOk (y : step) (N : Nat) : Prop where
  f0:0≤y.from_
  f1:y.from_ < N
  t0:0≤y.to
  t1:y.to < N
  l0 : -1000000000≤y.length
  l1:y.length≤1000000000
abbrev Ws (a:web):List step:=stL a a.Net.Ties.len 0
def We (a:web):List Ed:=(Ws a).map edS
theorem zyE {t:Tie} {N:Int} (h:TieOk t N) (h':t.Low ≠ -1000000000000):w64 (0 - t.Low) = -t.Low:=by
 have:=h.lo.resolve_left h'
 rw [zcA (by omega) (by omega)];omega
theorem zHt {a:web} (hn:NetOk a.Net) {y:step} (hy:y∈Ws a):StOk y a.Net.Nodes.toNat:=by
 obtain ⟨j,_,h2,h3⟩:=zne.1 hy
 have h:=hn.tie j (by omega)
 have:=h.f0;have:=h.f1;have:=h.t0;have:=h.t1
 rcases (znf.1 h3).2 with ⟨h4,rfl⟩ | ⟨h4,rfl⟩
 ·have := h.hi.resolve_left h4
  exact ⟨h.f0,by show (a.Net.Ties.get j).From < _;omega,h.t0,by show (a.Net.Ties.get j).To < _;omega,this.1,this.2⟩
 ·have := h.lo.resolve_left h4
  have e:=zyE h h4
  exact ⟨h.t0,by show (a.Net.Ties.get j).To < _;omega,h.f0,by show (a.Net.Ties.get j).From < _;omega,by show _≤w64 (0 - (a.Net.Ties.get j).Low);omega,by show w64 (0 - (a.Net.Ties.get j).Low)≤_;omega⟩
theorem zHu {a:web} (hn:NetOk a.Net):(Ws a).length≤400:=by
 have h1:=zEG a a.Net.Ties.len 0
 have h2:=hn.len
 show (stL a a.Net.Ties.len 0).length≤400
 omega
theorem zAu {a:web} (hn:NetOk a.Net):EdOk (We a) a.Net.Nodes.toNat:=by
 have:=hn.n1;have:=hn.n40
 refine ⟨fun e he=>?_,fun e he=>?_,by omega,by omega⟩
 ·obtain ⟨y, hy, rfl⟩ := List.mem_map.1 he
  have h:=zHt hn hy
  have:=h.f0;have:=h.f1;have:=h.t0;have:=h.t1
  exact ⟨by show y.from_.toNat < _;omega,by show y.to.toNat < _;omega⟩
 ·obtain ⟨y, hy, rfl⟩ := List.mem_map.1 he
  have h:=zHt hn hy
  exact ⟨h.l0,h.l1⟩
theorem zlP {a:web} (hn:NetOk a.Net) {e:Ed} : e∈We a↔∃ j,j < a.Net.Ties.len∧zEX a j=false∧(((a.Net.Ties.get j).High ≠ 1000000000000∧e=⟨(a.Net.Ties.get j).From.toNat,(a.Net.Ties.get j).To.toNat,(a.Net.Ties.get j).High⟩)∨((a.Net.Ties.get j).Low ≠ -1000000000000∧e=⟨(a.Net.Ties.get j).To.toNat,(a.Net.Ties.get j).From.toNat,-(a.Net.Ties.get j).Low⟩)):=by
 constructor
 ·intro he
  obtain ⟨y,hy,rfl⟩:=List.mem_map.1 he
  obtain ⟨j,_,h2,h3⟩:=zne.1 hy
  obtain ⟨h4,h5⟩:=znf.1 h3
  refine ⟨j,by omega,h4,?_⟩
  rcases h5 with ⟨h6,rfl⟩ | ⟨h6,rfl⟩
  ·exact .inl ⟨h6,rfl⟩
  ·refine .inr ⟨h6, ?_⟩
   rw [← zyE (hn.tie j (by omega)) h6];rfl
 ·rintro ⟨j, h1, h2, h3⟩
  rcases h3 with ⟨h6,rfl⟩ | ⟨h6,rfl⟩
  ·exact List.mem_map.2 ⟨fwS (a.Net.Ties.get j) j,zne.2 ⟨j,by omega,by omega,znf.2 ⟨h2,.inl ⟨h6,rfl⟩⟩⟩,rfl⟩
  ·exact List.mem_map.2 ⟨bwS (a.Net.Ties.get j) j,zne.2 ⟨j,by omega,by omega,znf.2 ⟨h2,.inr ⟨h6,rfl⟩⟩⟩,by rw [← zyE (hn.tie j h1) h6];rfl⟩
end Go.Proofs
namespace Go.Proofs
open Go Go.Pm
set_option maxRecDepth 100000
set_option linter.unusedVariables false
def Rt (N:Nat) (T:Tab) (d:zcV):Prop:=∀ v,v < N→d v=some (T v)
def Bd (B:Int) (T:Tab):Prop:=∀ v,v < 40→-B≤T v∧T v≤0
theorem zyF (a:web) {N:Nat} (hN:N≤40) (S0:Int→Tab→Bool) (P0:Int→Tab→Bool):∀ (l:List step),(∀ y∈l,StOk y N)→∀ (t:Int) (c:Bool) (T:Tab) (d:zcV) (B:Int),Rt N T d→Bd B T→0≤B→B+l.length * 1000000000≤100000000000000000 →
    ∃ T',zdC S0 a l t c T=zhD S0 a t ((l.map edS).foldl rlF (d,c)).2 T'∧zdD P0 a l t c T=zhE P0 a t ((l.map edS).foldl rlF (d,c)).2 T'∧Rt N T' ((l.map edS).foldl rlF (d,c)).1∧Bd (B+l.length * 1000000000) T':=by
  intro l
  induction l with
  | nil=>intro _ t c T d B h1 h2 _ _;exact ⟨T,rfl,rfl,h1,by simpa using h2⟩
  | cons y l ih =>
    intro hl t c T d B h1 h2 h3 h4
    have hy:=hl y (List.mem_cons_self ..)
    have hl':∀ y∈l,StOk y N:=fun z hz=>hl z (List.mem_cons_of_mem _ hz)
    rw [List.length_cons] at h4
    have f0:=hy.f0;have f1:=hy.f1;have t0:=hy.t0;have t1:=hy.t1;have l0:=hy.l0;have l1:=hy.l1
    have hf:=h1 y.from_.toNat (by omega)
    have ht:=h1 y.to.toNat (by omega)
    have bf:=h2 y.from_.toNat (by omega)
    have bt:=h2 y.to.toNat (by omega)
    have e1:0+y.from_.toNat * 1+0=y.from_.toNat:=by omega
    have e2:0+y.to.toNat * 1+0=y.to.toNat:=by omega
    have hr:rlF (d,c) (edS y)=cond (decide (T y.from_.toNat+y.length < T y.to.toNat)) (zsL d y.to.toNat (T y.from_.toNat+y.length),true) (d,c):=by
      unfold rlF edS
      simp only [hf,ht]
      rfl
    have hS:zdC S0 a (y :: l) t c T=cond (decide (T y.from_.toNat+y.length < T y.to.toNat)) (zdC S0 a l t true (ts 40 T y.to.toNat [T y.from_.toNat+y.length])) (zdC S0 a l t c T):=by
      show zjT S0 a y (zdC S0 a l) t c T=_
      generalize zdC S0 a l=S
      unfold zjT
      rw [e1,e2,zeW (by omega),zeW (by omega),zcA (by omega) (by omega)]
    have hP:zdD P0 a (y :: l) t c T=cond (decide (T y.from_.toNat+y.length < T y.to.toNat)) (zdD P0 a l t true (ts 40 T y.to.toNat [T y.from_.toNat+y.length])) (zdD P0 a l t c T):=by
      show zjU P0 a y (zdD P0 a l) t c T=_
      generalize zdD P0 a l=S
      unfold zjU
      rw [e1,e2,zeW (by omega),zeW (by omega),zcA (by omega) (by omega),decide_eq_true (show 0≤y.from_∧y.from_ < (40:Int) by omega),decide_eq_true (show 0≤y.to∧y.to < (40:Int) by omega)]
      cases decide (T y.from_.toNat+y.length < T y.to.toNat) <;> rfl
    show ∃ T',_=zhD S0 a t ((l.map edS).foldl rlF (rlF (d,c) (edS y))).2 T'∧_=zhE P0 a t ((l.map edS).foldl rlF (rlF (d,c) (edS y))).2 T'∧Rt N T' ((l.map edS).foldl rlF (rlF (d,c) (edS y))).1∧_
    rw [hS,hP,hr]
    by_cases hlt:T y.from_.toNat+y.length < T y.to.toNat
    · rw [decide_eq_true hlt, cond_true, cond_true, cond_true]
      obtain ⟨T', k1, k2, k3, k4⟩ := ih hl' t true (ts 40 T y.to.toNat [T y.from_.toNat + y.length]) (zsL d y.to.toNat (T y.from_.toNat + y.length)) (B + 1000000000)
        (fun v hv=>by
          rw [zBy (by omega)]
          unfold zsL
          by_cases h:v=y.to.toNat
          · rw [if_pos h,if_pos h]
          · rw [if_neg h,if_neg h];exact h1 v hv)
        (fun v hv=>by
          rw [zBy hv]
          by_cases h:v=y.to.toNat
          · rw [if_pos h];omega
          · rw [if_neg h];have:=h2 v hv;omega) (by omega) (by omega)
      refine ⟨T',k1,k2,k3,?_⟩
      rw [List.length_cons,show B+((l.length+1:Nat):Int) * 1000000000=B+1000000000+(l.length:Int) * 1000000000 by omega]
      exact k4
    · rw [decide_eq_false hlt, cond_false, cond_false, cond_false]
      obtain ⟨T',k1,k2,k3,k4⟩:=ih hl' t c T d B h1 h2 h3 (by omega)
      refine ⟨T',k1,k2,k3,fun v hv=>?_⟩
      have:=k4 v hv
      rw [List.length_cons]
      omega
theorem zrt (a:web) (hn:NetOk a.Net):∀ (m k i:Nat) (T:Tab) (d:zcV) (B:Int),Rt a.Net.Nodes.toNat T d→Bd B T→0≤B→B+m * 400000000000≤100000000000000000→(i:Int)+m=a.Net.Nodes→m < k →
  zeE a k (i:Int) T=true∧zeD a k (i:Int) T=znd (We a) m d:=by
 have hn1:=hn.n1;have hn40:=hn.n40;have hlen:=hn.len
 obtain ⟨q1,q2⟩:=zrr a (by omega)
 intro m
 induction m with
 | zero =>
  intro k i T d B _ _ _ _ hi hk
  obtain ⟨k,rfl⟩:∃ k',k=k'+1:=⟨k - 1,by omega⟩
  constructor
  ·show zgm a (zeE a k) (i : Int) T = true
   unfold zgm
   rw [decide_eq_false (show ¬ (i:Int) < a.Net.Nodes by omega),cond_false]
  ·show zgl a (zeD a k) (i : Int) T = true
   unfold zgl
   rw [decide_eq_false (show ¬ (i:Int) < a.Net.Nodes by omega),cond_false]
 | succ m ih =>
  intro k i T d B h1 h2 h3 h4 hi hk
  obtain ⟨k,rfl⟩:∃ k',k=k'+1:=⟨k - 1,by omega⟩
  have hwl:=zHu hn
  obtain ⟨T',k1,k2,k3,k4⟩:=zyF a (N:=a.Net.Nodes.toNat) (by omega) (zeD a k) (zeE a k) (Ws a) (fun y hy=>zHt hn hy) (i:Int) false T d B h1 h2 h3 (by omega)
  have hB:Bd (B+400000000000) T':=fun v hv=>by have:=k4 v hv;omega
  have hw:w64 ((i:Int)+(1:Int))=((i+1:Nat):Int):=by rw [zcA (by omega) (by omega)];omega
  obtain ⟨r1,r2⟩:=ih k (i+1) T' (rnd (We a) d) (B+400000000000) k3 hB (by omega) (by omega) (by omega) (by omega)
  constructor
  ·show zgm a (zeE a k) (i : Int) T = true
   unfold zgm zmD
   rw [decide_eq_true (show (i:Int) < a.Net.Nodes by omega),cond_true,q1,q2,k2]
   unfold zhE
   rw [hw,r1]
   cases ((Ws a).map edS |>.foldl rlF (d,false)).2 <;> rfl
  ·show zgl a (zeD a k) (i : Int) T = cond ((We a).foldl rlF (d, false)).2 (znd (We a) m (rnd (We a) d)) false
   unfold zgl zpO
   rw [decide_eq_true (show (i:Int) < a.Net.Nodes by omega),cond_true,q2,k1]
   unfold zhD
   rw [hw,r2]
   show cond (!((We a).foldl rlF (d,false)).2) false _=_
   cases ((We a).foldl rlF (d,false)).2 <;> rfl
theorem zyG (a:web) (hn:NetOk a.Net):p88 a=true∧s88 a=znd (We a) a.Net.Nodes.toNat (zyP a.Net.Nodes.toNat):=by
 have hn1:=hn.n1;have hn40:=hn.n40
 have:=zrt a hn a.Net.Nodes.toNat Fuel 0 (fun _=>(0:Int)) (zyP a.Net.Nodes.toNat) 0 (fun v hv=>if_pos hv) (fun v hv=>⟨by show -(0:Int)≤(0:Int);omega,Int.le_refl _⟩) (by omega) (by omega) (by omega) (by simp only [Fuel];omega)
 exact this
theorem zyH (a:web) (hn:NetOk a.Net):s88 a=false↔zbJ (We a):=by
 rw [(zyG a hn).2];exact zAt (zAu hn)
end Go.Proofs
namespace Go.Proofs
open Go Go.Pm
set_option maxRecDepth 100000
set_option linter.unusedVariables false
theorem ziP (a b:far):ztL a ⟨1,fun _=>b⟩=true∧zbR a ⟨1,fun _=>b⟩=cond (zzS b a) b a:=by
 unfold ztL zbR zmH zmG
 have key:∀ k,zfI (⟨1,fun _=>b⟩:Sl far) (k+2) (0:Int) a.length a.uses=true∧zfH (⟨1,fun _=>b⟩:Sl far) (k+2) (0:Int) a.length a.uses=cond (zzS b a) b a:=by
  intro k
  have hw:w64 ((0:Int)+(1:Int))=(1:Int):=by rw [zcA (by omega) (by omega)];rfl
  have e1:∀ x y,zfH (⟨1,fun _=>b⟩:Sl far) (k+1) (1:Int) x y=(⟨x,y⟩:far):=fun x y=>by
   show zfF (⟨1,fun _=>b⟩:Sl far) (zfH (⟨1,fun _=>b⟩:Sl far) k) (1:Int) x y=_
   unfold zfF
   rw [decide_eq_false (show ¬ (1:Int) < ((1:Nat):Int) by omega),cond_false]
  have e2:∀ x y,zfI (⟨1,fun _=>b⟩:Sl far) (k+1) (1:Int) x y=true:=fun x y=>by
   show zfG (⟨1,fun _=>b⟩:Sl far) (zfI (⟨1,fun _=>b⟩:Sl far) k) (1:Int) x y=_
   unfold zfG
   rw [decide_eq_false (show ¬ (1:Int) < ((1:Nat):Int) by omega),cond_false]
  constructor
  ·show zfG (⟨1, fun _ => b⟩ : Sl far) (zfI (⟨1, fun _ => b⟩ : Sl far) (k + 1)) (0:Int) a.length a.uses = _
   unfold zfG zmF
   rw [decide_eq_true (show (0:Int) < ((1:Nat):Int) by omega),cond_true,decide_eq_true (show 0≤(0:Int)∧(0:Int) < ((1:Nat):Int) by omega),Bool.true_and,hw,e2,e2]
   cases zzS b (⟨a.length,a.uses⟩:far) <;> rfl
  ·show zfF (⟨1, fun _ => b⟩ : Sl far) (zfH (⟨1, fun _ => b⟩ : Sl far) (k + 1)) (0:Int) a.length a.uses = _
   unfold zfF zmE
   rw [decide_eq_true (show (0:Int) < ((1:Nat):Int) by omega),cond_true,hw,e1,e1]
 have:=key (Fuel - 2)
 rw [show Fuel - 2+2=Fuel by simp only [Fuel]] at this
 exact this
theorem zyI (a b:far):zzS a b=decide (a.length < b.length∨(a.length=b.length∧a.uses < b.uses)):=by
 unfold zzS
 by_cases h1:a.length < b.length
 ·rw [decide_eq_true h1,cond_true];exact (decide_eq_true (.inl h1)).symm
 ·rw [decide_eq_false h1, cond_false]
  by_cases h2:a.length=b.length
  ·rw [show (a.length == b.length) = true from beq_iff_eq.2 h2, cond_true]
   exact decide_eq_decide.2 ⟨fun h=>.inr ⟨h2,h⟩,fun h=>h.elim (fun h=>absurd h h1) (fun h=>h.2)⟩
  ·rw [show (a.length == b.length) = false from beq_eq_false_iff_ne.2 h2, cond_false]
   exact (decide_eq_false (fun h=>h.elim h1 (fun h=>h2 h.1))).symm
def Rp (N:Nat) (T:Tab) (d:zcV):Prop:=∀ v,v < N→(T (v * 2),T (v * 2+1))=zHO (d v)
def nv (x y:Int):Bool:=match (x == (1000000000000:Int)) with | true=>(match (y == (0:Int)) with | true=>true | false=>false) | false=>false
def sm (x y u v:Int):Bool:=match (x == u) with | true=>(match (y == v) with | true=>true | false=>false) | false=>false
theorem zsQ (x y:Int):nv x y=decide ((x,y)=((1000000000000:Int),(0:Int))):=by
 unfold nv
 by_cases h1:x=1000000000000
 ·rw [show (x == (1000000000000:Int)) = true from beq_iff_eq.2 h1]
  by_cases h2:y=0
  ·rw [show (y == (0:Int))=true from beq_iff_eq.2 h2];exact (decide_eq_true (by rw [h1,h2])).symm
  ·rw [show (y == (0:Int))=false from beq_eq_false_iff_ne.2 h2];exact (decide_eq_false (fun h=>h2 (Prod.mk.inj h).2)).symm
 ·rw [show (x == (1000000000000:Int)) = false from beq_eq_false_iff_ne.2 h1]
  exact (decide_eq_false (fun h=>h1 (Prod.mk.inj h).1)).symm
theorem same_eq (x y u v:Int):sm x y u v=decide ((x,y)=(u,v)):=by
 unfold sm
 by_cases h1:x=u
 ·rw [show (x == u) = true from beq_iff_eq.2 h1]
  by_cases h2:y=v
  ·rw [show (y == v)=true from beq_iff_eq.2 h2];exact (decide_eq_true (by rw [h1,h2])).symm
  ·rw [show (y == v)=false from beq_eq_false_iff_ne.2 h2];exact (decide_eq_false (fun h=>h2 (Prod.mk.inj h).2)).symm
 ·rw [show (x == u) = false from beq_eq_false_iff_ne.2 h1]
  exact (decide_eq_false (fun h=>h1 (Prod.mk.inj h).1)).symm
theorem ziQ {E : List Ed} {n s v : Nat} (hE : EdOk E n) (hs : s < n) {d : zcV} (hd : Inv (E.map edM) (fun v => v = s) d) {x : Int} (hx : d v = some x) :
  ∃ L U,zHO (d v)=(L,U)∧x=L * 1048576+U∧0≤U∧U < 40∧-40000000000≤L∧L≤40000000000:=by
 obtain ⟨c,hc⟩:=zBx hE hs hd hx
 have h1:=zsP hE hc.ch
 have h2:=hc.len
 have h3:=hE.n40
 refine ⟨wt c,c.length,?_,hc.x,by omega,by omega,by omega,by omega⟩
 rw [hx,hc.x]
 exact zrn (by omega) (by omega)
end Go.Proofs
namespace Go.Proofs
open Go Go.Pm
set_option maxRecDepth 100000
set_option linter.unusedVariables false
theorem zHv (a : web) {N s : Nat} (E : List Ed) (hE : EdOk E N) (hn : zbJ E) (hs : s < N) (S2 : Bool → Tab → Tab → Tab) (P2 : Bool → Tab → Tab → Bool) (y : step) (hy : StOk y N) (hm : edS y ∈ E) (S3 : Bool → Tab → Tab → Tab) (P3 : Bool → Tab → Tab → Bool) (c : Bool) (T4 T : Tab) (d : zcV) (h1 : Rp N T d) (hi : Inv (E.map edM) (fun v => v = s) d) :
  ∃ T',zj9 S2 a y S3 c T4 T=S3 (rlF (d,c) (edM (edS y))).2 T4 T'∧zka P2 a y P3 c T4 T=P3 (rlF (d,c) (edM (edS y))).2 T4 T'∧Rp N T' (rlF (d,c) (edM (edS y))).1:=by
 have hN:=hE.n40
 have f0:=hy.f0;have f1:=hy.f1;have t0:=hy.t0;have t1:=hy.t1;have l0:=hy.l0;have l1:=hy.l1
 have hu:=h1 y.from_.toNat (by omega)
 have hv:=h1 y.to.toNat (by omega)
 have e1:0+y.from_.toNat * 2+0=y.from_.toNat * 2:=by omega
 have e2:0+y.to.toNat * 2+0=y.to.toNat * 2:=by omega
 have e3:0+y.from_.toNat * 2+1=y.from_.toNat * 2+1:=by omega
 have hin:=zkT (Src:=fun v=>v=s) (zfx hn) (s:=(d,c)) (e:=edM (edS y)) (List.mem_map_of_mem hm) hi
 have hS:zj9 S2 a y S3 c T4 T=cond (nv (tg 80 T (0+y.from_.toNat * 2+0)) (tg 80 T (0+y.from_.toNat * 2+0+1))) (S3 c T4 T) (cond c (S3 true T4 (ts 80 T (0+y.to.toNat * 2+0) [(zbR (⟨(tg 80 T (0+y.to.toNat * 2+0)),(tg 80 T (0+y.to.toNat * 2+0+1))⟩:far) (⟨1,fun _=>(⟨(w64 ((tg 80 T (0+y.from_.toNat * 2+0))+y.length)),(w64 ((tg 80 T (0+y.from_.toNat * 2+1))+(1:Int)))⟩:far)⟩:(Sl far))).length,(zbR (⟨(tg 80 T (0+y.to.toNat * 2+0)),(tg 80 T (0+y.to.toNat * 2+0+1))⟩:far) (⟨1,fun _=>(⟨(w64 ((tg 80 T (0+y.from_.toNat * 2+0))+y.length)),(w64 ((tg 80 T (0+y.from_.toNat * 2+1))+(1:Int)))⟩:far)⟩:(Sl far))).uses])) (S3 (!(sm (zbR (⟨(tg 80 T (0+y.to.toNat * 2+0)),(tg 80 T (0+y.to.toNat * 2+0+1))⟩:far) (⟨1,fun _=>(⟨(w64 ((tg 80 T (0+y.from_.toNat * 2+0))+y.length)),(w64 ((tg 80 T (0+y.from_.toNat * 2+1))+(1:Int)))⟩:far)⟩:(Sl far))).length (zbR (⟨(tg 80 T (0+y.to.toNat * 2+0)),(tg 80 T (0+y.to.toNat * 2+0+1))⟩:far) (⟨1,fun _=>(⟨(w64 ((tg 80 T (0+y.from_.toNat * 2+0))+y.length)),(w64 ((tg 80 T (0+y.from_.toNat * 2+1))+(1:Int)))⟩:far)⟩:(Sl far))).uses (tg 80 T (0+y.to.toNat * 2+0)) (tg 80 T (0+y.to.toNat * 2+0+1)))) T4 (ts 80 T (0+y.to.toNat * 2+0) [(zbR (⟨(tg 80 T (0+y.to.toNat * 2+0)),(tg 80 T (0+y.to.toNat * 2+0+1))⟩:far) (⟨1,fun _=>(⟨(w64 ((tg 80 T (0+y.from_.toNat * 2+0))+y.length)),(w64 ((tg 80 T (0+y.from_.toNat * 2+1))+(1:Int)))⟩:far)⟩:(Sl far))).length,(zbR (⟨(tg 80 T (0+y.to.toNat * 2+0)),(tg 80 T (0+y.to.toNat * 2+0+1))⟩:far) (⟨1,fun _=>(⟨(w64 ((tg 80 T (0+y.from_.toNat * 2+0))+y.length)),(w64 ((tg 80 T (0+y.from_.toNat * 2+1))+(1:Int)))⟩:far)⟩:(Sl far))).uses]))):=rfl
 have hP:zka P2 a y P3 c T4 T=(decide (0≤y.from_∧y.from_ < (40:Int)) && cond (nv (tg 80 T (0+y.from_.toNat * 2+0)) (tg 80 T (0+y.from_.toNat * 2+0+1))) (P3 c T4 T) (decide (0≤y.to∧y.to < (40:Int)) && (decide (0≤y.from_∧y.from_ < (40:Int)) && (decide (0≤y.from_∧y.from_ < (40:Int)) && (decide (ztL (⟨(tg 80 T (0+y.to.toNat * 2+0)),(tg 80 T (0+y.to.toNat * 2+0+1))⟩:far) (⟨1,fun _=>(⟨(w64 ((tg 80 T (0+y.from_.toNat * 2+0))+y.length)),(w64 ((tg 80 T (0+y.from_.toNat * 2+1))+(1:Int)))⟩:far)⟩:(Sl far))=true) && cond c (decide (0≤y.to∧y.to < (40:Int)) && P3 true T4 (ts 80 T (0+y.to.toNat * 2+0) [(zbR (⟨(tg 80 T (0+y.to.toNat * 2+0)),(tg 80 T (0+y.to.toNat * 2+0+1))⟩:far) (⟨1,fun _=>(⟨(w64 ((tg 80 T (0+y.from_.toNat * 2+0))+y.length)),(w64 ((tg 80 T (0+y.from_.toNat * 2+1))+(1:Int)))⟩:far)⟩:(Sl far))).length,(zbR (⟨(tg 80 T (0+y.to.toNat * 2+0)),(tg 80 T (0+y.to.toNat * 2+0+1))⟩:far) (⟨1,fun _=>(⟨(w64 ((tg 80 T (0+y.from_.toNat * 2+0))+y.length)),(w64 ((tg 80 T (0+y.from_.toNat * 2+1))+(1:Int)))⟩:far)⟩:(Sl far))).uses])) (decide (0≤y.to∧y.to < (40:Int)) && (decide (0≤y.to∧y.to < (40:Int)) && P3 (!(sm (zbR (⟨(tg 80 T (0+y.to.toNat * 2+0)),(tg 80 T (0+y.to.toNat * 2+0+1))⟩:far) (⟨1,fun _=>(⟨(w64 ((tg 80 T (0+y.from_.toNat * 2+0))+y.length)),(w64 ((tg 80 T (0+y.from_.toNat * 2+1))+(1:Int)))⟩:far)⟩:(Sl far))).length (zbR (⟨(tg 80 T (0+y.to.toNat * 2+0)),(tg 80 T (0+y.to.toNat * 2+0+1))⟩:far) (⟨1,fun _=>(⟨(w64 ((tg 80 T (0+y.from_.toNat * 2+0))+y.length)),(w64 ((tg 80 T (0+y.from_.toNat * 2+1))+(1:Int)))⟩:far)⟩:(Sl far))).uses (tg 80 T (0+y.to.toNat * 2+0)) (tg 80 T (0+y.to.toNat * 2+0+1)))) T4 (ts 80 T (0+y.to.toNat * 2+0) [(zbR (⟨(tg 80 T (0+y.to.toNat * 2+0)),(tg 80 T (0+y.to.toNat * 2+0+1))⟩:far) (⟨1,fun _=>(⟨(w64 ((tg 80 T (0+y.from_.toNat * 2+0))+y.length)),(w64 ((tg 80 T (0+y.from_.toNat * 2+1))+(1:Int)))⟩:far)⟩:(Sl far))).length,(zbR (⟨(tg 80 T (0+y.to.toNat * 2+0)),(tg 80 T (0+y.to.toNat * 2+0+1))⟩:far) (⟨1,fun _=>(⟨(w64 ((tg 80 T (0+y.from_.toNat * 2+0))+y.length)),(w64 ((tg 80 T (0+y.from_.toNat * 2+1))+(1:Int)))⟩:far)⟩:(Sl far))).uses])))))))):=rfl
 rw [hS,hP]
 clear hS hP
 rw [e1,e2,e3,zeW (k:=y.from_.toNat * 2) (by omega),zeW (k:=y.from_.toNat * 2+1) (by omega),zeW (k:=y.to.toNat * 2) (by omega),zeW (k:=y.to.toNat * 2+1) (by omega)]
 rw [decide_eq_true (show 0≤y.from_∧y.from_ < (40:Int) by omega),decide_eq_true (show 0≤y.to∧y.to < (40:Int) by omega)]
 simp only [zsQ,same_eq]
 cases hdu:d y.from_.toNat with
 | none =>
  rw [hdu] at hu
  have hr:rlF (d,c) (edM (edS y))=(d,c):=by
   unfold rlF edM edS
   simp only [hdu]
  rw [hr,decide_eq_true (show (T (y.from_.toNat * 2),T (y.from_.toNat * 2+1))=((1000000000000:Int),(0:Int)) from hu)]
  exact ⟨T,rfl,rfl,h1⟩
 | some x =>
  obtain ⟨L,U,k1,k2,k3,k4,k5,k6⟩:=ziQ hE hs hi hdu
  rw [hdu] at hu k1
  rw [k1] at hu
  have hL:T (y.from_.toNat * 2)=L:=(Prod.mk.inj hu).1
  have hU:T (y.from_.toNat * 2+1)=U:=(Prod.mk.inj hu).2
  rw [hL,hU,decide_eq_false (show ¬ (L,U)=((1000000000000:Int),(0:Int)) from fun h=>by have:=(Prod.mk.inj h).1;omega),zcA (x:=L+y.length) (by omega) (by omega),zcA (x:=U+(1:Int)) (by omega) (by omega)]
  rw [(ziP _ _).1,(ziP _ _).2,zyI]
  have hw:x+(edM (edS y)).w=(L+y.length) * 1048576+(U+1):=by
   show x+(y.length * 1048576+1)=_
   omega
  have hr:rlF (d,c) (edM (edS y))=cond (ltO ((L+y.length) * 1048576+(U+1)) (d y.to.toNat)) (zsL d y.to.toNat ((L+y.length) * 1048576+(U+1)),true) (d,c):=by
   rw [← hw]
   unfold rlF edM edS
   simp only [hdu] <;> rfl
  have hlt:decide ((L+y.length < T (y.to.toNat * 2))∨(L+y.length=T (y.to.toNat * 2)∧U+1 < T (y.to.toNat * 2+1)))=ltO ((L+y.length) * 1048576+(U+1)) (d y.to.toNat):=by
   cases hdv:d y.to.toNat with
   | none =>
    rw [hdv] at hv
    have hv1:T (y.to.toNat * 2)=1000000000000:=(Prod.mk.inj hv).1
    rw [hv1]
    exact decide_eq_true (.inl (by omega))
   | some z =>
    obtain ⟨L',U',m1,m2,m3,m4,m5,m6⟩:=ziQ hE hs hi hdv
    rw [hdv] at hv m1
    rw [m1] at hv
    rw [(Prod.mk.inj hv).1,(Prod.mk.inj hv).2,m2]
    exact decide_eq_decide.2 (by omega)
  simp only [hlt]
  rw [hr] at hin ⊢
  have hrw:∀ T'',Rp N T d→T''=ts 80 T (y.to.toNat * 2) [T (y.to.toNat * 2),T (y.to.toNat * 2+1)]→Rp N T'' d:=fun T'' h e v hv'=>by
   rw [e,zdh (by omega),zdh (by omega),← h v hv']
   by_cases hq:v=y.to.toNat
   ·subst hq
    rw [if_neg (by omega),if_pos rfl,if_pos rfl]
   ·rw [if_neg (by omega),if_neg (by omega),if_neg (by omega),if_neg (by omega)]
  cases hlo:ltO ((L+y.length) * 1048576+(U+1)) (d y.to.toNat) with
  | false =>
   refine ⟨ts 80 T (y.to.toNat * 2) [T (y.to.toNat * 2),T (y.to.toNat * 2+1)],?_,?_,hrw _ h1 rfl⟩
   ·simp only [cond_false, decide_true]
    cases c <;> rfl
   ·simp only [cond_false, Bool.true_and, decide_true]
    cases c <;> rfl
  | true =>
   rw [hlo] at hin
   simp only [cond_true,cond_false,Bool.true_and,decide_true] at hin ⊢
   refine ⟨ts 80 T (y.to.toNat * 2) [L+y.length,U+1],?_,?_,?_⟩
   ·cases c
    ·rw [decide_eq_false]
     ·rfl
     ·intro h
      rw [← hlt] at hlo
      have:=of_decide_eq_true hlo
      have h1':=(Prod.mk.inj h).1
      have h2':=(Prod.mk.inj h).2
      omega
    ·rfl
   ·cases c
    ·rw [decide_eq_false]
     ·rfl
     ·intro h
      rw [← hlt] at hlo
      have:=of_decide_eq_true hlo
      have h1':=(Prod.mk.inj h).1
      have h2':=(Prod.mk.inj h).2
      omega
    ·rfl
   ·intro v hv'
    rw [zdh (by omega),zdh (by omega)]
    unfold zsL
    by_cases hq:v=y.to.toNat
    ·subst hq
     rw [if_neg (by omega),if_pos rfl,if_pos rfl,if_pos rfl]
     exact (zrn (by omega) (by omega)).symm
    ·rw [if_neg (by omega), if_neg (by omega), if_neg (by omega), if_neg (by omega), if_neg hq]
     exact h1 v hv'
theorem zHw (a:web) {N s:Nat} (E:List Ed) (hE:EdOk E N) (hn:zbJ E) (hs:s < N) (S2:Bool→Tab→Tab→Tab) (P2:Bool→Tab→Tab→Bool):∀ (l:List step),(∀ y∈l,StOk y N∧edS y∈E)→∀ (c:Bool) (T4 T:Tab) (d:zcV),Rp N T d→Inv (E.map edM) (fun v=>v=s) d →
  ∃ T',zgr S2 a l c T4 T=S2 (((l.map edS).map edM).foldl rlF (d,c)).2 T4 T'∧zgs P2 a l c T4 T=P2 (((l.map edS).map edM).foldl rlF (d,c)).2 T4 T'∧Rp N T' (((l.map edS).map edM).foldl rlF (d,c)).1:=by
 intro l
 induction l with
 | nil=>intro _ c T4 T d h1 _;exact ⟨T,rfl,rfl,h1⟩
 | cons y l ih =>
  intro hl c T4 T d h1 h2
  obtain ⟨hy,hm⟩:=hl y (List.mem_cons_self ..)
  obtain ⟨T',k1,k2,k3⟩:=zHv a E hE hn hs S2 P2 y hy hm (zgr S2 a l) (zgs P2 a l) c T4 T d h1 h2
  have h3:=zkT (Src:=fun v=>v=s) (zfx hn) (s:=(d,c)) (e:=edM (edS y)) (List.mem_map_of_mem hm) h2
  obtain ⟨T'',m1,m2,m3⟩:=ih (fun z hz=>hl z (List.mem_cons_of_mem _ hz)) (rlF (d,c) (edM (edS y))).2 T4 T' (rlF (d,c) (edM (edS y))).1 k3 h3
  exact ⟨T'',Eq.trans k1 m1,Eq.trans k2 m2,m3⟩
theorem zAv (a:web) (hnet:NetOk a.Net) (E:List Ed) (hEe:E=(Ws a).map edS) {s:Nat} (hE:EdOk E a.Net.Nodes.toNat) (hn:zbJ E) (hs:s < a.Net.Nodes.toNat):∀ (m k:Nat) (T4 T:Tab) (d:zcV),Rp a.Net.Nodes.toNat T d→Inv (E.map edM) (fun v=>v=s) d→Fix (E.map edM) (rds (E.map edM) m d)→m+1 < k →
  ∃ T',zdJ a k true T4 T=true∧zdI a k true T4 T=T'∧Rp a.Net.Nodes.toNat T' (rds (E.map edM) m d):=by
 have hlen:=hnet.len
 obtain ⟨q1,q2⟩:=zrr a (by omega)
 have hst:∀ y∈Ws a,StOk y a.Net.Nodes.toNat∧edS y∈E:=fun y hy=>⟨zHt hnet hy,by rw [hEe];exact List.mem_map_of_mem hy⟩
 have one:∀ (k:Nat) (T4 T:Tab) (d:zcV),Rp a.Net.Nodes.toNat T d→Inv (E.map edM) (fun v=>v=s) d →
   ∃ T',zdI a (k+1) true T4 T=zdI a k ((E.map edM).foldl rlF (d,false)).2 T4 T'∧zdJ a (k+1) true T4 T=zdJ a k ((E.map edM).foldl rlF (d,false)).2 T4 T'∧Rp a.Net.Nodes.toNat T' (rnd (E.map edM) d):=by
  intro k T4 T d h1 h2
  obtain ⟨T',k1,k2,k3⟩:=zHw a E hE hn hs (zdI a k) (zdJ a k) (Ws a) hst false T4 T d h1 h2
  rw [← hEe] at k1 k2 k3
  refine ⟨T',?_,?_,k3⟩
  ·show zkb a (zdI a k) true T4 T = _
   unfold zkb zqi
   rw [cond_true,q2];exact k1
  ·show zkc a (zdJ a k) true T4 T = _
   unfold zkc zmL
   rw [cond_true,q1,q2,decide_eq_true rfl,Bool.true_and];exact k2
 have stop:∀ (k:Nat) (T4 T:Tab),zdI a (k+1) false T4 T=T∧zdJ a (k+1) false T4 T=true:=fun k T4 T=>⟨rfl,rfl⟩
 intro m
 induction m with
 | zero =>
  intro k T4 T d h1 h2 h3 hk
  obtain ⟨k,rfl⟩:∃ k',k=k'+1+1:=⟨k - 2,by omega⟩
  obtain ⟨T',k1,k2,k3⟩:=one (k+1) T4 T d h1 h2
  have h3':Fix (E.map edM) d:=h3
  rw [ziO h3'] at k1 k2
  rw [zkS h3'] at k3
  obtain ⟨j1,j2⟩:=stop k T4 T'
  exact ⟨T',k2.trans j2,k1.trans j1,k3⟩
 | succ m ih =>
  intro k T4 T d h1 h2 h3 hk
  obtain ⟨k,rfl⟩:∃ k',k=k'+1+1:=⟨k - 2,by omega⟩
  obtain ⟨T',k1,k2,k3⟩:=one (k+1) T4 T d h1 h2
  cases hf:((E.map edM).foldl rlF (d,false)).2 with
  | false =>
   rw [hf] at k1 k2
   have hx:Fix (E.map edM) d:=zh6 hf
   obtain ⟨j1,j2⟩:=stop k T4 T'
   refine ⟨T',k2.trans j2,k1.trans j1,?_⟩
   rw [zkS hx] at k3
   rw [zyw hx];exact k3
  | true =>
   rw [hf] at k1 k2
   obtain ⟨T'',m1,m2,m3⟩:=ih (k+1) T4 T' (rnd (E.map edM) d) k3 (znc (zfx hn) (fun _ h=>h) (s:=(d,false)) h2) h3 (by omega)
   exact ⟨T'',k2.trans m1,k1.trans m2,m3⟩
theorem zEH (a:web) (node:Int):∀ (m k i:Nat) (T4 T:Tab),(∀ v,v < i→T (v * 2)=1000000000000∧T (v * 2+1)=0)→i+m=40→m < k →
  ∃ T',zeH a node k (i:Int) T4 T=zkd a node T4 T'∧zeI a node k (i:Int) T4 T=zke a node T4 T'∧∀ v,v < 40→T' (v * 2)=1000000000000∧T' (v * 2+1)=0:=by
 intro m
 induction m with
 | zero =>
  intro k i T4 T h hi hk
  obtain ⟨k,rfl⟩:∃ k',k=k'+1:=⟨k - 1,by omega⟩
  refine ⟨T,?_,?_,fun v hv=>h v (by omega)⟩
  ·show zgt a node (zeH a node k) (i : Int) T4 T = _
   unfold zgt
   rw [decide_eq_false (show ¬ (i:Int) < (40:Int) by omega),cond_false]
  ·show zgu a node (zeI a node k) (i : Int) T4 T = _
   unfold zgu
   rw [decide_eq_false (show ¬ (i:Int) < (40:Int) by omega),cond_false]
 | succ m ih =>
  intro k i T4 T h hi hk
  obtain ⟨k,rfl⟩:∃ k',k=k'+1:=⟨k - 1,by omega⟩
  have hw:w64 ((i:Int)+(1:Int))=((i+1:Nat):Int):=by rw [zcA (by omega) (by omega)];omega
  obtain ⟨T',k1,k2,k3⟩:=ih k (i+1) T4 (ts 80 T (i * 2) [(1000000000000:Int),(0:Int)]) (fun v hv=>by
   rw [zdh (by omega),zdh (by omega)]
   by_cases hq:v=i
   ·subst hq
    rw [if_neg (by omega),if_pos rfl,if_pos rfl];exact ⟨rfl,rfl⟩
   ·rw [if_neg (by omega),if_neg (by omega),if_neg (by omega),if_neg (by omega)];exact h v (by omega)) (by omega) (by omega)
  refine ⟨T',?_,?_,k3⟩
  ·rw [← k1]
   show zgt a node (zeH a node k) (i:Int) T4 T=_
   unfold zgt
   rw [decide_eq_true (show (i:Int) < (40:Int) by omega),cond_true,hw,Int.toNat_natCast,show 0+i * 2+0=i * 2 by omega]
  ·rw [← k2]
   show zgu a node (zeI a node k) (i:Int) T4 T=_
   unfold zgu
   rw [decide_eq_true (show (i:Int) < (40:Int) by omega),cond_true,decide_eq_true (show 0≤(i:Int)∧(i:Int) < (40:Int) by omega),Bool.true_and,hw,Int.toNat_natCast,show 0+i * 2+0=i * 2 by omega]
theorem zHx (a : web) (hnet : NetOk a.Net) (hn : zbJ (We a)) (node : Int) (h0 : 0 ≤ node) (h1 : node < a.Net.Nodes) :
  p76 a node=true∧Rp a.Net.Nodes.toNat (s76 a node) (dst (We a) a.Net.Nodes.toNat node.toNat):=by
 have hn40:=hnet.n40
 have hEe:We a=(Ws a).map edS:=rfl
 have hE:EdOk (We a) a.Net.Nodes.toNat:=zAu hnet
 have hN:zbJ (We a):=hn
 have hs:node.toNat < a.Net.Nodes.toNat:=by omega
 obtain ⟨T1,a1,a2,a3⟩:=zEH a node 40 Fuel 0 (fun _=>(0:Int)) (fun _=>(0:Int)) (fun v hv=>absurd hv (Nat.not_lt_zero _)) rfl (by simp only [Fuel];omega)
 have hr:Rp a.Net.Nodes.toNat (ts 80 T1 (node.toNat * 2) [(0:Int),(0:Int)]) (zyz node.toNat):=fun v hv=>by
  rw [zdh (by omega),zdh (by omega)]
  unfold zyz
  by_cases hq:v=node.toNat
  ·subst hq
   rw [if_neg (by omega),if_pos rfl,if_pos rfl,if_pos rfl];rfl
  ·rw [if_neg (by omega),if_neg (by omega),if_neg (by omega),if_neg (by omega),if_neg hq,(a3 v (by omega)).1,(a3 v (by omega)).2];rfl
 obtain ⟨T2,b1,b2,b3⟩:=zAv a hnet (We a) hEe hE hN hs (a.Net.Nodes.toNat - 1) Fuel (fun _=>(0:Int)) (ts 80 T1 (node.toNat * 2) [(0:Int),(0:Int)]) (zyz node.toNat) hr (zhj (zfR node.toNat)) (zro hE hN hs) (by simp only [Fuel];omega)
 have e:0+node.toNat * 2+0=node.toNat * 2:=by omega
 constructor
 ·show zeI a node Fuel 0 (fun _ => (0:Int)) (fun _ => (0:Int)) = true
  refine Eq.trans a2 ?_
  unfold zke zqk
  rw [decide_eq_true (show 0≤node∧node < (40:Int) by omega),Bool.true_and,e];exact b1
 ·have:s76 a node=T2:=by
   show zeH a node Fuel 0 (fun _=>(0:Int)) (fun _=>(0:Int))=T2
   refine Eq.trans a1 ?_
   unfold zkd zqj
   rw [e];exact b2
  rw [this];exact b3
end Go.Proofs
namespace Go.Proofs
open Go Go.Pm
set_option maxRecDepth 100000
set_option linter.unusedVariables false
def edQ (y:step):Ed:=⟨y.to.toNat,y.from_.toNat,y.length⟩
theorem zEI (l:List step):l.map edQ=(l.map edS).map edR:=by rw [List.map_map];rfl

theorem zHy (a : web) {N s : Nat} (E : List Ed) (hE : EdOk E N) (hn : zbJ E) (hs : s < N) (S2 : Bool → Tab → Tab → Tab) (P2 : Bool → Tab → Tab → Bool) (y : step) (hy : StOk y N) (hm : edQ y ∈ E) (S3 : Bool → Tab → Tab → Tab) (P3 : Bool → Tab → Tab → Bool) (c : Bool) (T4 T : Tab) (d : zcV) (h1 : Rp N T d) (hi : Inv (E.map edM) (fun v => v = s) d) :
  ∃ T',zjZ S2 a y S3 c T4 T=S3 (rlF (d,c) (edM (edQ y))).2 T4 T'∧zj0 P2 a y P3 c T4 T=P3 (rlF (d,c) (edM (edQ y))).2 T4 T'∧Rp N T' (rlF (d,c) (edM (edQ y))).1:=by
 have hN:=hE.n40
 have f0:=hy.f0;have f1:=hy.f1;have t0:=hy.t0;have t1:=hy.t1;have l0:=hy.l0;have l1:=hy.l1
 have hu:=h1 y.to.toNat (by omega)
 have hv:=h1 y.from_.toNat (by omega)
 have e1:0+y.to.toNat * 2+0=y.to.toNat * 2:=by omega
 have e2:0+y.from_.toNat * 2+0=y.from_.toNat * 2:=by omega
 have e3:0+y.to.toNat * 2+1=y.to.toNat * 2+1:=by omega
 have hin:=zkT (Src:=fun v=>v=s) (zfx hn) (s:=(d,c)) (e:=edM (edQ y)) (List.mem_map_of_mem hm) hi
 have hS:zjZ S2 a y S3 c T4 T=cond (nv (tg 80 T (0+y.to.toNat * 2+0)) (tg 80 T (0+y.to.toNat * 2+0+1))) (S3 c T4 T) (cond c (S3 true T4 (ts 80 T (0+y.from_.toNat * 2+0) [(zbR (⟨(tg 80 T (0+y.from_.toNat * 2+0)),(tg 80 T (0+y.from_.toNat * 2+0+1))⟩:far) (⟨1,fun _=>(⟨(w64 ((tg 80 T (0+y.to.toNat * 2+0))+y.length)),(w64 ((tg 80 T (0+y.to.toNat * 2+1))+(1:Int)))⟩:far)⟩:(Sl far))).length,(zbR (⟨(tg 80 T (0+y.from_.toNat * 2+0)),(tg 80 T (0+y.from_.toNat * 2+0+1))⟩:far) (⟨1,fun _=>(⟨(w64 ((tg 80 T (0+y.to.toNat * 2+0))+y.length)),(w64 ((tg 80 T (0+y.to.toNat * 2+1))+(1:Int)))⟩:far)⟩:(Sl far))).uses])) (S3 (!(sm (zbR (⟨(tg 80 T (0+y.from_.toNat * 2+0)),(tg 80 T (0+y.from_.toNat * 2+0+1))⟩:far) (⟨1,fun _=>(⟨(w64 ((tg 80 T (0+y.to.toNat * 2+0))+y.length)),(w64 ((tg 80 T (0+y.to.toNat * 2+1))+(1:Int)))⟩:far)⟩:(Sl far))).length (zbR (⟨(tg 80 T (0+y.from_.toNat * 2+0)),(tg 80 T (0+y.from_.toNat * 2+0+1))⟩:far) (⟨1,fun _=>(⟨(w64 ((tg 80 T (0+y.to.toNat * 2+0))+y.length)),(w64 ((tg 80 T (0+y.to.toNat * 2+1))+(1:Int)))⟩:far)⟩:(Sl far))).uses (tg 80 T (0+y.from_.toNat * 2+0)) (tg 80 T (0+y.from_.toNat * 2+0+1)))) T4 (ts 80 T (0+y.from_.toNat * 2+0) [(zbR (⟨(tg 80 T (0+y.from_.toNat * 2+0)),(tg 80 T (0+y.from_.toNat * 2+0+1))⟩:far) (⟨1,fun _=>(⟨(w64 ((tg 80 T (0+y.to.toNat * 2+0))+y.length)),(w64 ((tg 80 T (0+y.to.toNat * 2+1))+(1:Int)))⟩:far)⟩:(Sl far))).length,(zbR (⟨(tg 80 T (0+y.from_.toNat * 2+0)),(tg 80 T (0+y.from_.toNat * 2+0+1))⟩:far) (⟨1,fun _=>(⟨(w64 ((tg 80 T (0+y.to.toNat * 2+0))+y.length)),(w64 ((tg 80 T (0+y.to.toNat * 2+1))+(1:Int)))⟩:far)⟩:(Sl far))).uses]))):=rfl
 have hP:zj0 P2 a y P3 c T4 T=(decide (0≤y.to∧y.to < (40:Int)) && cond (nv (tg 80 T (0+y.to.toNat * 2+0)) (tg 80 T (0+y.to.toNat * 2+0+1))) (P3 c T4 T) (decide (0≤y.from_∧y.from_ < (40:Int)) && (decide (0≤y.to∧y.to < (40:Int)) && (decide (0≤y.to∧y.to < (40:Int)) && (decide (ztL (⟨(tg 80 T (0+y.from_.toNat * 2+0)),(tg 80 T (0+y.from_.toNat * 2+0+1))⟩:far) (⟨1,fun _=>(⟨(w64 ((tg 80 T (0+y.to.toNat * 2+0))+y.length)),(w64 ((tg 80 T (0+y.to.toNat * 2+1))+(1:Int)))⟩:far)⟩:(Sl far))=true) && cond c (decide (0≤y.from_∧y.from_ < (40:Int)) && P3 true T4 (ts 80 T (0+y.from_.toNat * 2+0) [(zbR (⟨(tg 80 T (0+y.from_.toNat * 2+0)),(tg 80 T (0+y.from_.toNat * 2+0+1))⟩:far) (⟨1,fun _=>(⟨(w64 ((tg 80 T (0+y.to.toNat * 2+0))+y.length)),(w64 ((tg 80 T (0+y.to.toNat * 2+1))+(1:Int)))⟩:far)⟩:(Sl far))).length,(zbR (⟨(tg 80 T (0+y.from_.toNat * 2+0)),(tg 80 T (0+y.from_.toNat * 2+0+1))⟩:far) (⟨1,fun _=>(⟨(w64 ((tg 80 T (0+y.to.toNat * 2+0))+y.length)),(w64 ((tg 80 T (0+y.to.toNat * 2+1))+(1:Int)))⟩:far)⟩:(Sl far))).uses])) (decide (0≤y.from_∧y.from_ < (40:Int)) && (decide (0≤y.from_∧y.from_ < (40:Int)) && P3 (!(sm (zbR (⟨(tg 80 T (0+y.from_.toNat * 2+0)),(tg 80 T (0+y.from_.toNat * 2+0+1))⟩:far) (⟨1,fun _=>(⟨(w64 ((tg 80 T (0+y.to.toNat * 2+0))+y.length)),(w64 ((tg 80 T (0+y.to.toNat * 2+1))+(1:Int)))⟩:far)⟩:(Sl far))).length (zbR (⟨(tg 80 T (0+y.from_.toNat * 2+0)),(tg 80 T (0+y.from_.toNat * 2+0+1))⟩:far) (⟨1,fun _=>(⟨(w64 ((tg 80 T (0+y.to.toNat * 2+0))+y.length)),(w64 ((tg 80 T (0+y.to.toNat * 2+1))+(1:Int)))⟩:far)⟩:(Sl far))).uses (tg 80 T (0+y.from_.toNat * 2+0)) (tg 80 T (0+y.from_.toNat * 2+0+1)))) T4 (ts 80 T (0+y.from_.toNat * 2+0) [(zbR (⟨(tg 80 T (0+y.from_.toNat * 2+0)),(tg 80 T (0+y.from_.toNat * 2+0+1))⟩:far) (⟨1,fun _=>(⟨(w64 ((tg 80 T (0+y.to.toNat * 2+0))+y.length)),(w64 ((tg 80 T (0+y.to.toNat * 2+1))+(1:Int)))⟩:far)⟩:(Sl far))).length,(zbR (⟨(tg 80 T (0+y.from_.toNat * 2+0)),(tg 80 T (0+y.from_.toNat * 2+0+1))⟩:far) (⟨1,fun _=>(⟨(w64 ((tg 80 T (0+y.to.toNat * 2+0))+y.length)),(w64 ((tg 80 T (0+y.to.toNat * 2+1))+(1:Int)))⟩:far)⟩:(Sl far))).uses])))))))):=rfl
 rw [hS,hP]
 clear hS hP
 rw [e1,e2,e3,zeW (k:=y.to.toNat * 2) (by omega),zeW (k:=y.to.toNat * 2+1) (by omega),zeW (k:=y.from_.toNat * 2) (by omega),zeW (k:=y.from_.toNat * 2+1) (by omega)]
 rw [decide_eq_true (show 0≤y.to∧y.to < (40:Int) by omega),decide_eq_true (show 0≤y.from_∧y.from_ < (40:Int) by omega)]
 simp only [zsQ,same_eq]
 cases hdu:d y.to.toNat with
 | none =>
  rw [hdu] at hu
  have hr:rlF (d,c) (edM (edQ y))=(d,c):=by
   unfold rlF edM edQ
   simp only [hdu]
  rw [hr,decide_eq_true (show (T (y.to.toNat * 2),T (y.to.toNat * 2+1))=((1000000000000:Int),(0:Int)) from hu)]
  exact ⟨T,rfl,rfl,h1⟩
 | some x =>
  obtain ⟨L,U,k1,k2,k3,k4,k5,k6⟩:=ziQ hE hs hi hdu
  rw [hdu] at hu k1
  rw [k1] at hu
  have hL:T (y.to.toNat * 2)=L:=(Prod.mk.inj hu).1
  have hU:T (y.to.toNat * 2+1)=U:=(Prod.mk.inj hu).2
  rw [hL,hU,decide_eq_false (show ¬ (L,U)=((1000000000000:Int),(0:Int)) from fun h=>by have:=(Prod.mk.inj h).1;omega),zcA (x:=L+y.length) (by omega) (by omega),zcA (x:=U+(1:Int)) (by omega) (by omega)]
  rw [(ziP _ _).1,(ziP _ _).2,zyI]
  have hw:x+(edM (edQ y)).w=(L+y.length) * 1048576+(U+1):=by
   show x+(y.length * 1048576+1)=_
   omega
  have hr:rlF (d,c) (edM (edQ y))=cond (ltO ((L+y.length) * 1048576+(U+1)) (d y.from_.toNat)) (zsL d y.from_.toNat ((L+y.length) * 1048576+(U+1)),true) (d,c):=by
   rw [← hw]
   unfold rlF edM edQ
   simp only [hdu] <;> rfl
  have hlt:decide ((L+y.length < T (y.from_.toNat * 2))∨(L+y.length=T (y.from_.toNat * 2)∧U+1 < T (y.from_.toNat * 2+1)))=ltO ((L+y.length) * 1048576+(U+1)) (d y.from_.toNat):=by
   cases hdv:d y.from_.toNat with
   | none =>
    rw [hdv] at hv
    have hv1:T (y.from_.toNat * 2)=1000000000000:=(Prod.mk.inj hv).1
    rw [hv1]
    exact decide_eq_true (.inl (by omega))
   | some z =>
    obtain ⟨L',U',m1,m2,m3,m4,m5,m6⟩:=ziQ hE hs hi hdv
    rw [hdv] at hv m1
    rw [m1] at hv
    rw [(Prod.mk.inj hv).1,(Prod.mk.inj hv).2,m2]
    exact decide_eq_decide.2 (by omega)
  simp only [hlt]
  rw [hr] at hin ⊢
  have hrw:∀ T'',Rp N T d→T''=ts 80 T (y.from_.toNat * 2) [T (y.from_.toNat * 2),T (y.from_.toNat * 2+1)]→Rp N T'' d:=fun T'' h e v hv'=>by
   rw [e,zdh (by omega),zdh (by omega),← h v hv']
   by_cases hq:v=y.from_.toNat
   ·subst hq
    rw [if_neg (by omega),if_pos rfl,if_pos rfl]
   ·rw [if_neg (by omega),if_neg (by omega),if_neg (by omega),if_neg (by omega)]
  cases hlo:ltO ((L+y.length) * 1048576+(U+1)) (d y.from_.toNat) with
  | false =>
   refine ⟨ts 80 T (y.from_.toNat * 2) [T (y.from_.toNat * 2),T (y.from_.toNat * 2+1)],?_,?_,hrw _ h1 rfl⟩
   ·simp only [cond_false, decide_true]
    cases c <;> rfl
   ·simp only [cond_false, Bool.true_and, decide_true]
    cases c <;> rfl
  | true =>
   rw [hlo] at hin
   simp only [cond_true,cond_false,Bool.true_and,decide_true] at hin ⊢
   refine ⟨ts 80 T (y.from_.toNat * 2) [L+y.length,U+1],?_,?_,?_⟩
   ·cases c
    ·rw [decide_eq_false]
     ·rfl
     ·intro h
      rw [← hlt] at hlo
      have:=of_decide_eq_true hlo
      have h1':=(Prod.mk.inj h).1
      have h2':=(Prod.mk.inj h).2
      omega
    ·rfl
   ·cases c
    ·rw [decide_eq_false]
     ·rfl
     ·intro h
      rw [← hlt] at hlo
      have:=of_decide_eq_true hlo
      have h1':=(Prod.mk.inj h).1
      have h2':=(Prod.mk.inj h).2
      omega
    ·rfl
   ·intro v hv'
    rw [zdh (by omega),zdh (by omega)]
    unfold zsL
    by_cases hq:v=y.from_.toNat
    ·subst hq
     rw [if_neg (by omega),if_pos rfl,if_pos rfl,if_pos rfl]
     exact (zrn (by omega) (by omega)).symm
    ·rw [if_neg (by omega), if_neg (by omega), if_neg (by omega), if_neg (by omega), if_neg hq]
     exact h1 v hv'
theorem zHz (a:web) {N s:Nat} (E:List Ed) (hE:EdOk E N) (hn:zbJ E) (hs:s < N) (S2:Bool→Tab→Tab→Tab) (P2:Bool→Tab→Tab→Bool):∀ (l:List step),(∀ y∈l,StOk y N∧edQ y∈E)→∀ (c:Bool) (T4 T:Tab) (d:zcV),Rp N T d→Inv (E.map edM) (fun v=>v=s) d →
  ∃ T',zgn S2 a l c T4 T=S2 (((l.map edQ).map edM).foldl rlF (d,c)).2 T4 T'∧zgo P2 a l c T4 T=P2 (((l.map edQ).map edM).foldl rlF (d,c)).2 T4 T'∧Rp N T' (((l.map edQ).map edM).foldl rlF (d,c)).1:=by
 intro l
 induction l with
 | nil=>intro _ c T4 T d h1 _;exact ⟨T,rfl,rfl,h1⟩
 | cons y l ih =>
  intro hl c T4 T d h1 h2
  obtain ⟨hy,hm⟩:=hl y (List.mem_cons_self ..)
  obtain ⟨T',k1,k2,k3⟩:=zHy a E hE hn hs S2 P2 y hy hm (zgn S2 a l) (zgo P2 a l) c T4 T d h1 h2
  have h3:=zkT (Src:=fun v=>v=s) (zfx hn) (s:=(d,c)) (e:=edM (edQ y)) (List.mem_map_of_mem hm) h2
  obtain ⟨T'',m1,m2,m3⟩:=ih (fun z hz=>hl z (List.mem_cons_of_mem _ hz)) (rlF (d,c) (edM (edQ y))).2 T4 T' (rlF (d,c) (edM (edQ y))).1 k3 h3
  exact ⟨T'',Eq.trans k1 m1,Eq.trans k2 m2,m3⟩
theorem zAw (a:web) (hnet:NetOk a.Net) (E:List Ed) (hEe:E=(Ws a).map edQ) {s:Nat} (hE:EdOk E a.Net.Nodes.toNat) (hn:zbJ E) (hs:s < a.Net.Nodes.toNat):∀ (m k:Nat) (T4 T:Tab) (d:zcV),Rp a.Net.Nodes.toNat T d→Inv (E.map edM) (fun v=>v=s) d→Fix (E.map edM) (rds (E.map edM) m d)→m+1 < k →
  ∃ T',zdH a k true T4 T=true∧zdG a k true T4 T=T'∧Rp a.Net.Nodes.toNat T' (rds (E.map edM) m d):=by
 have hlen:=hnet.len
 obtain ⟨q1,q2⟩:=zrr a (by omega)
 have hst:∀ y∈Ws a,StOk y a.Net.Nodes.toNat∧edQ y∈E:=fun y hy=>⟨zHt hnet hy,by rw [hEe];exact List.mem_map_of_mem hy⟩
 have one:∀ (k:Nat) (T4 T:Tab) (d:zcV),Rp a.Net.Nodes.toNat T d→Inv (E.map edM) (fun v=>v=s) d →
   ∃ T',zdG a (k+1) true T4 T=zdG a k ((E.map edM).foldl rlF (d,false)).2 T4 T'∧zdH a (k+1) true T4 T=zdH a k ((E.map edM).foldl rlF (d,false)).2 T4 T'∧Rp a.Net.Nodes.toNat T' (rnd (E.map edM) d):=by
  intro k T4 T d h1 h2
  obtain ⟨T',k1,k2,k3⟩:=zHz a E hE hn hs (zdG a k) (zdH a k) (Ws a) hst false T4 T d h1 h2
  rw [← hEe] at k1 k2 k3
  refine ⟨T',?_,?_,k3⟩
  ·show zj1 a (zdG a k) true T4 T = _
   unfold zj1 zp9
   rw [cond_true,q2];exact k1
  ·show zj2 a (zdH a k) true T4 T = _
   unfold zj2 zmJ
   rw [cond_true,q1,q2,decide_eq_true rfl,Bool.true_and];exact k2
 have stop:∀ (k:Nat) (T4 T:Tab),zdG a (k+1) false T4 T=T∧zdH a (k+1) false T4 T=true:=fun k T4 T=>⟨rfl,rfl⟩
 intro m
 induction m with
 | zero =>
  intro k T4 T d h1 h2 h3 hk
  obtain ⟨k,rfl⟩:∃ k',k=k'+1+1:=⟨k - 2,by omega⟩
  obtain ⟨T',k1,k2,k3⟩:=one (k+1) T4 T d h1 h2
  have h3':Fix (E.map edM) d:=h3
  rw [ziO h3'] at k1 k2
  rw [zkS h3'] at k3
  obtain ⟨j1,j2⟩:=stop k T4 T'
  exact ⟨T',k2.trans j2,k1.trans j1,k3⟩
 | succ m ih =>
  intro k T4 T d h1 h2 h3 hk
  obtain ⟨k,rfl⟩:∃ k',k=k'+1+1:=⟨k - 2,by omega⟩
  obtain ⟨T',k1,k2,k3⟩:=one (k+1) T4 T d h1 h2
  cases hf:((E.map edM).foldl rlF (d,false)).2 with
  | false =>
   rw [hf] at k1 k2
   have hx:Fix (E.map edM) d:=zh6 hf
   obtain ⟨j1,j2⟩:=stop k T4 T'
   refine ⟨T',k2.trans j2,k1.trans j1,?_⟩
   rw [zkS hx] at k3
   rw [zyw hx];exact k3
  | true =>
   rw [hf] at k1 k2
   obtain ⟨T'',m1,m2,m3⟩:=ih (k+1) T4 T' (rnd (E.map edM) d) k3 (znc (zfx hn) (fun _ h=>h) (s:=(d,false)) h2) h3 (by omega)
   exact ⟨T'',k2.trans m1,k1.trans m2,m3⟩
theorem zEJ (a:web) (node:Int):∀ (m k i:Nat) (T4 T:Tab),(∀ v,v < i→T (v * 2)=1000000000000∧T (v * 2+1)=0)→i+m=40→m < k →
  ∃ T',zeF a node k (i:Int) T4 T=zj3 a node T4 T'∧zeG a node k (i:Int) T4 T=zj4 a node T4 T'∧∀ v,v < 40→T' (v * 2)=1000000000000∧T' (v * 2+1)=0:=by
 intro m
 induction m with
 | zero =>
  intro k i T4 T h hi hk
  obtain ⟨k,rfl⟩:∃ k',k=k'+1:=⟨k - 1,by omega⟩
  refine ⟨T,?_,?_,fun v hv=>h v (by omega)⟩
  ·show zgp a node (zeF a node k) (i : Int) T4 T = _
   unfold zgp
   rw [decide_eq_false (show ¬ (i:Int) < (40:Int) by omega),cond_false]
  ·show zgq a node (zeG a node k) (i : Int) T4 T = _
   unfold zgq
   rw [decide_eq_false (show ¬ (i:Int) < (40:Int) by omega),cond_false]
 | succ m ih =>
  intro k i T4 T h hi hk
  obtain ⟨k,rfl⟩:∃ k',k=k'+1:=⟨k - 1,by omega⟩
  have hw:w64 ((i:Int)+(1:Int))=((i+1:Nat):Int):=by rw [zcA (by omega) (by omega)];omega
  obtain ⟨T',k1,k2,k3⟩:=ih k (i+1) T4 (ts 80 T (i * 2) [(1000000000000:Int),(0:Int)]) (fun v hv=>by
   rw [zdh (by omega),zdh (by omega)]
   by_cases hq:v=i
   ·subst hq
    rw [if_neg (by omega),if_pos rfl,if_pos rfl];exact ⟨rfl,rfl⟩
   ·rw [if_neg (by omega),if_neg (by omega),if_neg (by omega),if_neg (by omega)];exact h v (by omega)) (by omega) (by omega)
  refine ⟨T',?_,?_,k3⟩
  ·rw [← k1]
   show zgp a node (zeF a node k) (i:Int) T4 T=_
   unfold zgp
   rw [decide_eq_true (show (i:Int) < (40:Int) by omega),cond_true,hw,Int.toNat_natCast,show 0+i * 2+0=i * 2 by omega]
  ·rw [← k2]
   show zgq a node (zeG a node k) (i:Int) T4 T=_
   unfold zgq
   rw [decide_eq_true (show (i:Int) < (40:Int) by omega),cond_true,decide_eq_true (show 0≤(i:Int)∧(i:Int) < (40:Int) by omega),Bool.true_and,hw,Int.toNat_natCast,show 0+i * 2+0=i * 2 by omega]
theorem zHA (a : web) (hnet : NetOk a.Net) (hn : zbJ (We a)) (node : Int) (h0 : 0 ≤ node) (h1 : node < a.Net.Nodes) :
  p75 a node=true∧Rp a.Net.Nodes.toNat (s75 a node) (dst ((We a).map edR) a.Net.Nodes.toNat node.toNat):=by
 have hn40:=hnet.n40
 have hEe:((We a).map edR)=(Ws a).map edQ:=(zEI (Ws a)).symm
 have hE:EdOk ((We a).map edR) a.Net.Nodes.toNat:=(zAu hnet).R
 have hN:zbJ ((We a).map edR):=zh7 hn
 have hs:node.toNat < a.Net.Nodes.toNat:=by omega
 obtain ⟨T1,a1,a2,a3⟩:=zEJ a node 40 Fuel 0 (fun _=>(0:Int)) (fun _=>(0:Int)) (fun v hv=>absurd hv (Nat.not_lt_zero _)) rfl (by simp only [Fuel];omega)
 have hr:Rp a.Net.Nodes.toNat (ts 80 T1 (node.toNat * 2) [(0:Int),(0:Int)]) (zyz node.toNat):=fun v hv=>by
  rw [zdh (by omega),zdh (by omega)]
  unfold zyz
  by_cases hq:v=node.toNat
  ·subst hq
   rw [if_neg (by omega),if_pos rfl,if_pos rfl,if_pos rfl];rfl
  ·rw [if_neg (by omega),if_neg (by omega),if_neg (by omega),if_neg (by omega),if_neg hq,(a3 v (by omega)).1,(a3 v (by omega)).2];rfl
 obtain ⟨T2,b1,b2,b3⟩:=zAw a hnet ((We a).map edR) hEe hE hN hs (a.Net.Nodes.toNat - 1) Fuel (fun _=>(0:Int)) (ts 80 T1 (node.toNat * 2) [(0:Int),(0:Int)]) (zyz node.toNat) hr (zhj (zfR node.toNat)) (zro hE hN hs) (by simp only [Fuel];omega)
 have e:0+node.toNat * 2+0=node.toNat * 2:=by omega
 constructor
 ·show zeG a node Fuel 0 (fun _ => (0:Int)) (fun _ => (0:Int)) = true
  refine Eq.trans a2 ?_
  unfold zj4 zqb
  rw [decide_eq_true (show 0≤node∧node < (40:Int) by omega),Bool.true_and,e];exact b1
 ·have:s75 a node=T2:=by
   show zeF a node Fuel 0 (fun _=>(0:Int)) (fun _=>(0:Int))=T2
   refine Eq.trans a1 ?_
   unfold zj3 zqa
   rw [e];exact b2
  rw [this];exact b3
end Go.Proofs
namespace Go.Proofs
open Go Go.Pm
set_option maxRecDepth 100000
set_option linter.unusedVariables false
attribute [local irreducible] Go.Pm.vcFun Go.Pm.vc Go.Pm.vcIter
section
variable {K:List PA→Prop} {n:Net} {from_a1:Int} {to:Int}
end
end Go.Proofs
namespace Go.Proofs
open Go Go.Pm
set_option maxRecDepth 100000
set_option linter.unusedVariables false
def W (n:Net):web:=⟨n,⟨0,fun _=>none⟩⟩
abbrev En (n:Net):List Ed:=We (W n)
def fr (n:Net) (i j:Nat):Int:=zyB (dst (En n) n.Nodes.toNat i j)
theorem zBz {E:List Ed} {n s v:Nat} (hE:EdOk E n) (hn:zbJ E) (hs:s < n) (hv:v < n):zyB (dst (E.map edR) n s v)=zyB (dst E n v s):=by
 refine Int.le_antisymm ?_ ?_
 ·rcases zcW (v := s) hE hn hv with ⟨_, h⟩ | ⟨c, _, h1, h2, _⟩
  ·rw [h]
   rcases zcW (v:=v) hE.R (zh7 hn) hs with ⟨_,h⟩ | ⟨c,_,_,h2,_,_,_⟩ <;> omega
  ·rw [h2,← zJz c];exact zrp hE.R (zh7 hn) hs (zJA h1)
 ·rcases zcW (v := v) hE.R (zh7 hn) hs with ⟨_, h⟩ | ⟨c, _, h1, h2, _⟩
  ·rw [h]
   rcases zcW (v:=s) hE hn hv with ⟨_,h⟩ | ⟨c,_,_,h2,_,_,_⟩ <;> omega
  ·obtain ⟨c0, k1, k2, _⟩ := zHs h1
   rw [h2,← k2];exact zrp hE hn hv k1
theorem ziR {n:Net} (hn:NetOk n) (hN:zbJ (En n)) {i j:Nat} (hi:i < n.Nodes.toNat) : -1000000000000≤fr n i j∧fr n i j≤1000000000000:=by
 have hE:EdOk (En n) n.Nodes.toNat:=zAu (a:=W n) hn
 unfold fr
 rcases zcW (v:=j) hE hN hi with ⟨_,h⟩ | ⟨c,_,_,h2,_,h3,h4⟩
 ·rw [h];omega
 ·rw [h2];omega
theorem zsR (n:Net) (nodes:Sl Int) (hl:nodes.len≤1000) (ht:n.Ties.len≤210):p74 n nodes=true ∧
    (s67 n=false→s74 n nodes=(default,2)) ∧
    (NetOk n→(¬ ∀ i,i < nodes.len→0≤nodes.get i∧nodes.get i < n.Nodes)→s74 n nodes=(default,2)) ∧
    (NetOk n→(∀ i,i < nodes.len→0≤nodes.get i∧nodes.get i < n.Nodes)→¬ zbJ (En n)→s74 n nodes=(default,5)) ∧
    (NetOk n→(∀ i,i < nodes.len→0≤nodes.get i∧nodes.get i < n.Nodes)→zbJ (En n)→s74 n nodes=(W n,0)):=by
  obtain ⟨a1,a2⟩:=zrm n (by omega)
  unfold p74 s74
  rw [a1,decide_eq_true (show true=true from rfl),Bool.true_and]
  by_cases hs:s67 n=true
  · have hn := a2.1 hs
    have hn1:=hn.n1;have hn40:=hn.n40
    obtain ⟨t1,_⟩:=zyG (W n) hn
    rw [hs]
    have hg:∀ i,i < nodes.len→(s81 (nodes.get i) (0:Int) (w64 (n.Nodes - (1:Int)))=true↔0≤nodes.get i∧nodes.get i < n.Nodes):=fun i _=>by
      rw [zoV,decide_eq_true_eq,zcA (by omega) (by omega)];omega
    have hloop := zEB (good := fun i => s81 (nodes.get i) (0:Int) (w64 (n.Nodes - (1:Int)))) (bad := ((default : web), (2:Int))) (fin := zpS n (s88 (W n))) (finP := true) (n := nodes.len) (lpS := zhH n nodes) (lpP := zhI n nodes)
      (fun k i hi=>by
        show zhF n nodes (zhH n nodes k) (i:Int)=_
        generalize zhH n nodes k=S
        unfold zhF zpT
        rw [decide_eq_true (show (i:Int) < (nodes.len:Int) by omega),cond_true,Int.toNat_natCast]
        cases s81 (nodes.get i) (0:Int) (w64 (n.Nodes - (1:Int))) <;> rfl)
      (fun k=>by
        show zhF n nodes (zhH n nodes k) (nodes.len:Int)=_
        unfold zhF
        rw [decide_eq_false (show ¬ (nodes.len:Int) < (nodes.len:Int) by omega),cond_false];rfl)
      (fun k i hi=>by
        show zhG n nodes (zhI n nodes k) (i:Int)=_
        generalize zhI n nodes k=S
        unfold zhG zpU
        rw [decide_eq_true (show (i:Int) < (nodes.len:Int) by omega),cond_true,Int.toNat_natCast,decide_eq_true (show 0≤(i:Int)∧(i:Int) < (nodes.len:Int) by omega),Bool.true_and]
        cases s81 (nodes.get i) (0:Int) (w64 (n.Nodes - (1:Int))) <;> rfl)
      (fun k=>by
        show zhG n nodes (zhI n nodes k) (nodes.len:Int)=_
        unfold zhG
        rw [decide_eq_false (show ¬ (nodes.len:Int) < (nodes.len:Int) by omega),cond_false,show p88 (⟨n,(⟨0,(fun _=>none)⟩:Mp)⟩:web)=true from t1];rfl)
      (by omega)
    unfold zp0 zpZ zpY zpX zpW zpV
    by_cases hr:∀ i,i < nodes.len→0≤nodes.get i∧nodes.get i < n.Nodes
    · obtain ⟨l1, l2⟩ := hloop.1 (fun i hi => (hg i hi).2 (hr i hi))
      rw [l1,l2]
      refine ⟨rfl,fun h=>(by cases h),fun _ h=>absurd hr h,fun _ _ h=>?_,fun _ _ h=>?_⟩
      · have:s88 (W n)=true:=by
          cases ht:s88 (W n)
          · exact absurd ((zyH (W n) hn).1 ht) h
          · rfl
        rw [this];rfl
      · rw [(zyH (W n) hn).2 h];rfl
    · obtain ⟨l1, l2⟩ := hloop.2 (fun h => hr fun i hi => (hg i hi).1 (h i hi))
      rw [l1,l2]
      exact ⟨rfl,fun h=>(by cases h),fun _ _=>rfl,fun _ h=>absurd h hr,fun _ h=>absurd h hr⟩
  · rw [Bool.eq_false_iff.2 hs]
    have hno:NetOk n→False:=fun h=>hs (a2.2 h)
    exact ⟨rfl,fun _=>rfl,fun h=>(hno h).elim,fun h=>(hno h).elim,fun h=>(hno h).elim⟩
theorem zgz {n:Net} (ht:n.Ties.len≤210) (hn:NetOk n) (h : ¬ zbJ (En n)):p26 n=true∧s26 n=((⟨0,fun _=>default⟩:Sl Span),(5:Int)):=by
 obtain ⟨w0,_,_,w3,_⟩:=zsR n (⟨0,fun _=>default⟩:Sl Int) (by decide) ht
 unfold p26 s26
 rw [w0,w3 hn (fun i hi=>absurd hi (Nat.not_lt_zero _)) h]
 exact ⟨rfl,rfl⟩
theorem zI3 {n:Net} (hn:NetOk n) (hN:zbJ (En n)) {i:Int} (h0:0≤i) (h1:i < n.Nodes) {j:Nat} (hj:j < n.Nodes.toNat):p75 (W n) i=true∧s75 (W n) i (j * 2)=fr n j i.toNat:=by
 have h40:=hn.n40
 obtain ⟨a,b⟩:=zHA (W n) hn hN i h0 h1
 refine ⟨a,?_⟩
 have:=(Prod.mk.inj (b j hj)).1
 rw [this]
 exact zBz (zAu (a:=W n) hn) hN (show i.toNat < n.Nodes.toNat by omega) hj
theorem zEK {n:Net} (hn:NetOk n) (hN:zbJ (En n)) {i:Int} (h0:0≤i) (h1:i < n.Nodes) {j:Nat} (hj:j < n.Nodes.toNat):p76 (W n) i=true∧s76 (W n) i (j * 2)=fr n i.toNat j:=by
 obtain ⟨a,b⟩:=zHx (W n) hn hN i h0 h1
 exact ⟨a,(Prod.mk.inj (b j hj)).1⟩
theorem zEL {α:Type} (i:Nat) (v:α) (g:Nat→α) (j:Nat):setT i v g j=if j=i then v else g j:=by
 show (match Nat.beq j i with | true=>v | false=>g j)=_
 by_cases h:j=i
 ·rw [if_pos h,show Nat.beq j i=true from by rw [h];exact Nat.beq_refl _]
 ·rw [if_neg h,show Nat.beq j i=false from Bool.eq_false_iff.2 fun e=>h (Nat.eq_of_beq_eq_true e)]
def zBA (n:Net) (i:Nat) (v:Sl Span):Sl Span:=⟨v.len,setT i (⟨-fr n i 0,fr n 0 i⟩:Span) v.get⟩
theorem zEM (n:Net):∀ (m i:Nat) (v:Sl Span),(∀ j,j < i→v.get j=⟨-fr n j 0,fr n 0 j⟩)→(zkR (zBA n) m i v).len=v.len∧∀ j,j < i+m→(zkR (zBA n) m i v).get j=⟨-fr n j 0,fr n 0 j⟩:=by
 intro m
 induction m with
 | zero=>intro i v h;exact ⟨rfl,fun j hj=>h j (by omega)⟩
 | succ m ih =>
  intro i v h
  obtain ⟨k1,k2⟩:=ih (i+1) (zBA n i v) (fun j hj=>by
   show setT i _ v.get j=_
   rw [zEL]
   by_cases hji:j=i
   ·rw [if_pos hji,hji]
   ·rw [if_neg hji];exact h j (by omega))
  exact ⟨k1,fun j hj=>k2 j (by omega)⟩
theorem zkV {n:Net} (ht:n.Ties.len≤210) (hn:NetOk n) (hN:zbJ (En n)):p26 n=true∧∃ l,s26 n=(l,0)∧l.len=n.Nodes.toNat∧∀ i,i < n.Nodes.toNat→l.get i=⟨-fr n i 0,fr n 0 i⟩:=by
  have hn1:=hn.n1;have hn40:=hn.n40
  obtain ⟨w0,_,_,_,w4⟩:=zsR n (⟨0,fun _=>default⟩:Sl Int) (by decide) ht
  have w4':=w4 hn (fun i hi=>absurd hi (Nat.not_lt_zero _)) hN
  have hT:=fun (j:Nat) (hj:j < n.Nodes.toNat)=>zI3 hn hN (i:=0) (Int.le_refl _) (by omega) hj
  have hF:=fun (j:Nat) (hj:j < n.Nodes.toNat)=>zEK hn hN (i:=0) (Int.le_refl _) (by omega) hj
  have p1:=(hT 0 (by omega)).1
  have p2:=(hF 0 (by omega)).1
  have hloop := zoU (step := zBA n) (E := fun v => (v, (0:Int))) (EP := fun _ => true) (Inv := fun _ v => v.len = n.Nodes.toNat) (a := 0) (n := n.Nodes.toNat) (lpS := fun k v i => zgv n k i v (s75 (W n) 0) (s76 (W n) 0)) (lpP := fun k v i => zgw n k i v (s75 (W n) 0) (s76 (W n) 0))
    (fun k i v _ hi hv=>by
      show zhJ n (zgv n k) (i:Int) v (s75 (W n) 0) (s76 (W n) 0)=zgv n k (w64 ((i:Int)+(1:Int))) (zBA n i v) (s75 (W n) 0) (s76 (W n) 0)
      generalize zgv n k=S
      unfold zhJ zBA
      have hb:=ziR hn hN (i:=i) (j:=0) hi
      rw [decide_eq_true (show (i:Int) < (n.Nodes.toNat:Int) by omega),cond_true,Int.toNat_natCast,show 0+i * 2+0=i * 2 by omega,zeW (by omega),zeW (by omega),(hT i hi).2,(hF i hi).2,show (0:Int).toNat=0 from rfl,zcA (x:=0 - fr n i 0) (by omega) (by omega),show (0:Int) - fr n i 0 = -fr n i 0 by omega])
    (fun k v=>by
      show zhJ n (zgv n k) (n.Nodes.toNat:Int) v (s75 (W n) 0) (s76 (W n) 0)=_
      unfold zhJ
      rw [decide_eq_false (show ¬ (n.Nodes.toNat:Int) < (n.Nodes.toNat:Int) by omega),cond_false])
    (fun k i v _ hi hv=>by
      show zhK n (zgw n k) (i:Int) v (s75 (W n) 0) (s76 (W n) 0)=zgw n k (w64 ((i:Int)+(1:Int))) (zBA n i v) (s75 (W n) 0) (s76 (W n) 0)
      generalize zgw n k=S
      unfold zhK zBA
      have hb:=ziR hn hN (i:=i) (j:=0) hi
      have hv':v.len=n.Nodes.toNat:=hv
      rw [decide_eq_true (show (i:Int) < (n.Nodes.toNat:Int) by omega),cond_true,Int.toNat_natCast,show 0+i * 2+0=i * 2 by omega,zeW (by omega),zeW (by omega),(hT i hi).2,(hF i hi).2,show (0:Int).toNat=0 from rfl,zcA (x:=0 - fr n i 0) (by omega) (by omega),show (0:Int) - fr n i 0 = -fr n i 0 by omega,
        decide_eq_true (show 0≤(i:Int)∧(i:Int) < (40:Int) by omega),decide_eq_true (show 0≤(i:Int)∧(i:Int) < (v.len:Int) by omega),decide_eq_true (show i < v.len by omega)]
      rfl)
    (fun k v=>by
      show zhK n (zgw n k) (n.Nodes.toNat:Int) v (s75 (W n) 0) (s76 (W n) 0)=_
      unfold zhK
      rw [decide_eq_false (show ¬ (n.Nodes.toNat:Int) < (n.Nodes.toNat:Int) by omega),cond_false])
    (fun i v _ _ h=>h) (Nat.zero_le _) (by omega) (⟨n.Nodes.toNat,(fun _=>(⟨(0:Int),(0:Int)⟩:Span))⟩:Sl Span) rfl
  obtain ⟨l1,l2⟩:=hloop
  obtain ⟨f1,f2⟩:=zEM n (n.Nodes.toNat - 0) 0 (⟨n.Nodes.toNat,(fun _=>(⟨(0:Int),(0:Int)⟩:Span))⟩:Sl Span) (fun j hj=>absurd hj (Nat.not_lt_zero _))
  constructor
  · unfold p26
    rw [w0,w4']
    show (cond ((0:Int) == 0) (decide (true=true) && cond ((0:Int) != (0:Int)) true (decide (p75 (W n) 0=true) && (decide (p76 (W n) 0=true) && (decide (0≤n.Nodes∧n.Nodes=n.Nodes∧n.Nodes≤1000000) && zql n (0:Int) (⟨n.Nodes.toNat,(fun _=>(⟨(0:Int),(0:Int)⟩:Span))⟩:Sl Span) (s75 (W n) 0) (s76 (W n) 0))))) _)=true
    rw [p1,p2,decide_eq_true (show 0≤n.Nodes∧n.Nodes=n.Nodes∧n.Nodes≤1000000 from ⟨by omega,rfl,by omega⟩)]
    exact l1
  · refine ⟨_, ?_, f1, fun i hi => f2 i (by omega)⟩
    unfold s26
    rw [w4']
    exact l2
end Go.Proofs
namespace Go.Proofs
open Go Go.Pm
set_option maxRecDepth 100000
set_option linter.unusedVariables false
theorem zyJ {α:Type} (n:Nat) (g:Nat→α) (x:α) (j:Nat):zlC n g (fun _=>x) j=if n≤j then x else g j:=by
 unfold zlC
 by_cases h:n≤j
 ·rw [if_pos h,show Nat.ble n j=true from Nat.ble_eq_true_of_le h]
 ·rw [if_neg h,show Nat.ble n j=false from Bool.eq_false_iff.2 fun k=>h (Nat.le_of_ble_eq_true k)]
def turn (t:Tie):Tie:=⟨t.From,t.To,w64 (0 - t.High),w64 (0 - t.Low)⟩
def zEN (l:Nat→Tie) (i:Nat) (v:Sl Tie):Sl Tie:=⟨v.len+1,zlC v.len v.get (fun _=>l i)⟩
theorem zEO (l:Nat→Tie):∀ (m i:Nat) (v:Sl Tie),v.len=i→(∀ j,j < i→v.get j=l j)→(zkR (zEN l) m i v).len=i+m∧∀ j,j < i+m→(zkR (zEN l) m i v).get j=l j:=by
 intro m
 induction m with
 | zero=>intro i v h1 h2;exact ⟨h1,fun j hj=>h2 j (by omega)⟩
 | succ m ih =>
  intro i v h1 h2
  obtain ⟨k1,k2⟩:=ih (i+1) (zEN l i v) (by show v.len+1=i+1;omega) (fun j hj=>by
   show zlC v.len v.get (fun _=>l i) j=_
   rw [zyJ]
   by_cases h:v.len≤j
   ·rw [if_pos h,show j=i by omega]
   ·rw [if_neg h];exact h2 j (by omega))
  exact ⟨by show (zkR (zEN l) m (i+1) (zEN l i v)).len=_;omega,fun j hj=>k2 j (by omega)⟩
theorem zHB (n:Net) (hn:n.Ties.len≤210):p28 n=true∧(s28 n).Nodes=n.Nodes∧(s28 n).Ties.len=n.Ties.len∧∀ j,j < n.Ties.len→(s28 n).Ties.get j=turn (n.Ties.get j):=by
  have hloop := zoU (step := zEN fun i => turn (n.Ties.get i)) (E := fun v => (⟨n.Nodes, v⟩ : Net)) (EP := fun _ => true) (Inv := fun i v => v.len = i) (a := 0) (n := n.Ties.len) (lpS := fun k v i => zh0 n k i v) (lpP := fun k v i => zh1 n k i v)
    (fun k i v _ hi hv=>by
      show zhY n (zh0 n k) (i:Int) v=_
      generalize zh0 n k=S
      unfold zhY
      rw [decide_eq_true (show (i:Int) < (n.Ties.len:Int) by omega),cond_true,Int.toNat_natCast];rfl)
    (fun k v=>by
      show zhY n (zh0 n k) (n.Ties.len:Int) v=_
      unfold zhY
      rw [decide_eq_false (show ¬ (n.Ties.len:Int) < (n.Ties.len:Int) by omega),cond_false])
    (fun k i v _ hi hv=>by
      show zhZ n (zh1 n k) (i:Int) v=_
      generalize zh1 n k=S
      have hv':v.len=i:=hv
      unfold zhZ
      rw [decide_eq_true (show (i:Int) < (n.Ties.len:Int) by omega),cond_true,Int.toNat_natCast,decide_eq_true (show 0≤(i:Int)∧(i:Int) < (n.Ties.len:Int) by omega),decide_eq_true (show (v.len+1) * 32≤140737488355328∧v.len+1≤9223372036854775807 by omega)];rfl)
    (fun k v=>by
      show zhZ n (zh1 n k) (n.Ties.len:Int) v=_
      unfold zhZ
      rw [decide_eq_false (show ¬ (n.Ties.len:Int) < (n.Ties.len:Int) by omega),cond_false])
    (fun i v _ _ h=>by show v.len+1=i+1;have h':v.len=i:=h;omega) (Nat.zero_le _) (by omega) (⟨0,(fun _=>default)⟩:Sl Tie) rfl
  obtain ⟨k1,k2⟩:=zEO (fun i=>turn (n.Ties.get i)) (n.Ties.len - 0) 0 (⟨0,(fun _=>default)⟩:Sl Tie) rfl (fun j hj=>absurd hj (Nat.not_lt_zero _))
  refine ⟨hloop.1,?_⟩
  have e:s28 n=⟨n.Nodes,zkR (zEN fun i=>turn (n.Ties.get i)) (n.Ties.len - 0) 0 (⟨0,(fun _=>default)⟩:Sl Tie)⟩:=hloop.2
  rw [e]
  exact ⟨rfl,k1.trans (by omega),fun j hj=>k2 j (by omega)⟩
theorem zkW {t:Tie} {N:Int} (h:TieOk t N):(turn t).Low = -t.High∧(turn t).High = -t.Low:=by
 have h1:=h.lo;have h2:=h.hi
 constructor
 ·show w64 (0 - t.High)=_;rw [zcA (by omega) (by omega)];omega
 ·show w64 (0 - t.Low)=_;rw [zcA (by omega) (by omega)];omega
structure IsTurn (n m : Net) : Prop where
  nodes:m.Nodes=n.Nodes
  len:m.Ties.len=n.Ties.len
  tie:∀ j,j < n.Ties.len→m.Ties.get j=turn (n.Ties.get j)
theorem zng {n m:Net} (hn:NetOk n) (h:IsTurn n m):NetOk m:=by
 refine ⟨by rw [h.nodes];exact hn.n1,by rw [h.nodes];exact hn.n40,by rw [h.len];exact hn.len,fun i hi=>?_⟩
 rw [h.len] at hi
 rw [h.tie i hi,h.nodes]
 have t:=hn.tie i hi
 obtain ⟨e1,e2⟩:=zkW t
 have h1:=t.lo;have h2:=t.hi;have h3:=t.le
 exact ⟨t.f0,t.f1,t.t0,t.t1,t.ne,by rw [e1];omega,by rw [e2];omega,by rw [e1,e2];omega⟩
theorem zfS {n m:Net} (hn:NetOk n) (h:IsTurn n m) (e:Ed):e∈En m↔e∈(En n).map edR:=by
 have hm:=zng hn h
 rw [zlP (a:=W m) hm,List.mem_map]
 constructor
 ·rintro ⟨j, h1, _, h3⟩
  have hj:j < n.Ties.len:=h.len ▸ h1
  have t:=hn.tie j hj
  obtain ⟨e1,e2⟩:=zkW t
  have ht:=h.tie j hj
  rcases h3 with ⟨h4,rfl⟩ | ⟨h4,rfl⟩
  ·have h4' : (m.Ties.get j).High ≠ 1000000000000 := h4
   rw [ht,e2] at h4'
   refine ⟨⟨(n.Ties.get j).To.toNat,(n.Ties.get j).From.toNat,-(n.Ties.get j).Low⟩,(zlP (a:=W n) hn).2 ⟨j,hj,rfl,.inr ⟨by show (n.Ties.get j).Low ≠ _;omega,rfl⟩⟩,?_⟩
   show (⟨(n.Ties.get j).From.toNat,(n.Ties.get j).To.toNat,-(n.Ties.get j).Low⟩:Ed)=⟨(m.Ties.get j).From.toNat,(m.Ties.get j).To.toNat,(m.Ties.get j).High⟩
   rw [ht,e2];rfl
  ·have h4' : (m.Ties.get j).Low ≠ -1000000000000 := h4
   rw [ht,e1] at h4'
   refine ⟨⟨(n.Ties.get j).From.toNat,(n.Ties.get j).To.toNat,(n.Ties.get j).High⟩,(zlP (a:=W n) hn).2 ⟨j,hj,rfl,.inl ⟨by show (n.Ties.get j).High ≠ _;omega,rfl⟩⟩,?_⟩
   show (⟨(n.Ties.get j).To.toNat,(n.Ties.get j).From.toNat,(n.Ties.get j).High⟩:Ed)=⟨(m.Ties.get j).To.toNat,(m.Ties.get j).From.toNat,-(m.Ties.get j).Low⟩
   rw [ht,e1,Int.neg_neg];rfl
 ·rintro ⟨f, hf, rfl⟩
  obtain ⟨j,hj,_,h3⟩:=(zlP (a:=W n) hn).1 hf
  have hj':j < n.Ties.len:=hj
  have t:=hn.tie j hj'
  obtain ⟨e1,e2⟩:=zkW t
  have ht:=h.tie j hj'
  refine ⟨j,by show j < m.Ties.len;rw [h.len];exact hj',rfl,?_⟩
  show ((m.Ties.get j).High ≠ 1000000000000∧edR f=⟨(m.Ties.get j).From.toNat,(m.Ties.get j).To.toNat,(m.Ties.get j).High⟩)∨((m.Ties.get j).Low ≠ -1000000000000∧edR f=⟨(m.Ties.get j).To.toNat,(m.Ties.get j).From.toNat,-(m.Ties.get j).Low⟩)
  rw [ht,e1,e2,Int.neg_neg]
  rcases h3 with ⟨h4,rfl⟩ | ⟨h4,rfl⟩
  ·have h4' : (n.Ties.get j).High ≠ 1000000000000 := h4
   exact .inr ⟨by omega,rfl⟩
  ·have h4' : (n.Ties.get j).Low ≠ -1000000000000 := h4
   exact .inl ⟨by omega,rfl⟩
theorem zh8 {n m:Net} (hn:NetOk n) (h:IsTurn n m):zbJ (En m)↔zbJ (En n):=by
 constructor
 ·intro hm
  have h1:zbJ ((En n).map edR):=zfy (fun e he=>(zfS hn h e).2 he) hm
  have h2:=zh7 h1
  rwa [zBv] at h2
 ·intro h1
  exact zfy (fun e he=>(zfS hn h e).1 he) (zh7 h1)
theorem zyK {n m:Net} (hn:NetOk n) (h:IsTurn n m) (hN:zbJ (En n)) {i j:Nat} (hi:i < n.Nodes.toNat) (hj:j < n.Nodes.toNat):fr m i j=fr n j i:=by
 have hE:EdOk (En n) n.Nodes.toNat:=zAu (a:=W n) hn
 have hE':EdOk (En m) n.Nodes.toNat:=by have:=zAu (a:=W m) (zng hn h);rw [← h.nodes];exact this
 unfold fr
 rw [h.nodes,← zBz hE hN hi hj]
 exact zyD hE.R hE' ((zh8 hn h).2 hN) hi (fun e he=>(zfS hn h e).2 he) (fun e he=>(zfS hn h e).1 he)
theorem zsS {n:Net} {t:Tie} (hn:NetOk n) (hm:NetOk (s29 n t)):∀ e∈En n,e∈En (s29 n t):=by
 intro e he
 obtain ⟨j,hj,_,h3⟩:=(zlP (a:=W n) hn).1 he
 have hj':j < n.Ties.len:=hj
 have e1:(s29 n t).Ties.get j=n.Ties.get j:=by
  show zlC n.Ties.len n.Ties.get (fun _=>t) j=_
  rw [zyJ,if_neg (by omega)]
 refine (zlP (a:=W (s29 n t)) hm).2 ⟨j,by show j < n.Ties.len+1;omega,rfl,?_⟩
 show ((s29 n t).Ties.get j).High ≠ 1000000000000∧e=⟨((s29 n t).Ties.get j).From.toNat,((s29 n t).Ties.get j).To.toNat,((s29 n t).Ties.get j).High⟩∨((s29 n t).Ties.get j).Low ≠ -1000000000000∧e=⟨((s29 n t).Ties.get j).To.toNat,((s29 n t).Ties.get j).From.toNat,-((s29 n t).Ties.get j).Low⟩
 rw [e1];exact h3
theorem zyL {n:Net} {t:Tie} (hn:NetOk n) (hm:NetOk (s29 n t)) (hN:zbJ (En (s29 n t))) {i j:Nat} (hi:i < n.Nodes.toNat):fr (s29 n t) i j≤fr n i j:=by
 have hE:EdOk (En n) n.Nodes.toNat:=zAu (a:=W n) hn
 have hE':EdOk (En (s29 n t)) n.Nodes.toNat:=zAu (a:=W (s29 n t)) hm
 exact zkU hE hE' hN hi (zsS hn hm)
theorem zHC (n:Net) (t:Tie) (hn:n.Ties.len≤210):p29 n t=true:=by
 unfold p29
 rw [decide_eq_true (show n.Ties.len * 32≤140737488355328∧n.Ties.len≤9223372036854775807 by omega),decide_eq_true (show (n.Ties.len+1) * 32≤140737488355328∧n.Ties.len+1≤9223372036854775807 by omega)];rfl
end Go.Proofs
namespace Go.Proofs
open Go Go.Pm
set_option maxRecDepth 100000
set_option linter.unusedVariables false
theorem zkX (n : Net) (t : Tie) (hn : NetOk n) (b : Sl Span) (ev : Int)
    (h:(¬ zbJ (En n)∧ev=5)∨(zbJ (En n)∧ev=0∧b.len=n.Nodes.toNat∧∀ i,i < n.Nodes.toNat→b.get i=⟨-fr n i 0,fr n 0 i⟩)):zsG n t b ev=true∧zlN n t b ev=true:=by
  have hlen:=hn.len;have hn1:=hn.n1;have hn40:=hn.n40
  obtain ⟨a1,a2⟩:=zrm (s29 n t) (by show n.Ties.len+1≤_;omega)
  obtain ⟨b1,b2⟩:=zBs (s29 n t) (by show n.Ties.len+1≤_;omega)
  have hml:(s29 n t).Ties.len≤210:=by show n.Ties.len+1≤_;omega
  unfold zsG zlN zyn zym
  show (decide (p29 n t=true) && (decide (p23 (s29 n t)=true) && zsF b ev (s29 n t).Nodes (s29 n t).Ties (!(s23 (s29 n t)))))=true∧zsE b ev (s29 n t).Nodes (s29 n t).Ties (!(s23 (s29 n t)))=true
  rw [zHC n t (by omega),b1,b2]
  unfold zsF zsE
  cases hs:s67 (s29 n t)
  · exact ⟨rfl,rfl⟩
  have hm:=a2.1 hs
  show (decide (true=true) && (decide (true=true) && zsD b ev (s29 n t).Nodes (s29 n t).Ties))=true∧zsC b ev (s29 n t).Nodes (s29 n t).Ties=true
  unfold zsD zsC
  show (decide (true=true) && (decide (true=true) && (decide (p26 (s29 n t)=true) && zkQ b ev (s26 (s29 n t)).1 (s26 (s29 n t)).2)))=true∧zkP b ev (s26 (s29 n t)).1 (s26 (s29 n t)).2=true
  by_cases hN:zbJ (En (s29 n t))
  · obtain ⟨c1, d, c2, c3, c4⟩ := zkV hml hm hN
    rw [c1,c2]
    rcases h with ⟨h1,_⟩ | ⟨h1,rfl,h3,h4⟩
    · exact absurd (zfy (zsS hn hm) hN) h1
    · have hdl : d.len = n.Nodes.toNat := c3
      have hgood:∀ i,i < d.len→(d.get i).Low ≥ (b.get i).Low∧(d.get i).High≤(b.get i).High:=fun i hi=>by
        rw [c4 i (by show i < n.Nodes.toNat;omega),h4 i (by omega)]
        have k1:=zyL hn hm hN (i:=i) (j:=0) (by omega)
        have k2:=zyL hn hm hN (i:=0) (j:=i) (by omega)
        exact ⟨by show -fr (s29 n t) i 0 ≥ -fr n i 0;omega,k2⟩
      have hl := zhh (good := fun _ => true) (fin := true) (n := d.len) (lpS := zh4 b d) (lpP := zh5 b d)
          (fun k i hi=>by
            show zh2 b d (zh4 b d k) (i:Int)=_
            generalize zh4 b d k=S
            unfold zh2
            rw [decide_eq_true (show (i:Int) < (d.len:Int) by omega),cond_true,Int.toNat_natCast,decide_eq_false (show ¬ (d.get i).Low < (b.get i).Low from Int.not_lt.2 (hgood i hi).1),decide_eq_false (show ¬ (d.get i).High > (b.get i).High from Int.not_lt.2 (hgood i hi).2)]
            rfl)
          (fun k=>by
            show zh2 b d (zh4 b d k) (d.len:Int)=_
            unfold zh2
            rw [decide_eq_false (show ¬ (d.len:Int) < (d.len:Int) by omega),cond_false])
          (fun k i hi=>by
            show zh3 b d (zh5 b d k) (i:Int)=_
            generalize zh5 b d k=S
            unfold zh3
            rw [decide_eq_true (show (i:Int) < (d.len:Int) by omega),cond_true,Int.toNat_natCast,decide_eq_true (show 0≤(i:Int)∧(i:Int) < (d.len:Int) by omega),Bool.true_and,decide_eq_false (show ¬ (d.get i).Low < (b.get i).Low from Int.not_lt.2 (hgood i hi).1),decide_eq_false (show ¬ (d.get i).High > (b.get i).High from Int.not_lt.2 (hgood i hi).2),decide_eq_true (show 0≤(i:Int)∧(i:Int) < (b.len:Int) by omega)]
            rfl)
          (fun k=>by
            show zh3 b d (zh5 b d k) (d.len:Int)=_
            unfold zh3
            rw [decide_eq_false (show ¬ (d.len:Int) < (d.len:Int) by omega),cond_false])
          (by omega)
      unfold zkQ zkP zrl zrk
      show (decide (true=true) && (decide (true=true) && (decide (true=true) && cond ((d.len:Int) != (b.len:Int)) true (zrj b d))))=true∧cond ((d.len:Int) != (b.len:Int)) false (zri b d)=true
      rw [hdl,h3,bne_self_eq_false]
      exact ⟨hl.1,hl.2.2 ⟨fun _ _=>rfl,rfl⟩⟩
  · obtain ⟨c1, c2⟩ := zgz hml hm hN
    rw [c1,c2]
    unfold zkQ zkP
    cases hz:(ev != (0:Int)) <;> exact ⟨rfl,rfl⟩
theorem zru (n:Net) (t:Tie) (hn:NetOk n):zoS n t=true∧zoR n t=true:=by
  have hlen:=hn.len;have hn1:=hn.n1;have hn40:=hn.n40
  obtain ⟨q1,q2,q3,q4⟩:=zHB n (by omega)
  have hT:IsTurn n (s28 n):=⟨q2,q3,q4⟩
  have hm:=zng hn hT
  have hml:(s28 n).Ties.len≤210:=by rw [q3];omega
  unfold zoS zoR zyp zyo
  show (decide (p26 n=true) && (decide (p28 n=true) && (decide (p26 (s28 n)=true) && zoQ n t (s26 n).1 (s26 n).2 (s26 (s28 n)).1 (s26 (s28 n)).2)))=true∧zoP n t (s26 n).1 (s26 n).2 (s26 (s28 n)).1 (s26 (s28 n)).2=true
  rw [q1]
  by_cases hN:zbJ (En n)
  · obtain ⟨c1, b, c2, c3, c4⟩ := zkV (by omega) hn hN
    obtain ⟨d1,c,d2,d3,d4⟩:=zkV hml hm ((zh8 hn hT).2 hN)
    rw [c1,c2,d1,d2]
    have hcl:c.len=b.len:=by rw [d3,c3,q2]
    obtain ⟨m1,m2⟩:=zkX n t hn b 0 (.inr ⟨hN,rfl,c3,c4⟩)
    have hgood:∀ i,i < b.len→(c.get i).Low=w64 (0 - (b.get i).High)∧(c.get i).High=w64 (0 - (b.get i).Low):=fun i hi=>by
      have hi':i < n.Nodes.toNat:=by omega
      rw [c4 i hi',d4 i (by rw [q2];exact hi'),zyK hn hT hN hi' (j:=0) (by omega),zyK hn hT hN (i:=0) (by omega) hi']
      have k1:=ziR hn hN (i:=i) (j:=0) hi'
      have k2:=ziR hn hN (i:=0) (j:=i) (by omega)
      exact ⟨by show -fr n 0 i=w64 (0 - fr n 0 i);rw [zcA (by omega) (by omega)];omega,by show fr n i 0=w64 (0 - -fr n i 0);rw [zcA (by omega) (by omega)];omega⟩
    have hl := zhh (good := fun _ => true) (fin := zlN n t b 0) (n := b.len) (lpS := zf6 n t b 0 c) (lpP := zf7 n t b 0 c)
        (fun k i hi=>by
          show zf4 n t b 0 c (zf6 n t b 0 c k) (i:Int)=_
          generalize zf6 n t b 0 c k=S
          unfold zf4
          rw [decide_eq_true (show (i:Int) < (b.len:Int) by omega),cond_true,Int.toNat_natCast,(hgood i hi).1,(hgood i hi).2,bne_self_eq_false,bne_self_eq_false]
          rfl)
        (fun k=>by
          show zf4 n t b 0 c (zf6 n t b 0 c k) (b.len:Int)=_
          unfold zf4
          rw [decide_eq_false (show ¬ (b.len:Int) < (b.len:Int) by omega),cond_false])
        (fun k i hi=>by
          show zf5 n t b 0 c (zf7 n t b 0 c k) (i:Int)=_
          generalize zf7 n t b 0 c k=S
          unfold zf5
          rw [decide_eq_true (show (i:Int) < (b.len:Int) by omega),cond_true,Int.toNat_natCast,decide_eq_true (show 0≤(i:Int)∧(i:Int) < (b.len:Int) by omega),Bool.true_and,(hgood i hi).1,(hgood i hi).2,bne_self_eq_false,bne_self_eq_false,decide_eq_true (show 0≤(i:Int)∧(i:Int) < (c.len:Int) by omega)]
          rfl)
        (fun k=>by
          show zf5 n t b 0 c (zf7 n t b 0 c k) (b.len:Int)=_
          unfold zf5
          rw [decide_eq_false (show ¬ (b.len:Int) < (b.len:Int) by omega),cond_false];exact m1)
        (by omega)
    unfold zoQ zoP zoO zoN
    simp only [decide_true,Bool.true_and,bne_self_eq_false,cond_false,hcl]
    unfold zsI zsH
    exact ⟨hl.1,hl.2.2 ⟨fun _ _=>rfl,m2⟩⟩
  · obtain ⟨c1, c2⟩ := zgz (by omega) hn hN
    obtain ⟨d1,d2⟩:=zgz hml hm (fun h=>hN ((zh8 hn hT).1 h))
    rw [c1,c2,d1,d2]
    obtain ⟨m1,m2⟩:=zkX n t hn (⟨0,fun _=>default⟩:Sl Span) 5 (.inl ⟨hN,rfl⟩)
    have hl := zhh (good := fun _ => true) (fin := zlN n t (⟨0, fun _ => default⟩ : Sl Span) 5) (n := ((⟨0, fun _ => default⟩ : Sl Span).len)) (lpS := zf6 n t (⟨0, fun _ => default⟩ : Sl Span) 5 (⟨0, fun _ => default⟩ : Sl Span)) (lpP := zf7 n t (⟨0, fun _ => default⟩ : Sl Span) 5 (⟨0, fun _ => default⟩ : Sl Span))
        (fun k i hi=>by
          show zf4 n t (⟨0,fun _=>default⟩:Sl Span) 5 (⟨0,fun _=>default⟩:Sl Span) (zf6 n t (⟨0,fun _=>default⟩:Sl Span) 5 (⟨0,fun _=>default⟩:Sl Span) k) (i:Int)=_
          generalize zf6 n t (⟨0,fun _=>default⟩:Sl Span) 5 (⟨0,fun _=>default⟩:Sl Span) k=S
          unfold zf4
          rw [decide_eq_true (show (i:Int) < (((⟨0,fun _=>default⟩:Sl Span).len):Int) by omega),cond_true,Int.toNat_natCast]
          exact absurd hi (Nat.not_lt_zero _))
        (fun k=>by
          show zf4 n t (⟨0,fun _=>default⟩:Sl Span) 5 (⟨0,fun _=>default⟩:Sl Span) (zf6 n t (⟨0,fun _=>default⟩:Sl Span) 5 (⟨0,fun _=>default⟩:Sl Span) k) (((⟨0,fun _=>default⟩:Sl Span).len):Int)=_
          unfold zf4
          rw [decide_eq_false (show ¬ (((⟨0,fun _=>default⟩:Sl Span).len):Int) < (((⟨0,fun _=>default⟩:Sl Span).len):Int) by omega),cond_false])
        (fun k i hi=>by
          show zf5 n t (⟨0,fun _=>default⟩:Sl Span) 5 (⟨0,fun _=>default⟩:Sl Span) (zf7 n t (⟨0,fun _=>default⟩:Sl Span) 5 (⟨0,fun _=>default⟩:Sl Span) k) (i:Int)=_
          generalize zf7 n t (⟨0,fun _=>default⟩:Sl Span) 5 (⟨0,fun _=>default⟩:Sl Span) k=S
          unfold zf5
          rw [decide_eq_true (show (i:Int) < (((⟨0,fun _=>default⟩:Sl Span).len):Int) by omega),cond_true,Int.toNat_natCast,decide_eq_true (show 0≤(i:Int)∧(i:Int) < (((⟨0,fun _=>default⟩:Sl Span).len):Int) by omega),Bool.true_and]
          exact absurd hi (Nat.not_lt_zero _))
        (fun k=>by
          show zf5 n t (⟨0,fun _=>default⟩:Sl Span) 5 (⟨0,fun _=>default⟩:Sl Span) (zf7 n t (⟨0,fun _=>default⟩:Sl Span) 5 (⟨0,fun _=>default⟩:Sl Span) k) (((⟨0,fun _=>default⟩:Sl Span).len):Int)=_
          unfold zf5
          rw [decide_eq_false (show ¬ (((⟨0,fun _=>default⟩:Sl Span).len):Int) < (((⟨0,fun _=>default⟩:Sl Span).len):Int) by omega),cond_false];exact m1)
        (Nat.zero_le _)
    unfold zoQ zoP zoO zoN
    simp only [decide_true,Bool.true_and,bne_self_eq_false,cond_false]
    rw [show ((5:Int) != 0)=true from rfl,cond_true,cond_true]
    unfold zsI zsH
    exact ⟨hl.1,hl.2.2 ⟨fun _ _=>rfl,m2⟩⟩
theorem turned_true (n:Net) (t:Tie):p5 n t=true∧s5 n t=true:=by
 unfold p5 s5
 by_cases h:s20 n 20=true
 ·rw [h]
  have hl:=zyr h (by omega)
  obtain ⟨a1,a2⟩:=zrm n (by omega)
  obtain ⟨b1,b2⟩:=zBs n (by omega)
  unfold zsK zsJ
  show (decide (p23 n=true) && cond (!(s23 n)) true (zoS n t))=true∧cond (!(s23 n)) true (zoR n t)=true
  rw [b1,b2]
  cases hs:s67 n
  ·exact ⟨rfl,rfl⟩
  ·exact zru n t (a2.1 hs)
 ·rw [Bool.eq_false_iff.2 h];exact ⟨rfl,rfl⟩
end Go.Proofs
