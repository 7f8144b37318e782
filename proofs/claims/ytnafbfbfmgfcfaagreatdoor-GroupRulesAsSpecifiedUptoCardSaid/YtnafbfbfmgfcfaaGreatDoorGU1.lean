/-
  A part of what LawU rests on: the logic, walks and plain laws. No condition.
-/
import Derived.Test.YtnafbfbfmgfcfaaGreatDoorGU0
import Derived.Test.YtnafbfbfmgfcfaaGreatDoorProg
import Derived.KernelRfl
import Derived.Below
import Derived.Laws.StructEq
namespace Go.Proofs.YtnafbfbfmgfcfaaGreatDoor
open _root_.Go.Proofs.Tryz
open Go.RowKit
set_option linter.unusedVariables false
set_option linter.unusedSimpArgs false
set_option linter.unusedSectionVars false
set_option maxRecDepth 100000
theorem Eu (b o:Nat)(w:World):(Instr.fieldAt 26 (.pointer (some ⟨b,o,none⟩)) 0).run prog w= .ok (.pointer (some ⟨b,o,none⟩)) w:=by kernel_rfl
theorem Eh (b o:Nat)(w:World):(Instr.fieldAt 26 (.pointer (some ⟨b,o,none⟩)) 1).run prog w= .ok (.pointer (some ⟨b,o+1,none⟩)) w:=by kernel_rfl
theorem Fc (b o:Nat)(w:World):(Instr.fieldAt 26 (.pointer (some ⟨b,o,none⟩)) 2).run prog w= .ok (.pointer (some ⟨b,o+2,none⟩)) w:=by kernel_rfl
theorem fa32_0 (b o:Nat)(w:World):(Instr.fieldAt 32 (.pointer (some ⟨b,o,none⟩)) 0).run prog w= .ok (.pointer (some ⟨b,o,none⟩)) w:=by kernel_rfl
theorem fa32_1 (b o:Nat)(w:World):(Instr.fieldAt 32 (.pointer (some ⟨b,o,none⟩)) 1).run prog w= .ok (.pointer (some ⟨b,o+1,none⟩)) w:=by kernel_rfl
theorem Jo (b o:Nat)(w:World):(Instr.fieldAt 32 (.pointer (some ⟨b,o,none⟩)) 2).run prog w= .ok (.pointer (some ⟨b,o+2,none⟩)) w:=by kernel_rfl
theorem Gt (b o:Nat)(w:World):(Instr.fieldAt 59 (.pointer (some ⟨b,o,none⟩)) 0).run prog w= .ok (.pointer (some ⟨b,o,none⟩)) w:=by kernel_rfl
theorem Fq (b o:Nat)(w:World):(Instr.fieldAt 59 (.pointer (some ⟨b,o,none⟩)) 1).run prog w= .ok (.pointer (some ⟨b,o+1,none⟩)) w:=by kernel_rfl
theorem Fd (b o:Nat)(w:World):(Instr.fieldAt 59 (.pointer (some ⟨b,o,none⟩)) 2).run prog w= .ok (.pointer (some ⟨b,o+2,none⟩)) w:=by kernel_rfl
theorem Kj (b o:Nat)(w:World):(Instr.fieldAt 59 (.pointer (some ⟨b,o,none⟩)) 3).run prog w= .ok (.pointer (some ⟨b,o+3,none⟩)) w:=by kernel_rfl
theorem Kk (b o:Nat)(w:World):(Instr.fieldAt 59 (.pointer (some ⟨b,o,none⟩)) 4).run prog w= .ok (.pointer (some ⟨b,o+4,none⟩)) w:=by kernel_rfl
theorem fa64_0 (b o:Nat)(w:World):(Instr.fieldAt 64 (.pointer (some ⟨b,o,none⟩)) 0).run prog w= .ok (.pointer (some ⟨b,o,none⟩)) w:=by kernel_rfl
theorem fa64_1 (b o:Nat)(w:World):(Instr.fieldAt 64 (.pointer (some ⟨b,o,none⟩)) 1).run prog w= .ok (.pointer (some ⟨b,o+1,none⟩)) w:=by kernel_rfl
theorem fa77_0 (b o:Nat)(w:World):(Instr.fieldAt 77 (.pointer (some ⟨b,o,none⟩)) 0).run prog w= .ok (.pointer (some ⟨b,o,none⟩)) w:=by kernel_rfl
theorem fa77_1 (b o:Nat)(w:World):(Instr.fieldAt 77 (.pointer (some ⟨b,o,none⟩)) 1).run prog w= .ok (.pointer (some ⟨b,o+1,none⟩)) w:=by kernel_rfl
theorem fa77_2 (b o:Nat)(w:World):(Instr.fieldAt 77 (.pointer (some ⟨b,o,none⟩)) 2).run prog w= .ok (.pointer (some ⟨b,o+2,none⟩)) w:=by kernel_rfl
theorem fa77_3 (b o:Nat)(w:World):(Instr.fieldAt 77 (.pointer (some ⟨b,o,none⟩)) 3).run prog w= .ok (.pointer (some ⟨b,o+3,none⟩)) w:=by kernel_rfl
theorem fa77_4 (b o:Nat)(w:World):(Instr.fieldAt 77 (.pointer (some ⟨b,o,none⟩)) 4).run prog w= .ok (.pointer (some ⟨b,o+13,none⟩)) w:=by kernel_rfl
theorem fa77_5 (b o:Nat)(w:World):(Instr.fieldAt 77 (.pointer (some ⟨b,o,none⟩)) 5).run prog w= .ok (.pointer (some ⟨b,o+14,none⟩)) w:=by kernel_rfl
theorem fa93_0 (b o:Nat)(w:World):(Instr.fieldAt 93 (.pointer (some ⟨b,o,none⟩)) 0).run prog w= .ok (.pointer (some ⟨b,o,none⟩)) w:=by kernel_rfl
theorem fa93_1 (b o:Nat)(w:World):(Instr.fieldAt 93 (.pointer (some ⟨b,o,none⟩)) 1).run prog w= .ok (.pointer (some ⟨b,o+1,none⟩)) w:=by kernel_rfl
theorem fa93_2 (b o:Nat)(w:World):(Instr.fieldAt 93 (.pointer (some ⟨b,o,none⟩)) 2).run prog w= .ok (.pointer (some ⟨b,o+2,none⟩)) w:=by kernel_rfl
theorem Kl (b o:Nat)(w:World):(Instr.fieldAt 95 (.pointer (some ⟨b,o,none⟩)) 0).run prog w= .ok (.pointer (some ⟨b,o,none⟩)) w:=by kernel_rfl
theorem Ia (b o:Nat)(w:World):(Instr.fieldAt 95 (.pointer (some ⟨b,o,none⟩)) 1).run prog w= .ok (.pointer (some ⟨b,o+1,none⟩)) w:=by kernel_rfl
theorem fa95_2 (b o:Nat)(w:World):(Instr.fieldAt 95 (.pointer (some ⟨b,o,none⟩)) 2).run prog w= .ok (.pointer (some ⟨b,o+2,none⟩)) w:=by kernel_rfl
theorem fa117_0 (b o:Nat)(w:World):(Instr.fieldAt 117 (.pointer (some ⟨b,o,none⟩)) 0).run prog w= .ok (.pointer (some ⟨b,o,none⟩)) w:=by kernel_rfl
theorem fa117_1 (b o:Nat)(w:World):(Instr.fieldAt 117 (.pointer (some ⟨b,o,none⟩)) 1).run prog w= .ok (.pointer (some ⟨b,o+3,none⟩)) w:=by kernel_rfl
theorem fa117_3 (b o:Nat)(w:World):(Instr.fieldAt 117 (.pointer (some ⟨b,o,none⟩)) 3).run prog w= .ok (.pointer (some ⟨b,o+5,none⟩)) w:=by kernel_rfl
theorem fa117_4 (b o:Nat)(w:World):(Instr.fieldAt 117 (.pointer (some ⟨b,o,none⟩)) 4).run prog w= .ok (.pointer (some ⟨b,o+6,none⟩)) w:=by kernel_rfl
theorem fa121_0 (b o:Nat)(w:World):(Instr.fieldAt 121 (.pointer (some ⟨b,o,none⟩)) 0).run prog w= .ok (.pointer (some ⟨b,o,none⟩)) w:=by kernel_rfl
theorem fa121_1 (b o:Nat)(w:World):(Instr.fieldAt 121 (.pointer (some ⟨b,o,none⟩)) 1).run prog w= .ok (.pointer (some ⟨b,o+10,none⟩)) w:=by kernel_rfl
theorem fa124_0 (b o:Nat)(w:World):(Instr.fieldAt 124 (.pointer (some ⟨b,o,none⟩)) 0).run prog w= .ok (.pointer (some ⟨b,o,none⟩)) w:=by kernel_rfl
theorem fa124_1 (b o:Nat)(w:World):(Instr.fieldAt 124 (.pointer (some ⟨b,o,none⟩)) 1).run prog w= .ok (.pointer (some ⟨b,o+1,none⟩)) w:=by kernel_rfl
theorem fa124_2 (b o:Nat)(w:World):(Instr.fieldAt 124 (.pointer (some ⟨b,o,none⟩)) 2).run prog w= .ok (.pointer (some ⟨b,o+21,none⟩)) w:=by kernel_rfl
theorem Gb (b o:Nat)(w:World):(Instr.fieldAt 124 (.pointer (some ⟨b,o,none⟩)) 3).run prog w= .ok (.pointer (some ⟨b,o+22,none⟩)) w:=by kernel_rfl
theorem Ha (b o:Nat)(w:World):(Instr.fieldAt 125 (.pointer (some ⟨b,o,none⟩)) 0).run prog w= .ok (.pointer (some ⟨b,o,none⟩)) w:=by kernel_rfl
theorem Hd (b o:Nat)(w:World):(Instr.fieldAt 125 (.pointer (some ⟨b,o,none⟩)) 1).run prog w= .ok (.pointer (some ⟨b,o+10,none⟩)) w:=by kernel_rfl
theorem fa127_0 (b o:Nat)(w:World):(Instr.fieldAt 127 (.pointer (some ⟨b,o,none⟩)) 0).run prog w= .ok (.pointer (some ⟨b,o,none⟩)) w:=by kernel_rfl
theorem Im (b o:Nat)(w:World):(Instr.fieldAt 127 (.pointer (some ⟨b,o,none⟩)) 1).run prog w= .ok (.pointer (some ⟨b,o+1,none⟩)) w:=by kernel_rfl
theorem fa135_0 (b o:Nat)(w:World):(Instr.fieldAt 135 (.pointer (some ⟨b,o,none⟩)) 0).run prog w= .ok (.pointer (some ⟨b,o,none⟩)) w:=by kernel_rfl
theorem fa135_1 (b o:Nat)(w:World):(Instr.fieldAt 135 (.pointer (some ⟨b,o,none⟩)) 1).run prog w= .ok (.pointer (some ⟨b,o+1,none⟩)) w:=by kernel_rfl
theorem fa135_2 (b o:Nat)(w:World):(Instr.fieldAt 135 (.pointer (some ⟨b,o,none⟩)) 2).run prog w= .ok (.pointer (some ⟨b,o+2,none⟩)) w:=by kernel_rfl
theorem fa140_0 (b o:Nat)(w:World):(Instr.fieldAt 140 (.pointer (some ⟨b,o,none⟩)) 0).run prog w= .ok (.pointer (some ⟨b,o,none⟩)) w:=by kernel_rfl
theorem fa140_2 (b o:Nat)(w:World):(Instr.fieldAt 140 (.pointer (some ⟨b,o,none⟩)) 2).run prog w= .ok (.pointer (some ⟨b,o+2,none⟩)) w:=by kernel_rfl
theorem fa140_3 (b o:Nat)(w:World):(Instr.fieldAt 140 (.pointer (some ⟨b,o,none⟩)) 3).run prog w= .ok (.pointer (some ⟨b,o+3,none⟩)) w:=by kernel_rfl
theorem Ex (b o:Nat)(w:World):(Instr.fieldAt 148 (.pointer (some ⟨b,o,none⟩)) 0).run prog w= .ok (.pointer (some ⟨b,o,none⟩)) w:=by kernel_rfl
theorem Ey (b o:Nat)(w:World):(Instr.fieldAt 148 (.pointer (some ⟨b,o,none⟩)) 1).run prog w= .ok (.pointer (some ⟨b,o+1,none⟩)) w:=by kernel_rfl
theorem fa153_0 (b o:Nat)(w:World):(Instr.fieldAt 153 (.pointer (some ⟨b,o,none⟩)) 0).run prog w= .ok (.pointer (some ⟨b,o,none⟩)) w:=by kernel_rfl
theorem fa153_1 (b o:Nat)(w:World):(Instr.fieldAt 153 (.pointer (some ⟨b,o,none⟩)) 1).run prog w= .ok (.pointer (some ⟨b,o+4,none⟩)) w:=by kernel_rfl
theorem fa153_2 (b o:Nat)(w:World):(Instr.fieldAt 153 (.pointer (some ⟨b,o,none⟩)) 2).run prog w= .ok (.pointer (some ⟨b,o+8,none⟩)) w:=by kernel_rfl
theorem fa171_0 (b o:Nat)(w:World):(Instr.fieldAt 171 (.pointer (some ⟨b,o,none⟩)) 0).run prog w= .ok (.pointer (some ⟨b,o,none⟩)) w:=by kernel_rfl
theorem J4 (b o:Nat)(w:World):(Instr.fieldAt 171 (.pointer (some ⟨b,o,none⟩)) 1).run prog w= .ok (.pointer (some ⟨b,o+1,none⟩)) w:=by kernel_rfl
theorem fa176_0 (b o:Nat)(w:World):(Instr.fieldAt 176 (.pointer (some ⟨b,o,none⟩)) 0).run prog w= .ok (.pointer (some ⟨b,o,none⟩)) w:=by kernel_rfl
theorem fa176_1 (b o:Nat)(w:World):(Instr.fieldAt 176 (.pointer (some ⟨b,o,none⟩)) 1).run prog w= .ok (.pointer (some ⟨b,o+1,none⟩)) w:=by kernel_rfl
theorem fa179_0 (b o:Nat)(w:World):(Instr.fieldAt 179 (.pointer (some ⟨b,o,none⟩)) 0).run prog w= .ok (.pointer (some ⟨b,o,none⟩)) w:=by kernel_rfl
theorem fa179_1 (b o:Nat)(w:World):(Instr.fieldAt 179 (.pointer (some ⟨b,o,none⟩)) 1).run prog w= .ok (.pointer (some ⟨b,o+1,none⟩)) w:=by kernel_rfl
theorem He (b o:Nat)(w:World):(Instr.fieldAt 194 (.pointer (some ⟨b,o,none⟩)) 0).run prog w= .ok (.pointer (some ⟨b,o,none⟩)) w:=by kernel_rfl
theorem fa194_1 (b o:Nat)(w:World):(Instr.fieldAt 194 (.pointer (some ⟨b,o,none⟩)) 1).run prog w= .ok (.pointer (some ⟨b,o+1,none⟩)) w:=by kernel_rfl
theorem fa194_2 (b o:Nat)(w:World):(Instr.fieldAt 194 (.pointer (some ⟨b,o,none⟩)) 2).run prog w= .ok (.pointer (some ⟨b,o+2,none⟩)) w:=by kernel_rfl
theorem fa194_3 (b o:Nat)(w:World):(Instr.fieldAt 194 (.pointer (some ⟨b,o,none⟩)) 3).run prog w= .ok (.pointer (some ⟨b,o+3,none⟩)) w:=by kernel_rfl
theorem fa197_0 (b o:Nat)(w:World):(Instr.fieldAt 197 (.pointer (some ⟨b,o,none⟩)) 0).run prog w= .ok (.pointer (some ⟨b,o,none⟩)) w:=by kernel_rfl
theorem J5 (b o:Nat)(w:World):(Instr.fieldAt 197 (.pointer (some ⟨b,o,none⟩)) 1).run prog w= .ok (.pointer (some ⟨b,o+1,none⟩)) w:=by kernel_rfl
theorem fa212_0 (b o:Nat)(w:World):(Instr.fieldAt 212 (.pointer (some ⟨b,o,none⟩)) 0).run prog w= .ok (.pointer (some ⟨b,o,none⟩)) w:=by kernel_rfl
theorem fa212_1 (b o:Nat)(w:World):(Instr.fieldAt 212 (.pointer (some ⟨b,o,none⟩)) 1).run prog w= .ok (.pointer (some ⟨b,o+4,none⟩)) w:=by kernel_rfl
theorem fa219_0 (b o:Nat)(w:World):(Instr.fieldAt 219 (.pointer (some ⟨b,o,none⟩)) 0).run prog w= .ok (.pointer (some ⟨b,o,none⟩)) w:=by kernel_rfl
theorem fa219_1 (b o:Nat)(w:World):(Instr.fieldAt 219 (.pointer (some ⟨b,o,none⟩)) 1).run prog w= .ok (.pointer (some ⟨b,o+1,none⟩)) w:=by kernel_rfl
theorem fa229_0 (b o:Nat)(w:World):(Instr.fieldAt 229 (.pointer (some ⟨b,o,none⟩)) 0).run prog w= .ok (.pointer (some ⟨b,o,none⟩)) w:=by kernel_rfl
theorem fa229_1 (b o:Nat)(w:World):(Instr.fieldAt 229 (.pointer (some ⟨b,o,none⟩)) 1).run prog w= .ok (.pointer (some ⟨b,o+2,none⟩)) w:=by kernel_rfl
theorem fa255_0 (b o:Nat)(w:World):(Instr.fieldAt 255 (.pointer (some ⟨b,o,none⟩)) 0).run prog w= .ok (.pointer (some ⟨b,o,none⟩)) w:=by kernel_rfl
theorem fa255_1 (b o:Nat)(w:World):(Instr.fieldAt 255 (.pointer (some ⟨b,o,none⟩)) 1).run prog w= .ok (.pointer (some ⟨b,o+1,none⟩)) w:=by kernel_rfl
theorem fa264_0 (b o:Nat)(w:World):(Instr.fieldAt 264 (.pointer (some ⟨b,o,none⟩)) 0).run prog w= .ok (.pointer (some ⟨b,o,none⟩)) w:=by kernel_rfl
theorem fa264_1 (b o:Nat)(w:World):(Instr.fieldAt 264 (.pointer (some ⟨b,o,none⟩)) 1).run prog w= .ok (.pointer (some ⟨b,o+1,none⟩)) w:=by kernel_rfl
theorem fa266_0 (b o:Nat)(w:World):(Instr.fieldAt 266 (.pointer (some ⟨b,o,none⟩)) 0).run prog w= .ok (.pointer (some ⟨b,o,none⟩)) w:=by kernel_rfl
theorem fa266_1 (b o:Nat)(w:World):(Instr.fieldAt 266 (.pointer (some ⟨b,o,none⟩)) 1).run prog w= .ok (.pointer (some ⟨b,o+1,none⟩)) w:=by kernel_rfl
theorem fa266_2 (b o:Nat)(w:World):(Instr.fieldAt 266 (.pointer (some ⟨b,o,none⟩)) 2).run prog w= .ok (.pointer (some ⟨b,o+2,none⟩)) w:=by kernel_rfl
def tb:Tab prog:=⟨[((26,0),none),((26,1),some 1),((26,2),some 2),((32,0),none),((32,1),some 1),((32,2),some 2),((59,0),none),((59,1),some 1),((59,2),some 2),((59,3),some 3),((59,4),some 4),((64,0),none),((64,1),some 1),((77,0),none),((77,1),some 1),((77,2),some 2),((77,3),some 3),((77,4),some 13),((77,5),some 14),((93,0),none),((93,1),some 1),((93,2),some 2),((95,0),none),((95,1),some 1),((95,2),some 2),((117,0),none),((117,1),some 3),((117,3),some 5),((117,4),some 6),((121,0),none),((121,1),some 10),((124,0),none),((124,1),some 1),((124,2),some 21),((124,3),some 22),((125,0),none),((125,1),some 10),((127,0),none),((127,1),some 1),((135,0),none),((135,1),some 1),((135,2),some 2),((140,0),none),((140,2),some 2),((140,3),some 3),((148,0),none),((148,1),some 1),((153,0),none),((153,1),some 4),((153,2),some 8),((171,0),none),((171,1),some 1),((176,0),none),((176,1),some 1),((179,0),none),((179,1),some 1),((194,0),none),((194,1),some 1),((194,2),some 2),((194,3),some 3),((197,0),none),((197,1),some 1),((212,0),none),((212,1),some 4),((219,0),none),((219,1),some 1),((229,0),none),((229,1),some 2),((255,0),none),((255,1),some 1),((264,0),none),((264,1),some 1),((266,0),none),((266,1),some 1),((266,2),some 2)],[22,23,24,27,28,34,41,49,54,68,80,122,128,133,164,199,214,226,253],⟨fun _ _ _=>Eu _ _ _,fun _ _ _=>Eh _ _ _,fun _ _ _=>Fc _ _ _,fun _ _ _=>fa32_0 _ _ _,fun _ _ _=>fa32_1 _ _ _,fun _ _ _=>Jo _ _ _,fun _ _ _=>Gt _ _ _,fun _ _ _=>Fq _ _ _,fun _ _ _=>Fd _ _ _,fun _ _ _=>Kj _ _ _,fun _ _ _=>Kk _ _ _,fun _ _ _=>fa64_0 _ _ _,fun _ _ _=>fa64_1 _ _ _,fun _ _ _=>fa77_0 _ _ _,fun _ _ _=>fa77_1 _ _ _,fun _ _ _=>fa77_2 _ _ _,fun _ _ _=>fa77_3 _ _ _,fun _ _ _=>fa77_4 _ _ _,fun _ _ _=>fa77_5 _ _ _,fun _ _ _=>fa93_0 _ _ _,fun _ _ _=>fa93_1 _ _ _,fun _ _ _=>fa93_2 _ _ _,fun _ _ _=>Kl _ _ _,fun _ _ _=>Ia _ _ _,fun _ _ _=>fa95_2 _ _ _,fun _ _ _=>fa117_0 _ _ _,fun _ _ _=>fa117_1 _ _ _,fun _ _ _=>fa117_3 _ _ _,fun _ _ _=>fa117_4 _ _ _,fun _ _ _=>fa121_0 _ _ _,fun _ _ _=>fa121_1 _ _ _,fun _ _ _=>fa124_0 _ _ _,fun _ _ _=>fa124_1 _ _ _,fun _ _ _=>fa124_2 _ _ _,fun _ _ _=>Gb _ _ _,fun _ _ _=>Ha _ _ _,fun _ _ _=>Hd _ _ _,fun _ _ _=>fa127_0 _ _ _,fun _ _ _=>Im _ _ _,fun _ _ _=>fa135_0 _ _ _,fun _ _ _=>fa135_1 _ _ _,fun _ _ _=>fa135_2 _ _ _,fun _ _ _=>fa140_0 _ _ _,fun _ _ _=>fa140_2 _ _ _,fun _ _ _=>fa140_3 _ _ _,fun _ _ _=>Ex _ _ _,fun _ _ _=>Ey _ _ _,fun _ _ _=>fa153_0 _ _ _,fun _ _ _=>fa153_1 _ _ _,fun _ _ _=>fa153_2 _ _ _,fun _ _ _=>fa171_0 _ _ _,fun _ _ _=>J4 _ _ _,fun _ _ _=>fa176_0 _ _ _,fun _ _ _=>fa176_1 _ _ _,fun _ _ _=>fa179_0 _ _ _,fun _ _ _=>fa179_1 _ _ _,fun _ _ _=>He _ _ _,fun _ _ _=>fa194_1 _ _ _,fun _ _ _=>fa194_2 _ _ _,fun _ _ _=>fa194_3 _ _ _,fun _ _ _=>fa197_0 _ _ _,fun _ _ _=>J5 _ _ _,fun _ _ _=>fa212_0 _ _ _,fun _ _ _=>fa212_1 _ _ _,fun _ _ _=>fa219_0 _ _ _,fun _ _ _=>fa219_1 _ _ _,fun _ _ _=>fa229_0 _ _ _,fun _ _ _=>fa229_1 _ _ _,fun _ _ _=>fa255_0 _ _ _,fun _ _ _=>fa255_1 _ _ _,fun _ _ _=>fa264_0 _ _ _,fun _ _ _=>fa264_1 _ _ _,fun _ _ _=>fa266_0 _ _ _,fun _ _ _=>fa266_1 _ _ _,fun _ _ _=>fa266_2 _ _ _,trivial⟩,⟨⟨_,runUnderlying22⟩,⟨_,runUnderlying23⟩,⟨_,runUnderlying24⟩,⟨_,runUnderlying27⟩,⟨_,runUnderlying28⟩,⟨_,runUnderlying34⟩,⟨_,runUnderlying41⟩,⟨_,runUnderlying49⟩,⟨_,runUnderlying54⟩,⟨_,runUnderlying68⟩,⟨_,runUnderlying80⟩,⟨_,runUnderlying122⟩,⟨_,runUnderlying128⟩,⟨_,runUnderlying133⟩,⟨_,runUnderlying164⟩,⟨_,runUnderlying199⟩,⟨_,runUnderlying214⟩,⟨_,runUnderlying226⟩,⟨_,runUnderlying253⟩,trivial⟩⟩
structure Lnk where
 src:Int
 dst:Int
 cap:Int
instance:DecidableEq Lnk:=fun a b=>decidable_of_iff (a.src=b.src/\a.dst=b.dst/\a.cap=b.cap) ⟨fun h=>by cases a;cases b;simp_all,fun h=>by subst h;exact⟨rfl,rfl,rfl⟩⟩
instance:Inhabited Lnk:=⟨⟨0,0,0⟩⟩
structure Hop where
 link:Int
 port:Int
 tag:Int
 step:Int
instance:DecidableEq Hop:=fun a b=>decidable_of_iff (a.link=b.link/\a.port=b.port/\a.tag=b.tag/\a.step=b.step) ⟨fun h=>by cases a;cases b;simp_all,fun h=>by subst h;exact⟨rfl,rfl,rfl,rfl⟩⟩
instance:Inhabited Hop:=⟨⟨0,0,0,0⟩⟩
structure Way where
 src:Int
 links:List Int
 port:Int
 tag:Int
 step:Int
instance:DecidableEq Way:=fun a b=>decidable_of_iff (a.src=b.src/\a.links=b.links/\a.port=b.port/\a.tag=b.tag/\a.step=b.step) ⟨fun h=>by cases a;cases b;simp_all,fun h=>by subst h;exact⟨rfl,rfl,rfl,rfl,rfl⟩⟩
instance:Inhabited Way:=⟨⟨0,[],0,0,0⟩⟩
def dstOf (ls:List Lnk) (l:Int):Int:=(ls.getD l.toNat default).dst
def walkF (ls:List Lnk):Int->List Int->Int × Bool
 |at',[]=>(at',true)
 |at',l::path=>if 0<=l/\l<ls.length/\(ls.getD l.toNat default).src=at' then walkF ls (dstOf ls l) path else (-1,false)
def hopsF (ls:List Lnk) (w:Way):Int->List Int->List (Int × Hop)
 |at',[]=>[(at',⟨-1,w.port,w.tag,w.step⟩)]
 |at',l::path=>(at',⟨l,l, -1, -1⟩)::hopsF ls w (dstOf ls l) path
def hops (ls:List Lnk) (w:Way):List (Int × Hop):=hopsF ls w w.src w.links
def nodesF (ls:List Lnk) (w:Way):List Int:=(hops ls w).map (·.1)
def atF (ls:List Lnk) (w:Way) (node:Int):Option Hop:=((hops ls w).find? fun p=>p.1==node).map (·.2)
def differ (ls:List Lnk) (a b:Way) (k:Int):Bool:=
 match atF ls a k,atF ls b k with
 |some x,some y=>x !=y
 |_,_=>false
def confR (ls:List Lnk) (n:Nat) (a b:Way):Option Nat:=(List.range n).find? fun k=>differ ls a b k
def apart (ls:List Lnk) (b:Way) (p:Int × Hop):Bool:=
 match atF ls b p.1 with
 |some y=>p.2 !=y
 |none=>false
def leastI (ls:List Lnk) (b:Way) (m:Int) (p:Int × Hop):Int:=if apart ls b p&&(decide (m<0)||decide (p.1<m)) then p.1 else m
def confI (ls:List Lnk) (a b:Way):Int:=(hops ls a).foldl (leastI ls b) (-1)
theorem walkF_end (ls:List Lnk)(N:Nat)(hd:∀ l,l<ls.length->0<=(ls.getD l default).dst/\(ls.getD l default).dst<N):
  ∀ (path:List Int) (a:Int),0<=a->a<N->(walkF ls a path).2=true->0<=(walkF ls a path).1/\(walkF ls a path).1<N
 |[],a,h0,h1,_=>⟨h0,h1⟩
 |l::path,a,h0,h1,h=>by
  unfold walkF at h ⊢
  split at h
  ·rename_i hc;rw[if_pos hc];have:=hd l.toNat qom;exact walkF_end ls N hd path _ this.1 this.2 h
  ·cases h
theorem hopsF_len (ls:List Lnk)(w:Way):∀ (path:List Int) (a:Int),(hopsF ls w a path).length=path.length+1
 |[],_=>rfl
 |_::path,a=>by simp[hopsF,hopsF_len ls w path]
theorem hopsF_node (ls:List Lnk)(N:Nat)(w:Way)(hd:∀ l,l<ls.length->0<=(ls.getD l default).dst/\(ls.getD l default).dst<N):
  ∀ (path:List Int) (a:Int),0<=a->a<N->(walkF ls a path).2=true->∀ p∈hopsF ls w a path,0<=p.1/\p.1<N
 |[],a,h0,h1,_,p,hp=>by simp[hopsF] at hp;subst hp;exact⟨h0,h1⟩
 |l::path,a,h0,h1,h,p,hp=>by
  unfold walkF at h
  split at h
  ·rename_i hc;have:=hd l.toNat qom;simp only[hopsF,List.mem_cons] at hp;rcases hp with rfl|hp
   ·exact⟨h0,h1⟩
   ·exact hopsF_node ls N w hd path _ this.1 this.2 h p hp
  ·cases h
theorem Hf {ls:List Lnk}{w:Way}{k:Int}{x:Hop}(h:atF ls w k=some x):(k,x)∈hops ls w:=by
 unfold atF at h;simp only[Option.map_eq_some_iff] at h;obtain⟨p,hp,rfl⟩:=h;have h1:=List.find?_some hp;have h2:=List.mem_of_find?_eq_some hp;simp only[beq_iff_eq] at h1;rw[<- h1];exact h2
theorem Fe {ls:List Lnk}{w:Way}(hnd:(nodesF ls w).Nodup){k:Int}{x:Hop}(h:(k,x)∈hops ls w):atF ls w k=some x:=by
 unfold nodesF at hnd;unfold atF
 generalize hops ls w=l at *
 induction l with
 |nil=>cases h
 |cons p l ih=>
  simp only[List.map_cons,List.nodup_cons] at hnd;rw[List.find?_cons];rcases List.mem_cons.1 h with rfl|h'
  ·simp
  ·have hne:(p.1==k)=false:=by
    simp only[beq_eq_false_iff_ne];rintro rfl;exact hnd.1 (List.mem_map.2 ⟨_,h',rfl⟩)
   rw[hne];exact ih hnd.2 h'
theorem Gc (ls:List Lnk)(b:Way):∀ (l:List (Int × Hop)) (m:Int),(∀ p∈l,0<=p.1)->(m= -1\/0<=m)->
  (l.foldl (leastI ls b) m= -1/\m= -1/\∀ p∈l,apart ls b p=false)\/
  (0<=l.foldl (leastI ls b) m/\(l.foldl (leastI ls b) m=m\/∃ p∈l,apart ls b p=true/\p.1=l.foldl (leastI ls b) m)/\(m= -1\/l.foldl (leastI ls b) m<=m)/\∀ p∈l,apart ls b p=true->l.foldl (leastI ls b) m<=p.1)
 |[],m,_,hm=>by
  rcases hm with rfl|hm
  ·exact .inl ⟨rfl,rfl,by simp⟩
  ·exact .inr ⟨hm, .inl U, .inr (Int.le_refl _),by simp⟩
 |p::l,m,hp,hm=>by
  have hp0:=hp p (by simp);have hl:∀ q∈l,0<=q.1:=fun q hq=>hp q (by simp[hq])
  simp only[List.foldl_cons];cases ha:apart ls b p
  ·have e:leastI ls b m p=m:=by unfold leastI;rw[ha];rfl
   rw[e];rcases Gc ls b l m hl hm with ⟨h1,h2,h3⟩|⟨h1,h2,h3,h4⟩
   ·refine .inl ⟨h1,h2,fun q hq=> ?_⟩;rcases List.mem_cons.1 hq with rfl|hq
    ·exact ha
    ·exact h3 q hq
   ·refine .inr ⟨h1,h2.imp id fun ⟨q,hq,h⟩=>⟨q,by simp[hq],h⟩,h3,fun q hq hqa=> ?_⟩;rcases List.mem_cons.1 hq with rfl|hq
    ·rw[ha] at hqa;cases hqa
    ·exact h4 q hq hqa
  ·by_cases hc:m<0\/p.1<m
   ·have e:leastI ls b m p=p.1:=by unfold leastI;rw[ha,if_pos (by simpa using hc)]
    rw[e];rcases Gc ls b l p.1 hl (.inr hp0) with ⟨_,h2,_⟩|⟨h1,h2,h3,h4⟩
    ·rw[h2] at hp0;exact absurd hp0 qde
    ·have h3':l.foldl (leastI ls b) p.1<=p.1:=by rcases h3 with h3|h3<;>omega
     have hlm:m= -1\/l.foldl (leastI ls b) p.1<=m:=by
      clear e h2 h4;rcases hm with hm|hm
      ·exact .inl hm
      ·exact .inr qom
     refine .inr ⟨h1, .inr ?_,hlm,fun q hq hqa=> ?_⟩
     ·rcases h2 with h2|⟨q,hq,h,h'⟩
      ·exact⟨p,by simp,ha,h2.symm⟩
      ·exact⟨q,by simp[hq],h,h'⟩
     ·rcases List.mem_cons.1 hq with rfl|hq
      ·exact h3'
      ·exact h4 q hq hqa
   ·have e:leastI ls b m p=m:=by unfold leastI;rw[ha,if_neg (by simpa using hc)]
    rw[e];rcases Gc ls b l m hl hm with ⟨h1,h2,h3⟩|⟨h1,h2,h3,h4⟩
    ·omega
    ·refine .inr ⟨h1,h2.imp id fun ⟨q,hq,h⟩=>⟨q,by simp[hq],h⟩,h3,fun q hq hqa=> ?_⟩;rcases List.mem_cons.1 hq with rfl|hq
     ·rcases h3 with h3|h3<;>omega
     ·exact h4 q hq hqa
theorem differ_apart {ls:List Lnk}{a b:Way}(hnd:(nodesF ls a).Nodup){p:Int × Hop}(hp:p∈hops ls a):differ ls a b p.1=apart ls b p:=by
 unfold differ apart;rw[Fe hnd (show (p.1,p.2)∈hops ls a from hp)];cases atF ls b p.1<;>rfl
theorem differ_mem {ls:List Lnk}{a b:Way}{k:Int}(h:differ ls a b k=true):∃ x,(k,x)∈hops ls a:=by
 unfold differ at h;cases ha:atF ls a k with
 |none=>rw[ha] at h;cases h
 |some x=>exact⟨x,Hf ha⟩
theorem conf_same {ls:List Lnk}{a b:Way}{n:Nat}(hnd:(nodesF ls a).Nodup)(hn:∀ p∈hops ls a,0<=p.1/\p.1<n):
  (confI ls a b= -1/\confR ls n a b=none)\/∃ k:Nat,confI ls a b=k/\confR ls n a b=some k:=by
 rcases Gc ls b (hops ls a) (-1) (fun p hp=>(hn p hp).1) (.inl rfl) with ⟨h1,_,h3⟩|⟨h1,h2,_,h4⟩
 ·refine .inl ⟨h1,?_⟩;unfold confR;rw[List.find?_eq_none];intro k _ hd;obtain⟨x,hx⟩:=differ_mem hd;have h5:=h3 _ hx;have h6:=differ_apart (b:=b) hnd hx;simp only at h6;rw[h6] at hd;rw[h5] at hd;cases hd
 ·rcases h2 with h2|⟨p,hp,ha,h2⟩
  ·have:(0:Int)<= -1:=h2 ▸ h1;exact absurd this qde
  ·have hk:=hn p hp;have hc:confI ls a b=p.1:=h2.symm;refine .inr ⟨p.1.toNat,by rw[hc];omega,?_⟩;unfold confR;rw[List.find?_range_eq_some];refine⟨?_,by rw[List.mem_range];omega,fun j hj=> ?_⟩
   ·rw[show ((p.1.toNat:Nat):Int)=p.1 by omega,differ_apart hnd hp];exact ha
   ·rw[Bool.not_eq_true',Bool.eq_false_iff];intro hd;obtain⟨x,hx⟩:=differ_mem hd;have h6:=differ_apart (b:=b) hnd hx;simp only at h6;rw[h6] at hd;have h7:=h4 _ hx hd;simp only at h7;rw[<- h2] at h7;omega
abbrev Plan:=Int->Int->Option Hop
def addP (ls:List Lnk) (p:Plan) (w:Way) (t:Int):Plan:=fun s k=>if s=t then (match atF ls w k with|some h=>some h|none=>p s k) else p s k
def planR (ls:List Lnk):List (Way × Int)->Plan
 |[]=>fun _ _=>none
 |e::l=>addP ls (planR ls l) e.1 e.2
def okAt (p:Plan) (t:Int) (e:Int × Hop):Bool:=match p t e.1 with|some x=>x==e.2|none=>true
def fitsP (ls:List Lnk) (p:Plan) (w:Way) (t:Int):Bool:=(hops ls w).all (okAt p t)
def Cons (ls:List Lnk) (l:List (Way × Int)):Prop:=∀ e∈l,∀ e'∈l,e.2=e'.2->∀ k x y,atF ls e.1 k=some x->atF ls e'.1 k=some y->x=y
theorem E5 {ls:List Lnk}{s k:Int}{h:Hop}:∀ {l:List (Way × Int)},planR ls l s k=some h->∃ e∈l,e.2=s/\atF ls e.1 k=some h
 |[],hp=>by cases hp
 |e::l,hp=>by
  unfold planR addP at hp
  split at hp
  ·rename_i hs
   split at hp
   ·rename_i x hx;simp only[Option.some.injEq] at hp;exact⟨e,by simp,hs.symm,by rw[hx,hp]⟩
   ·obtain⟨e',he',h1,h2⟩:=E5 hp;exact⟨e',by simp[he'],h1,h2⟩
  ·obtain⟨e',he',h1,h2⟩:=E5 hp;exact⟨e',by simp[he'],h1,h2⟩
theorem Cons.tail {ls:List Lnk}{e:Way × Int}{l:List (Way × Int)}(h:Cons ls (e::l)):Cons ls l:=
 fun a ha b hb=>h a (by simp[ha]) b (by simp[hb])
theorem Io {ls:List Lnk}{k:Int}{x:Hop}:∀ {l:List (Way × Int)},Cons ls l->∀ {e:Way × Int},e∈l->atF ls e.1 k=some x->planR ls l e.2 k=some x
 |[],_,_,he,_=>by cases he
 |a::l,hc,e,he,hx=>by
  unfold planR addP
  by_cases hs:e.2=a.2
  ·rw[if_pos hs];cases ha:atF ls a.1 k with
   |some y=>simp only;rw[hc e he a (by simp) hs k x y hx ha]
   |none=>
    simp only;rcases List.mem_cons.1 he with rfl|he
    ·rw[ha] at hx;cases hx
    ·exact Io hc.tail he hx
  ·rw[if_neg hs];rcases List.mem_cons.1 he with rfl|he
   ·exact absurd U hs
   ·exact Io hc.tail he hx
theorem differ_iff {ls:List Lnk}{a b:Way}{k:Int}:differ ls a b k=true↔∃ x y,atF ls a k=some x/\atF ls b k=some y/\x≠y:=by
 unfold differ;cases atF ls a k<;>cases atF ls b k<;>simp
theorem Ip {ls:List Lnk}{l:List (Way × Int)}{w:Way}{t:Int}(hc:Cons ls l)(hw:(nodesF ls w).Nodup):
  fitsP ls (planR ls l) w t=true↔∀ e∈l,e.2=t->∀ k,differ ls e.1 w k=false:=by
 unfold fitsP;rw[List.all_eq_true]
 constructor
 ·intro h e he ht k;rw[Bool.eq_false_iff];intro hd;obtain⟨x,y,hx,hy,hne⟩:=differ_iff.1 hd;have h1:=h _ (Hf hy);unfold okAt at h1;rw[<- ht,Io hc he hx] at h1;exact hne (by simpa using h1)
 ·rintro h ⟨k,y⟩ hp;unfold okAt;cases hx:planR ls l t k with
  |none=>rfl
  |some x=>
   obtain⟨e,he,ht,ha⟩:=E5 hx;have hy:=Fe hw hp;have hd:=h e he ht k;simp only
   by_cases hxy:x=y
   ·simp[hxy]
   ·rw[(differ_iff).2 ⟨x,y,ha,hy,hxy⟩] at hd;cases hd
theorem Cons.cons {ls:List Lnk}{l:List (Way × Int)}{w:Way}{t:Int}(hc:Cons ls l)(hw:(nodesF ls w).Nodup)(hf:fitsP ls (planR ls l) w t=true):Cons ls ((w,t)::l):=by
 have h:=(Ip hc hw).1 hf;have key:∀ e∈l,e.2=t->∀ k x y,atF ls e.1 k=some x->atF ls w k=some y->x=y:=by
  intro e he ht k x y hx hy;have hd:=h e he ht k
  by_cases hxy:x=y
  ·exact hxy
  ·rw[(differ_iff).2 ⟨x,y,hx,hy,hxy⟩] at hd;cases hd
 rintro e he e' he' hee k x y hx hy;rcases List.mem_cons.1 he with rfl|he<;>rcases List.mem_cons.1 he' with rfl|he'
 ·rw[hx] at hy;simpa using hy
 ·exact(key e' he' hee.symm k y x hy hx).symm
 ·exact key e he hee k x y hx hy
 ·exact hc e he e' he' hee k x y hx hy
theorem Cons.nil (ls:List Lnk):Cons ls []:=fun _ h=>by cases h
def freeR (ls:List Lnk) (n:Nat) (l:List (Way × Int)) (t:Int) (w:Way):Bool:=l.all fun e=>e.2 !=t||(confR ls n e.1 w).isNone
theorem Ff {ls:List Lnk}{n:Nat}{a b:Way}(hn:∀ p∈hops ls a,0<=p.1/\p.1<n):confR ls n a b=none↔∀ k,differ ls a b k=false:=by
 unfold confR;rw[List.find?_eq_none]
 constructor
 ·intro h k;rw[Bool.eq_false_iff];intro hd;obtain⟨x,hx⟩:=differ_mem hd;have hk:=hn _ hx;simp only at hk;refine h k.toNat (by rw[List.mem_range];omega) ?_;rw[show ((k.toNat:Nat):Int)=k by omega];exact hd
 ·intro h k _ hd;rw[h k] at hd;cases hd
theorem free_fits {ls:List Lnk}{n:Nat}{l:List (Way × Int)}{w:Way}{t:Int}(hc:Cons ls l)(hw:(nodesF ls w).Nodup)(hn:∀ e∈l,∀ p∈hops ls e.1,0<=p.1/\p.1<n):
  freeR ls n l t w=fitsP ls (planR ls l) w t:=by
 rw[Bool.eq_iff_iff,Ip hc hw];unfold freeR;rw[List.all_eq_true]
 constructor
 ·intro h e he ht;have h1:=h e he;rw[ht] at h1;simp only[bne_self_eq_false,Bool.false_or,Option.isNone_iff_eq_none] at h1;exact(Ff (hn e he)).1 h1
 ·intro h e he
  by_cases ht:e.2=t
  ·have h1:=(Ff (b:=w) (hn e he)).2 (h e he ht);rw[h1];simp
  ·simp[ht]
theorem fits_new {ls:List Lnk}{l:List (Way × Int)}{w:Way}{t:Int}(hc:Cons ls l)(hw:(nodesF ls w).Nodup)(h:∀ e∈l,e.2≠t):fitsP ls (planR ls l) w t=true:=
 (Ip hc hw).2 fun e he ht=>absurd ht (h e he)
theorem exists_new:∀ (l:List (Way × Int)) (first:Int),∃ d:Nat,d<=l.length/\∀ e∈l,e.2≠first+d:=by
 intro l first
 have key:∀ (n:Nat) (l:List Int),l.length<n->∃ d:Nat,d<n/\first+d∉l:=by
  intro n
  induction n with
  |zero=>intro l h;omega
  |succ n ih=>
   intro l h
   by_cases hm:first+(n:Int)∈l
   ·obtain⟨d,hd,hn⟩:=ih (l.erase (first+n)) (by rw[List.length_erase_of_mem hm];have:=List.length_pos_of_mem hm;omega);refine⟨d,by omega,fun hmem=>hn ?_⟩;rw[List.mem_erase_of_ne qom];exact hmem
   ·exact⟨n,by omega,hm⟩
 obtain⟨d,hd,hn⟩:=key (l.length+1) (l.map (·.2)) (by simp);exact⟨d,by omega,fun e he h=>hn (List.mem_map.2 ⟨e,he,h⟩)⟩
def lowest (f:Int->Bool):Nat->Int->Int
 |0,t=>t
 |n+1,t=>if f t then t else lowest f n (t+1)
theorem lowest_spec {f:Int->Bool}:∀ {n:Nat} {t:Int},(∃ d:Nat,d<=n/\f (t+d)=true)->f (lowest f n t)=true/\t<=lowest f n t/\lowest f n t<=t+n/\∀ s,t<=s->s<lowest f n t->f s=false
 |0,t,⟨d,hd,hf⟩=>by
  have:d=0:=by omega
  subst this;exact⟨by simpa[lowest] using hf,by simp[lowest],by simp[lowest],fun s h1 h2=>by simp[lowest] at h2;omega⟩
 |n+1,t,⟨d,hd,hf⟩=>by
  unfold lowest;cases h:f t
  ·rw[if_neg (by simp)];have hd0:d≠0:=by rintro rfl;simp[h] at hf
   obtain⟨h1,h2,h3,h4⟩:=lowest_spec (f:=f) (n:=n) (t:=t+1) ⟨d - 1,by omega,by rw[show t+1+((d - 1:Nat):Int)=t+d by omega];exact hf⟩;refine⟨h1,by omega,by omega,fun s hs hs2=> ?_⟩
   by_cases he:s=t
   ·rw[he,h]
   ·exact h4 s qom hs2
  ·rw[if_pos rfl];exact⟨h,by omega,by omega,fun s h1 h2=>by omega⟩
def tagF (ls:List Lnk) (first:Int) (l:List (Way × Int)) (w:Way):Int:=lowest (fitsP ls (planR ls l) w) l.length first
theorem tagF_spec {ls:List Lnk}{first:Int}{l:List (Way × Int)}{w:Way}(hc:Cons ls l)(hw:(nodesF ls w).Nodup):
  fitsP ls (planR ls l) w (tagF ls first l w)=true/\first<=tagF ls first l w/\tagF ls first l w<=first+l.length/\∀ s,first<=s->s<tagF ls first l w->fitsP ls (planR ls l) w s=false:=by
 obtain⟨d,hd,hn⟩:=exists_new l first
 exact lowest_spec ⟨d,hd,fits_new hc hw hn⟩
def asgF (ls:List Lnk) (first:Int):List (Way × Int)->List Way->Option (List (Way × Int))
 |l,[]=>some l
 |l,w::ws=>if 65535<tagF ls first l w then none else asgF ls first ((w,tagF ls first l w)::l) ws
inductive Made (ls:List Lnk) (first:Int):List (Way × Int)->Prop
 |nil:Made ls first []
 |cons {l w}:Made ls first l->(nodesF ls w).Nodup->Made ls first ((w,tagF ls first l w)::l)
theorem Made.cons' {ls:List Lnk}{first:Int}{l:List (Way × Int)}(h:Made ls first l):Cons ls l:=by
 induction h with
 |nil=>exact Cons.nil ls
 |cons _ hw ih=>exact ih.cons hw (tagF_spec ih hw).1
theorem differ_swap (ls:List Lnk)(a b:Way)(k:Int):differ ls a b k=differ ls b a k:=by
 unfold differ;cases atF ls a k with
 |none=>cases atF ls b k<;>rfl
 |some x=>
  cases atF ls b k with
  |none=>rfl
  |some y=>
   simp only
   by_cases h:x=y
   ·simp[h]
   ·rw[Bool.eq_iff_iff];simp[h,Ne.symm h]
theorem confR_swap (ls:List Lnk)(n:Nat)(a b:Way):confR ls n a b=confR ls n b a:=by
 unfold confR;congr 1;funext k;exact differ_swap ls a b k
theorem Hg:∀ {a b:List Int},a.Pairwise (· < ·)->b.Pairwise (· < ·)->(∀ x,x∈a↔x∈b)->a=b
 |[],[],_,_,_=>rfl
 |[],y::b,_,_,h=>by have:=(h y).2 (by simp);cases this
 |x::a,[],_,_,h=>by have:=(h x).1 (by simp);cases this
 |x::a,y::b,ha,hb,h=>by
  rw[List.pairwise_cons] at ha hb;have hxy:x=y:=by
   rcases List.mem_cons.1 ((h x).1 (by simp)) with e|e
   ·exact e
   ·rcases List.mem_cons.1 ((h y).2 (by simp)) with e'|e'
    ·exact e'.symm
    ·have h1:=hb.1 x e;have h2:=ha.1 y e';omega
  subst hxy
  congr 1
  refine Hg ha.2 hb.2 fun z=>⟨fun hz=> ?_,fun hz=> ?_⟩
  ·rcases List.mem_cons.1 ((h z).1 (by simp[hz])) with e|e
   ·have:=ha.1 z hz;omega
   ·exact e
  ·rcases List.mem_cons.1 ((h z).2 (by simp[hz])) with e|e
   ·have:=hb.1 z hz;omega
   ·exact e
theorem places_node {ps:List (Int × Int)}{us:List Int}{f:Int->Int->Bool}(hnd:ps.Nodup)(hs:ps.Pairwise fun a b=>a.1<=b.1)(hus:us.Pairwise (· < ·))
  (hm:∀ t k,(t,k)∈ps↔t∈us/\f t k=true) (k:Int):(ps.filter fun p=>p.2==k).map (·.1)=us.filter fun t=>f t k:=by
 refine Hg ?_ (hus.filter _) fun t=> ?_
 ·rw[List.pairwise_map];have h1:=hs.filter (fun p=>p.2==k);have h2:(ps.filter fun p=>p.2==k).Nodup:=hnd.filter _;refine(List.Pairwise.and h1 h2).imp_of_mem ?_;rintro⟨a,a'⟩ ⟨b,b'⟩ ha hb ⟨hle,hne⟩;simp only[List.mem_filter,beq_iff_eq] at ha hb;simp only at hle ⊢;rcases Int.lt_or_eq_of_le hle with h|h
  ·exact h
  ·exact absurd (by rw[h,ha.2,hb.2]) hne
 ·simp only[List.mem_map,List.mem_filter,beq_iff_eq]
  constructor
  ·rintro⟨⟨a,a'⟩,⟨h1,h2⟩,rfl⟩;simp only at h2;subst h2;exact(hm a a').1 h1
  ·rintro h;exact⟨(t,k),⟨(hm t k).2 h,rfl⟩,rfl⟩
def gd {α:Type} [Inhabited α] (l:List α) (i:Nat):α:=l.getD i default
theorem Dt {α:Type}[Inhabited α] {l:List α}{i:Nat}(h:i<l.length):l[i]? =some (gd l i):=by simp[gd,List.getD,h]
theorem Ay {α:Type}[Inhabited α] {l:List α}{i:Nat}(h:i<l.length):gd l i=l[i]:=by simp[gd,List.getD,h]
theorem Ao {α:Type}[Inhabited α] {l:List α}{i:Nat}(h:i<l.length):gd l i∈l:=by rw[Ay h];exact List.getElem_mem _
theorem Cy {α:Type}[Inhabited α] {l:List α}{k:Nat}(h:k<l.length):l.drop k=gd l k::l.drop (k+1):=by rw[List.drop_eq_getElem_cons h,Ay h]
theorem C6 {α:Type}[Inhabited α] {l:List α}{k:Nat}(h:k<l.length):l.take (k+1)=l.take k++[gd l k]:=by rw[List.take_succ_eq_append_getElem h,Ay h]
theorem Ep {α:Type}{l:List α}{k:Nat}(h: ¬ k<l.length):l.drop k=[]:=List.drop_eq_nil_of_le qom
theorem Er {α:Type}{l:List α}{k:Nat}(h: ¬ k<l.length):l.take k=l:=List.take_of_length_le qom
theorem Cr {α β:Type}[Inhabited α] [Inhabited β] {f:α->β}{l:List α}{k:Nat}(h:k<l.length):gd (l.map f) k=f (gd l k):=by rw[Ay h,Ay (by simpa using h)];simp
section
variable {α:Type} [Inhabited α] {w0:World} {H H':List (Nat × Obj)} {q:Option Addr} {sz:Nat} {enc:α->List Value} {l:List α} {i j:Nat} {v:Value}
theorem Arr.b (h:Arr w0 H q sz enc l)(hi:i<l.length):Bas q:=(h i _ (Dt hi)).1
theorem Arr.cs (h:Arr w0 H q sz enc l)(hi:i<l.length):Cells w0 H (bq q) (oq q+i*sz) (enc (gd l i)):=(h i _ (Dt hi)).2
theorem Arr.f0 (h:Arr w0 H q sz enc l)(hi:i<l.length)(hv:nth? (enc (gd l i)) 0=some v):Cell w0 H ⟨bq q,oq q+i*sz,none⟩ v:=h.cs hi 0 v (Kd hv)
theorem Arr.f (h:Arr w0 H q sz enc l)(hi:i<l.length)(hv:nth? (enc (gd l i)) j=some v):Cell w0 H ⟨bq q,oq q+i*sz+j,none⟩ v:=h.cs hi j v (Kd hv)
end
abbrev encI (x:Int):List Value:=[.int .i64 x]
abbrev encS (s:ByteArray):List Value:=[.string s]
abbrev IntArr (w0:World) (H:List (Nat × Obj)) (q:Option Addr) (l:List Int):Prop:=Arr w0 H q 1 encI l
structure Nod where
 name:ByteArray
 box:Bool
 rules:Int
 entries:Int
instance:Inhabited Nod:=⟨⟨default,false,0,0⟩⟩
structure Edg where
 name:ByteArray
 node:Int
instance:Inhabited Edg:=⟨⟨default,0⟩⟩
abbrev encN (x:Nod):List Value:=[.string x.name, .bool x.box, .int .i64 x.rules, .int .i64 x.entries]
abbrev encL (x:Lnk):List Value:=[.int .i64 x.src, .int .i64 x.dst, .int .i64 x.cap]
abbrev encE (x:Edg):List Value:=[.string x.name, .int .i64 x.node]
structure Nm where
 nodes:List Nod
 links:List Lnk
 edges:List Edg
 qn:Option Addr
 cn:Nat
 ql:Option Addr
 cl:Nat
 qe:Option Addr
 ce:Nat
abbrev encNm (n:Nm):List Value:=[.slice n.qn n.nodes.length n.cn, .slice n.ql n.links.length n.cl, .slice n.qe n.edges.length n.ce]
structure NetM (w0:World) (H:List (Nat × Obj)) (n:Nm):Prop where
 nodes:Arr w0 H n.qn 4 encN n.nodes
 links:Arr w0 H n.ql 3 encL n.links
 edges:Arr w0 H n.qe 2 encE n.edges
 ln:n.nodes.length<=9223372036854775807
 ll:n.links.length<=9223372036854775807
 le:n.edges.length<=9223372036854775807
 sn:∀ x∈n.nodes,x.name.size<=9223372036854775807
 se:∀ x∈n.edges,x.name.size<=9223372036854775807
theorem NetM.mono {w0:World}{H H':List (Nat × Obj)}{n:Nm}(h:NetM w0 H n)(hs:H.Sublist H':=by exact sbt):NetM w0 H' n:=⟨h.nodes.mono hs,h.links.mono hs,h.edges.mono hs,h.ln,h.ll,h.le,h.sn,h.se⟩
structure Wm where
 way:Way
 q:Option Addr
 cap:Nat
instance:Inhabited Wm:=⟨⟨default,none,0⟩⟩
abbrev encW (m:Wm):List Value:=[.int .i64 m.way.src, .slice m.q m.way.links.length m.cap, .int .i64 m.way.port, .int .i64 m.way.tag, .int .i64 m.way.step]
structure WayM (w0:World) (H:List (Nat × Obj)) (m:Wm):Prop where
 links:IntArr w0 H m.q m.way.links
 len:m.way.links.length<=9223372036854775807
 pb: -9223372036854775808<=m.way.port/\m.way.port<=9223372036854775807
theorem WayM.mono {w0:World}{H H':List (Nat × Obj)}{m:Wm}(h:WayM w0 H m)(hs:H.Sublist H':=by exact sbt):WayM w0 H' m:=⟨h.links.mono hs,h.len,h.pb⟩
structure WaysM (w0:World) (H:List (Nat × Obj)) (q:Option Addr) (l:List Wm):Prop where
 arr:Arr w0 H q 5 encW l
 each:∀ m∈l,WayM w0 H m
 len:l.length<=9223372036854775807
theorem WaysM.mono {w0:World}{H H':List (Nat × Obj)}{q:Option Addr}{l:List Wm}(h:WaysM w0 H q l)(hs:H.Sublist H':=by exact sbt):WaysM w0 H' q l:=⟨h.arr.mono hs,fun m hm=>(h.each m hm).mono hs,h.len⟩
theorem WaysM.at {w0:World}{H:List (Nat × Obj)}{q:Option Addr}{l:List Wm}(h:WaysM w0 H q l){i:Nat}(hi:i<l.length):WayM w0 H (gd l i):=h.each _ (Ao hi)
abbrev encH (h:Hop):List Value:=[.int .i64 h.link, .int .i64 h.port, .int .i64 h.tag, .int .i64 h.step]
theorem IntArr.m {w0:World}{H H':List (Nat × Obj)}{q:Option Addr}{l:List Int}(h:IntArr w0 H q l)(hs:H.Sublist H':=by exact sbt):IntArr w0 H' q l:=h.mono hs
theorem Es {ls:List Lnk}{at' l:Int}{path:List Int}(h: ¬ (0<=l/\l<ls.length/\(gd ls l.toNat).src=at')):walkF ls at' (l::path)=(-1,false):=by
 unfold walkF;unfold gd at h;rw[if_neg h]
theorem Gv {ls:List Lnk}{at' l:Int}{path:List Int}(h:0<=l/\l<ls.length/\(gd ls l.toNat).src=at'):walkF ls at' (l::path)=walkF ls (gd ls l.toNat).dst path:=by
 unfold gd at *;rw[walkF,if_pos h];rfl
structure LnkOk (n:Nm) (x:Lnk):Prop where
 s0:0<=x.src
 s1:x.src<n.nodes.length
 d0:0<=x.dst
 d1:x.dst<n.nodes.length
 ne: ¬ x.src=x.dst
 c0:0<=x.cap
 c1:x.cap<=1048576
structure NetOk (n:Nm):Prop where
 links:∀ i,i<n.links.length->LnkOk n (gd n.links i)
 edges:∀ i,i<n.edges.length->0<=(gd n.edges i).node/\(gd n.edges i).node<n.nodes.length
theorem mixd:prog.follows .mixedOrders=true:=by kernel_rfl
abbrev encSet (w:Nat):List Value:=[.int .u64 (w:Int), .int .u64 0, .int .u64 0, .int .u64 0]
def wd (w k:Nat):Nat:=if k=0 then w else 0
theorem set_get {w k:Nat}(h:k<4):(encSet w)[k]? =some (.int .u64 (wd w k:Int)):=by
 match k,h with
 |0,_=>rfl
 |1,_=>rfl
 |2,_=>rfl
 |3,_=>rfl
theorem Kw {w k:Nat}(h:w<2 ^ 64):wd w k<2 ^ 64:=by
 unfold wd;split
 ·exact h
 ·exact Nat.two_pow_pos 64
theorem Hh {w0:World}{H:List (Nat × Obj)}{b w n:Nat}{t:TypeId}(hn:n<256)(hf:Fnd H b (Cl (encSet w) t)):Cell w0 H ⟨b,0+((n:Int) / 64).toNat*1,none⟩ (.int .u64 (wd w (n / 64):Int)):=by
 rw[show 0+((n:Int) / 64).toNat*1=n / 64 by omega];exact B6 hf (set_get qom)
theorem E6 {w0:World}{H:List (Nat × Obj)}{b w k:Nat}{t:TypeId}(hk:k<4)(hf:Fnd H b (Cl (encSet w) t)):Cell w0 H ⟨b,0+(k:Int).toNat*1,none⟩ (.int .u64 (wd w k:Int)):=by
 rw[show 0+(k:Int).toNat*1=k by omega];exact B6 hf (set_get hk)
theorem has_eq {w n:Nat}(hw:w<2 ^ 64):decide (((wd w (n / 64) / 2 ^ (n % 64) &&& 1:Nat):Int)=1)=w.testBit n:=by
 rw[Nat.and_one_is_mod]
 by_cases h:n<64
 ·rw[show n / 64=0 by omega,show n % 64=n by omega,Nat.testBit_eq_decide_div_mod_eq];show decide (((w / 2 ^ n % 2:Nat):Int)=1)=_;exact decide_eq_decide.2 qom
 ·have e:wd w (n / 64)=0:=by unfold wd;rw[if_neg qom]
  have h2:w<2 ^ n:=Nat.lt_of_lt_of_le hw (Nat.pow_le_pow_right qom qom);rw[e,Nat.testBit_lt_two_pow h2,Nat.zero_div]
  rfl
theorem has_s {w0:World}{H:List (Nat × Obj)}(w:Nat)(hw:w<2 ^ 64)(n:Nat)(hn:n<256):
  FSpec prog w0 140 #[.agg (encSet w).toArray, .int .i64 (n:Int)] H (Still (.bool (w.testBit n)) H):=by
 refine Az func140 U ntmps140 U (rD tb 2 U (e_ (Lt U cs_) ?_ U));rintro _ _ ⟨n2,rfl,rfl⟩;refine rO tb 6 U (y_ (yl_quo (T U) An qom) ?_ U);refine y_ (Cm (T U) (T U) runUnderlying151 sizeOf149 qom) ?_ U;refine y_ (Lo U isAgg149 (by first|exact c_o|exact Hh hn fdd)) ?_ U;refine rO tb 1 U (y_ (yl_rem (T U) An qom) ?_ U);refine y_ (yl_shr64 (n:=n % 64) (m:=wd w (n / 64)) qom (T U) (T U)) ?_ U;refine y_ (yl_and64 (m:=wd w (n / 64) / 2 ^ (n % 64)) (n:=1) (Nat.lt_of_le_of_lt (Nat.div_le_self _ _) (Kw hw)) qde (T U) An) ?_ U;refine rO tb 5 U (As U (Ll U) ?_);exact⟨_,⟨vbool (has_eq hw),rfl⟩,sbt⟩
theorem bd100_0_1 (a0:Int)(a1:Int)(w:World):(Instr.build 197 #[(0, .int .i64 a0),(1, .int .i64 a1)]).run prog w= .ok (.agg #[.int .i64 a0, .int .i64 a1]) w:=by kernel_rfl
theorem Ez (a0:Int)(a1:Int)(a2:Int)(a3:Int)(w:World):(Instr.build 194 #[(0, .int .i64 a0),(1, .int .i64 a1),(2, .int .i64 a2),(3, .int .i64 a3)]).run prog w= .ok (.agg #[.int .i64 a0, .int .i64 a1, .int .i64 a2, .int .i64 a3]) w:=by kernel_rfl
theorem bd72_z  (w:World):(Instr.build 194 #[]).run prog w= .ok (.agg #[.int .i64 0, .int .i64 0, .int .i64 0, .int .i64 0]) w:=by kernel_rfl
theorem bs116_1_0 (a0:ByteArray)(w:World):(Instr.buildSlice 68 1 #[(0, .string a0)]).run prog w= .ok (.slice (some ⟨w.heap.size,0,none⟩) 1 1) (w.alloc (Cl [.string a0] 9)):=by kernel_rfl
theorem Iq {a0:Int}(w:World):(Instr.buildSlice 41 1 #[(0, .int .i64 a0)]).run prog w= .ok (.slice (some ⟨w.heap.size,0,none⟩) 1 1) (w.alloc (Cl [.int .i64 a0] 3)):=by kernel_rfl
theorem within_sT {w0:World}{H:List (Nat × Obj)}(n lo hi:Int):
  FSpec prog w0 59 #[.int .i64 n, .int .i64 lo, .int .i64 hi] H (Still (.bool (decide (lo<=n/\n<=hi))) H):=by
 refine Az func59 U ntmps59 U (Am (Ad (y_ (Ag An) (Aj (Ah (Am (Ad (y_ (Af (T U)) (y_ (Af (T U)) (y_ (Ee (T U) (T U)) (y_ (Af (T U)) ?_ U) U) U) U))))) U)))
 first|refine Bi (s:=10) (Aa U) (fun c10=> ?_) (fun c10=> ?_)|refine B2 (s:=10) (Aa U) (fun c10=> ?_) (fun c10=> ?_)
 ·refine A3 (Af (T U)) U (Ax U U (Aa U)) (A3 (Af (T U)) U (Ax U U (Aa U)) (A3 (Ee (T U) (T U)) U (Ax U U (Aa U)) (y_ (Bh (T U) (T U)) (y_ (Ag (T U)) (Aj (Ah (Bq (As U (Ll U) ?_)))) U) U)));exact⟨_,⟨by simp[resOf,c10],rfl⟩,sbt⟩
 ·refine B8 (B8 (B8 (y_ (Bm (T U) An) (y_ (Ag (T U)) (Aj (Ah (Bq (As U (Ll U) ?_)))) U) U) U U U U) U U U U) U U U U;exact⟨_,⟨by simp[resOf,c10],rfl⟩,sbt⟩
theorem gwithin_s {w0:World}{H:List (Nat × Obj)}(n lo hi:Int):
  FSpec prog w0 85 #[.int .i64 n, .int .i64 lo, .int .i64 hi] H (Still (.bool (decide (lo<=n/\n<=hi))) H):=by
 refine Az func85 U ntmps85 U (Am (Ad (y_ (Ag An) (Aj (Ah (Am (Ad (y_ (Af (T U)) (y_ (Af (T U)) (y_ (Ee (T U) (T U)) (y_ (Af (T U)) ?_ U) U) U) U))))) U)))
 first|refine Bi (s:=10) (Aa U) (fun c10=> ?_) (fun c10=> ?_)|refine B2 (s:=10) (Aa U) (fun c10=> ?_) (fun c10=> ?_)
 ·refine A3 (Af (T U)) U (Ax U U (Aa U)) (A3 (Af (T U)) U (Ax U U (Aa U)) (A3 (Ee (T U) (T U)) U (Ax U U (Aa U)) (y_ (Bh (T U) (T U)) (y_ (Ag (T U)) (Aj (Ah (Bq (As U (Ll U) ?_)))) U) U)));exact⟨_,⟨by simp[resOf,c10],rfl⟩,sbt⟩
 ·refine B8 (B8 (B8 (y_ (Bm (T U) An) (y_ (Ag (T U)) (Aj (Ah (Bq (As U (Ll U) ?_)))) U) U) U U U U) U U U U) U U U U;exact⟨_,⟨by simp[resOf,c10],rfl⟩,sbt⟩
theorem isNode_sT {w0:World}{H:List (Nat × Obj)}(n:Nm)(k:Int):
  FSpec prog w0 96 #[.agg (encNm n).toArray, .int .i64 k] H (Still (.bool (decide (0<=k/\k<n.nodes.length))) H):=by
 refine Az func96 U ntmps96 U (Am (Ad (e_ (Lt U cs_) ?_ U)));rintro _ _ ⟨n2,rfl,rfl⟩;refine y_ (Ag An) (Aj (Ah (Am (Ad (y_ (Af (T U)) (y_ (Dy (T U) An) (y_ (Af (T U)) ?_ U) U) U))))) U
 first|refine Bi (s:=7) (Aa U) (fun c7=> ?_) (fun c7=> ?_)|refine B2 (s:=7) (Aa U) (fun c7=> ?_) (fun c7=> ?_)
 ·refine A3 (Af (T U)) U (Ax U U (Aa U)) (A3 (Cj (T U) Eu) U (Ax U U (Aa U)) (A3 (Lo U isAgg22 (by first|exact c_o)) U (Ax U U (Aa U)) ?_));refine A3 (Cd (T U) runUnderlying22) U (Ax U U (Aa U)) (A3 (Ci (T U) (T U)) U (Ax U U (Aa U)) (y_ (Bh (T U) (T U)) (y_ (Ag (T U)) (Aj (Ah (Bq (As U (Ll U) ?_)))) U) U));exact⟨_,⟨by simp[resOf,c7],rfl⟩,sbt⟩
 ·refine B8 (B8 (B8 (B8 (B8 (y_ (Bm (T U) An) (y_ (Ag (T U)) (Aj (Ah (Bq (As U (Ll U) ?_)))) U) U) U U U U) U U U U) U U U U) U U U U) U U U U;exact⟨_,⟨by simp[resOf,c7],rfl⟩,sbt⟩
theorem netFew_sT {w0:World}{H:List (Nat × Obj)}(n:Nm)(x y z:Int):
  FSpec prog w0 37 #[.agg (encNm n).toArray, .int .i64 x, .int .i64 y, .int .i64 z] H (Still (.bool (decide (n.nodes.length<=x/\n.links.length<=y/\n.edges.length<=z))) H):=by
 refine Az func37 U ntmps37 U (Am (Ad (e_ (Lt U cs_) ?_ U)));rintro _ _ ⟨n4,rfl,rfl⟩;refine y_ (Ag An) (Aj (Ah (Am (Ad (y_ (Cj (T U) Eu) (y_ (Lo U isAgg22 (by first|exact c_o)) ?_ U) U))))) U;refine y_ (Cd (T U) runUnderlying22) (y_ (Af (T U)) (y_ (Ee (T U) (T U)) (y_ (Af (T U)) ?_ U) U) U) U
 first|refine Bi (s:=14) (Aa U) (fun c14=> ?_) (fun c14=> ?_)|refine B2 (s:=14) (Aa U) (fun c14=> ?_) (fun c14=> ?_)
 ·refine A3 (Bt (T U) Eh) U (Ax U U (Aa U)) (A3 (Lo U isAgg23 (by first|exact c_o)) U (Ax U U (Aa U)) ?_);refine A3 (Cd (T U) runUnderlying23) U (Ax U U (Aa U)) (A3 (Af (T U)) U (Ax U U (Aa U)) (A3 (Ee (T U) (T U)) U (Ax U U (Aa U)) (y_ (Bh (T U) (T U)) (y_ (Af (T U)) ?_ U) U)))
  first|refine Bi (s:=21) (Aa U) (fun c21=> ?_) (fun c21=> ?_)|refine B2 (s:=21) (Aa U) (fun c21=> ?_) (fun c21=> ?_)
  ·refine A3 (Bt (T U) Fc) U (Ax U U (Aa U)) (A3 (Lo U isAgg24 (by first|exact c_o)) U (Ax U U (Aa U)) ?_);refine A3 (Cd (T U) runUnderlying24) U (Ax U U (Aa U)) (A3 (Af (T U)) U (Ax U U (Aa U)) (A3 (Ee (T U) (T U)) U (Ax U U (Aa U)) (y_ (Bh (T U) (T U)) (y_ (Ag (T U)) (Aj (Ah (Bq (As U (Ll U) ?_)))) U) U)));exact⟨_,⟨by simp[resOf, *],rfl⟩,sbt⟩
  ·refine B8 (B8 (B8 (B8 (B8 (y_ (Bm (T U) An) (y_ (Ag (T U)) (Aj (Ah (Bq (As U (Ll U) ?_)))) U) U) U U U U) U U U U) U U U U) U U U U) U U U U;exact⟨_,⟨by simp[resOf, *],rfl⟩,sbt⟩
 ·refine B8 (B8 (B8 (B8 (B8 (y_ (Bm (T U) An) (y_ (Af (T U)) (B8 (B8 (B8 (B8 (B8 (y_ (Bm (T U) An) (y_ (Ag (T U)) (Aj (Ah (Bq (As U (Ll U) ?_)))) U) U) U U U U) U U U U) U U U U) U U U U) U U U U) U) U) U U U U) U U U U) U U U U) U U U U) U U U U;exact⟨_,⟨by simp[resOf, *],rfl⟩,sbt⟩
theorem rwalk_sT {w0:World}{H:List (Nat × Obj)}(n:Nm)(hn:NetM w0 H n)(src:Int)(q:Option Addr)(cap:Nat)(path:List Int)(hp:IntArr w0 H q path)(hl:path.length<=9223372036854775807):
  FSpec prog w0 148 #[.agg (encNm n).toArray, .int .i64 src, .slice q path.length cap] H (Still (.tuple #[.int .i64 (walkF n.links src path).1, .bool (walkF n.links src path).2]) H):=by
 refine Az func148 U ntmps148 U (Am (Ad (e_ (Lt U cs_) ?_ U)));rintro _ _ ⟨n3,rfl,rfl⟩;refine y_ (Ag An) (y_ (Ag An) (Aj (Ah (Am (Am (Ad (y_ (Ag An) (Aj (Ah (Bo ?_))) U)))))) U) U;refine Cb (X:=Nat × Int) (V:=fun ⟨k,at'⟩=>[(8, .int .i64 (k:Nat)),(1, .int .i64 at')]) (C:=[(2,_),(3,_)]) (φ:=fun ⟨k,at'⟩=>k<=path.length/\walkF n.links at' (path.drop k)=walkF n.links src path) (μ:=fun ⟨k,at'⟩=>path.length - k) (x0:=(0,src)) ?_ (kg U) ⟨atd,atd,trivial⟩ ?_
 ·exact⟨Nat.zero_le _,rfl⟩
 rintro⟨k,at'⟩ ⟨hk,hw⟩;refine Am (Am (Ad (y_ (Af (T U)) (y_ (Af (T U)) (y_ (Cd (T U) runUnderlying41) (y_ (Ci (T U) (T U)) (Aj (Ah ?_)) U) U) U) U)))
 first|refine Ak (Aa U) (fun c13=> ?_) (fun c13=> ?_)|refine Au (Aa U) (fun c13=> ?_) (fun c13=> ?_)
 ·refine Bp (Ah (Am (Bo (Am (Ad (y_ (Af (T U)) (y_ (Af (T U)) (y_ (Lq U U runUnderlying41 sizeOf3 qom (by first|exact rfl|exact hp.b (i:=k) qom|exact hn.links.b (i:=(gd path k).toNat) qom)) ?_ U) U) U))))));refine y_ (Lo U isAgg3 (by first|exact c_o|exact c_m (hp.f0 qom U)|exact c_m (hn.links.f0 qom U)|exact c_m (hn.links.f qom U))) ?_ U;refine y_ (Ag (T U)) (Aj (Ah (Am (Am (Ad (y_ (Af (T U)) (y_ (Ci (T U) An) (y_ (Af (T U)) ?_ U) U) U)))))) U
  first|refine Bi (s:=22) (Aa U) (fun c22=> ?_) (fun c22=> ?_)|refine B2 (s:=22) (Aa U) (fun c22=> ?_) (fun c22=> ?_)
  ·refine Bs (Bs (Bs (Bs (Bs (y_ (Bh (T U) An) (y_ (Af (T U)) (Bs (Bs (Bs (Bs (Bs (Bs (Bs (Bs (y_ (Bh (T U) An) (Aj (Ah (B5 [(2,_),(3,_),(8,_),(9,_),(38,_)] (kg U) (Cf (Aa U) (Am (Ad (y_ (Ag An) (y_ (Ag An) (Aj (Ah (Bq (Aw (A4 (Aw (Bc (A4 (Aw (As U (.tmp (Aa U) (Ll U)) ?_)))))))))) U) U))))))) U) U U U U) U U U U) U U U U) U U U U) U U U U) U U U U) U U U U) U U U U) U) U) U U U U) U U U U) U U U U) U U U U) U U U U;exact⟨_,⟨by rw[<- hw,Cy (k:=k) qom,Es qom];rfl,rfl⟩,sbt⟩
  ·refine A3 (Af (T U)) U (Ax U U (Aa U)) (A3 (Bt (T U) Eh) U (Ax U U (Aa U)) (A3 (Lo U isAgg23 (by first|exact c_o|exact c_m (hp.f0 qom U)|exact c_m (hn.links.f0 qom U)|exact c_m (hn.links.f qom U))) U (Ax U U (Aa U)) ?_));refine A3 (Cd (T U) runUnderlying23) U (Ax U U (Aa U)) (A3 (Dy (T U) (T U)) U (Ax U U (Aa U)) (y_ (Bm (T U) (T U)) (y_ (Af (T U)) ?_ U) U))
   first|refine Bi (s:=29) (Aa U) (fun c29=> ?_) (fun c29=> ?_)|refine B2 (s:=29) (Aa U) (fun c29=> ?_) (fun c29=> ?_)
   ·refine Bs (Bs (Bs (Bs (Bs (Bs (Bs (Bs (y_ (Bh (T U) An) (Aj (Ah (B5 [(2,_),(3,_),(8,_),(9,_),(38,_)] (kg U) (Cf (Aa U) (Am (Ad (y_ (Ag An) (y_ (Ag An) (Aj (Ah (Bq (Aw (A4 (Aw (Bc (A4 (Aw (As U (.tmp (Aa U) (Ll U)) ?_)))))))))) U) U))))))) U) U U U U) U U U U) U U U U) U U U U) U U U U) U U U U) U U U U) U U U U;exact⟨_,⟨by rw[<- hw,Cy (k:=k) qom,Es qom];rfl,rfl⟩,sbt⟩
   ·refine A3 (Bt (T U) Eh) U (Ax U U (Aa U)) (A3 (Lo U isAgg23 (by first|exact c_o|exact c_m (hp.f0 qom U)|exact c_m (hn.links.f0 qom U)|exact c_m (hn.links.f qom U))) U (Ax U U (Aa U)) ?_);refine A3 (Af (T U)) U (Ax U U (Aa U)) (A3 (Bl (T U) (T U) runUnderlying23 sizeOf95 qom (by first|exact rfl|exact hp.b (i:=k) qom|exact hn.links.b (i:=(gd path k).toNat) qom)) U (Ax U U (Aa U)) ?_);refine A3 (Cj (T U) Kl) U (Ax U U (Aa U)) (A3 (Lo U isAgg3 (by first|exact c_o|exact c_m (hp.f0 qom U)|exact c_m (hn.links.f0 qom U)|exact c_m (hn.links.f qom U))) U (Ax U U (Aa U)) ?_);refine A3 (Af (T U)) U (Ax U U (Aa U)) (A3 (F7 (T U) (T U)) U (Ax U U (Aa U)) (y_ (Bm (T U) (T U)) (Aj (Ah (B5 [(2,_),(3,_),(8,_),(9,_),(38,_)] (kg U) ?_))) U))
    first|refine Ak (Aa U) (fun c38=> ?_) (fun c38=> ?_)|refine Au (Aa U) (fun c38=> ?_) (fun c38=> ?_)
    ·refine Am (Ad (y_ (Ag An) (y_ (Ag An) (Aj (Ah (Bq (Aw (A4 (Aw (Bc (A4 (Aw (As U (.tmp (Aa U) (Ll U)) ?_)))))))))) U) U));exact⟨_,⟨by rw[<- hw,Cy (k:=k) qom,Es qom];rfl,rfl⟩,sbt⟩
    ·refine Bp (Ah (Ad (y_ (Bt (T U) Eh) (y_ (Lo U isAgg23 (by first|exact c_o|exact c_m (hp.f0 qom U)|exact c_m (hn.links.f0 qom U)|exact c_m (hn.links.f qom U))) ?_ U) U)));refine y_ (Af (T U)) (y_ (Bl (T U) (T U) runUnderlying23 sizeOf95 qom (by first|exact rfl|exact hp.b (i:=k) qom|exact hn.links.b (i:=(gd path k).toNat) qom)) ?_ U) U;refine y_ (Bt (T U) Ia) (y_ (Lo U isAgg3 (by first|exact c_o|exact c_m (hp.f0 qom U)|exact c_m (hn.links.f0 qom U)|exact c_m (hn.links.f qom U))) ?_ U) U;refine y_ (Ag (T U)) (Aj (B4 (Ah (Ad (y_ (Af (T U)) (y_ (Bd (T U) An qom) ?_ U) U))))) U;refine y_ (Ag (T U)) (Aj ?_) U;refine A8 ((k+1,(gd n.links (gd path k).toNat).dst)) ?_ ?_ ⟨atd,atd,trivial⟩ (kg U) ?_
     ·exact⟨by omega,by rw[<- hw,Cy (k:=k) qom,Gv ⟨by omega,by omega,by simpa using c38⟩]⟩
     ·first|omega|(simp only[];omega)
     ·exact sbt
 ·refine Ct (Bv (Aq (Bw (Ah (Am (Ad (y_ (Af (T U)) (y_ (Ag (T U)) (y_ (Ag An) (Aj (Ah (Bq (As U (.tmp (Aa U) (Ll U)) ?_)))) U) U) U)))))));exact⟨_,⟨by rw[<- hw,Ep qom];rfl,rfl⟩,sbt⟩
theorem gwalk_sT {w0:World}{H:List (Nat × Obj)}(n:Nm)(hn:NetM w0 H n)(src:Int)(q:Option Addr)(cap:Nat)(path:List Int)(hp:IntArr w0 H q path)(hl:path.length<=9223372036854775807):
  FSpec prog w0 28 #[.agg (encNm n).toArray, .int .i64 src, .slice q path.length cap] H (Still (.tuple #[.int .i64 (walkF n.links src path).1, .bool (walkF n.links src path).2]) H):=by
 refine Az func28 U ntmps28 U (Am (Ad (e_ (Lt U cs_) ?_ U)));rintro _ _ ⟨n3,rfl,rfl⟩;refine y_ (Ag An) (y_ (Ag An) (Aj (Ah (Am (Am (Ad (y_ (Af (T U)) (y_ (Cd (T U) runUnderlying41) (y_ (Af An) (Aj (Ah (Bo ?_))) U) U) U)))))) U) U;refine Cb (X:=Nat × Int) (V:=fun ⟨k,at'⟩=>[(12, .int .i64 (k:Nat)),(1, .int .i64 at')]) (C:=[(3,_),(10,_),(11,_)]) (φ:=fun ⟨k,at'⟩=>k<=path.length/\walkF n.links at' (path.drop k)=walkF n.links src path) (μ:=fun ⟨k,at'⟩=>path.length - k) (x0:=(0,src)) ?_ (kg U) ⟨atd,atd,trivial⟩ ?_
 ·exact⟨Nat.zero_le _,rfl⟩
 rintro⟨k,at'⟩ ⟨hk,hw⟩;have hll:=hn.ll;refine Am (Ad (y_ (Ci (T U) (T U)) (Aj (Ah (Am ?_))) U))
 first|refine Ak (Aa U) (fun c13=> ?_) (fun c13=> ?_)|refine Au (Aa U) (fun c13=> ?_) (fun c13=> ?_)
 ·refine Bp (Ah (Am (Bo (Am (Ad (y_ (Lq U U runUnderlying41 sizeOf3 qom (by first|exact rfl|exact hp.b (i:=k) qom|exact hn.links.b (i:=(gd path k).toNat) qom)) ?_ U))))));refine y_ (Lo U isAgg3 (by first|exact c_o|exact c_m (hp.f0 qom U)|exact c_m (hn.links.f0 qom U)|exact c_m (hn.links.f qom U))) ?_ U;refine y_ (Ag (T U)) (Aj (Ah (Am (Am (Ad (y_ (Af (T U)) (y_ (Bt (T U) Eh) (y_ (Lo U isAgg23 (by first|exact c_o|exact c_m (hp.f0 qom U)|exact c_m (hn.links.f0 qom U)|exact c_m (hn.links.f qom U))) ?_ U) U) U)))))) U;refine y_ (Cd (T U) runUnderlying23) (y_ (Ed (T U) An qom) ?_ U) U;refine y_ (Bb (.cons (T U) (.cons An (.cons (T U) .nil))) call85 (fun H' hs=>gwithin_s _ _ _)) ?_ U
  first|refine A3 (B7 (T U)) U Ac ?_|refine A3 (Cc (T U)) U Ac ?_
  refine y_ (Af (T U)) ?_ U
  first|refine Bi (s:=23) (Aa U) (fun c23=> ?_) (fun c23=> ?_)|refine B2 (s:=23) (Aa U) (fun c23=> ?_) (fun c23=> ?_)
  ·refine Bs (Bs (Bs (Bs (Bs (Bs (Bs (Bs (y_ (Bh (T U) An) (Aj (Ah (B5 [(3,_),(9,_),(10,_),(11,_),(12,_),(32,_)] (kg U) (Cf (Aa U) (Am (Ad (y_ (Ag An) (y_ (Ag An) (Aj (Ah (Bq (Aw (A4 (Aw (Bc (A4 (Aw (As U (.tmp (Aa U) (Ll U)) ?_)))))))))) U) U))))))) U) U U U U) U U U U) U U U U) U U U U) U U U U) U U U U) U U U U) U U U U;exact⟨_,⟨by rw[<- hw,Cy (k:=k) qom,Es qom];rfl,rfl⟩,sbt⟩
  ·refine A3 (Bt (T U) Eh) U (Ax U U (Aa U)) (A3 (Lo U isAgg23 (by first|exact c_o|exact c_m (hp.f0 qom U)|exact c_m (hn.links.f0 qom U)|exact c_m (hn.links.f qom U))) U (Ax U U (Aa U)) ?_);refine A3 (Af (T U)) U (Ax U U (Aa U)) (A3 (Bl (T U) (T U) runUnderlying23 sizeOf95 qom (by first|exact rfl|exact hp.b (i:=k) qom|exact hn.links.b (i:=(gd path k).toNat) qom)) U (Ax U U (Aa U)) ?_);refine A3 (Cj (T U) Kl) U (Ax U U (Aa U)) (A3 (Lo U isAgg3 (by first|exact c_o|exact c_m (hp.f0 qom U)|exact c_m (hn.links.f0 qom U)|exact c_m (hn.links.f qom U))) U (Ax U U (Aa U)) ?_);refine A3 (Af (T U)) U (Ax U U (Aa U)) (A3 (F7 (T U) (T U)) U (Ax U U (Aa U)) (y_ (Bm (T U) (T U)) (Aj (Ah (B5 [(3,_),(9,_),(10,_),(11,_),(12,_),(32,_)] (kg U) ?_))) U))
   first|refine Ak (Aa U) (fun c32=> ?_) (fun c32=> ?_)|refine Au (Aa U) (fun c32=> ?_) (fun c32=> ?_)
   ·refine Am (Ad (y_ (Ag An) (y_ (Ag An) (Aj (Ah (Bq (Aw (A4 (Aw (Bc (A4 (Aw (As U (.tmp (Aa U) (Ll U)) ?_)))))))))) U) U));exact⟨_,⟨by rw[<- hw,Cy (k:=k) qom,Es qom];rfl,rfl⟩,sbt⟩
   ·refine Bp (Ah (Ad (y_ (Bt (T U) Eh) (y_ (Lo U isAgg23 (by first|exact c_o|exact c_m (hp.f0 qom U)|exact c_m (hn.links.f0 qom U)|exact c_m (hn.links.f qom U))) ?_ U) U)));refine y_ (Af (T U)) (y_ (Bl (T U) (T U) runUnderlying23 sizeOf95 qom (by first|exact rfl|exact hp.b (i:=k) qom|exact hn.links.b (i:=(gd path k).toNat) qom)) ?_ U) U;refine y_ (Bt (T U) Ia) (y_ (Lo U isAgg3 (by first|exact c_o|exact c_m (hp.f0 qom U)|exact c_m (hn.links.f0 qom U)|exact c_m (hn.links.f qom U))) ?_ U) U;refine y_ (Ag (T U)) (Aj (B4 (Ah (Ad (y_ (Bd (T U) An qom) ?_ U))))) U;refine y_ (Af (T U)) (Aj ?_) U;refine A8 ((k+1,(gd n.links (gd path k).toNat).dst)) ?_ ?_ ⟨atd,atd,trivial⟩ (kg U) ?_
    ·exact⟨by omega,by rw[<- hw,Cy (k:=k) qom,Gv ⟨by omega,by omega,by simpa using c32⟩]⟩
    ·first|omega|(simp only[];omega)
    ·exact sbt
 ·refine Ct (Bv (Aq (Bw (Ah (Am (Ad (y_ (Af (T U)) (y_ (Ag (T U)) (y_ (Ag An) (Aj (Ah (Bq (As U (.tmp (Aa U) (Ll U)) ?_)))) U) U) U)))))));exact⟨_,⟨by rw[<- hw,Ep qom];rfl,rfl⟩,sbt⟩
theorem name_sT {w0:World}{H:List (Nat × Obj)}(s:ByteArray)(hs:s.size<=9223372036854775807):
  FSpec prog w0 147 #[.string s] H (fun v H'=>(∃ t:Bool,v= .bool t)/\H'=H):=by
 refine Az func147 U ntmps147 U (Am (Ad (y_ (Ag An) (Aj (Ah (Am (Am (Ad (y_ (Ag An) (Aj (Ah (Bo ?_))) U)))))) U)));refine Cb (X:=Nat) (V:=fun k=>[(3, .int .i64 (k:Nat))]) (C:=[(0,_)]) (φ:=fun k=>k<=s.size) (μ:=fun k=>s.size - k) (x0:=0) ?_ (kg U) ⟨atd,trivial⟩ ?_
 ·exact Nat.zero_le _
 rintro k hk;refine Am (Am (Ad (y_ (Af (T U)) (y_ (Af (T U)) (y_ (Gn (T U) runUnderlying9) (y_ (Ci (T U) (T U)) (Aj (Ah ?_)) U) U) U) U)))
 first|refine Ak (Aa U) (fun c9=> ?_) (fun c9=> ?_)|refine Au (Aa U) (fun c9=> ?_) (fun c9=> ?_)
 ·refine Bp (Ah (Am (Bo ?_)));refine H9 (X:=Bool) (V:=fun t=>[(4, .bool t)]) (C:=[(0,_),(3,_)]) (φ:=fun t=>True) (kg U) ?_ ?_
  ·refine Ad (y_ (Af (T U)) (y_ (Af (T U)) (y_ (Fk (T U) (T U) runUnderlying9 qom) ?_ U) U) U);refine y_ (Dy (T U) An) (y_ (Af (T U)) ?_ U) U
   first|refine Bi (s:=16) (Aa U) (fun c16=> ?_) (fun c16=> ?_)|refine B2 (s:=16) (Aa U) (fun c16=> ?_) (fun c16=> ?_)
   ·refine A3 (Af (T U)) U (Ax U U (Aa U)) (A3 (Af (T U)) U (Ax U U (Aa U)) (A3 (Fk (T U) (T U) runUnderlying9 qom) U (Ax U U (Aa U)) ?_));refine A3 (Ee (T U) An) U (Ax U U (Aa U)) (y_ (Bh (T U) (T U)) (y_ (Ag (T U)) (Aj ?_) U) U);refine Be (_) ?_ ⟨atd,trivial⟩ (kg U) sbt
    trivial
   ·refine B8 (B8 (B8 (B8 (y_ (Bm (T U) An) (y_ (Ag (T U)) (Aj ?_) U) U) U U U U) U U U U) U U U U) U U U U;refine Be (_) ?_ ⟨atd,trivial⟩ (kg U) sbt
    trivial
  rintro t -;refine H9 (X:=Bool) (V:=fun t=>[(5, .bool t)]) (C:=[(0,_),(3,_),(4,_)]) (φ:=fun t=>True) (kg U) ?_ ?_
  ·refine Ad (y_ (Af (T U)) (y_ (Af (T U)) (y_ (Fk (T U) (T U) runUnderlying9 qom) ?_ U) U) U);refine y_ (Dy (T U) An) (y_ (Af (T U)) ?_ U) U
   first|refine Bi (s:=26) (Aa U) (fun c26=> ?_) (fun c26=> ?_)|refine B2 (s:=26) (Aa U) (fun c26=> ?_) (fun c26=> ?_)
   ·refine A3 (Af (T U)) U (Ax U U (Aa U)) (A3 (Af (T U)) U (Ax U U (Aa U)) (A3 (Fk (T U) (T U) runUnderlying9 qom) U (Ax U U (Aa U)) ?_));refine A3 (Ee (T U) An) U (Ax U U (Aa U)) (y_ (Bh (T U) (T U)) (y_ (Af (T U)) ?_ U) U)
    first|refine Bi (s:=32) (Aa U) (fun c32=> ?_) (fun c32=> ?_)|refine B2 (s:=32) (Aa U) (fun c32=> ?_) (fun c32=> ?_)
    ·refine Bs (Bs (Bs (Bs (y_ (Bh (T U) An) (y_ (Ag (T U)) (Aj ?_) U) U) U U U U) U U U U) U U U U) U U U U;refine Be (_) ?_ ⟨atd,trivial⟩ (kg U) sbt
     trivial
    ·refine A3 (Af (T U)) U (Ax U U (Aa U)) (A3 (Af (T U)) U (Ax U U (Aa U)) (A3 (Fk (T U) (T U) runUnderlying9 qom) U (Ax U U (Aa U)) ?_));refine A3 (D9 (T U) An) U (Ax U U (Aa U)) (y_ (Bm (T U) (T U)) (y_ (Ag (T U)) (Aj ?_) U) U);refine Be (_) ?_ ⟨atd,trivial⟩ (kg U) sbt
     trivial
   ·refine B8 (B8 (B8 (B8 (y_ (Bm (T U) An) (y_ (Af (T U)) (A3 (Af (T U)) U (Ax U U (Aa U)) (A3 (Af (T U)) U (Ax U U (Aa U)) (A3 (Fk (T U) (T U) runUnderlying9 qom) U (Ax U U (Aa U)) ?_))) U) U) U U U U) U U U U) U U U U) U U U U;refine A3 (D9 (T U) An) U (Ax U U (Aa U)) (y_ (Bm (T U) (T U)) (y_ (Ag (T U)) (Aj ?_) U) U);refine Be (_) ?_ ⟨atd,trivial⟩ (kg U) sbt
    trivial
  rintro t -;refine H9 (X:=Bool) (V:=fun t=>[(47, .bool t)]) (C:=[(0,_),(3,_)]) (φ:=fun t=>True) (kg U) ?_ ?_
  ·refine Ad (y_ (Af (T U)) ?_ U)
   first|refine A3 (B7 (T U)) U Ac ?_|refine A3 (Cc (T U)) U Ac ?_
   refine y_ (Af (T U)) ?_ U
   first|refine Bi (s:=40) (Aa U) (fun c40=> ?_) (fun c40=> ?_)|refine B2 (s:=40) (Aa U) (fun c40=> ?_) (fun c40=> ?_)
   ·refine A3 (Af (T U)) U (Ax U U (Aa U)) ?_
    first|refine A3 (B7 (T U)) U (Ax U U (Aa U)) ?_|refine A3 (Cc (T U)) U (Ax U U (Aa U)) ?_
    refine A3 (Af (T U)) U (Ax U U (Aa U)) ?_
    first|refine Bi (s:=43) (Aa U) (fun c43=> ?_) (fun c43=> ?_)|refine B2 (s:=43) (Aa U) (fun c43=> ?_) (fun c43=> ?_)
    ·refine Bs (Bs (A3 (Bh (T U) An) U (Ax U U (Aa U)) (y_ (Bh (T U) (T U)) (Aj ?_) U)) U U U U) U U U U;refine Be (_) ?_ ⟨atd,trivial⟩ (kg U) sbt
     trivial
    ·refine A3 (Af (T U)) U (Ax U U (Aa U)) (A3 (D9 (T U) An) U (Ax U U (Aa U)) (A3 (Bm (T U) (T U)) U (Ax U U (Aa U)) (y_ (Bh (T U) (T U)) (Aj ?_) U)));refine Be (_) ?_ ⟨atd,trivial⟩ (kg U) sbt
     trivial
   ·refine B8 (B8 (B8 (n_u (n_u (B8 (y_ (Bm (T U) An) (Aj ?_) U) U U U U) U U U U) U U U U) U U U U) U U U U) U U U U;refine Be (_) ?_ ⟨atd,trivial⟩ (kg U) sbt
    trivial
  rintro t -
  first|refine Ak (Aa U) (fun c47=> ?_) (fun c47=> ?_)|refine Au (Aa U) (fun c47=> ?_) (fun c47=> ?_)
  ·refine Am (Ad (y_ (Ag An) (Aj (Ah (Bq (A4 (Aw (Bc (A4 (Aw (As U (Ll U) ?_))))))))) U));exact⟨_,⟨⟨_,rfl⟩,rfl⟩,sbt⟩
  ·refine Bp (B4 (Ah (Ad (y_ (Af (T U)) (y_ (Bd (T U) An qom) ?_ U) U))));refine y_ (Ag (T U)) (Aj ?_) U;refine A8 (k+1) ?_ ?_ ⟨atd,trivial⟩ (kg U) ?_
   ·show k+1<=_;omega
   ·first|omega|(simp only[];omega)
   ·exact sbt
 ·refine Ct (Bv (Aq (Bw (Ah (Am (Ad (y_ (Af (T U)) (y_ (Gn (T U) runUnderlying9) (y_ (Dy (T U) An) (y_ (Af (T U)) ?_ U) U) U) U)))))))
  first|refine Bi (s:=51) (Aa U) (fun c51=> ?_) (fun c51=> ?_)|refine B2 (s:=51) (Aa U) (fun c51=> ?_) (fun c51=> ?_)
  ·refine A3 (Af (T U)) U (Ax U U (Aa U)) (A3 (Gn (T U) runUnderlying9) U (Ax U U (Aa U)) (A3 (Ee (T U) An) U (Ax U U (Aa U)) (y_ (Bh (T U) (T U)) (y_ (Ag (T U)) (Aj (Ah (Bq (As U (Ll U) ?_)))) U) U)));exact⟨_,⟨⟨_,rfl⟩,rfl⟩,sbt⟩
  ·refine B8 (B8 (B8 (y_ (Bm (T U) An) (y_ (Ag (T U)) (Aj (Ah (Bq (As U (Ll U) ?_)))) U) U) U U U U) U U U U) U U U U;exact⟨_,⟨⟨_,rfl⟩,rfl⟩,sbt⟩
theorem names_sT {w0:World}{H:List (Nat × Obj)}(n:Nm)(hn:NetM w0 H n)(h1:n.nodes.length<=1000000)(h2:n.edges.length<=1000000):
  FSpec prog w0 94 #[.agg (encNm n).toArray] H (fun v H'=>∃ d1 d2:Sl,v= .tuple #[slV d1 (n.nodes.map (·.name)).length,slV d2 (n.edges.map (·.name)).length]/\SlOk d1 (n.nodes.map (·.name)).length 1/\SlOk d2 (n.edges.map (·.name)).length 1/\H'=slH d2 ((n.edges.map (·.name)).flatMap encS) 9++(slH d1 ((n.nodes.map (·.name)).flatMap encS) 9++H)):=by
 refine Az func94 U ntmps94 U (Am (Ad (e_ (Lt U cs_) ?_ U)));rintro _ _ ⟨n1,rfl,rfl⟩;refine y_ (Ag An) (y_ (Ag An) (Aj (Ah (Am (Ad (y_ (Ag An) (Aj (Ah (Am (Ad (y_ (Ag An) (Aj (Ah (Am (Am (Ad (y_ (Ag An) (Aj (Ah (Bo ?_))) U)))))) U))))) U))))) U) U;refine j_loopG (X:=Nat × Sl × List ByteArray) (V:=fun ⟨k,d,l⟩=>[(6, .int .i64 (k:Nat)),(4,slV d l.length)]) (C:=[(1,_),(5,_)]) (G:=fun ⟨k,d,l⟩=>slH d (l.flatMap encS) 9) (Hc:=_) (φ:=fun ⟨k,d,l⟩=>k<=n.nodes.length/\l=(n.nodes.take k).map (·.name)/\SlOk d l.length 1) (μ:=fun ⟨k,d,l⟩=>n.nodes.length - k) (x0:=(0, .nil,[])) ?_ (kg U) ⟨atd,atd,trivial⟩ sb0 ?_
 ·exact⟨Nat.zero_le _,rfl,rfl⟩
 rintro⟨k,d,l⟩ ⟨hk,hl,hok⟩;have hlen:l.length=k:=by rw[hl];simp;omega
 refine Am (Am (Ad (y_ (Af (T U)) (y_ (Cj (T U) Eu) (y_ (Lo U isAgg22 (by first|exact c_o|exact c_m (hn.nodes.f0 qom U)|exact c_m (hn.edges.f0 qom U))) ?_ U) U) U)));refine y_ (Cd (T U) runUnderlying22) (y_ (Ci (T U) (T U)) (Aj (Ah ?_)) U) U
 first|refine Ak (Aa U) (fun c12=> ?_) (fun c12=> ?_)|refine Au (Aa U) (fun c12=> ?_) (fun c12=> ?_)
 ·refine Bp (Ah (Am (Bo (Ad (y_ (Af (T U)) (y_ (Cj (T U) Eu) (y_ (Lo U isAgg22 (by first|exact c_o|exact c_m (hn.nodes.f0 qom U)|exact c_m (hn.edges.f0 qom U))) ?_ U) U) U)))));refine y_ (Af (T U)) (y_ (Lq U U runUnderlying22 sizeOf140 qom (by first|exact rfl|exact hn.nodes.b (i:=k) qom|exact hn.edges.b (i:=k2) qom)) ?_ U) U;refine y_ (Cj (T U) fa140_0) (y_ (Lo U isAgg9 (by first|exact c_o|exact c_m (hn.nodes.f0 qom U)|exact c_m (hn.edges.f0 qom U))) ?_ U) U;refine e_ (A7 (.cons (T U) .nil) (bs116_1_0 _)) ?_ U;rintro _ _ ⟨n22,rfl,rfl⟩;refine e_ (Gq ((gd n.nodes k).name) (A:=[_]) (by':=16) (T U) (T U) runUnderlying68 runUnderlying68 sizeOf9 typeInfo9 U zeroValue9 U (fun _=>rfl) U hok qde qom) ?_ U;rintro _ _ ⟨d',rfl,hok',rfl⟩;refine y_ (Ag (T U)) (Aj (B4 (Ah (Ad (y_ (Af (T U)) (y_ (Bd (T U) An qom) ?_ U) U))))) U;refine y_ (Ag (T U)) (Aj ?_) U;refine A8 ((k+1,d',l++[(gd n.nodes k).name])) ?_ ?_ ⟨atd,atd,trivial⟩ (kg U) ?_
  ·exact⟨by omega,by rw[hl,C6 qom,List.map_append];rfl,by simpa using hok'⟩
  ·first|omega|(simp only[];omega)
  ·exact sbt
 ·refine Ct (Bv (Aq (Bw (Ah (Am (Am (Ad (y_ (Ag An) (Aj (Ah (Bo ?_))) U))))))));refine j_loopG (X:=Nat × Sl × List ByteArray) (V:=fun ⟨k2,d2,l2⟩=>[(7, .int .i64 (k2:Nat)),(5,slV d2 l2.length)]) (C:=[(1,_),(4,_)]) (G:=fun ⟨k2,d2,l2⟩=>slH d2 (l2.flatMap encS) 9) (Hc:=_) (φ:=fun ⟨k2,d2,l2⟩=>k2<=n.edges.length/\l2=(n.edges.take k2).map (·.name)/\SlOk d2 l2.length 1) (μ:=fun ⟨k2,d2,l2⟩=>n.edges.length - k2) (x0:=(0, .nil,[])) ?_ (kg U) ⟨atd,atd,trivial⟩ sb0 ?_
  ·exact⟨Nat.zero_le _,rfl,rfl⟩
  rintro⟨k2,d2,l2⟩ ⟨hk2,hl2,hok2⟩;have hlen2:l2.length=k2:=by rw[hl2];simp;omega
  refine Am (Am (Ad (y_ (Af (T U)) (y_ (Bt (T U) Fc) (y_ (Lo U isAgg24 (by first|exact c_o|exact c_m (hn.nodes.f0 qom U)|exact c_m (hn.edges.f0 qom U))) ?_ U) U) U)));refine y_ (Cd (T U) runUnderlying24) (y_ (Ci (T U) (T U)) (Aj (Ah ?_)) U) U
  first|refine Ak (Aa U) (fun c28=> ?_) (fun c28=> ?_)|refine Au (Aa U) (fun c28=> ?_) (fun c28=> ?_)
  ·refine Bp (Ah (Am (Bo (Ad (y_ (Af (T U)) (y_ (Bt (T U) Fc) (y_ (Lo U isAgg24 (by first|exact c_o|exact c_m (hn.nodes.f0 qom U)|exact c_m (hn.edges.f0 qom U))) ?_ U) U) U)))));refine y_ (Af (T U)) (y_ (Lq U U runUnderlying24 sizeOf171 qom (by first|exact rfl|exact hn.nodes.b (i:=k) qom|exact hn.edges.b (i:=k2) qom)) ?_ U) U;refine y_ (Cj (T U) fa171_0) (y_ (Lo U isAgg9 (by first|exact c_o|exact c_m (hn.nodes.f0 qom U)|exact c_m (hn.edges.f0 qom U))) ?_ U) U;refine e_ (A7 (.cons (T U) .nil) (bs116_1_0 _)) ?_ U;rintro _ _ ⟨n38,rfl,rfl⟩;refine e_ (Gq ((gd n.edges k2).name) (A:=[_]) (by':=16) (T U) (T U) runUnderlying68 runUnderlying68 sizeOf9 typeInfo9 U zeroValue9 U (fun _=>rfl) U hok2 qde qom) ?_ U;rintro _ _ ⟨d',rfl,hok',rfl⟩;refine y_ (Ag (T U)) (Aj (B4 (Ah (Ad (y_ (Af (T U)) (y_ (Bd (T U) An qom) ?_ U) U))))) U;refine y_ (Ag (T U)) (Aj ?_) U;refine A8 ((k2+1,d',l2++[(gd n.edges k2).name])) ?_ ?_ ⟨atd,atd,trivial⟩ (kg U) ?_
   ·exact⟨by omega,by rw[hl2,C6 qom,List.map_append];rfl,by simpa using hok'⟩
   ·first|omega|(simp only[];omega)
   ·exact sbt
  ·refine Ct (Bv (Aq (Bw (Ah (Am (Ad (y_ (Af (T U)) (y_ (Af (T U)) (y_ (Ag (T U)) (y_ (Ag (T U)) (Aj (Ah (Bq (As U (.tmp (Aa U) (Ll U)) ?_)))) U) U) U) U)))))));rw[Er qom] at hl hl2;rw[<- hl,<- hl2];exact⟨_,⟨d,d2,rfl,hok,hok2,rfl⟩,sbt⟩
theorem named_sT {w0:World}{H:List (Nat × Obj)}(q:Option Addr)(cap:Nat)(l:List ByteArray)(ha:Arr w0 H q 1 encS l)(hb:∀ x∈l,x.size<=9223372036854775807)(hl:l.length<=1000000):
  FSpec prog w0 95 #[.slice q l.length cap] H (fun v H'=>(∃ t:Bool,v= .bool t)/\H'=H):=by
 refine Az func95 U ntmps95 U (Am (Ad (y_ (Ag An) (Aj (Ah (Am (Am (Ad (y_ (Ag An) (Aj (Ah (Bo ?_))) U)))))) U)));refine Cb (X:=Nat) (V:=fun k=>[(3, .int .i64 (k:Nat))]) (C:=[(0,_)]) (φ:=fun k=>k<=l.length) (μ:=fun k=>l.length - k) (x0:=0) ?_ (kg U) ⟨atd,trivial⟩ ?_
 ·exact Nat.zero_le _
 rintro k hk;refine Am (Am (Ad (y_ (Af (T U)) (y_ (Af (T U)) (y_ (Cd (T U) runUnderlying68) (y_ (Ci (T U) (T U)) (Aj (Ah ?_)) U) U) U) U)))
 first|refine Ak (Aa U) (fun c9=> ?_) (fun c9=> ?_)|refine Au (Aa U) (fun c9=> ?_) (fun c9=> ?_)
 ·refine Bp (Ah (Am (Bo (Am (Ad (y_ (Af (T U)) (y_ (Af (T U)) (y_ (Lq U U runUnderlying68 sizeOf9 qom (by first|exact rfl|exact ha.b (i:=k) qom)) ?_ U) U) U))))));refine y_ (Lo U isAgg9 (by first|exact c_o|exact c_m (ha.f0 (i:=k) qom U)|exact c_m (ha.f0 (i:=k2) qom U))) ?_ U;refine e_ (A1 (qe1 U) call147 (name_sT _ (hb _ (Ao (i:=k) qom)))) ?_ U;rintro _ _ ⟨⟨t,rfl⟩,rfl⟩;refine y_ (Ag (T U)) (Aj (Ah (Am (Am (Ad (y_ (Af (T U)) ?_ U)))))) U
  first|refine A3 (B7 (T U)) U Ac ?_|refine A3 (Cc (T U)) U Ac ?_
  refine Aj (Ah ?_)
  first|refine Ak (Aa U) (fun c18=> ?_) (fun c18=> ?_)|refine Au (Aa U) (fun c18=> ?_) (fun c18=> ?_)
  ·refine Am (Ad (y_ (Ag An) (Aj (Ah (Bq (Aw (A4 (Aw (Bc (A4 (Aw (As U (Ll U) ?_)))))))))) U));exact⟨_,⟨⟨_,rfl⟩,rfl⟩,sbt⟩
  ·refine Bp (Ah (Am (Ad (y_ (Ag An) (Aj (Ah (Bo ?_))) U))));refine Cb (X:=Nat) (V:=fun k2=>[(5, .int .i64 (k2:Nat))]) (C:=[(0,_),(3,_)]) (φ:=fun k2=>k2<=k) (μ:=fun k2=>k - k2) (x0:=0) ?_ (kg U) ⟨atd,trivial⟩ ?_
   ·exact Nat.zero_le _
   rintro k2 hk2;refine Am (Am (Ad (y_ (Af (T U)) (y_ (Af (T U)) (y_ (Ci (T U) (T U)) (Aj (Ah ?_)) U) U) U)))
   first|refine Ak (Aa U) (fun c21=> ?_) (fun c21=> ?_)|refine Au (Aa U) (fun c21=> ?_) (fun c21=> ?_)
   ·refine Bp (Ah (Am (Bo (Am (B9 9 [(0,true),(1,true),(2,true),(3,true),(4,true),(5,true),(6,true),(7,true),(8,true)] _ mixd qkr sb0 ?_)))));refine o_y U (Af (T U)) (o_y U (Af (T U)) (o_y U (Lq U U runUnderlying68 sizeOf9 qom (by first|exact rfl|exact ha.b (i:=k) qom)) ?_ U Ac) U Ac) U Ac;refine o_y U (Lo U isAgg9 (by first|exact c_o|exact c_m (ha.f0 (i:=k) qom U)|exact c_m (ha.f0 (i:=k2) qom U))) ?_ U Ac;refine o_y U (Af (T U)) (o_y U (Af (T U)) (o_y U (Bl (T U) (T U) runUnderlying68 sizeOf9 qom (by first|exact rfl|exact ha.b (i:=k) qom)) ?_ U Ac) U Ac) U Ac;refine o_y U (Lo U isAgg9 (by first|exact c_o|exact c_m (ha.f0 (i:=k) qom U)|exact c_m (ha.f0 (i:=k2) qom U))) ?_ U Ac;refine o_y U (yl_eqS (T U) (T U)) (Bj U (Aj (Ah ?_))) U Ac
    first|refine Ak (Aa U) (fun c32=> ?_) (fun c32=> ?_)|refine Au (Aa U) (fun c32=> ?_) (fun c32=> ?_)
    ·refine Am (Ad (y_ (Ag An) (Aj (Ah (Bq (A4 (Aw (Bc (A4 (A4 (Aw (Bc (A4 (Aw (As U (Ll U) ?_))))))))))))) U));exact⟨_,⟨⟨_,rfl⟩,rfl⟩,sbt⟩
    ·refine Bp (B4 (Ah (Ad (y_ (Af (T U)) (y_ (Bd (T U) An qom) ?_ U) U))));refine y_ (Ag (T U)) (Aj ?_) U;refine A8 (k2+1) ?_ ?_ ⟨atd,trivial⟩ (kg U) ?_
     ·show k2+1<=_;omega
     ·first|omega|(simp only[];omega)
     ·exact sbt
   ·refine Ct (Bv (Aq (Bw (B4 (Ah (Ad (y_ (Af (T U)) (y_ (Bd (T U) An qom) ?_ U) U)))))));refine y_ (Ag (T U)) (Aj ?_) U;refine A8 (k+1) ?_ ?_ ⟨atd,trivial⟩ (kg U) ?_
    ·show k+1<=_;omega
    ·first|omega|(simp only[];omega)
    ·exact sbt
 ·refine Ct (Bv (Aq (Bw (Ah (Am (Ad (y_ (Ag An) (Aj (Ah (Bq (As U (Ll U) ?_)))) U)))))));exact⟨_,⟨⟨_,rfl⟩,rfl⟩,sbt⟩
theorem netCheck_sT {w0:World}{H:List (Nat × Obj)}(n:Nm)(hn:NetM w0 H n):
  FSpec prog w0 38 #[.agg (encNm n).toArray] H (fun v H'=>(∃ e:Int,v= .int .i64 e/\(e=0->NetOk n))/\H'=H):=by
 refine Az func38 U ntmps38 U (Am (Ad (e_ (Lt U cs_) ?_ U)));rintro _ _ ⟨n1,rfl,rfl⟩;refine y_ (Ag An) (Aj (Ah (Am (Am (Ad (y_ (Cj (T U) Eu) (y_ (Lo U isAgg22 (by first|exact c_o|exact c_m (hn.nodes.f0 (i:=k) qom U)|exact c_m (hn.edges.f0 (i:=k3) qom U)|exact c_m (hn.edges.f (i:=k3) qom U))) ?_ U) U)))))) U;refine y_ (Cd (T U) runUnderlying22) (y_ (Dx (T U) An) (y_ (Af (T U)) ?_ U) U) U
 first|refine Bi (s:=16) (Aa U) (fun c16=> ?_) (fun c16=> ?_)|refine B2 (s:=16) (Aa U) (fun c16=> ?_) (fun c16=> ?_)
 ·refine Bs (Bs (Bs (Bs (y_ (Bh (T U) An) (y_ (Af (T U)) (Bs (Bs (Bs (Bs (y_ (Bh (T U) An) (Aj (Ah (Cf (Aa U) (Am (Ad (y_ (Ag An) (Aj (Ah (Bq (Aw (As U (Ll U) ?_))))) U)))))) U) U U U U) U U U U) U U U U) U U U U) U) U) U U U U) U U U U) U U U U) U U U U;exact⟨_,⟨⟨_,rfl,fun h=>by first|(exfalso;omega)|exact⟨fun i hi=>hl2 i qom,fun i hi=>hl3 i qom⟩⟩,rfl⟩,sbt⟩
 ·refine A3 (Bt (T U) Eh) U (Ax U U (Aa U)) (A3 (Lo U isAgg23 (by first|exact c_o|exact c_m (hn.nodes.f0 (i:=k) qom U)|exact c_m (hn.edges.f0 (i:=k3) qom U)|exact c_m (hn.edges.f (i:=k3) qom U))) U (Ax U U (Aa U)) ?_);refine A3 (Cd (T U) runUnderlying23) U (Ax U U (Aa U)) (A3 (Dx (T U) An) U (Ax U U (Aa U)) (y_ (Bm (T U) (T U)) (y_ (Af (T U)) ?_ U) U))
  first|refine Bi (s:=22) (Aa U) (fun c22=> ?_) (fun c22=> ?_)|refine B2 (s:=22) (Aa U) (fun c22=> ?_) (fun c22=> ?_)
  ·refine Bs (Bs (Bs (Bs (y_ (Bh (T U) An) (Aj (Ah (Cf (Aa U) (Am (Ad (y_ (Ag An) (Aj (Ah (Bq (Aw (As U (Ll U) ?_))))) U)))))) U) U U U U) U U U U) U U U U) U U U U;exact⟨_,⟨⟨_,rfl,fun h=>by first|(exfalso;omega)|exact⟨fun i hi=>hl2 i qom,fun i hi=>hl3 i qom⟩⟩,rfl⟩,sbt⟩
  ·refine A3 (Bt (T U) Fc) U (Ax U U (Aa U)) (A3 (Lo U isAgg24 (by first|exact c_o|exact c_m (hn.nodes.f0 (i:=k) qom U)|exact c_m (hn.edges.f0 (i:=k3) qom U)|exact c_m (hn.edges.f (i:=k3) qom U))) U (Ax U U (Aa U)) ?_);refine A3 (Cd (T U) runUnderlying24) U (Ax U U (Aa U)) (A3 (Dx (T U) An) U (Ax U U (Aa U)) (y_ (Bm (T U) (T U)) (Aj (Ah ?_)) U))
   first|refine Ak (Aa U) (fun c27=> ?_) (fun c27=> ?_)|refine Au (Aa U) (fun c27=> ?_) (fun c27=> ?_)
   ·refine Am (Ad (y_ (Ag An) (Aj (Ah (Bq (Aw (As U (Ll U) ?_))))) U));exact⟨_,⟨⟨_,rfl,fun h=>by first|(exfalso;omega)|exact⟨fun i hi=>hl2 i qom,fun i hi=>hl3 i qom⟩⟩,rfl⟩,sbt⟩
   ·refine Bp (Ah (Am (Ad (y_ (Lp U isAgg26 sizeOf26 U (by first|exact A2|exact Cw (hn.nodes.f0 (i:=k) qom U)|exact Cw (hn.edges.f0 (i:=k3) qom U)|exact Cw (hn.edges.f (i:=k3) qom U))) ?_ U))));refine e_ (A1 (qe1 U) call94 (names_sT n (hn.mono) qom qom)) ?_ U;rintro _ _ ⟨d1,d2,rfl,hok1,hok2,rfl⟩;refine y_ (Af (T rfl)) (y_ (Bx (T rfl) rfl) (y_ (Bx (T rfl) rfl) (y_ (Ag (T rfl)) (y_ (Ag (T rfl)) (Aj (Ah (B5 [(1,_),(3,_),(4,_)] (kg U) (Am (Ad (y_ (Af (T rfl)) (e_ (A1 (qe1 rfl) call95 (named_sT _ _ _ ((A5 (enc:=encS) (sz:=1) (fun _=>rfl) hok1).mono (List.sublist_append_right _ _)) (by intro x hx;obtain⟨y,hy,rfl⟩:=List.mem_map.1 hx;exact hn.sn y hy) (by simp;omega))) ?_ rfl) rfl)))))) rfl) rfl) rfl) rfl) rfl;rintro _ _ ⟨⟨t1,rfl⟩,rfl⟩;refine y_ (Ag (T rfl)) (Aj (Ah (Am (Ad (y_ (Af (T rfl)) (e_ (A1 (qe1 rfl) call95 (named_sT _ _ _ (A5 (enc:=encS) (sz:=1) (fun _=>rfl) hok2) (by intro x hx;obtain⟨y,hy,rfl⟩:=List.mem_map.1 hx;exact hn.se y hy) (by simp;omega))) ?_ rfl) rfl))))) rfl;rintro _ _ ⟨⟨t2,rfl⟩,rfl⟩;refine y_ (Ag (T U)) (Aj (Ah (Am (Am (Ad (y_ (Af (T U)) ?_ U)))))) U
    first|refine A3 (B7 (T U)) U Ac ?_|refine A3 (Cc (T U)) U Ac ?_
    refine y_ (Af (T U)) ?_ U
    first|refine Bi (s:=39) (Aa U) (fun c39=> ?_) (fun c39=> ?_)|refine B2 (s:=39) (Aa U) (fun c39=> ?_) (fun c39=> ?_)
    ·refine Bs (Bs (y_ (Bh (T U) An) (Aj (Ah (Cf (Aa U) (Am (Ad (y_ (Ag An) (Aj (Ah (Bq (Aw (As U (Ll U) ?_))))) U)))))) U) U U U U) U U U U;exact⟨_,⟨⟨_,rfl,fun h=>by first|(exfalso;omega)|exact⟨fun i hi=>hl2 i qom,fun i hi=>hl3 i qom⟩⟩,rfl⟩,sbt⟩
    ·refine A3 (Af (T U)) U (Ax U U (Aa U)) ?_
     first|refine A3 (B7 (T U)) U (Ax U U (Aa U)) ?_|refine A3 (Cc (T U)) U (Ax U U (Aa U)) ?_
     refine y_ (Bm (T U) (T U)) (Aj (Ah ?_)) U
     first|refine Ak (Aa U) (fun c42=> ?_) (fun c42=> ?_)|refine Au (Aa U) (fun c42=> ?_) (fun c42=> ?_)
     ·refine Am (Ad (y_ (Ag An) (Aj (Ah (Bq (Aw (As U (Ll U) ?_))))) U));exact⟨_,⟨⟨_,rfl,fun h=>by first|(exfalso;omega)|exact⟨fun i hi=>hl2 i qom,fun i hi=>hl3 i qom⟩⟩,rfl⟩,sbt⟩
     ·refine Bp (Ah (Am (Am (Ad (y_ (Ag An) (Aj (Ah (Bo ?_))) U)))));refine Cb (X:=Nat) (V:=fun k=>[(7, .int .i64 (k:Nat))]) (C:=[(1,_)]) (φ:=fun k=>k<=n.nodes.length) (μ:=fun k=>n.nodes.length - k) (x0:=0) ?_ (kg U) ⟨atd,trivial⟩ ?_
      ·exact Nat.zero_le _
      rintro k hk;refine Am (Am (Ad (y_ (Af (T U)) (y_ (Cj (T U) Eu) (y_ (Lo U isAgg22 (by first|exact c_o|exact c_m (hn.nodes.f0 (i:=k) qom U)|exact c_m (hn.edges.f0 (i:=k3) qom U)|exact c_m (hn.edges.f (i:=k3) qom U))) ?_ U) U) U)));refine y_ (Cd (T U) runUnderlying22) (y_ (Ci (T U) (T U)) (Aj (Ah ?_)) U) U
      first|refine Ak (Aa U) (fun c47=> ?_) (fun c47=> ?_)|refine Au (Aa U) (fun c47=> ?_) (fun c47=> ?_)
      ·refine Bp (Ah (Am (Bo (Am (Ad (y_ (Cj (T U) Eu) (y_ (Lo U isAgg22 (by first|exact c_o|exact c_m (hn.nodes.f0 (i:=k) qom U)|exact c_m (hn.edges.f0 (i:=k3) qom U)|exact c_m (hn.edges.f (i:=k3) qom U))) ?_ U) U))))));refine y_ (Af (T U)) (y_ (Lq U U runUnderlying22 sizeOf140 qom (by first|exact rfl|exact hn.nodes.b (i:=k) qom|exact hn.links.b (i:=k2) qom|exact hn.edges.b (i:=k3) qom)) ?_ U) U;refine y_ (Lp U isAgg140 sizeOf140 U (by first|exact A2|exact Cw (hn.nodes.cs (i:=k) qom)|exact Cw (hn.nodes.f0 (i:=k) qom U)|exact Cw (hn.edges.f0 (i:=k3) qom U)|exact Cw (hn.edges.f (i:=k3) qom U))) ?_ U;refine e_ (Ap zeroValue140 cs_) ?_ U;rintro _ _ ⟨n8,rfl,rfl⟩
       first|refine A9 (Ls U U sizeOf140) U Ac ?_
       rintro _ _ ⟨rfl,rfl⟩;refine Aj (Ah (Am (Ad (y_ (Bt (T U) fa140_2) (y_ (Lo U isAgg3 (by first|exact c_o|exact c_m (hn.nodes.f0 (i:=k) qom U)|exact c_m (hn.edges.f0 (i:=k3) qom U)|exact c_m (hn.edges.f (i:=k3) qom U))) ?_ U) U))));refine y_ (Ci (T U) An) (y_ (Af (T U)) ?_ U) U
       first|refine Bi (s:=58) (Aa U) (fun c58=> ?_) (fun c58=> ?_)|refine B2 (s:=58) (Aa U) (fun c58=> ?_) (fun c58=> ?_)
       ·refine Bs (Bs (Bs (y_ (Bh (T U) An) (y_ (Af (T U)) (Bs (Bs (Bs (y_ (Bh (T U) An) (y_ (Af (T U)) (Bs (Bs (Bs (y_ (Bh (T U) An) (Aj (Ah (B5 [(1,_),(7,_),(72,_)] (kg U) (Cf (Aa U) (Am (Ad (y_ (Ag An) (Aj (Ah (Bq (A4 (Aw (Bc (A4 (Aw (As U (Ll U) ?_))))))))) U))))))) U) U U U U) U U U U) U U U U) U) U) U U U U) U U U U) U U U U) U) U) U U U U) U U U U) U U U U;exact⟨_,⟨⟨_,rfl,fun h=>by first|(exfalso;omega)|exact⟨fun i hi=>hl2 i qom,fun i hi=>hl3 i qom⟩⟩,rfl⟩,sbt⟩
       ·refine A3 (Bt (T U) fa140_2) U (Ax U U (Aa U)) (A3 (Lo U isAgg3 (by first|exact c_o|exact c_m (hn.nodes.f0 (i:=k) qom U)|exact c_m (hn.edges.f0 (i:=k3) qom U)|exact c_m (hn.edges.f (i:=k3) qom U))) U (Ax U U (Aa U)) ?_);refine A3 (Dx (T U) An) U (Ax U U (Aa U)) (y_ (Bm (T U) (T U)) (y_ (Af (T U)) ?_ U) U)
        first|refine Bi (s:=63) (Aa U) (fun c63=> ?_) (fun c63=> ?_)|refine B2 (s:=63) (Aa U) (fun c63=> ?_) (fun c63=> ?_)
        ·refine Bs (Bs (Bs (y_ (Bh (T U) An) (y_ (Af (T U)) (Bs (Bs (Bs (y_ (Bh (T U) An) (Aj (Ah (B5 [(1,_),(7,_),(72,_)] (kg U) (Cf (Aa U) (Am (Ad (y_ (Ag An) (Aj (Ah (Bq (A4 (Aw (Bc (A4 (Aw (As U (Ll U) ?_))))))))) U))))))) U) U U U U) U U U U) U U U U) U) U) U U U U) U U U U) U U U U;exact⟨_,⟨⟨_,rfl,fun h=>by first|(exfalso;omega)|exact⟨fun i hi=>hl2 i qom,fun i hi=>hl3 i qom⟩⟩,rfl⟩,sbt⟩
        ·refine A3 (Bt (T U) fa140_3) U (Ax U U (Aa U)) (A3 (Lo U isAgg3 (by first|exact c_o|exact c_m (hn.nodes.f0 (i:=k) qom U)|exact c_m (hn.edges.f0 (i:=k3) qom U)|exact c_m (hn.edges.f (i:=k3) qom U))) U (Ax U U (Aa U)) ?_);refine A3 (Ci (T U) An) U (Ax U U (Aa U)) (y_ (Bm (T U) (T U)) (y_ (Af (T U)) ?_ U) U)
         first|refine Bi (s:=68) (Aa U) (fun c68=> ?_) (fun c68=> ?_)|refine B2 (s:=68) (Aa U) (fun c68=> ?_) (fun c68=> ?_)
         ·refine Bs (Bs (Bs (y_ (Bh (T U) An) (Aj (Ah (B5 [(1,_),(7,_),(72,_)] (kg U) (Cf (Aa U) (Am (Ad (y_ (Ag An) (Aj (Ah (Bq (A4 (Aw (Bc (A4 (Aw (As U (Ll U) ?_))))))))) U))))))) U) U U U U) U U U U) U U U U;exact⟨_,⟨⟨_,rfl,fun h=>by first|(exfalso;omega)|exact⟨fun i hi=>hl2 i qom,fun i hi=>hl3 i qom⟩⟩,rfl⟩,sbt⟩
         ·refine A3 (Bt (T U) fa140_3) U (Ax U U (Aa U)) (A3 (Lo U isAgg3 (by first|exact c_o|exact c_m (hn.nodes.f0 (i:=k) qom U)|exact c_m (hn.edges.f0 (i:=k3) qom U)|exact c_m (hn.edges.f (i:=k3) qom U))) U (Ax U U (Aa U)) ?_);refine A3 (Dx (T U) An) U (Ax U U (Aa U)) (y_ (Bm (T U) (T U)) (Aj (Ah (B5 [(1,_),(7,_),(72,_)] (kg U) ?_))) U)
          first|refine Ak (Aa U) (fun c72=> ?_) (fun c72=> ?_)|refine Au (Aa U) (fun c72=> ?_) (fun c72=> ?_)
          ·refine Am (Ad (y_ (Ag An) (Aj (Ah (Bq (A4 (Aw (Bc (A4 (Aw (As U (Ll U) ?_))))))))) U));exact⟨_,⟨⟨_,rfl,fun h=>by first|(exfalso;omega)|exact⟨fun i hi=>hl2 i qom,fun i hi=>hl3 i qom⟩⟩,rfl⟩,sbt⟩
          ·refine Bp (B4 (Ah (Ad (y_ (Af (T U)) (y_ (Bd (T U) An qom) ?_ U) U))));refine y_ (Ag (T U)) (Aj ?_) U;refine A8 (k+1) ?_ ?_ ⟨atd,trivial⟩ (kg U) ?_
           ·show k+1<=_;omega
           ·first|omega|(simp only[];omega)
           ·exact sbt
      ·refine Ct (Bv (Aq (Bw (Ah (Am (Am (Ad (y_ (Ag An) (Aj (Ah (Bo ?_))) U))))))));refine Cb (X:=Nat) (V:=fun k2=>[(9, .int .i64 (k2:Nat))]) (C:=[(1,_)]) (φ:=fun k2=>k2<=n.links.length/\∀ i,i<k2->LnkOk n (gd n.links i)) (μ:=fun k2=>n.links.length - k2) (x0:=0) ?_ (kg U) ⟨atd,trivial⟩ ?_
       ·exact⟨Nat.zero_le _,fun i hi=>by omega⟩
       rintro k2 ⟨hk2,hl2⟩;refine Am (Am (Ad (y_ (Af (T U)) (y_ (Bt (T U) Eh) (y_ (Lo U isAgg23 (by first|exact c_o|exact c_m (hn.nodes.f0 (i:=k) qom U)|exact c_m (hn.edges.f0 (i:=k3) qom U)|exact c_m (hn.edges.f (i:=k3) qom U))) ?_ U) U) U)));refine y_ (Cd (T U) runUnderlying23) (y_ (Ci (T U) (T U)) (Aj (Ah ?_)) U) U
       first|refine Ak (Aa U) (fun c77=> ?_) (fun c77=> ?_)|refine Au (Aa U) (fun c77=> ?_) (fun c77=> ?_)
       ·refine Bp (Ah (Am (Bo (Am (Ad (y_ (Bt (T U) Eh) (y_ (Lo U isAgg23 (by first|exact c_o|exact c_m (hn.nodes.f0 (i:=k) qom U)|exact c_m (hn.edges.f0 (i:=k3) qom U)|exact c_m (hn.edges.f (i:=k3) qom U))) ?_ U) U))))));refine y_ (Af (T U)) (y_ (Lq U U runUnderlying23 sizeOf95 qom (by first|exact rfl|exact hn.nodes.b (i:=k) qom|exact hn.links.b (i:=k2) qom|exact hn.edges.b (i:=k3) qom)) ?_ U) U;refine y_ (Lp U isAgg95 sizeOf95 U (by first|exact A2|exact Cw (hn.links.cs (i:=k2) qom)|exact Cw (hn.nodes.f0 (i:=k) qom U)|exact Cw (hn.edges.f0 (i:=k3) qom U)|exact Cw (hn.edges.f (i:=k3) qom U))) ?_ U;refine e_ (Ap zeroValue95 cs_) ?_ U;rintro _ _ ⟨n10,rfl,rfl⟩
        first|refine A9 (Ls U U sizeOf95) U Ac ?_
        rintro _ _ ⟨rfl,rfl⟩;refine Aj (Ah (Am (Ad (y_ (Lp U isAgg26 sizeOf26 U (by first|exact A2|exact Cw (hn.nodes.f0 (i:=k) qom U)|exact Cw (hn.edges.f0 (i:=k3) qom U)|exact Cw (hn.edges.f (i:=k3) qom U))) ?_ U))));refine y_ (Cj (T U) Kl) (y_ (Lo U isAgg3 (by first|exact c_o|exact c_m (hn.nodes.f0 (i:=k) qom U)|exact c_m (hn.edges.f0 (i:=k3) qom U)|exact c_m (hn.edges.f (i:=k3) qom U))) ?_ U) U;refine y_ (Bb (qe2 U U) call96 (fun H' hs=>isNode_sT _ _)) ?_ U
        first|refine A3 (B7 (T U)) U Ac ?_|refine A3 (Cc (T U)) U Ac ?_
        refine y_ (Af (T U)) ?_ U
        first|refine Bi (s:=90) (Aa U) (fun c90=> ?_) (fun c90=> ?_)|refine B2 (s:=90) (Aa U) (fun c90=> ?_) (fun c90=> ?_)
        ·refine Bs (Bs (Bs (Bs (Bs (y_ (Bh (T U) An) (y_ (Af (T U)) (Bs (Bs (Bs (Bs (Bs (y_ (Bh (T U) An) (y_ (Af (T U)) (Bs (Bs (Bs (y_ (Bh (T U) An) (y_ (Af (T U)) (Bs (Bs (Bs (y_ (Bh (T U) An) (Aj (Ah (B5 [(1,_),(9,_),(113,_)] (kg U) (Cf (Aa U) (Am (Ad (y_ (Ag An) (Aj (Ah (Bq (A4 (Aw (Bc (A4 (Aw (As U (Ll U) ?_))))))))) U))))))) U) U U U U) U U U U) U U U U) U) U) U U U U) U U U U) U U U U) U) U) U U U U) U U U U) U U U U) U U U U) U U U U) U) U) U U U U) U U U U) U U U U) U U U U) U U U U;exact⟨_,⟨⟨_,rfl,fun h=>by first|(exfalso;omega)|exact⟨fun i hi=>hl2 i qom,fun i hi=>hl3 i qom⟩⟩,rfl⟩,sbt⟩
        ·refine A3 (Lp U isAgg26 sizeOf26 U (by first|exact A2|exact Cw (hn.nodes.f0 (i:=k) qom U)|exact Cw (hn.edges.f0 (i:=k3) qom U)|exact Cw (hn.edges.f (i:=k3) qom U))) U (Ax U U (Aa U)) ?_;refine A3 (Bt (T U) Ia) U (Ax U U (Aa U)) (A3 (Lo U isAgg3 (by first|exact c_o|exact c_m (hn.nodes.f0 (i:=k) qom U)|exact c_m (hn.edges.f0 (i:=k3) qom U)|exact c_m (hn.edges.f (i:=k3) qom U))) U (Ax U U (Aa U)) ?_);refine A3 (Bb (qe2 U U) call96 (fun H' hs=>isNode_sT _ _)) U (Ax U U (Aa U)) ?_
         first|refine A3 (B7 (T U)) U (Ax U U (Aa U)) ?_|refine A3 (Cc (T U)) U (Ax U U (Aa U)) ?_
         refine y_ (Bm (T U) (T U)) (y_ (Af (T U)) ?_ U) U
         first|refine Bi (s:=97) (Aa U) (fun c97=> ?_) (fun c97=> ?_)|refine B2 (s:=97) (Aa U) (fun c97=> ?_) (fun c97=> ?_)
         ·refine Bs (Bs (Bs (Bs (Bs (y_ (Bh (T U) An) (y_ (Af (T U)) (Bs (Bs (Bs (y_ (Bh (T U) An) (y_ (Af (T U)) (Bs (Bs (Bs (y_ (Bh (T U) An) (Aj (Ah (B5 [(1,_),(9,_),(113,_)] (kg U) (Cf (Aa U) (Am (Ad (y_ (Ag An) (Aj (Ah (Bq (A4 (Aw (Bc (A4 (Aw (As U (Ll U) ?_))))))))) U))))))) U) U U U U) U U U U) U U U U) U) U) U U U U) U U U U) U U U U) U) U) U U U U) U U U U) U U U U) U U U U) U U U U;exact⟨_,⟨⟨_,rfl,fun h=>by first|(exfalso;omega)|exact⟨fun i hi=>hl2 i qom,fun i hi=>hl3 i qom⟩⟩,rfl⟩,sbt⟩
         ·refine A3 (Cj (T U) Kl) U (Ax U U (Aa U)) (A3 (Lo U isAgg3 (by first|exact c_o|exact c_m (hn.nodes.f0 (i:=k) qom U)|exact c_m (hn.edges.f0 (i:=k3) qom U)|exact c_m (hn.edges.f (i:=k3) qom U))) U (Ax U U (Aa U)) ?_);refine A3 (Bt (T U) Ia) U (Ax U U (Aa U)) (A3 (Lo U isAgg3 (by first|exact c_o|exact c_m (hn.nodes.f0 (i:=k) qom U)|exact c_m (hn.edges.f0 (i:=k3) qom U)|exact c_m (hn.edges.f (i:=k3) qom U))) U (Ax U U (Aa U)) ?_);refine A3 (D9 (T U) (T U)) U (Ax U U (Aa U)) (y_ (Bm (T U) (T U)) (y_ (Af (T U)) ?_ U) U)
          first|refine Bi (s:=104) (Aa U) (fun c104=> ?_) (fun c104=> ?_)|refine B2 (s:=104) (Aa U) (fun c104=> ?_) (fun c104=> ?_)
          ·refine Bs (Bs (Bs (y_ (Bh (T U) An) (y_ (Af (T U)) (Bs (Bs (Bs (y_ (Bh (T U) An) (Aj (Ah (B5 [(1,_),(9,_),(113,_)] (kg U) (Cf (Aa U) (Am (Ad (y_ (Ag An) (Aj (Ah (Bq (A4 (Aw (Bc (A4 (Aw (As U (Ll U) ?_))))))))) U))))))) U) U U U U) U U U U) U U U U) U) U) U U U U) U U U U) U U U U;exact⟨_,⟨⟨_,rfl,fun h=>by first|(exfalso;omega)|exact⟨fun i hi=>hl2 i qom,fun i hi=>hl3 i qom⟩⟩,rfl⟩,sbt⟩
          ·refine A3 (Bt (T U) fa95_2) U (Ax U U (Aa U)) (A3 (Lo U isAgg3 (by first|exact c_o|exact c_m (hn.nodes.f0 (i:=k) qom U)|exact c_m (hn.edges.f0 (i:=k3) qom U)|exact c_m (hn.edges.f (i:=k3) qom U))) U (Ax U U (Aa U)) ?_);refine A3 (Ci (T U) An) U (Ax U U (Aa U)) (y_ (Bm (T U) (T U)) (y_ (Af (T U)) ?_ U) U)
           first|refine Bi (s:=109) (Aa U) (fun c109=> ?_) (fun c109=> ?_)|refine B2 (s:=109) (Aa U) (fun c109=> ?_) (fun c109=> ?_)
           ·refine Bs (Bs (Bs (y_ (Bh (T U) An) (Aj (Ah (B5 [(1,_),(9,_),(113,_)] (kg U) (Cf (Aa U) (Am (Ad (y_ (Ag An) (Aj (Ah (Bq (A4 (Aw (Bc (A4 (Aw (As U (Ll U) ?_))))))))) U))))))) U) U U U U) U U U U) U U U U;exact⟨_,⟨⟨_,rfl,fun h=>by first|(exfalso;omega)|exact⟨fun i hi=>hl2 i qom,fun i hi=>hl3 i qom⟩⟩,rfl⟩,sbt⟩
           ·refine A3 (Bt (T U) fa95_2) U (Ax U U (Aa U)) (A3 (Lo U isAgg3 (by first|exact c_o|exact c_m (hn.nodes.f0 (i:=k) qom U)|exact c_m (hn.edges.f0 (i:=k3) qom U)|exact c_m (hn.edges.f (i:=k3) qom U))) U (Ax U U (Aa U)) ?_);refine A3 (Dx (T U) An) U (Ax U U (Aa U)) (y_ (Bm (T U) (T U)) (Aj (Ah (B5 [(1,_),(9,_),(113,_)] (kg U) ?_))) U)
            first|refine Ak (Aa U) (fun c113=> ?_) (fun c113=> ?_)|refine Au (Aa U) (fun c113=> ?_) (fun c113=> ?_)
            ·refine Am (Ad (y_ (Ag An) (Aj (Ah (Bq (A4 (Aw (Bc (A4 (Aw (As U (Ll U) ?_))))))))) U));exact⟨_,⟨⟨_,rfl,fun h=>by first|(exfalso;omega)|exact⟨fun i hi=>hl2 i qom,fun i hi=>hl3 i qom⟩⟩,rfl⟩,sbt⟩
            ·refine Bp (B4 (Ah (Ad (y_ (Af (T U)) (y_ (Bd (T U) An qom) ?_ U) U))));refine y_ (Ag (T U)) (Aj ?_) U;refine A8 (k2+1) ?_ ?_ ⟨atd,trivial⟩ (kg U) ?_
             ·refine⟨by omega,fun i hi=> ?_⟩
              by_cases e:i=k2
              ·subst e;exact⟨by omega,by omega,by omega,by omega,by omega,by omega,by omega⟩
              ·exact hl2 i qom
             ·first|omega|(simp only[];omega)
             ·exact sbt
       ·refine Ct (Bv (Aq (Bw (Ah (Am (Am (Ad (y_ (Ag An) (Aj (Ah (Bo ?_))) U))))))));refine Cb (X:=Nat) (V:=fun k3=>[(11, .int .i64 (k3:Nat))]) (C:=[(1,_)]) (φ:=fun k3=>k3<=n.edges.length/\∀ i,i<k3->0<=(gd n.edges i).node/\(gd n.edges i).node<n.nodes.length) (μ:=fun k3=>n.edges.length - k3) (x0:=0) ?_ (kg U) ⟨atd,trivial⟩ ?_
        ·exact⟨Nat.zero_le _,fun i hi=>by omega⟩
        rintro k3 ⟨hk3,hl3⟩;refine Am (Am (Ad (y_ (Af (T U)) (y_ (Bt (T U) Fc) (y_ (Lo U isAgg24 (by first|exact c_o|exact c_m (hn.nodes.f0 (i:=k) qom U)|exact c_m (hn.edges.f0 (i:=k3) qom U)|exact c_m (hn.edges.f (i:=k3) qom U))) ?_ U) U) U)));refine y_ (Cd (T U) runUnderlying24) (y_ (Ci (T U) (T U)) (Aj (Ah ?_)) U) U
        first|refine Ak (Aa U) (fun c118=> ?_) (fun c118=> ?_)|refine Au (Aa U) (fun c118=> ?_) (fun c118=> ?_)
        ·refine Bp (Ah (Am (Bo (Am (B9 9 [(0,true),(1,true),(2,true),(3,true),(4,true),(5,true),(6,true),(7,true),(8,true)] _ mixd qkr sb0 ?_)))));refine o_y U (Lp U isAgg26 sizeOf26 U (by first|exact A2|exact Cw (hn.nodes.f0 (i:=k) qom U)|exact Cw (hn.edges.f0 (i:=k3) qom U)|exact Cw (hn.edges.f (i:=k3) qom U))) ?_ U Ac;refine o_y U (Bt (T U) Fc) (o_y U (Lo U isAgg24 (by first|exact c_o|exact c_m (hn.nodes.f0 (i:=k) qom U)|exact c_m (hn.edges.f0 (i:=k3) qom U)|exact c_m (hn.edges.f (i:=k3) qom U))) ?_ U Ac) U Ac;refine o_y U (Af (T U)) (o_y U (Lq U U runUnderlying24 sizeOf171 qom (by first|exact rfl|exact hn.nodes.b (i:=k) qom|exact hn.links.b (i:=k2) qom|exact hn.edges.b (i:=k3) qom)) ?_ U Ac) U Ac;refine o_y U (Bt (T U) J4) (o_y U (Lo U isAgg3 (by first|exact c_o|exact c_m (hn.nodes.f0 (i:=k) qom U)|exact c_m (hn.edges.f0 (i:=k3) qom U)|exact c_m (hn.edges.f (i:=k3) qom U))) ?_ U Ac) U Ac;refine o_y U (Bb (qe2 U U) call96 (fun H' hs=>isNode_sT _ _)) ?_ U Ac
         first|refine o_y U (B7 (T U)) ?_ U Ac|refine o_y U (Cc (T U)) ?_ U Ac
         refine Bj U (Aj (Ah ?_))
         first|refine Ak (Aa U) (fun c129=> ?_) (fun c129=> ?_)|refine Au (Aa U) (fun c129=> ?_) (fun c129=> ?_)
         ·refine Am (Ad (y_ (Ag An) (Aj (Ah (Bq (A4 (Aw (Bc (A4 (Aw (As U (Ll U) ?_))))))))) U));exact⟨_,⟨⟨_,rfl,fun h=>by first|(exfalso;omega)|exact⟨fun i hi=>hl2 i qom,fun i hi=>hl3 i qom⟩⟩,rfl⟩,sbt⟩
         ·refine Bp (B4 (Ah (Ad (y_ (Af (T U)) (y_ (Bd (T U) An qom) ?_ U) U))));refine y_ (Ag (T U)) (Aj ?_) U;refine A8 (k3+1) ?_ ?_ ⟨atd,trivial⟩ (kg U) ?_
          ·refine⟨by omega,fun i hi=> ?_⟩
           by_cases e:i=k3
           ·subst e;omega
           ·exact hl3 i qom
          ·first|omega|(simp only[];omega)
          ·exact sbt
        ·refine Ct (Bv (Aq (Bw (Ah (Am (Ad (y_ (Ag An) (Aj (Ah (Bq (As U (Ll U) ?_)))) U)))))));exact⟨_,⟨⟨_,rfl,fun h=>by first|(exfalso;omega)|exact⟨fun i hi=>hl2 i qom,fun i hi=>hl3 i qom⟩⟩,rfl⟩,sbt⟩
theorem nd_iff {l:List Int}:l.Nodup↔∀ i j,i<j->j<l.length->gd l i≠gd l j:=by
 unfold List.Nodup;rw[List.pairwise_iff_getElem]
 constructor
 ·intro h i j hij hj;rw[Ay qom,Ay hj];exact h i j qom hj hij
 ·intro h i j hi hj hij;have:=h i j hij hj
  rwa [Ay hi,Ay hj] at this
theorem nodes_eq (ls:List Lnk)(w:Way):∀ (path:List Int) (a:Int),(hopsF ls w a path).map (·.1)=a::path.map (dstOf ls)
 |[],a=>rfl
 |l::path,a=>by rw[hopsF,List.map_cons,nodes_eq ls w path];rfl
theorem Dc (ls:List Lnk)(w:Way):nodesF ls w=w.src::w.links.map (dstOf ls):=nodes_eq ls w w.links w.src
theorem Co (ls:List Lnk)(w:Way):(nodesF ls w).length=w.links.length+1:=by rw[Dc];simp
theorem C3 (ls:List Lnk)(w:Way):(hops ls w).length=w.links.length+1:=hopsF_len ls w _ _
instance:Inhabited (Int × Hop):=⟨(0,default)⟩
def hopN (w:Way) (k:Nat):Hop:=if k<w.links.length then ⟨gd w.links k,gd w.links k, -1, -1⟩ else ⟨-1,w.port,w.tag,w.step⟩
theorem hopsF_get (ls:List Lnk)(w:Way):∀ (path:List Int) (a:Int) (k:Nat),k<=path.length->gd (hopsF ls w a path) k=(gd (a::path.map (dstOf ls)) k,if k<path.length then ⟨gd path k,gd path k, -1, -1⟩ else ⟨-1,w.port,w.tag,w.step⟩)
 |[],a,k,h=>by
  have:k=0:=by simpa using h
  subst this;rfl
 |l::path,a,0,h=>by simp[hopsF,gd]
 |l::path,a,k+1,h=>by
  have ih:=hopsF_get ls w path (dstOf ls l) k (by simpa using h);have e1:gd (hopsF ls w a (l::path)) (k+1)=gd (hopsF ls w (dstOf ls l) path) k:=by simp[hopsF,gd]
  have e2:gd (a::(l::path).map (dstOf ls)) (k+1)=gd (dstOf ls l::path.map (dstOf ls)) k:=by simp[gd]
  have e3:gd (l::path) (k+1)=gd path k:=by simp[gd]
  rw[e1,e2,e3,ih];simp
theorem Eb {ls:List Lnk}{w:Way}{k:Nat}(h:k<=w.links.length):gd (hops ls w) k=(gd (nodesF ls w) k,hopN w k):=by
 rw[Dc];exact hopsF_get ls w w.links w.src k h
def atD (ls:List Lnk) (w:Way) (node:Int) (k:Nat):Option Hop:=(((hops ls w).drop k).find? fun p=>p.1==node).map (·.2)
theorem atD_yes {ls:List Lnk}{w:Way}{node:Int}{k:Nat}(hk:k<=w.links.length)(h:gd (nodesF ls w) k=node):atD ls w node k=some (hopN w k):=by
 unfold atD;rw[Cy (by rw[C3];omega),Eb hk,List.find?_cons];simp[h]
theorem atD_no {ls:List Lnk}{w:Way}{node:Int}{k:Nat}(hk:k<=w.links.length)(h: ¬ gd (nodesF ls w) k=node):atD ls w node k=atD ls w node (k+1):=by
 have e:(gd (nodesF ls w) k==node)=false:=by simpa using h
 unfold atD;rw[Cy (by rw[C3];omega),Eb hk,List.find?_cons];simp only[e]
theorem atD_end {ls:List Lnk}{w:Way}{node:Int}{k:Nat}(hk: ¬ k<=w.links.length):atD ls w node k=none:=by
 unfold atD;rw[Ep (by rw[C3];omega)];rfl
def hopOr (o:Option Hop):Hop:=o.getD ⟨0,0,0,0⟩
theorem Hi (ls:List Lnk)(a b:Way)(k:Int):differ ls a b k=((atF ls a k).isSome&&((atF ls b k).isSome&&decide ¬ (hopOr (atF ls a k)=hopOr (atF ls b k)))):=by
 unfold differ hopOr;cases atF ls a k<;>cases atF ls b k<;>simp[bne]
 rename_i x y
 by_cases h:x=y<;>simp[h]
theorem confR_yes {ls:List Lnk}{n:Nat}{a b:Way}{k:Nat}(hk:k<n)(h:differ ls a b k=true)(hl:∀ i:Nat,i<k->differ ls a b i=false):confR ls n a b=some k:=by
 unfold confR;rw[List.find?_range_eq_some];exact⟨h,by rw[List.mem_range];exact hk,fun j hj=>by rw[hl j hj];rfl⟩
theorem confR_no {ls:List Lnk}{n:Nat}{a b:Way}(hl:∀ i:Nat,i<n->differ ls a b i=false):confR ls n a b=none:=by
 unfold confR;rw[List.find?_eq_none];intro k hk;rw[hl k (List.mem_range.1 hk)];simp
theorem Ge (ls:List Lnk)(w:Way):gd (nodesF ls w) 0=w.src:=by rw[Dc];rfl
theorem Fg (ls:List Lnk)(w:Way){k:Nat}(h:k<w.links.length):gd (nodesF ls w) (k+1)=(gd ls (gd w.links k).toNat).dst:=by
 rw[Dc];have:gd (w.src::w.links.map (dstOf ls)) (k+1)=gd (w.links.map (dstOf ls)) k:=by simp[gd]
 rw[this,Cr h];rfl
theorem hops_at {ls:List Lnk}{w:Way}{k:Nat}(h:k<=w.links.length):(hops ls w)[k]? =some (gd (nodesF ls w) k,hopN w k):=by
 rw[Dt (by rw[C3];omega),Eb h]
abbrev encP (p:Int × Hop):List Value:=[.int .i64 p.1, .agg (encH p.2).toArray]
def InR (ls:List Lnk) (path:List Int):Prop:=∀ i,i<path.length->0<=gd path i/\gd path i<ls.length
theorem Fu {ls:List Lnk}:∀ {path:List Int} {a:Int},(walkF ls a path).2=true->InR ls path
 |[],a,_=>fun i hi=>by simp at hi
 |l::path,a,h=>by
  unfold walkF at h
  split at h
  ·rename_i hc;have ih:=Fu h;intro i hi;cases i with
   |zero=>exact⟨hc.1,hc.2.1⟩
   |succ i=>exact ih i (by simpa using hi)
  ·cases h
def oneF (n:Nm) (steps:Int) (w:Way):Int:=
 if w.src<0\/(n.nodes.length:Int)<=w.src\/w.tag<0\/65535<w.tag\/w.step< -1\/steps<=w.step then 1
 else if (walkF n.links w.src w.links).2=false then 18
 else if ¬ (nodesF n.links w).Nodup then 18
 else if 20000<=w.port/\w.port - 20000=(walkF n.links w.src w.links).1 then 0
 else if (10000<=w.port/\w.port<10000+n.edges.length)/\(gd n.edges (w.port - 10000).toNat).node=(walkF n.links w.src w.links).1 then 0
 else 1
def chkG (n:Nm) (steps:Int):Nat->List Wm->Int × Int
 |_,[]=>(0,0)
 |k,m::r=>if oneF n steps m.way=0 then chkG n steps (k+1) r else (k,oneF n steps m.way)
def chkF (n:Nm) (steps:Int) (l:List Wm):Int × Int:=if steps<0 then (0,1) else if 2000<l.length then (0,2) else chkG n steps 0 l
theorem chkG_ok {n:Nm}{steps:Int}:∀ {l:List Wm} {k:Nat},(chkG n steps k l).2=0->∀ m∈l,oneF n steps m.way=0
 |[],_,_,m,hm=>by cases hm
 |a::l,k,h,m,hm=>by
  unfold chkG at h
  split at h
  ·rename_i ha;rcases List.mem_cons.1 hm with rfl|hm
   ·exact ha
   ·exact chkG_ok h m hm
  ·rename_i ha;exact absurd h ha
theorem chkF_ok {n:Nm}{steps:Int}{l:List Wm}(h:(chkF n steps l).2=0):∀ m∈l,oneF n steps m.way=0:=by
 unfold chkF at h
 split at h
 ·cases h
 ·split at h
  ·cases h
  ·exact chkG_ok h
structure WayOk (n:Nm) (w:Way):Prop where
 s0:0<=w.src
 s1:w.src<n.nodes.length
 t0:0<=w.tag
 t1:w.tag<=65535
 walk:(walkF n.links w.src w.links).2=true
 nd:(nodesF n.links w).Nodup
theorem Dw {n:Nm}{steps:Int}{w:Way}(h:oneF n steps w=0):WayOk n w:=by
 unfold oneF at h
 split at h
 ·cases h
 ·split at h
  ·cases h
  ·split at h
   ·cases h
   ·rename_i h1 h2 h3;exact⟨by omega,by omega,by omega,by omega,by simpa using h2,by simpa using h3⟩
theorem leastI_yes {ls:List Lnk}{b:Way}{m:Int}{p:Int × Hop}(h1:(atF ls b p.1).isSome=true)(h2: ¬ p.2=hopOr (atF ls b p.1))(h3:m<0\/p.1<m):leastI ls b m p=p.1:=by
 unfold leastI apart;unfold hopOr at h2;cases ha:atF ls b p.1 with
 |none=>rw[ha] at h1;cases h1
 |some y=>
  rw[ha] at h2;simp only[Option.getD_some] at h2;have e:(p.2 !=y)=true:=by simpa using h2
  have e2:(decide (m<0)||decide (p.1<m))=true:=by simpa using h3
  simp[e,e2]
theorem leastI_no {ls:List Lnk}{b:Way}{m:Int}{p:Int × Hop}(h:(atF ls b p.1).isSome=false\/p.2=hopOr (atF ls b p.1)\/(¬ m<0/\¬ p.1<m)):leastI ls b m p=m:=by
 unfold leastI apart;unfold hopOr at h;cases ha:atF ls b p.1 with
 |none=>simp
 |some y=>
  rw[ha] at h;simp only[Option.getD_some,Option.isSome_some,Bool.true_eq_false,false_or] at h;rcases h with h|⟨h,h2⟩
  ·simp[h]
  ·simp[h,h2]
def confK (ls:List Lnk) (a b:Way) (k:Nat):Int:=((hops ls a).take k).foldl (leastI ls b) (-1)
theorem confK_succ {ls:List Lnk}{a b:Way}{k:Nat}{p:Int × Hop}(h:(hops ls a)[k]? =some p):confK ls a b (k+1)=leastI ls b (confK ls a b k) p:=by
 unfold confK;rw[List.take_add_one,h];simp[List.foldl_append]
theorem confK_end (ls:List Lnk)(a b:Way):confK ls a b (hops ls a).length=confI ls a b:=by unfold confK confI;rw[List.take_length]
theorem walk_end {n:Nm}(hok:NetOk n){w:Way}(h0:0<=w.src)(h1:w.src<n.nodes.length)(h:(walkF n.links w.src w.links).2=true):0<=(walkF n.links w.src w.links).1/\(walkF n.links w.src w.links).1<n.nodes.length:=
 walkF_end n.links n.nodes.length (fun l hl=>⟨(hok.links l hl).d0,(hok.links l hl).d1⟩) w.links w.src h0 h1 h
theorem eqHop (a b:Hop)(w:World):(Op.equal 194 (.agg (encH a).toArray) (.agg (encH b).toArray)).run prog w= .ok (decide (a=b)) w:=by
 unfold Op.equal Op.maxDepth;rw[run_equalIn_struct w 9999 194 _ _ qkr qkr];simp[go_sem,Program.fieldsOf,underlying194,Op.eqFields];obtain⟨a1,a2,a3,a4⟩:=a;obtain⟨b1,b2,b3,b4⟩:=b
 by_cases h:a1=b1<;>by_cases h2:a2=b2<;>by_cases h3:a3=b3<;>by_cases h4:a4=b4<;>simp[h,h2,h3,h4]
theorem wFew_s {w0:World}{H:List (Nat × Obj)}(q:Option Addr)(cap:Nat)(l:List Wm)(hw:WaysM w0 H q l)(most:Int):
  FSpec prog w0 39 #[.slice q l.length cap, .int .i64 most] H (fun v H'=>(∃ t:Bool,v= .bool t/\(t=true->(∀ i,i<l.length->(gd l i).way.links.length<=20)/\(l.length:Int)<=most))/\H'=H):=by
 refine Az func39 U ntmps39 U ?_;have hlen:=hw.len;refine Am (Ad (y_ (Ag An) (Aj (Ah (Am (Am (Ad (y_ (Ag An) (Aj (Ah (Bo ?_))) U)))))) U));refine Cb (X:=Nat) (V:=fun k=>[(5, .int .i64 (k:Nat))]) (C:=[(0,_),(1,_)]) (φ:=fun k=>k<=l.length/\∀ i,i<k->(gd l i).way.links.length<=20) (μ:=fun k=>l.length - k) (x0:=0) ?_ (kg U) ⟨atd,trivial⟩ ?_
 ·exact⟨Nat.zero_le _,fun i hi=>by omega⟩
 rintro k ⟨hk,hf⟩;refine Am (Am (Ad (y_ (Af (T U)) (y_ (Af (T U)) (y_ (Cd (T U) runUnderlying27) (y_ (Ci (T U) (T U)) (Aj (Ah ?_)) U) U) U) U)))
 first|refine Ak (Aa U) (fun c9=> ?_) (fun c9=> ?_)|refine Au (Aa U) (fun c9=> ?_) (fun c9=> ?_)
 ·refine Bp (Ah (Am (Bo (Am (Ad (y_ (Af (T U)) (y_ (Af (T U)) (y_ (Lq U U runUnderlying27 sizeOf59 qom (by first|exact rfl|exact hw.arr.b (i:=k) qom)) ?_ U) U) U))))));refine y_ (Bt (T U) Fq) (y_ (Lo U isAgg41 (by first|exact c_o|exact c_m (hw.arr.f (i:=k) qom U))) ?_ U) U;refine y_ (Cd (T U) runUnderlying41) (y_ (Dx (T U) An) (Aj (Ah ?_)) U) U
  first|refine Ak (Aa U) (fun c18=> ?_) (fun c18=> ?_)|refine Au (Aa U) (fun c18=> ?_) (fun c18=> ?_)
  ·refine Am (Ad (y_ (Ag An) (Aj (Ah (Bq (A4 (Aw (Bc (A4 (Aw (As U (Ll U) ?_))))))))) U));exact⟨_,⟨⟨_,rfl,fun h=>by cases h⟩,rfl⟩,sbt⟩
  ·refine Bp (B4 (Ah (Ad (y_ (Af (T U)) (y_ (Bd (T U) An qom) ?_ U) U))));refine y_ (Ag (T U)) (Aj ?_) U;refine A8 (k+1) ?_ ?_ ⟨atd,trivial⟩ (kg U) ?_
   ·refine⟨by omega,fun i hi=> ?_⟩
    by_cases e:i=k
    ·subst e;omega
    ·exact hf i qom
   ·first|omega|(simp only[];omega)
   ·exact sbt
 ·refine Ct (Bv (Aq (Bw (Ah (Am (Ad (y_ (Af (T U)) (y_ (Cd (T U) runUnderlying27) (y_ (Af (T U)) (y_ (Ee (T U) (T U)) (y_ (Ag (T U)) (Aj (Ah (Bq (As U (Ll U) ?_)))) U) U) U) U) U)))))));exact⟨_,⟨⟨_,rfl,fun h=>⟨fun i hi=>hf i qom,of_decide_eq_true h⟩⟩,rfl⟩,sbt⟩
theorem twice_s {w0:World}{H:List (Nat × Obj)}(q:Option Addr)(cap:Nat)(l:List Int)(hi:IntArr w0 H q l)(hl:l.length<=9223372036854775807):
  FSpec prog w0 149 #[.slice q l.length cap] H (Still (.bool (decide ¬ l.Nodup)) H):=by
 refine Az func149 U ntmps149 U (Am (Ad (y_ (Ag An) (Aj (Ah (Am (Am (Ad (y_ (Ag An) (Aj (Ah (Bo ?_))) U)))))) U)));refine Cb (X:=Nat) (V:=fun k=>[(3, .int .i64 (k:Nat))]) (C:=[(0,_)]) (φ:=fun k=>k<=l.length/\∀ i j,i<j->j<k->gd l i≠gd l j) (μ:=fun k=>l.length - k) (x0:=0) ?_ (kg U) ⟨atd,trivial⟩ ?_
 ·exact⟨Nat.zero_le _,fun i j _ h=>by omega⟩
 rintro k ⟨hk,hd⟩;refine Am (Am (Ad (y_ (Af (T U)) (y_ (Af (T U)) (y_ (Cd (T U) runUnderlying41) (y_ (Ci (T U) (T U)) (Aj (Ah ?_)) U) U) U) U)))
 first|refine Ak (Aa U) (fun c8=> ?_) (fun c8=> ?_)|refine Au (Aa U) (fun c8=> ?_) (fun c8=> ?_)
 ·refine Bp (Ah (Am (Bo (Am (Ad (y_ (Ag An) (Aj (Ah (Bo ?_))) U))))));refine Cb (X:=Nat) (V:=fun k2=>[(4, .int .i64 (k2:Nat))]) (C:=[(0,_),(3,_)]) (φ:=fun k2=>k2<=k/\∀ i,i<k2->gd l i≠gd l k) (μ:=fun k2=>k - k2) (x0:=0) ?_ (kg U) ⟨atd,trivial⟩ ?_
  ·exact⟨Nat.zero_le _,fun i h=>by omega⟩
  rintro k2 ⟨hk2,hd2⟩;refine Am (Am (Ad (y_ (Af (T U)) (y_ (Af (T U)) (y_ (Ci (T U) (T U)) (Aj (Ah ?_)) U) U) U)))
  first|refine Ak (Aa U) (fun c13=> ?_) (fun c13=> ?_)|refine Au (Aa U) (fun c13=> ?_) (fun c13=> ?_)
  ·refine Bp (Ah (Am (Bo (Am (B9 9 [(0,true),(1,true),(2,true),(3,true),(4,true),(5,true),(6,true),(7,true),(8,true)] _ mixd qkr sb0 ?_)))));refine o_y U (Af (T U)) (o_y U (Af (T U)) (o_y U (Lq U U runUnderlying41 sizeOf3 qom (by first|exact rfl|exact hi.b (i:=k) qom)) ?_ U Ac) U Ac) U Ac;refine o_y U (Lo U isAgg3 (by first|exact c_o|exact c_m (hi.f0 (i:=k) qom U)|exact c_m (hi.f0 (i:=k2) qom U))) ?_ U Ac;refine o_y U (Af (T U)) (o_y U (Af (T U)) (o_y U (Bl (T U) (T U) runUnderlying41 sizeOf3 qom (by first|exact rfl|exact hi.b (i:=k) qom)) ?_ U Ac) U Ac) U Ac;refine o_y U (Lo U isAgg3 (by first|exact c_o|exact c_m (hi.f0 (i:=k) qom U)|exact c_m (hi.f0 (i:=k2) qom U))) ?_ U Ac;refine o_y U (D9 (T U) (T U)) (Bj U (Aj (Ah ?_))) U Ac
   first|refine Ak (Aa U) (fun c24=> ?_) (fun c24=> ?_)|refine Au (Aa U) (fun c24=> ?_) (fun c24=> ?_)
   ·refine Am (Ad (y_ (Ag An) (Aj (Ah (Bq (A4 (Aw (Bc (A4 (A4 (Aw (Bc (A4 (Aw (As U (Ll U) ?_))))))))))))) U));exact⟨_,⟨by rw[decide_eq_true (p:= ¬ l.Nodup) (fun h=>nd_iff.1 h k2 k qom qom c24)];rfl,rfl⟩,sbt⟩
   ·refine Bp (B4 (Ah (Ad (y_ (Af (T U)) (y_ (Bd (T U) An qom) ?_ U) U))));refine y_ (Ag (T U)) (Aj ?_) U;refine A8 (k2+1) ?_ ?_ ⟨atd,trivial⟩ (kg U) ?_
    ·refine⟨by omega,fun i hi=> ?_⟩
     by_cases e:i=k2
     ·subst e;exact c24
     ·exact hd2 i qom
    ·first|omega|(simp only[];omega)
    ·exact sbt
  ·refine Ct (Bv (Aq (Bw (B4 (Ah (Ad (y_ (Af (T U)) (y_ (Bd (T U) An qom) ?_ U) U)))))));refine y_ (Ag (T U)) (Aj ?_) U;refine A8 (k+1) ?_ ?_ ⟨atd,trivial⟩ (kg U) ?_
   ·refine⟨by omega,fun i j hij hj=> ?_⟩
    by_cases e:j=k
    ·subst e;exact hd2 i qom
    ·exact hd i j hij qom
   ·first|omega|(simp only[];omega)
   ·exact sbt
 ·refine Ct (Bv (Aq (Bw (Ah (Am (Ad (y_ (Ag An) (Aj (Ah (Bq (As U (Ll U) ?_)))) U)))))));exact⟨_,⟨by rw[decide_eq_false (p:= ¬ l.Nodup) (fun h=>h (nd_iff.2 fun i j hij hj=>hd i j hij qom))];rfl,rfl⟩,sbt⟩
theorem Ir {w0:World}{H:List (Nat × Obj)}(n:Nm)(hn:NetM w0 H n)(m:Wm)(hm:WayM w0 H m)(hr:InR n.links m.way.links)(hs20:m.way.links.length<=9000000):
  FSpec prog w0 80 #[.agg (encNm n).toArray, .agg (encW m).toArray] H (fun v H'=>∃ d:Sl,v=slV d (nodesF n.links m.way).length/\SlOk d (nodesF n.links m.way).length 1/\H'=slH d ((nodesF n.links m.way).flatMap encI) 3++H):=by
 refine Az func80 U ntmps80 U (Am (Ad (e_ (Lt U cs_) ?_ U)));rintro _ _ ⟨n2,rfl,rfl⟩;refine e_ (Lt U cs_) ?_ U;rintro _ _ ⟨n3,rfl,rfl⟩;refine y_ (Ag An) (Aj (Ah (Am (Ad (y_ (Cj (T U) Gt) (y_ (Lo U isAgg3 (by first|exact c_o|exact c_m (hm.links.f0 (i:=k) qom U)|exact c_m (hn.links.f (i:=(gd m.way.links k).toNat) (by have:=hr k qom;omega) U))) ?_ U) U))))) U;refine e_ (A7 (.cons (T U) .nil) (Iq)) ?_ U;rintro _ _ ⟨n9,rfl,rfl⟩;refine y_ (Ag (T U)) (Aj (Ah (Am (Am (Ad (y_ (Ag An) (Aj (Ah (Bo ?_))) U)))))) U;refine j_loopG (X:=Nat × Sl × List Int) (V:=fun ⟨k,d,l⟩=>[(6, .int .i64 (k:Nat)),(5,slV d l.length)]) (C:=[(2,_),(3,_)]) (G:=fun ⟨k,d,l⟩=>slH d (l.flatMap encI) 3) (Hc:=_) (φ:=fun ⟨k,d,l⟩=>k<=m.way.links.length/\l=m.way.src::(m.way.links.take k).map (dstOf n.links)/\SlOk d l.length 1) (μ:=fun ⟨k,d,l⟩=>m.way.links.length - k) (x0:=(0, .blk n9 1 [],[m.way.src])) ?_ (kg U) ⟨atd,atd,trivial⟩ (sb0 (l:=slH (.blk n9 1 []) [.int .i64 m.way.src] 3++_)) ?_
 ·exact⟨Nat.zero_le _,rfl,by simp[SlOk]⟩
 rintro⟨k,d,l⟩ ⟨hk,hl,hok⟩;have hlen:l.length=k+1:=by rw[hl];simp;omega
 refine Am (Am (Ad (y_ (Af (T U)) (y_ (Bt (T U) Fq) (y_ (Lo U isAgg41 (by first|exact c_o|exact c_m (hm.links.f0 (i:=k) qom U)|exact c_m (hn.links.f (i:=(gd m.way.links k).toNat) (by have:=hr k qom;omega) U))) ?_ U) U) U)));refine y_ (Cd (T U) runUnderlying41) (y_ (Ci (T U) (T U)) (Aj (Ah ?_)) U) U
 first|refine Ak (Aa U) (fun c14=> ?_) (fun c14=> ?_)|refine Au (Aa U) (fun c14=> ?_) (fun c14=> ?_)
 ·refine Bp (Ah (Am (Bo (B9 12 [(0,true),(1,true),(2,true),(3,true),(4,true),(5,true),(6,true),(7,true),(8,true),(9,true),(10,true),(11,false)] _ mixd qkr sb0 ?_))));refine o_y U (Af (T U)) (o_y U (Bt (T U) Eh) (o_y U (Lo U isAgg23 (by first|exact c_o|exact c_m (hm.links.f0 (i:=k) qom U)|exact c_m (hn.links.f (i:=(gd m.way.links k).toNat) (by have:=hr k qom;omega) U))) ?_ U Ac) U Ac) U Ac;refine o_y U (Bt (T U) Fq) (o_y U (Lo U isAgg41 (by first|exact c_o|exact c_m (hm.links.f0 (i:=k) qom U)|exact c_m (hn.links.f (i:=(gd m.way.links k).toNat) (by have:=hr k qom;omega) U))) ?_ U Ac) U Ac;refine o_y U (Af (T U)) (o_y U (Lq U U runUnderlying41 sizeOf3 (by first|omega|(have:=hr k qom;omega)) (by first|exact rfl|exact hm.links.b (i:=k) qom|exact hn.links.b (i:=(gd m.way.links k).toNat) (by have:=hr k qom;omega))) ?_ U Ac) U Ac;refine o_y U (Lo U isAgg3 (by first|exact c_o|exact c_m (hm.links.f0 (i:=k) qom U)|exact c_m (hn.links.f (i:=(gd m.way.links k).toNat) (by have:=hr k qom;omega) U))) ?_ U Ac;refine o_y U (Bl (T U) (T U) runUnderlying23 sizeOf95 (by first|omega|(have:=hr k qom;omega)) (by first|exact rfl|exact hm.links.b (i:=k) qom|exact hn.links.b (i:=(gd m.way.links k).toNat) (by have:=hr k qom;omega))) ?_ U Ac;refine o_y U (Bt (T U) Ia) (o_y U (Lo U isAgg3 (by first|exact c_o|exact c_m (hm.links.f0 (i:=k) qom U)|exact c_m (hn.links.f (i:=(gd m.way.links k).toNat) (by have:=hr k qom;omega) U))) ?_ U Ac) U Ac;refine o_e U (A7 (.cons (T U) .nil) (Iq)) ?_ U Ac;rintro _ _ ⟨n28,rfl,rfl⟩;refine⟨sbt,(Bj U (e_ (Gq ((gd n.links (gd m.way.links k).toNat).dst) (A:=[_]) (by':=8) (T U) (T U) runUnderlying41 runUnderlying41 sizeOf3 typeInfo3 U zeroValue3 U (fun _=>rfl) U hok qde qom) ?_ U))⟩;rintro _ _ ⟨d',rfl,hok',rfl⟩;refine y_ (Ag (T U)) (Aj (B4 (Ah (Ad (y_ (Af (T U)) (y_ (Bd (T U) An qom) ?_ U) U))))) U;refine y_ (Ag (T U)) (Aj ?_) U;refine A8 ((k+1,d',l++[(gd n.links (gd m.way.links k).toNat).dst])) ?_ ?_ ⟨atd,atd,trivial⟩ (kg U) ?_
  ·exact⟨by omega,by rw[hl,C6 qom,List.map_append];rfl,by simpa using hok'⟩
  ·first|omega|(simp only[];omega)
  ·exact sbt
 ·refine Ct (Bv (Aq (Bw (Ah (Am (Ad (y_ (Af (T U)) (y_ (Ag (T U)) (Aj (Ah (Bq (As U (Ll U) ?_)))) U) U)))))));rw[Er qom,<- Dc] at hl;rw[<- hl];exact⟨_,⟨d,rfl,hok,rfl⟩,sbt⟩
theorem Lf {w0:World}{H:List (Nat × Obj)}(n:Nm)(hn:NetM w0 H n)(m:Wm)(hm:WayM w0 H m)(hr:InR n.links m.way.links)(hs20:m.way.links.length<=9000000)(node:Int):
  FSpec prog w0 118 #[.agg (encNm n).toArray, .agg (encW m).toArray, .int .i64 node] H (Still (.tuple #[.agg (encH (hopOr (atF n.links m.way node))).toArray, .bool (atF n.links m.way node).isSome]) H):=by
 refine Az func118 U ntmps118 U ?_;have hnl:=Co n.links m.way;refine Am (Ad (e_ (Lt U cs_) ?_ U));rintro _ _ ⟨n3,rfl,rfl⟩;refine e_ (Lt U cs_) ?_ U;rintro _ _ ⟨n4,rfl,rfl⟩;refine e_ (Ap zeroValue194 cs_) ?_ U;rintro _ _ ⟨n6,rfl,rfl⟩;refine y_ (Ag An) (Aj (Ah (Am (Ad (y_ (Lp U isAgg26 sizeOf26 U (by first|exact A2|exact Cw (Arr.f0 (A5 (enc:=encI) (sz:=1) (X:=_) (e:=3) (fun _=>rfl) hok) (i:=k) qom U)|exact Cw (hm.links.f0 (i:=k) qom U))) ?_ U))))) U;refine y_ (Lp U isAgg59 sizeOf59 U (by first|exact A2|exact Cw (Arr.f0 (A5 (enc:=encI) (sz:=1) (X:=_) (e:=3) (fun _=>rfl) hok) (i:=k) qom U)|exact Cw (hm.links.f0 (i:=k) qom U))) ?_ U;refine e_ (A1 (qe2 U U) call80 (Ir n hn.mono m hm.mono hr hs20)) ?_ U;rintro _ _ ⟨d,rfl,hok,rfl⟩;refine y_ (Ag (T U)) (Aj (Ah (Am (Am (Ad (y_ (Ag An) (Aj (Ah (Bo ?_))) U)))))) U;refine Cb (X:=Nat) (V:=fun k=>[(9, .int .i64 (k:Nat))]) (C:=[(2,_),(4,_),(6,_),(8,_)]) (φ:=fun k=>k<=(nodesF n.links m.way).length/\atD n.links m.way node k=atF n.links m.way node) (μ:=fun k=>(nodesF n.links m.way).length - k) (x0:=0) ?_ (kg U) ⟨atd,trivial⟩ ?_
 ·exact⟨Nat.zero_le _,rfl⟩
 rintro k ⟨hk,hat⟩;refine Am (Am (Ad (y_ (Af (T U)) (y_ (Af (T U)) (y_ (Cd (T U) runUnderlying41) (y_ (Ci (T U) (T U)) (Aj (Ah ?_)) U) U) U) U)))
 first|refine Ak (Aa U) (fun c16=> ?_) (fun c16=> ?_)|refine Au (Aa U) (fun c16=> ?_) (fun c16=> ?_)
 ·refine Bp (Ah (Am (Bo (Am (Am (Ad (y_ (Af (T U)) (y_ (Af (T U)) (y_ (Lq U U runUnderlying41 sizeOf3 qom (by first|exact rfl|exact hok.bas qom|exact hm.links.b (i:=k) qom)) ?_ U) U) U)))))));refine y_ (Lo U isAgg3 (by first|exact c_o|exact c_m (Arr.f0 (A5 (enc:=encI) (sz:=1) (X:=_) (e:=3) (fun _=>rfl) hok) (i:=k) qom U)|exact c_m (hm.links.f0 (i:=k) qom U))) ?_ U;refine y_ (Af (T U)) (y_ (F7 (T U) (T U)) (Aj (Ah ?_)) U) U
  first|refine Ak (Aa U) (fun c24=> ?_) (fun c24=> ?_)|refine Au (Aa U) (fun c24=> ?_) (fun c24=> ?_)
  ·refine Ct (Bv (Bw (Ah (Ad (y_ (Af (T U)) (y_ (Bd (T U) An qom) ?_ U) U)))));refine y_ (Ag (T U)) (Aj ?_) U;refine A8 (k+1) ?_ ?_ ⟨atd,trivial⟩ (kg U) ?_
   ·exact⟨by omega,by rw[<- atD_no qom c24];exact hat⟩
   ·first|omega|(simp only[];omega)
   ·exact sbt
  ·refine Bp (Ah (Am (Am (Ad (y_ (Af (T U)) (y_ (Bt (T U) Fq) (y_ (Lo U isAgg41 (by first|exact c_o|exact c_m (Arr.f0 (A5 (enc:=encI) (sz:=1) (X:=_) (e:=3) (fun _=>rfl) hok) (i:=k) qom U)|exact c_m (hm.links.f0 (i:=k) qom U))) ?_ U) U) U)))));refine y_ (Cd (T U) runUnderlying41) (y_ (Ci (T U) (T U)) (Aj (Ah ?_)) U) U
   first|refine Ak (Aa U) (fun c29=> ?_) (fun c29=> ?_)|refine Au (Aa U) (fun c29=> ?_) (fun c29=> ?_)
   ·refine Am (B9 11 [(0,true),(1,true),(2,true),(3,true),(4,true),(5,true),(6,true),(7,true),(8,true),(9,true),(10,true)] _ mixd qkr sb0 ?_);refine o_y U (Bt (T U) Fq) (o_y U (Lo U isAgg41 (by first|exact c_o|exact c_m (Arr.f0 (A5 (enc:=encI) (sz:=1) (X:=_) (e:=3) (fun _=>rfl) hok) (i:=k) qom U)|exact c_m (hm.links.f0 (i:=k) qom U))) ?_ U Ac) U Ac;refine o_y U (Af (T U)) (o_y U (Lq U U runUnderlying41 sizeOf3 qom (by first|exact rfl|exact hok.bas qom|exact hm.links.b (i:=k) qom)) ?_ U Ac) U Ac;refine o_y U (Lo U isAgg3 (by first|exact c_o|exact c_m (Arr.f0 (A5 (enc:=encI) (sz:=1) (X:=_) (e:=3) (fun _=>rfl) hok) (i:=k) qom U)|exact c_m (hm.links.f0 (i:=k) qom U))) ?_ U Ac;refine o_y U (Bt (T U) Fq) (o_y U (Lo U isAgg41 (by first|exact c_o|exact c_m (Arr.f0 (A5 (enc:=encI) (sz:=1) (X:=_) (e:=3) (fun _=>rfl) hok) (i:=k) qom U)|exact c_m (hm.links.f0 (i:=k) qom U))) ?_ U Ac) U Ac;refine o_y U (Af (T U)) (o_y U (Lq U U runUnderlying41 sizeOf3 qom (by first|exact rfl|exact hok.bas qom|exact hm.links.b (i:=k) qom)) ?_ U Ac) U Ac;refine o_y U (Lo U isAgg3 (by first|exact c_o|exact c_m (Arr.f0 (A5 (enc:=encI) (sz:=1) (X:=_) (e:=3) (fun _=>rfl) hok) (i:=k) qom U)|exact c_m (hm.links.f0 (i:=k) qom U))) ?_ U Ac;refine o_y U (Bg (.cons (T U) (.cons (T U) (.cons An (.cons An .nil)))) (Ez _ _ _ _)) (Bj U ?_) U Ac
    first|refine A9 (Ls U U sizeOf194) U Ac ?_
    rintro _ _ ⟨rfl,rfl⟩;refine y_ (Ag An) (Aj (Ah (B5 [(6,_),(7,_)] (kg U) (Bq (Aw (A4 (Aw (Bc (A4 (Aw (As U (.cellA (Aa U) isAgg194 sizeOf194 U (by first|exact A2|exact Cw (Arr.f0 (A5 (enc:=encI) (sz:=1) (X:=_) (e:=3) (fun _=>rfl) hok) (i:=k) qom U)|exact Cw (hm.links.f0 (i:=k) qom U)) (Ll U)) ?_))))))))))) U;have e:=atD_yes (ls:=n.links) (w:=m.way) (node:=node) (k:=k) qom (Classical.not_not.1 c24);rw[hat] at e;exact⟨_,⟨by rw[e];unfold hopN;rw[if_pos qom];rfl,rfl⟩,sbt⟩
   ·refine Bp (Ah (Am (Ad (y_ (Bt (T U) Fd) (y_ (Lo U isAgg3 (by first|exact c_o|exact c_m (Arr.f0 (A5 (enc:=encI) (sz:=1) (X:=_) (e:=3) (fun _=>rfl) hok) (i:=k) qom U)|exact c_m (hm.links.f0 (i:=k) qom U))) ?_ U) U))));refine y_ (Bt (T U) Kj) (y_ (Lo U isAgg3 (by first|exact c_o|exact c_m (Arr.f0 (A5 (enc:=encI) (sz:=1) (X:=_) (e:=3) (fun _=>rfl) hok) (i:=k) qom U)|exact c_m (hm.links.f0 (i:=k) qom U))) ?_ U) U;refine y_ (Bt (T U) Kk) (y_ (Lo U isAgg3 (by first|exact c_o|exact c_m (Arr.f0 (A5 (enc:=encI) (sz:=1) (X:=_) (e:=3) (fun _=>rfl) hok) (i:=k) qom U)|exact c_m (hm.links.f0 (i:=k) qom U))) ?_ U) U;refine y_ (Bg (.cons An (.cons (T U) (.cons (T U) (.cons (T U) .nil)))) (Ez _ _ _ _)) ?_ U
    first|refine A9 (Ls U U sizeOf194) U Ac ?_
    rintro _ _ ⟨rfl,rfl⟩;refine y_ (Ag An) (Aj (Ah (B5 [(6,_),(7,_)] (kg U) (Bq (A4 (Aw (Bc (A4 (Aw (As U (.cellA (Aa U) isAgg194 sizeOf194 U (by first|exact A2|exact Cw (Arr.f0 (A5 (enc:=encI) (sz:=1) (X:=_) (e:=3) (fun _=>rfl) hok) (i:=k) qom U)|exact Cw (hm.links.f0 (i:=k) qom U)) (Ll U)) ?_)))))))))) U;have e:=atD_yes (ls:=n.links) (w:=m.way) (node:=node) (k:=k) qom (Classical.not_not.1 c24);rw[hat] at e;exact⟨_,⟨by rw[e];unfold hopN;rw[if_neg qom];rfl,rfl⟩,sbt⟩
 ·refine Ct (Bv (Aq (Bw (Ah (Am (Ad (y_ (Bg .nil (bd72_z)) ?_ U)))))))
  first|refine A9 (Ls U U sizeOf194) U Ac ?_
  rintro _ _ ⟨rfl,rfl⟩;refine y_ (Ag An) (Aj (Ah (Bq (As U (.cellA (Aa U) isAgg194 sizeOf194 U (by first|exact A2|exact Cw (Arr.f0 (A5 (enc:=encI) (sz:=1) (X:=_) (e:=3) (fun _=>rfl) hok) (i:=k) qom U)|exact Cw (hm.links.f0 (i:=k) qom U)) (Ll U)) ?_)))) U;rw[atD_end qom] at hat
  exact⟨_,⟨by rw[<- hat];rfl,rfl⟩,sbt⟩
theorem rConf_s {w0:World}{H:List (Nat × Obj)}(n:Nm)(hn:NetM w0 H n)(a b:Wm)(ha:WayM w0 H a)(hb:WayM w0 H b)(hra:InR n.links a.way.links)(hrb:InR n.links b.way.links)(hla:a.way.links.length<=1000000)(hlb:b.way.links.length<=1000000):
  FSpec prog w0 107 #[.agg (encNm n).toArray, .agg (encW a).toArray, .agg (encW b).toArray] H (Still (.tuple #[.int .i64 (((confR n.links n.nodes.length a.way b.way).getD 0:Nat):Int), .bool (confR n.links n.nodes.length a.way b.way).isSome]) H):=by
 refine Az func107 U ntmps107 U ?_;have hln:=hn.ln;refine Am (Ad (e_ (Lt U cs_) ?_ U));rintro _ _ ⟨n3,rfl,rfl⟩;refine e_ (Lt U cs_) ?_ U;rintro _ _ ⟨n4,rfl,rfl⟩;refine e_ (Lt U cs_) ?_ U;rintro _ _ ⟨n5,rfl,rfl⟩;refine y_ (Ag An) (y_ (Ag An) (Aj (Ah (Am (Am (Ad (y_ (Ag An) (Aj (Ah (Bo ?_))) U)))))) U) U;refine Cb (X:=Nat) (V:=fun k=>[(8, .int .i64 (k:Nat))]) (C:=[(3,_),(4,_),(5,_)]) (φ:=fun k=>k<=n.nodes.length/\∀ i:Nat,i<k->differ n.links a.way b.way i=false) (μ:=fun k=>n.nodes.length - k) (x0:=0) ?_ (kg U) ⟨atd,trivial⟩ ?_
 ·exact⟨Nat.zero_le _,fun i hi=>by omega⟩
 rintro k ⟨hk,hd⟩;refine Am (Am (Ad (y_ (Af (T U)) (y_ (Cj (T U) Eu) (y_ (Lo U isAgg22 (by first|exact c_o)) ?_ U) U) U)));refine y_ (Cd (T U) runUnderlying22) (y_ (Ci (T U) (T U)) (Aj (Ah ?_)) U) U
 first|refine Ak (Aa U) (fun c17=> ?_) (fun c17=> ?_)|refine Au (Aa U) (fun c17=> ?_) (fun c17=> ?_)
 ·refine Bp (Ah (Am (Bo (Am (Ad (y_ (Lp U isAgg26 sizeOf26 U (by first|exact A2)) ?_ U))))));refine y_ (Lp U isAgg59 sizeOf59 U (by first|exact A2)) ?_ U;refine y_ (Af (T U)) (y_ (Bb (qe3 U U U) call118 (fun H' hs=>Lf n (hn.mono (stn hs)) a (ha.mono (stn hs)) hra (Nat.le_trans hla qom) _)) (y_ (Af (T U)) (y_ (Bx (T U) U) (y_ (Bx (T U) U) (e_ (Ap zeroValue194 cs_) ?_ U) U) U) U) U) U;rintro _ _ ⟨n9,rfl,rfl⟩
  first|refine A9 (Ls U U sizeOf194) U Ac ?_
  rintro _ _ ⟨rfl,rfl⟩;refine y_ (Ag (T U)) (Aj (Ah (Am (Ad (y_ (Lp U isAgg26 sizeOf26 U (by first|exact A2)) ?_ U))))) U;refine y_ (Lp U isAgg59 sizeOf59 U (by first|exact A2)) ?_ U;refine y_ (Af (T U)) (y_ (Bb (qe3 U U U) call118 (fun H' hs=>Lf n (hn.mono (stn hs)) b (hb.mono (stn hs)) hrb (Nat.le_trans hlb qom) _)) (y_ (Af (T U)) (y_ (Bx (T U) U) (y_ (Bx (T U) U) (e_ (Ap zeroValue194 cs_) ?_ U) U) U) U) U) U;rintro _ _ ⟨n11,rfl,rfl⟩
  first|refine A9 (Ls U U sizeOf194) U Ac ?_
  rintro _ _ ⟨rfl,rfl⟩;refine y_ (Ag (T U)) (Aj (Ah (B5 [(3,_),(4,_),(5,_),(8,_),(9,_),(10,_),(11,_),(12,_)] (kg U) (Am (Ad (y_ (Af (T U)) (y_ (Af (T U)) ?_ U) U)))))) U
  first|refine Bi (s:=35) (Aa U) (fun c35=> ?_) (fun c35=> ?_)|refine B2 (s:=35) (Aa U) (fun c35=> ?_) (fun c35=> ?_)
  ·refine A3 (Af (T U)) U (Ax U U (Aa U)) (y_ (Bh (T U) (T U)) (y_ (Af (T U)) ?_ U) U)
   first|refine Bi (s:=38) (Aa U) (fun c38=> ?_) (fun c38=> ?_)|refine B2 (s:=38) (Aa U) (fun c38=> ?_) (fun c38=> ?_)
   ·refine A3 (Lp U isAgg194 sizeOf194 U (by first|exact A2)) U (Ax U U (Aa U)) ?_;refine A3 (Lp U isAgg194 sizeOf194 U (by first|exact A2)) U (Ax U U (Aa U)) ?_;refine A3 (yl_neqA (T U) (T U) eqGuardType194 (eqHop _ _)) U (Ax U U (Aa U)) (y_ (Bh (T U) (T U)) (Aj (Ah ?_)) U)
    first|refine Ak (Aa U) (fun c42=> ?_) (fun c42=> ?_)|refine Au (Aa U) (fun c42=> ?_) (fun c42=> ?_)
    ·refine Am (Ad (y_ (Af (T U)) (y_ (Ag (T U)) (y_ (Ag An) (Aj (Ah (Bq (A4 (Aw (Bc (A4 (Aw (As U (.tmp (Aa U) (Ll U)) ?_))))))))) U) U) U));have e:=confR_yes (n:=n.nodes.length) (a:=a.way) (b:=b.way) (k:=k) qom (by rw[Hi,c35,c38,decide_eq_true c42];rfl) hd;exact⟨_,⟨by rw[e];rfl,rfl⟩,sbt⟩
    ·refine Bp (B4 (Ah (Ad (y_ (Af (T U)) (y_ (Bd (T U) An qom) ?_ U) U))));refine y_ (Ag (T U)) (Aj ?_) U;refine A8 (k+1) ?_ ?_ ⟨atd,trivial⟩ (kg U) ?_
     ·refine⟨by omega,fun i hi=> ?_⟩
      by_cases e:i=k
      ·subst e;rw[Hi];simp[*]
      ·exact hd i qom
     ·first|omega|(simp only[];omega)
     ·exact sbt
   ·refine B8 (B8 (B8 (y_ (Bm (T U) An) (Aj (Ah (Cz (Aa U) (Bp (B4 (Ah (Ad (y_ (Af (T U)) (y_ (Bd (T U) An qom) ?_ U) U)))))))) U) U U U U) U U U U) U U U U;refine y_ (Ag (T U)) (Aj ?_) U;refine A8 (k+1) ?_ ?_ ⟨atd,trivial⟩ (kg U) ?_
    ·refine⟨by omega,fun i hi=> ?_⟩
     by_cases e:i=k
     ·subst e;rw[Hi];simp[*]
     ·exact hd i qom
    ·first|omega|(simp only[];omega)
    ·exact sbt
  ·refine B8 (y_ (Bm (T U) An) (y_ (Af (T U)) (B8 (B8 (B8 (y_ (Bm (T U) An) (Aj (Ah (Cz (Aa U) (Bp (B4 (Ah (Ad (y_ (Af (T U)) (y_ (Bd (T U) An qom) ?_ U) U)))))))) U) U U U U) U U U U) U U U U) U) U) U U U U;refine y_ (Ag (T U)) (Aj ?_) U;refine A8 (k+1) ?_ ?_ ⟨atd,trivial⟩ (kg U) ?_
   ·refine⟨by omega,fun i hi=> ?_⟩
    by_cases e:i=k
    ·subst e;rw[Hi];simp[*]
    ·exact hd i qom
   ·first|omega|(simp only[];omega)
   ·exact sbt
 ·refine Ct (Bv (Aq (Bw (Ah (Am (Ad (y_ (Ag An) (y_ (Ag An) (Aj (Ah (Bq (As U (.tmp (Aa U) (Ll U)) ?_)))) U) U)))))));have e:=confR_no (ls:=n.links) (n:=n.nodes.length) (a:=a.way) (b:=b.way) (fun i hi=>hd i qom);exact⟨_,⟨by rw[e];rfl,rfl⟩,sbt⟩
theorem one_s {w0:World}{H:List (Nat × Obj)}(n:Nm)(hn:NetM w0 H n)(hok:NetOk n)(hsm:n.edges.length<=1000000)(steps:Int)(m:Wm)(hm:WayM w0 H m)(hs20:m.way.links.length<=9000000):
  FSpec prog w0 97 #[.agg (encNm n).toArray, .int .i64 steps, .agg (encW m).toArray] H (Still (.int .i64 (oneF n steps m.way)) H):=by
 refine Az func97 U ntmps97 U ?_;have hpb:=hm.pb;refine Am (Ad (e_ (Lt U cs_) ?_ U));rintro _ _ ⟨n3,rfl,rfl⟩;refine e_ (Lt U cs_) ?_ U;rintro _ _ ⟨n5,rfl,rfl⟩;refine y_ (Ag An) (Aj (Ah (Am (Am (Ad (y_ (Cj (T U) Gt) (y_ (Lo U isAgg3 (by first|exact c_o|exact c_m (hn.edges.f (i:=(m.way.port - 10000).toNat) qom U))) ?_ U) U)))))) U;refine y_ (Ci (T U) An) (y_ (Af (T U)) ?_ U) U
 first|refine Bi (s:=13) (Aa U) (fun c13=> ?_) (fun c13=> ?_)|refine B2 (s:=13) (Aa U) (fun c13=> ?_) (fun c13=> ?_)
 ·refine Bs (Bs (Bs (Bs (Bs (Bs (y_ (Bh (T U) An) (y_ (Af (T U)) (Bs (Bs (Bs (y_ (Bh (T U) An) (y_ (Af (T U)) (Bs (Bs (Bs (y_ (Bh (T U) An) (y_ (Af (T U)) (Bs (Bs (Bs (y_ (Bh (T U) An) (y_ (Af (T U)) (Bs (Bs (Bs (Bs (y_ (Bh (T U) An) (Aj (Ah (B5 [(3,_),(5,_),(41,_)] (kg U) (Cf (Aa U) (Am (Ad (y_ (Ag An) (Aj (Ah (Bq (Aw (As U (Ll U) ?_))))) U))))))) U) U U U U) U U U U) U U U U) U U U U) U) U) U U U U) U U U U) U U U U) U) U) U U U U) U U U U) U U U U) U) U) U U U U) U U U U) U U U U) U) U) U U U U) U U U U) U U U U) U U U U) U U U U) U U U U;exact⟨_,⟨by unfold oneF;rw[if_pos qom];rfl,rfl⟩,sbt⟩
 ·refine A3 (Cj (T U) Gt) U (Ax U U (Aa U)) (A3 (Lo U isAgg3 (by first|exact c_o|exact c_m (hn.edges.f (i:=(m.way.port - 10000).toNat) qom U))) U (Ax U U (Aa U)) ?_);refine A3 (Cj (T U) Eu) U (Ax U U (Aa U)) (A3 (Lo U isAgg22 (by first|exact c_o|exact c_m (hn.edges.f (i:=(m.way.port - 10000).toNat) qom U))) U (Ax U U (Aa U)) ?_);refine A3 (Cd (T U) runUnderlying22) U (Ax U U (Aa U)) (A3 (Dy (T U) (T U)) U (Ax U U (Aa U)) (y_ (Bm (T U) (T U)) (y_ (Af (T U)) ?_ U) U))
  first|refine Bi (s:=21) (Aa U) (fun c21=> ?_) (fun c21=> ?_)|refine B2 (s:=21) (Aa U) (fun c21=> ?_) (fun c21=> ?_)
  ·refine Bs (Bs (Bs (y_ (Bh (T U) An) (y_ (Af (T U)) (Bs (Bs (Bs (y_ (Bh (T U) An) (y_ (Af (T U)) (Bs (Bs (Bs (y_ (Bh (T U) An) (y_ (Af (T U)) (Bs (Bs (Bs (Bs (y_ (Bh (T U) An) (Aj (Ah (B5 [(3,_),(5,_),(41,_)] (kg U) (Cf (Aa U) (Am (Ad (y_ (Ag An) (Aj (Ah (Bq (Aw (As U (Ll U) ?_))))) U))))))) U) U U U U) U U U U) U U U U) U U U U) U) U) U U U U) U U U U) U U U U) U) U) U U U U) U U U U) U U U U) U) U) U U U U) U U U U) U U U U;exact⟨_,⟨by unfold oneF;rw[if_pos qom];rfl,rfl⟩,sbt⟩
  ·refine A3 (Bt (T U) Kj) U (Ax U U (Aa U)) (A3 (Lo U isAgg3 (by first|exact c_o|exact c_m (hn.edges.f (i:=(m.way.port - 10000).toNat) qom U))) U (Ax U U (Aa U)) ?_);refine A3 (Ci (T U) An) U (Ax U U (Aa U)) (y_ (Bm (T U) (T U)) (y_ (Af (T U)) ?_ U) U)
   first|refine Bi (s:=26) (Aa U) (fun c26=> ?_) (fun c26=> ?_)|refine B2 (s:=26) (Aa U) (fun c26=> ?_) (fun c26=> ?_)
   ·refine Bs (Bs (Bs (y_ (Bh (T U) An) (y_ (Af (T U)) (Bs (Bs (Bs (y_ (Bh (T U) An) (y_ (Af (T U)) (Bs (Bs (Bs (Bs (y_ (Bh (T U) An) (Aj (Ah (B5 [(3,_),(5,_),(41,_)] (kg U) (Cf (Aa U) (Am (Ad (y_ (Ag An) (Aj (Ah (Bq (Aw (As U (Ll U) ?_))))) U))))))) U) U U U U) U U U U) U U U U) U U U U) U) U) U U U U) U U U U) U U U U) U) U) U U U U) U U U U) U U U U;exact⟨_,⟨by unfold oneF;rw[if_pos qom];rfl,rfl⟩,sbt⟩
   ·refine A3 (Bt (T U) Kj) U (Ax U U (Aa U)) (A3 (Lo U isAgg3 (by first|exact c_o|exact c_m (hn.edges.f (i:=(m.way.port - 10000).toNat) qom U))) U (Ax U U (Aa U)) ?_);refine A3 (Dx (T U) An) U (Ax U U (Aa U)) (y_ (Bm (T U) (T U)) (y_ (Af (T U)) ?_ U) U)
    first|refine Bi (s:=31) (Aa U) (fun c31=> ?_) (fun c31=> ?_)|refine B2 (s:=31) (Aa U) (fun c31=> ?_) (fun c31=> ?_)
    ·refine Bs (Bs (Bs (y_ (Bh (T U) An) (y_ (Af (T U)) (Bs (Bs (Bs (Bs (y_ (Bh (T U) An) (Aj (Ah (B5 [(3,_),(5,_),(41,_)] (kg U) (Cf (Aa U) (Am (Ad (y_ (Ag An) (Aj (Ah (Bq (Aw (As U (Ll U) ?_))))) U))))))) U) U U U U) U U U U) U U U U) U U U U) U) U) U U U U) U U U U) U U U U;exact⟨_,⟨by unfold oneF;rw[if_pos qom];rfl,rfl⟩,sbt⟩
    ·refine A3 (Bt (T U) Kk) U (Ax U U (Aa U)) (A3 (Lo U isAgg3 (by first|exact c_o|exact c_m (hn.edges.f (i:=(m.way.port - 10000).toNat) qom U))) U (Ax U U (Aa U)) ?_);refine A3 (Ci (T U) An) U (Ax U U (Aa U)) (y_ (Bm (T U) (T U)) (y_ (Af (T U)) ?_ U) U)
     first|refine Bi (s:=36) (Aa U) (fun c36=> ?_) (fun c36=> ?_)|refine B2 (s:=36) (Aa U) (fun c36=> ?_) (fun c36=> ?_)
     ·refine Bs (Bs (Bs (Bs (y_ (Bh (T U) An) (Aj (Ah (B5 [(3,_),(5,_),(41,_)] (kg U) (Cf (Aa U) (Am (Ad (y_ (Ag An) (Aj (Ah (Bq (Aw (As U (Ll U) ?_))))) U))))))) U) U U U U) U U U U) U U U U) U U U U;exact⟨_,⟨by unfold oneF;rw[if_pos qom];rfl,rfl⟩,sbt⟩
     ·refine A3 (Bt (T U) Kk) U (Ax U U (Aa U)) (A3 (Lo U isAgg3 (by first|exact c_o|exact c_m (hn.edges.f (i:=(m.way.port - 10000).toNat) qom U))) U (Ax U U (Aa U)) ?_);refine A3 (Af (T U)) U (Ax U U (Aa U)) (A3 (Dy (T U) (T U)) U (Ax U U (Aa U)) (y_ (Bm (T U) (T U)) (Aj (Ah (B5 [(3,_),(5,_),(41,_)] (kg U) ?_))) U))
      first|refine Ak (Aa U) (fun c41=> ?_) (fun c41=> ?_)|refine Au (Aa U) (fun c41=> ?_) (fun c41=> ?_)
      ·refine Am (Ad (y_ (Ag An) (Aj (Ah (Bq (Aw (As U (Ll U) ?_))))) U));exact⟨_,⟨by unfold oneF;rw[if_pos qom];rfl,rfl⟩,sbt⟩
      ·refine Bp (Ah (Am (Ad (y_ (Lp U isAgg26 sizeOf26 U (by first|exact A2|exact Cw (hn.edges.f (i:=(m.way.port - 10000).toNat) qom U))) ?_ U))));refine y_ (Cj (T U) Gt) (y_ (Lo U isAgg3 (by first|exact c_o|exact c_m (hn.edges.f (i:=(m.way.port - 10000).toNat) qom U))) ?_ U) U;refine y_ (Bt (T U) Fq) (y_ (Lo U isAgg41 (by first|exact c_o|exact c_m (hn.edges.f (i:=(m.way.port - 10000).toNat) qom U))) ?_ U) U;refine y_ (Bb (qe3 U U U) call148 (fun H' hs=>rwalk_sT n (hn.mono (stn hs)) _ _ _ _ (hm.links.m (stn hs)) hm.len)) (y_ (Af (T U)) (y_ (Bx (T U) U) (y_ (Bx (T U) U) (y_ (Ag (T U)) (y_ (Ag (T U)) (Aj (Ah (Am (Am (Ad (y_ (Af (T U)) ?_ U)))))) U) U) U) U) U) U
       first|refine A3 (B7 (T U)) U Ac ?_|refine A3 (Cc (T U)) U Ac ?_
       refine Aj (Ah ?_)
       first|refine Ak (Aa U) (fun c52=> ?_) (fun c52=> ?_)|refine Au (Aa U) (fun c52=> ?_) (fun c52=> ?_)
       ·refine Am (Ad (y_ (Ag An) (Aj (Ah (Bq (Aw (As U (Ll U) ?_))))) U));exact⟨_,⟨by unfold oneF;rw[if_neg qom,if_pos (by simpa using c52)];rfl,rfl⟩,sbt⟩
       ·refine Bp (Ah (Am (Ad (y_ (Lp U isAgg26 sizeOf26 U (by first|exact A2|exact Cw (hn.edges.f (i:=(m.way.port - 10000).toNat) qom U))) ?_ U))));refine y_ (Lp U isAgg59 sizeOf59 U (by first|exact A2|exact Cw (hn.edges.f (i:=(m.way.port - 10000).toNat) qom U))) ?_ U;refine e_ (A1 (qe2 U U) call80 (Ir n hn.mono m hm.mono (Fu (by simpa using c52)) hs20)) ?_ U;rintro _ _ ⟨d,rfl,hokd,rfl⟩;refine y_ (Bb (qe1 U) call149 (fun H' hs=>twice_s _ _ _ ((A5 (enc:=encI) (sz:=1) (X:=_) (e:=3) (fun _=>rfl) hokd).mono (stn hs)) (by rw[Co];omega))) ?_ U;refine y_ (Ag (T U)) (Aj (Ah (Am (Am (Ad (y_ (Af (T U)) (Aj (Ah ?_)) U)))))) U
        first|refine Ak (Aa U) (fun c57=> ?_) (fun c57=> ?_)|refine Au (Aa U) (fun c57=> ?_) (fun c57=> ?_)
        ·refine Am (Ad (y_ (Ag An) (Aj (Ah (Bq (Aw (As U (Ll U) ?_))))) U));exact⟨_,⟨by unfold oneF;rw[if_neg qom,if_neg (by simpa using c52),if_pos c57];rfl,rfl⟩,sbt⟩
        ·refine Bp (Ah (Am (Am (Ad (y_ (Bt (T U) Fd) (y_ (Lo U isAgg3 (by first|exact c_o|exact c_m (hn.edges.f (i:=(m.way.port - 10000).toNat) qom U))) ?_ U) U)))));refine y_ (Dy (T U) An) (y_ (Af (T U)) ?_ U) U
         first|refine Bi (s:=61) (Aa U) (fun c61=> ?_) (fun c61=> ?_)|refine B2 (s:=61) (Aa U) (fun c61=> ?_) (fun c61=> ?_)
         ·refine A3 (Bt (T U) Fd) U (Ax U U (Aa U)) (A3 (Lo U isAgg3 (by first|exact c_o|exact c_m (hn.edges.f (i:=(m.way.port - 10000).toNat) qom U))) U (Ax U U (Aa U)) ?_);refine A3 (Ed (T U) An qom) U (Ax U U (Aa U)) ?_;refine A3 (Af (T U)) U (Ax U U (Aa U)) (A3 (D9 (T U) (T U)) U (Ax U U (Aa U)) (y_ (Bh (T U) (T U)) (Aj (Ah (B5 [(3,_),(5,_),(7,_),(67,_)] (kg U) ?_))) U))
          first|refine Ak (Aa U) (fun c67=> ?_) (fun c67=> ?_)|refine Au (Aa U) (fun c67=> ?_) (fun c67=> ?_)
          ·refine Am (Ad (y_ (Ag An) (Aj (Ah (Bq (Aw (As U (Ll U) ?_))))) U));exact⟨_,⟨by unfold oneF;(repeat' split)<;>first|rfl|(exfalso;first|omega|simp_all),rfl⟩,sbt⟩
          ·refine Bp (Ah (Am (Am (Ad (y_ (Bt (T U) Fd) (y_ (Lo U isAgg3 (by first|exact c_o|exact c_m (hn.edges.f (i:=(m.way.port - 10000).toNat) qom U))) ?_ U) U)))));refine y_ (Dy (T U) An) (y_ (Af (T U)) ?_ U) U
           first|refine Bi (s:=71) (Aa U) (fun c71=> ?_) (fun c71=> ?_)|refine B2 (s:=71) (Aa U) (fun c71=> ?_) (fun c71=> ?_)
           ·refine A3 (Bt (T U) Fd) U (Ax U U (Aa U)) (A3 (Lo U isAgg3 (by first|exact c_o|exact c_m (hn.edges.f (i:=(m.way.port - 10000).toNat) qom U))) U (Ax U U (Aa U)) ?_);refine A3 (Bt (T U) Fc) U (Ax U U (Aa U)) (A3 (Lo U isAgg24 (by first|exact c_o|exact c_m (hn.edges.f (i:=(m.way.port - 10000).toNat) qom U))) U (Ax U U (Aa U)) ?_);refine A3 (Cd (T U) runUnderlying24) U (Ax U U (Aa U)) (A3 (Bd An (T U) qom) U (Ax U U (Aa U)) ?_);refine A3 (Ci (T U) (T U)) U (Ax U U (Aa U)) (y_ (Bh (T U) (T U)) (y_ (Af (T U)) ?_ U) U)
            first|refine Bi (s:=80) (Aa U) (fun c80=> ?_) (fun c80=> ?_)|refine B2 (s:=80) (Aa U) (fun c80=> ?_) (fun c80=> ?_)
            ·refine A3 (Bt (T U) Fc) U (Ax U U (Aa U)) (A3 (Lo U isAgg24 (by first|exact c_o|exact c_m (hn.edges.f (i:=(m.way.port - 10000).toNat) qom U))) U (Ax U U (Aa U)) ?_);refine A3 (Bt (T U) Fd) U (Ax U U (Aa U)) (A3 (Lo U isAgg3 (by first|exact c_o|exact c_m (hn.edges.f (i:=(m.way.port - 10000).toNat) qom U))) U (Ax U U (Aa U)) ?_);refine A3 (Ed (T U) An qom) U (Ax U U (Aa U)) ?_;refine A3 (Bl (T U) (T U) runUnderlying24 sizeOf171 qom (by first|exact rfl|exact hn.edges.b (i:=(m.way.port - 10000).toNat) qom)) U (Ax U U (Aa U)) ?_;refine A3 (Bt (T U) J4) U (Ax U U (Aa U)) (A3 (Lo U isAgg3 (by first|exact c_o|exact c_m (hn.edges.f (i:=(m.way.port - 10000).toNat) qom U))) U (Ax U U (Aa U)) ?_);refine A3 (Af (T U)) U (Ax U U (Aa U)) (A3 (D9 (T U) (T U)) U (Ax U U (Aa U)) (y_ (Bh (T U) (T U)) (Aj (Ah (B5 [(91,_)] (kg U) ?_))) U))
             first|refine Ak (Aa U) (fun c91=> ?_) (fun c91=> ?_)|refine Au (Aa U) (fun c91=> ?_) (fun c91=> ?_)
             ·refine Am (Ad (y_ (Ag An) (Aj (Ah (Bq (Aw (As U (Ll U) ?_))))) U));exact⟨_,⟨by unfold oneF;(repeat' split)<;>first|rfl|(exfalso;first|omega|simp_all),rfl⟩,sbt⟩
             ·refine Bp (Ah (Am (Ad (y_ (Ag An) (Aj (Ah (Bq (As U (Ll U) ?_)))) U))));exact⟨_,⟨by unfold oneF;(repeat' split)<;>first|rfl|(exfalso;first|omega|simp_all),rfl⟩,sbt⟩
            ·refine B8 (B8 (B8 (B8 (B8 (B8 (B8 (B8 (B8 (B8 (y_ (Bm (T U) An) (Aj (Ah (B5 [(91,_)] (kg U) (Cz (Aa U) (Bp (Ah (Am (Ad (y_ (Ag An) (Aj (Ah (Bq (As U (Ll U) ?_)))) U))))))))) U) U U U U) U U U U) U U U U) U U U U) U U U U) U U U U) U U U U) U U U U) U U U U) U U U U;exact⟨_,⟨by unfold oneF;(repeat' split)<;>first|rfl|(exfalso;first|omega|simp_all),rfl⟩,sbt⟩
           ·refine B8 (B8 (B8 (B8 (B8 (B8 (B8 (y_ (Bm (T U) An) (y_ (Af (T U)) (B8 (B8 (B8 (B8 (B8 (B8 (B8 (B8 (B8 (B8 (y_ (Bm (T U) An) (Aj (Ah (B5 [(91,_)] (kg U) (Cz (Aa U) (Bp (Ah (Am (Ad (y_ (Ag An) (Aj (Ah (Bq (As U (Ll U) ?_)))) U))))))))) U) U U U U) U U U U) U U U U) U U U U) U U U U) U U U U) U U U U) U U U U) U U U U) U U U U) U) U) U U U U) U U U U) U U U U) U U U U) U U U U) U U U U) U U U U;exact⟨_,⟨by unfold oneF;(repeat' split)<;>first|rfl|(exfalso;first|omega|simp_all),rfl⟩,sbt⟩
         ·refine B8 (B8 (B8 (B8 (B8 (y_ (Bm (T U) An) (Aj (Ah (B5 [(3,_),(5,_),(7,_),(67,_)] (kg U) (Cz (Aa U) (Bp (Ah (Am (Am (Ad (y_ (Bt (T U) Fd) (y_ (Lo U isAgg3 (by first|exact c_o|exact c_m (hn.edges.f (i:=(m.way.port - 10000).toNat) qom U))) ?_ U) U)))))))))) U) U U U U) U U U U) U U U U) U U U U) U U U U;refine y_ (Dy (T U) An) (y_ (Af (T U)) ?_ U) U
          first|refine Bi (s:=71) (Aa U) (fun c71=> ?_) (fun c71=> ?_)|refine B2 (s:=71) (Aa U) (fun c71=> ?_) (fun c71=> ?_)
          ·refine A3 (Bt (T U) Fd) U (Ax U U (Aa U)) (A3 (Lo U isAgg3 (by first|exact c_o|exact c_m (hn.edges.f (i:=(m.way.port - 10000).toNat) qom U))) U (Ax U U (Aa U)) ?_);refine A3 (Bt (T U) Fc) U (Ax U U (Aa U)) (A3 (Lo U isAgg24 (by first|exact c_o|exact c_m (hn.edges.f (i:=(m.way.port - 10000).toNat) qom U))) U (Ax U U (Aa U)) ?_);refine A3 (Cd (T U) runUnderlying24) U (Ax U U (Aa U)) (A3 (Bd An (T U) qom) U (Ax U U (Aa U)) ?_);refine A3 (Ci (T U) (T U)) U (Ax U U (Aa U)) (y_ (Bh (T U) (T U)) (y_ (Af (T U)) ?_ U) U)
           first|refine Bi (s:=80) (Aa U) (fun c80=> ?_) (fun c80=> ?_)|refine B2 (s:=80) (Aa U) (fun c80=> ?_) (fun c80=> ?_)
           ·refine A3 (Bt (T U) Fc) U (Ax U U (Aa U)) (A3 (Lo U isAgg24 (by first|exact c_o|exact c_m (hn.edges.f (i:=(m.way.port - 10000).toNat) qom U))) U (Ax U U (Aa U)) ?_);refine A3 (Bt (T U) Fd) U (Ax U U (Aa U)) (A3 (Lo U isAgg3 (by first|exact c_o|exact c_m (hn.edges.f (i:=(m.way.port - 10000).toNat) qom U))) U (Ax U U (Aa U)) ?_);refine A3 (Ed (T U) An qom) U (Ax U U (Aa U)) ?_;refine A3 (Bl (T U) (T U) runUnderlying24 sizeOf171 qom (by first|exact rfl|exact hn.edges.b (i:=(m.way.port - 10000).toNat) qom)) U (Ax U U (Aa U)) ?_;refine A3 (Bt (T U) J4) U (Ax U U (Aa U)) (A3 (Lo U isAgg3 (by first|exact c_o|exact c_m (hn.edges.f (i:=(m.way.port - 10000).toNat) qom U))) U (Ax U U (Aa U)) ?_);refine A3 (Af (T U)) U (Ax U U (Aa U)) (A3 (D9 (T U) (T U)) U (Ax U U (Aa U)) (y_ (Bh (T U) (T U)) (Aj (Ah (B5 [(91,_)] (kg U) ?_))) U))
            first|refine Ak (Aa U) (fun c91=> ?_) (fun c91=> ?_)|refine Au (Aa U) (fun c91=> ?_) (fun c91=> ?_)
            ·refine Am (Ad (y_ (Ag An) (Aj (Ah (Bq (Aw (As U (Ll U) ?_))))) U));exact⟨_,⟨by unfold oneF;(repeat' split)<;>first|rfl|(exfalso;first|omega|simp_all),rfl⟩,sbt⟩
            ·refine Bp (Ah (Am (Ad (y_ (Ag An) (Aj (Ah (Bq (As U (Ll U) ?_)))) U))));exact⟨_,⟨by unfold oneF;(repeat' split)<;>first|rfl|(exfalso;first|omega|simp_all),rfl⟩,sbt⟩
           ·refine B8 (B8 (B8 (B8 (B8 (B8 (B8 (B8 (B8 (B8 (y_ (Bm (T U) An) (Aj (Ah (B5 [(91,_)] (kg U) (Cz (Aa U) (Bp (Ah (Am (Ad (y_ (Ag An) (Aj (Ah (Bq (As U (Ll U) ?_)))) U))))))))) U) U U U U) U U U U) U U U U) U U U U) U U U U) U U U U) U U U U) U U U U) U U U U) U U U U;exact⟨_,⟨by unfold oneF;(repeat' split)<;>first|rfl|(exfalso;first|omega|simp_all),rfl⟩,sbt⟩
          ·refine B8 (B8 (B8 (B8 (B8 (B8 (B8 (y_ (Bm (T U) An) (y_ (Af (T U)) (B8 (B8 (B8 (B8 (B8 (B8 (B8 (B8 (B8 (B8 (y_ (Bm (T U) An) (Aj (Ah (B5 [(91,_)] (kg U) (Cz (Aa U) (Bp (Ah (Am (Ad (y_ (Ag An) (Aj (Ah (Bq (As U (Ll U) ?_)))) U))))))))) U) U U U U) U U U U) U U U U) U U U U) U U U U) U U U U) U U U U) U U U U) U U U U) U U U U) U) U) U U U U) U U U U) U U U U) U U U U) U U U U) U U U U) U U U U;exact⟨_,⟨by unfold oneF;(repeat' split)<;>first|rfl|(exfalso;first|omega|simp_all),rfl⟩,sbt⟩
theorem rCheckL_s {w0:World}{H:List (Nat × Obj)}(n:Nm)(hn:NetM w0 H n)(hok:NetOk n)(hsm:n.edges.length<=1000000)(steps:Int)(q:Option Addr)(cap:Nat)(l:List Wm)(hw:WaysM w0 H q l)(hs20:∀ i,i<l.length->(gd l i).way.links.length<=9000000):
  FSpec prog w0 40 #[.agg (encNm n).toArray, .int .i64 steps, .slice q l.length cap] H (Still (.tuple #[.int .i64 (chkF n steps l).1, .int .i64 (chkF n steps l).2]) H):=by
 refine Az func40 U ntmps40 U (Am (Ad (e_ (Lt U cs_) ?_ U)));rintro _ _ ⟨n3,rfl,rfl⟩;refine y_ (Ag An) (y_ (Ag An) (Aj (Ah (Am (Am (Ad (y_ (Af (T U)) (y_ (Ci (T U) An) (Aj (Ah ?_)) U) U)))))) U) U
 first|refine Ak (Aa U) (fun c11=> ?_) (fun c11=> ?_)|refine Au (Aa U) (fun c11=> ?_) (fun c11=> ?_)
 ·refine Am (Ad (y_ (Ag An) (y_ (Ag An) (Aj (Ah (Bq (Aw (As U (.tmp (Aa U) (Ll U)) ?_))))) U) U));exact⟨_,⟨by unfold chkF;rw[if_pos qom];rfl,rfl⟩,sbt⟩
 ·refine Bp (Ah (Am (Am (Ad (y_ (Af (T U)) (y_ (Cd (T U) runUnderlying27) (y_ (Dx (T U) An) (Aj (Ah ?_)) U) U) U)))))
  first|refine Ak (Aa U) (fun c14=> ?_) (fun c14=> ?_)|refine Au (Aa U) (fun c14=> ?_) (fun c14=> ?_)
  ·refine Am (Ad (y_ (Ag An) (y_ (Ag An) (Aj (Ah (Bq (Aw (As U (.tmp (Aa U) (Ll U)) ?_))))) U) U));exact⟨_,⟨by unfold chkF;rw[if_neg qom,if_pos qom];rfl,rfl⟩,sbt⟩
  ·refine Bp (Ah (Am (Am (Ad (y_ (Ag An) (Aj (Ah (Bo ?_))) U)))));refine Cb (X:=Nat) (V:=fun k=>[(8, .int .i64 (k:Nat))]) (C:=[(1,_),(2,_),(3,_)]) (φ:=fun k=>k<=l.length/\chkG n steps k (l.drop k)=chkF n steps l) (μ:=fun k=>l.length - k) (x0:=0) ?_ (kg U) ⟨atd,trivial⟩ ?_
   ·exact⟨Nat.zero_le _,by unfold chkF;rw[if_neg qom,if_neg qom];rfl⟩
   rintro k ⟨hk,hc⟩;refine Am (Am (Ad (y_ (Af (T U)) (y_ (Af (T U)) (y_ (Cd (T U) runUnderlying27) (y_ (Ci (T U) (T U)) (Aj (Ah ?_)) U) U) U) U)))
   first|refine Ak (Aa U) (fun c18=> ?_) (fun c18=> ?_)|refine Au (Aa U) (fun c18=> ?_) (fun c18=> ?_)
   ·refine Bp (Ah (Am (Bo (Am (B9 8 [(0,true),(1,true),(2,true),(3,true),(4,true),(5,true),(6,true),(7,true)] _ mixd qkr sb0 ?_)))));refine o_y U (Lp U isAgg26 sizeOf26 U (by first|exact A2)) ?_ U Ac;refine o_y U (Af (T U)) (o_y U (Af (T U)) (o_y U (Af (T U)) (o_y U (Lq U U runUnderlying27 sizeOf59 qom (by first|exact rfl|exact hw.arr.b (i:=k) qom)) ?_ U Ac) U Ac) U Ac) U Ac;refine o_y U (Lp U isAgg59 sizeOf59 U (by first|exact A2|exact Cw (hw.arr.cs (i:=k) qom))) ?_ U Ac;refine o_y U (Bb (qe3 U U U) call97 (fun H' hs=>one_s n (hn.mono (stn hs)) hok hsm _ _ ((hw.at (i:=k) qom).mono (stn hs)) (by have:=hs20 k qom;omega))) ?_ U Ac;refine o_y U (Ag (T U)) (Bj U (Aj (Ah (Am (Ad (y_ (Af (T U)) (y_ (F7 (T U) An) (Aj (Ah ?_)) U) U)))))) U Ac
    first|refine Ak (Aa U) (fun c29=> ?_) (fun c29=> ?_)|refine Au (Aa U) (fun c29=> ?_) (fun c29=> ?_)
    ·refine Am (Ad (y_ (Af (T U)) (y_ (Af (T U)) (y_ (Ag (T U)) (y_ (Ag (T U)) (Aj (Ah (Bq (A4 (Aw (Bc (A4 (Aw (As U (.tmp (Aa U) (Ll U)) ?_))))))))) U) U) U) U));rw[Cy qom,chkG,if_neg c29] at hc;exact⟨_,⟨by rw[<- hc];rfl,rfl⟩,sbt⟩
    ·refine Bp (B4 (Ah (Ad (y_ (Af (T U)) (y_ (Bd (T U) An qom) ?_ U) U))));refine y_ (Ag (T U)) (Aj ?_) U;refine A8 (k+1) ?_ ?_ ⟨atd,trivial⟩ (kg U) ?_
     ·refine⟨by omega,?_⟩;rw[Cy qom,chkG,if_pos (Classical.not_not.1 c29)] at hc;exact hc
     ·first|omega|(simp only[];omega)
     ·exact sbt
   ·refine Ct (Bv (Aq (Bw (Ah (Am (Ad (y_ (Ag An) (y_ (Ag An) (Aj (Ah (Bq (As U (.tmp (Aa U) (Ll U)) ?_)))) U) U)))))));rw[Ep qom] at hc;exact⟨_,⟨by rw[<- hc];rfl,rfl⟩,sbt⟩
theorem rCheck_s {w0:World}{H:List (Nat × Obj)}(n:Nm)(hn:NetM w0 H n)(hok:NetOk n)(hsm:n.edges.length<=1000000)(steps:Int)(q:Option Addr)(cap:Nat)(l:List Wm)(hw:WaysM w0 H q l)(hs20:∀ i,i<l.length->(gd l i).way.links.length<=20):
  FSpec prog w0 40 #[.agg (encNm n).toArray, .int .i64 steps, .slice q l.length cap] H (Still (.tuple #[.int .i64 (chkF n steps l).1, .int .i64 (chkF n steps l).2]) H):=rCheckL_s n hn hok hsm steps q cap l hw (fun i hi=>Nat.le_trans (hs20 i hi) qom)
structure Rt (n:Nm) (steps:Int) (l:List Wm) (most:Int):Prop where
 ln:n.nodes.length<=8
 ll:n.links.length<=16
 le:n.edges.length<=20
 few:∀ i,i<l.length->(gd l i).way.links.length<=20
 most:(l.length:Int)<=most
 net:NetOk n
 ways:∀ m∈l,oneF n steps m.way=0
theorem K2 {w0:World}{H:List (Nat × Obj)}(n:Nm)(m:Wm):
  FSpec prog w0 112 #[.agg (encNm n).toArray, .agg (encW m).toArray] H (fun v H'=>∃ n2 n3:Nat,v= .func (.func 160) #[] #[.pointer (some ⟨n3,0,none⟩), .pointer (some ⟨n2,0,none⟩)]/\H'=(n3,Cl (encW m) 59)::(n2,Cl (encNm n) 26)::H):=by
 refine Az func112 U ntmps112 U (Am (Ad (e_ (Lt U cs_) ?_ U)));rintro _ _ ⟨n2,rfl,rfl⟩;refine e_ (Lt U cs_) ?_ U;rintro _ _ ⟨n3,rfl,rfl⟩;refine y_ (Ag An) (Aj (Ah (Am (Ad (y_ (Cg (.cons (T U) (.cons (T U) .nil))) (y_ (Ag (T U)) (Aj (Ah (Bq (As U (Ll U) ?_)))) U) U))))) U;exact⟨_,⟨n2,n3,rfl,rfl⟩,sbt⟩
theorem J6 {w0:World}{H:List (Nat × Obj)}(n:Nm)(hn:NetM w0 H n)(m:Wm)(hm:WayM w0 H m)(hr:InR n.links m.way.links)(n2 n3:Nat):
  IterSpec prog w0 160 [.pointer (some ⟨n3,0,none⟩), .pointer (some ⟨n2,0,none⟩)] ((n3,Cl (encW m) 59)::(n2,Cl (encNm n) 26)::H) encP (hops n.links m.way):=by
 intro l S Sx hHc hY H0 hS0;have hlen:=hm.len;have hnl:=C3 n.links m.way;have hY0:=fun k x H hx hS=>YSpec.mono (hY k x H [] hx hS) (K':=fun v H1=>(v= .bool true/\S (k+1) H1)\/(v= .bool false/\Sx H1)) (by rintro v _ ⟨H1,rfl,h⟩;exact h)
 refine Az func160 U ntmps160 U (Am (Ad (y_ (Cj (T U) Gt) (y_ (Lo U isAgg3 (by first|exact c_o|exact Cell.mono (w0:=w0) c_o (hHc _ _ hS0)|exact Cell.mono (w0:=w0) c_o (hHc _ _ hS)|exact Cell.mono (w0:=w0) c_o (hHc _ _ hS1)|exact((hm.mono).links.f0 (i:=k) qom U).mono (hHc _ _ hS)|exact((hn.mono).links.f (i:=(gd m.way.links k).toNat) (by have:=hr k qom;omega) U).mono (hHc _ _ hS1))) ?_ U) U)));refine y_ (Ag (T U)) (Aj (Ah (Am (Am (Ad (y_ (Bt (T U) Fq) (y_ (Lo U isAgg41 (by first|exact c_o|exact Cell.mono (w0:=w0) c_o (hHc _ _ hS0)|exact Cell.mono (w0:=w0) c_o (hHc _ _ hS)|exact Cell.mono (w0:=w0) c_o (hHc _ _ hS1)|exact((hm.mono).links.f0 (i:=k) qom U).mono (hHc _ _ hS)|exact((hn.mono).links.f (i:=(gd m.way.links k).toNat) (by have:=hr k qom;omega) U).mono (hHc _ _ hS1))) ?_ U) U)))))) U;refine y_ (Cd (T U) runUnderlying41) (y_ (Af An) (Aj (Ah (Bo ?_))) U) U;refine Bz (X:=Nat × List (Nat × Obj)) (V:=fun ⟨k,Hx⟩=>[(12, .int .i64 (k:Nat)),(4, .int .i64 (gd (nodesF n.links m.way) k))]) (C:=[(0,_),(1,_),(2,_),(10,_),(11,_)]) (G:=fun ⟨k,Hx⟩=>Hx) (φ:=fun ⟨k,Hx⟩=>k<=m.way.links.length/\S k Hx) (μ:=fun ⟨k,Hx⟩=>m.way.links.length - k) (x0:=(0,H0)) ?_ (kg U) ⟨(by first|exact Aa rfl|(refine Ae (Aa rfl) (vint ?_);omega)|(refine Ae (Aa rfl) ?_;simp;done)|(refine Ae (Aa rfl) ?_;exact vint (Ge _ _).symm)|(refine Ae (Aa rfl) ?_;exact vint (Fg _ _ qom).symm)),(by first|exact Aa rfl|(refine Ae (Aa rfl) (vint ?_);omega)|(refine Ae (Aa rfl) ?_;simp;done)|(refine Ae (Aa rfl) ?_;exact vint (Ge _ _).symm)|(refine Ae (Aa rfl) ?_;exact vint (Fg _ _ qom).symm)),trivial⟩ sb0 ?_
 ·exact⟨Nat.zero_le _,hS0⟩
 rintro⟨k,Hx⟩ ⟨hk,hS⟩;refine Am (Ad (y_ (Ci (T U) (T U)) (Aj (Ah (Am ?_))) U))
 first|refine Ak (Aa U) (fun c13=> ?_) (fun c13=> ?_)|refine Au (Aa U) (fun c13=> ?_) (fun c13=> ?_)
 ·refine Bp (Ah (Am (Bo (Am (Ad (y_ (Lq U U runUnderlying41 sizeOf3 (by first|omega|(have:=hr k qom;omega)) (by first|exact rfl|exact hm.links.b (i:=k) qom|exact hn.links.b (i:=(gd m.way.links k).toNat) (by have:=hr k qom;omega))) ?_ U))))));refine y_ (Lo U isAgg3 (by first|exact c_o|exact Cell.mono (w0:=w0) c_o (hHc _ _ hS0)|exact Cell.mono (w0:=w0) c_o (hHc _ _ hS)|exact Cell.mono (w0:=w0) c_o (hHc _ _ hS1)|exact((hm.mono).links.f0 (i:=k) qom U).mono (hHc _ _ hS)|exact((hn.mono).links.f (i:=(gd m.way.links k).toNat) (by have:=hr k qom;omega) U).mono (hHc _ _ hS1))) ?_ U;refine y_ (Ag (T U)) (Aj (Ah (Am (Am (Ad (y_ (Af (T U)) (y_ (Af (T U)) (y_ (Af (T U)) (y_ (Af (T U)) (y_ (Bg (.cons (T U) (.cons (T U) (.cons An (.cons An .nil)))) (Ez _ _ _ _)) (e_ (eff_yield (T U) (.cons (T U) (.cons (T U) .nil)) (hY0 k (gd (nodesF n.links m.way) k,⟨gd m.way.links k,gd m.way.links k, -1, -1⟩) Hx (by rw[hops_at qom];unfold hopN;rw[if_pos qom]) hS)) ?_ U) U) U) U) U) U)))))) U;rintro _ H1 (⟨rfl,hS1⟩|⟨rfl,hSx⟩)
  ·refine y_ (Cc (T U)) (Aj (Ah (Cz (Aa U) (Bp (Ah (Ad (y_ (Bt (T U) Eh) (y_ (Lo U isAgg23 (by first|exact c_o|exact Cell.mono (w0:=w0) c_o (hHc _ _ hS0)|exact Cell.mono (w0:=w0) c_o (hHc _ _ hS)|exact Cell.mono (w0:=w0) c_o (hHc _ _ hS1)|exact((hm.mono).links.f0 (i:=k) qom U).mono (hHc _ _ hS)|exact((hn.mono).links.f (i:=(gd m.way.links k).toNat) (by have:=hr k qom;omega) U).mono (hHc _ _ hS1))) ?_ U) U))))))) U;refine y_ (Af (T U)) (y_ (Bl (T U) (T U) runUnderlying23 sizeOf95 (by first|omega|(have:=hr k qom;omega)) (by first|exact rfl|exact hm.links.b (i:=k) qom|exact hn.links.b (i:=(gd m.way.links k).toNat) (by have:=hr k qom;omega))) ?_ U) U;refine y_ (Bt (T U) Ia) (y_ (Lo U isAgg3 (by first|exact c_o|exact Cell.mono (w0:=w0) c_o (hHc _ _ hS0)|exact Cell.mono (w0:=w0) c_o (hHc _ _ hS)|exact Cell.mono (w0:=w0) c_o (hHc _ _ hS1)|exact((hm.mono).links.f0 (i:=k) qom U).mono (hHc _ _ hS)|exact((hn.mono).links.f (i:=(gd m.way.links k).toNat) (by have:=hr k qom;omega) U).mono (hHc _ _ hS1))) ?_ U) U;refine y_ (Ag (T U)) (Aj (B4 (Ah (B5 [(0,_),(1,_),(2,_),(4,_),(10,_),(11,_),(12,_)] (kg U) (Ad (y_ (Bd (T U) An qom) ?_ U)))))) U;refine y_ (Af (T U)) (Aj ?_) U;refine A8 ((k+1,H1)) ?_ ?_ ⟨(by first|exact Aa U|(refine Ae (Aa U) (vint ?_);omega)|(refine Ae (Aa U) ?_;simp;done)|(refine Ae (Aa U) ?_;exact vint (Ge _ _).symm)|(refine Ae (Aa U) ?_;exact vint (Fg _ _ qom).symm)),(by first|exact Aa U|(refine Ae (Aa U) (vint ?_);omega)|(refine Ae (Aa U) ?_;simp;done)|(refine Ae (Aa U) ?_;exact vint (Ge _ _).symm)|(refine Ae (Aa U) ?_;exact vint (Fg _ _ qom).symm)),trivial⟩ (kg U) ?_
   ·exact⟨by omega,hS1⟩
   ·first|omega|(simp only[];omega)
   ·exact sbt
  ·refine y_ (Cc (T U)) (Aj (Ah (Cf (Aa U) (Bq (Aw (A4 (Aw (Bc (A4 (Aw (As U .nil ?_))))))))))) U;exact⟨_, .inr hSx,sbt⟩
 ·refine Ct (Bv (Aq (Bw (Ah (Ad (y_ (Af (T U)) (y_ (Af (T U)) (y_ (Bt (T U) Fd) (y_ (Lo U isAgg3 (by first|exact c_o|exact Cell.mono (w0:=w0) c_o (hHc _ _ hS0)|exact Cell.mono (w0:=w0) c_o (hHc _ _ hS)|exact Cell.mono (w0:=w0) c_o (hHc _ _ hS1)|exact((hm.mono).links.f0 (i:=k) qom U).mono (hHc _ _ hS)|exact((hn.mono).links.f (i:=(gd m.way.links k).toNat) (by have:=hr k qom;omega) U).mono (hHc _ _ hS1))) ?_ U) U) U) U))))));refine y_ (Bt (T U) Kj) (y_ (Lo U isAgg3 (by first|exact c_o|exact Cell.mono (w0:=w0) c_o (hHc _ _ hS0)|exact Cell.mono (w0:=w0) c_o (hHc _ _ hS)|exact Cell.mono (w0:=w0) c_o (hHc _ _ hS1)|exact((hm.mono).links.f0 (i:=k) qom U).mono (hHc _ _ hS)|exact((hn.mono).links.f (i:=(gd m.way.links k).toNat) (by have:=hr k qom;omega) U).mono (hHc _ _ hS1))) ?_ U) U;refine y_ (Bt (T U) Kk) (y_ (Lo U isAgg3 (by first|exact c_o|exact Cell.mono (w0:=w0) c_o (hHc _ _ hS0)|exact Cell.mono (w0:=w0) c_o (hHc _ _ hS)|exact Cell.mono (w0:=w0) c_o (hHc _ _ hS1)|exact((hm.mono).links.f0 (i:=k) qom U).mono (hHc _ _ hS)|exact((hn.mono).links.f (i:=(gd m.way.links k).toNat) (by have:=hr k qom;omega) U).mono (hHc _ _ hS1))) ?_ U) U;refine y_ (Bg (.cons An (.cons (T U) (.cons (T U) (.cons (T U) .nil)))) (Ez _ _ _ _)) (e_ (eff_yield (T U) (.cons (T U) (.cons (T U) .nil)) (hY0 k (gd (nodesF n.links m.way) k,⟨-1,m.way.port,m.way.tag,m.way.step⟩) Hx (by rw[hops_at qom];unfold hopN;rw[if_neg qom]) hS)) ?_ U) U;rintro _ H1 (⟨rfl,hS1⟩|⟨rfl,hSx⟩)
  ·refine Aj (Ea U .nil ?_);exact⟨_, .inl (by rw[hnl,show m.way.links.length+1=k+1 by omega];exact hS1),sbt⟩
  ·refine Aj (Ea U .nil ?_);exact⟨_, .inr hSx,sbt⟩
abbrev encK1 (k:Int):Value:= .int .i64 k
abbrev encB (b:Bool):Value:= .bool b
abbrev encK2 (p:Int × Int):Value:= .agg #[.int .i64 p.1, .int .i64 p.2]
abbrev encHv (h:Hop):Value:= .agg (encH h).toArray
theorem keyIT {V:Type}:KeyOk (V:=V) prog 3 encK1:=keyOk_now runUnderlying3 (fun b k w=>by cases b<;>kernel_rfl) (fun k k'=>by
 by_cases h:k=k'
 ·subst h;simp[Instr.sameNow]
 ·have h2: ¬ k'=k:=fun e=>h e.symm
  simp[Instr.sameNow,h,h2]) (fun k=>by simp[Instr.sameBits])
theorem eqPlace (a b:Int × Int)(w:World):(Op.equal 197 (encK2 a) (encK2 b)).run prog w= .ok (decide (b=a)) w:=by
 unfold Op.equal Op.maxDepth;rw[run_equalIn_struct w 9999 197 _ _ qkr qkr];simp[go_sem,Program.fieldsOf,underlying197,Op.eqFields];obtain⟨a1,a2⟩:=a;obtain⟨b1,b2⟩:=b
 by_cases h:b1=a1<;>by_cases h2:b2=a2<;>simp[h,h2]<;>(intros;omega)
theorem keyP {V:Type}:KeyOk (V:=V) prog 197 encK2:=Fs runUnderlying197 (fun b k w=>by cases b<;>kernel_rfl) (fun k k'=>by simp[Instr.sameNow]) eqPlace (fun k=>by simp[Instr.sameBits])
theorem tAt_s {w0:World}{H:List (Nat × Obj)}(n:Nm)(hn:NetM w0 H n)(m:Wm)(hm:WayM w0 H m)(hr:InR n.links m.way.links)(node:Int):
  FSpec prog w0 191 #[.agg (encNm n).toArray, .agg (encW m).toArray, .int .i64 node] H (Still (.tuple #[.agg (encH (hopOr (atF n.links m.way node))).toArray, .bool (atF n.links m.way node).isSome]) H):=by
 refine Az func191 U ntmps191 U (Am (Ad (e_ (Lt U cs_) ?_ U)));rintro _ _ ⟨n3,rfl,rfl⟩;refine e_ (Lt U cs_) ?_ U;rintro _ _ ⟨n4,rfl,rfl⟩;refine e_ (Lt U cs_) ?_ U;rintro _ _ ⟨n5,rfl,rfl⟩;refine e_ (Ap zeroValue194 cs_) ?_ U;rintro _ _ ⟨n6,rfl,rfl⟩;refine e_ (Ap zeroValue4 cs_) ?_ U;rintro _ _ ⟨n7,rfl,rfl⟩;refine Aj (Ah (Am (Am (Ad (y_ (Lp U isAgg26 sizeOf26 U (by first|exact A2)) ?_ U)))));refine y_ (Lp U isAgg59 sizeOf59 U (by first|exact A2)) ?_ U;refine e_ (A1 (qe2 U U) call112 (K2 _ _)) ?_ U;rintro _ _ ⟨m2,m3,rfl,rfl⟩;refine Aj (Ah (Bo ?_));refine J0 (Z:=Bool × Hop) (T rfl) call160 (J6 n hn m hm hr _ _) (fun _=>rfl) rfl (fun ⟨b,h⟩=>(m3,Cl (encW m) 59)::(m2,Cl (encNm n) 26)::(n7,Cl [.bool b] 4)::(n6,Cl (encH h) 194)::(n5,Cl [.int .i64 node] 3)::(n4,Cl (encW m) 59)::(n3,Cl (encNm n) 26)::H) (fun k ⟨b,h⟩=>b=false/\h=⟨0,0,0,0⟩/\atD n.links m.way node k=atF n.links m.way node) (fun ⟨b,h⟩=>b=true/\atF n.links m.way node=some h) (fun _ ⟨b,h⟩=>False) ((false,⟨0,0,0,0⟩)) ?_ sbt ?_ ?_ ?_ ?_ ?_
 ·exact⟨rfl,rfl,rfl⟩
 ·rintro⟨b,h⟩;exact sbt
 ·rintro l lr Y X k ⟨nd,hp⟩ ⟨b,h⟩ hl hx ⟨rfl,rfl,hat⟩;have hkl:k<(hops n.links m.way).length:=(List.getElem?_eq_some_iff.1 hx).1;have hkm:k<=m.way.links.length:=by rw[C3] at hkl;omega
  obtain⟨e1,e2⟩:gd (nodesF n.links m.way) k=nd/\hopN m.way k=hp:=by rw[hops_at hkm] at hx;simpa using hx
  refine B5 [(5,_),(6,_),(7,_),(13,_),(14,_)] (kg U) (Am (Ad (y_ (Ag (T U)) (Aj (Ah (Ad (e_ (Ap zeroValue194 cs_) ?_ U)))) U)));rintro _ _ ⟨n9,rfl,rfl⟩
  first|refine A9 (Ls U U sizeOf194) U Ac ?_
  rintro _ _ ⟨rfl,rfl⟩;refine Aj (Ii hl ?_);refine Bo (Am (Ad (y_ (Af (T U)) (y_ (Lo U isAgg3 (by first|exact c_o)) ?_ U) U)));refine y_ (D9 (T U) (T U)) (Aj (Ah ?_)) U
  first|refine Ak (Aa U) (fun c17=> ?_) (fun c17=> ?_)|refine Au (Aa U) (fun c17=> ?_) (fun c17=> ?_)
  ·refine Am (Ad (y_ (Lp U isAgg194 sizeOf194 U (by first|exact A2)) ?_ U))
   first|refine A9 (Ls U U sizeOf194) U Ac ?_
   rintro _ _ ⟨rfl,rfl⟩
   first|refine A9 (Ar (T U) An sizeOf4) U Ac ?_|refine A9 (B1 (T U) An U sizeOf4) U Ac ?_
   rintro _ _ ⟨rfl,rfl⟩;refine Aj (Ah (Bq (A4 (q_round_ret ((true,hp)) ?_ sbt))));exact⟨rfl,by rw[<- hat,atD_yes hkm (by rw[e1];exact c17),e2]⟩
  ·refine Bp (B4 (Em ((false,⟨0,0,0,0⟩)) ?_ sbt));exact⟨rfl,rfl,by rw[<- atD_no hkm (by rw[e1];exact c17)];exact hat⟩
 ·rintro D0 ⟨b,h⟩ ⟨rfl,rfl,hat⟩;refine B4 (Ah (Am (Ad (y_ (Bg .nil (bd72_z)) ?_ U))))
  first|refine A9 (Ls U U sizeOf194) U Ac ?_
  rintro _ _ ⟨rfl,rfl⟩
  first|refine A9 (Ar (T U) An sizeOf4) U Ac ?_|refine A9 (B1 (T U) An U sizeOf4) U Ac ?_
  rintro _ _ ⟨rfl,rfl⟩;refine Aj (Ah (Bq (Eg ?_)));refine As U (.cellA (Aa U) isAgg194 sizeOf194 U (by first|exact A2) (.cell (Aa U) isAgg4 (by first|exact c_o) .nil)) ?_;rw[C3,atD_end qom] at hat
  exact⟨_,⟨by rw[<- hat];rfl,rfl⟩,sbt⟩
 ·rintro D0 ⟨b,h⟩ ⟨rfl,hat⟩;refine A4 (Aw (Eg ?_));refine As U (.cellA (Aa U) isAgg194 sizeOf194 U (by first|exact A2) (.cell (Aa U) isAgg4 (by first|exact c_o) .nil)) ?_;exact⟨_,⟨by rw[hat];rfl,rfl⟩,sbt⟩
 ·exact fun _ _ _ h=>h.elim
theorem tConf_s {w0:World}{H:List (Nat × Obj)}(n:Nm)(hn:NetM w0 H n)(a b:Wm)(ha:WayM w0 H a)(hb:WayM w0 H b)(hra:InR n.links a.way.links)(hrb:InR n.links b.way.links)(hla:a.way.links.length<=1000000)(hlb:b.way.links.length<=1000000):
  FSpec prog w0 157 #[.agg (encNm n).toArray, .agg (encW a).toArray, .agg (encW b).toArray] H (Still (.tuple #[.int .i64 (max (confI n.links a.way b.way) 0), .bool (decide (0<=confI n.links a.way b.way))]) H):=by
 refine Az func157 U ntmps157 U (Am (Ad (e_ (Lt U cs_) ?_ U)));rintro _ _ ⟨n3,rfl,rfl⟩;refine e_ (Lt U cs_) ?_ U;rintro _ _ ⟨n4,rfl,rfl⟩;refine e_ (Lt U cs_) ?_ U;rintro _ _ ⟨n5,rfl,rfl⟩;refine y_ (Ag An) (y_ (Ag An) (Aj (Ah (Am (Ad (e_ (Ap zeroValue3 cs_) ?_ U))))) U) U;rintro _ _ ⟨n8,rfl,rfl⟩
 first|refine A9 (Ar (T U) An sizeOf3) U Ac ?_|refine A9 (B1 (T U) An U sizeOf3) U Ac ?_
 rintro _ _ ⟨rfl,rfl⟩;refine Aj (Ah (Am (Am (Ad (y_ (Lp U isAgg26 sizeOf26 U (by first|exact A2)) ?_ U)))));refine y_ (Lp U isAgg59 sizeOf59 U (by first|exact A2)) ?_ U;refine e_ (A1 (qe2 U U) call112 (K2 _ _)) ?_ U;rintro _ _ ⟨m2,m3,rfl,rfl⟩;refine Aj (Ah (Bo ?_));refine J0 (Z:=Int) (T U) call160 (J6 n hn a ha hra _ _) (fun _=>rfl) U (fun z=>(m3,Cl (encW a) 59)::(m2,Cl (encNm n) 26)::(n8,Cl [.int .i64 z] 3)::(n5,Cl (encW b) 59)::(n4,Cl (encW a) 59)::(n3,Cl (encNm n) 26)::H) (fun k z=>z=confK n.links a.way b.way k) (fun z=>False) (fun _ z=>False) ((-1)) ?_ sbt ?_ ?_ ?_ ?_ ?_
 ·rfl
 ·intro z;exact sbt
 ·rintro l lr Y X k ⟨nd,hp⟩ z hl hx rfl;have hcs:=confK_succ (b:=b.way) hx;refine B5 [(3,_),(5,_),(8,_),(16,_),(17,_)] (kg U) (Am (Ad (y_ (Ag (T U)) (Aj (Ah (Ad (e_ (Ap zeroValue194 cs_) ?_ U)))) U)));rintro _ _ ⟨n10,rfl,rfl⟩
  first|refine A9 (Ls U U sizeOf194) U Ac ?_
  rintro _ _ ⟨rfl,rfl⟩;refine Aj (Ii hl ?_);refine Bo (Am (Ad (y_ (Lp U isAgg26 sizeOf26 U (by first|exact A2)) ?_ U)));refine y_ (Lp U isAgg59 sizeOf59 U (by first|exact A2)) ?_ U;refine y_ (Af (T U)) (y_ (Bb (qe3 U U U) call191 (fun H' hs=>tAt_s n (hn.mono (stn hs)) b (hb.mono (stn hs)) hrb _)) (y_ (Af (T U)) (y_ (Bx (T U) U) (y_ (Bx (T U) U) (e_ (Ap zeroValue194 cs_) ?_ U) U) U) U) U) U;rintro _ _ ⟨n11,rfl,rfl⟩
  first|refine A9 (Ls U U sizeOf194) U Ac ?_
  rintro _ _ ⟨rfl,rfl⟩;refine y_ (Ag (T U)) (Aj (Ah (Am (Ad (y_ (Af (T U)) (y_ (Af (T U)) ?_ U) U))))) U
  first|refine Bi (s:=26) (Aa U) (fun c26=> ?_) (fun c26=> ?_)|refine B2 (s:=26) (Aa U) (fun c26=> ?_) (fun c26=> ?_)
  ·refine A3 (Lp U isAgg194 sizeOf194 U (by first|exact A2)) U (Ax U U (Aa U)) ?_;refine A3 (Lp U isAgg194 sizeOf194 U (by first|exact A2)) U (Ax U U (Aa U)) ?_;refine A3 (yl_neqA (T U) (T U) eqGuardType194 (eqHop _ _)) U (Ax U U (Aa U)) (y_ (Bh (T U) (T U)) (y_ (Af (T U)) ?_ U) U)
   first|refine Bi (s:=31) (Aa U) (fun c31=> ?_) (fun c31=> ?_)|refine B2 (s:=31) (Aa U) (fun c31=> ?_) (fun c31=> ?_)
   ·refine A3 (Lo U isAgg3 (by first|exact c_o)) U (Ax U U (Aa U)) ?_;refine A3 (Ci (T U) An) U (Ax U U (Aa U)) (A3 (Af (T U)) U (Ax U U (Aa U)) ?_)
    first|refine Bi (s:=34) (Aa U) (fun c34=> ?_) (fun c34=> ?_)|refine B2 (s:=34) (Aa U) (fun c34=> ?_) (fun c34=> ?_)
    ·refine Bs (Bs (Bs (A3 (Bh (T U) An) U (Ax U U (Aa U)) (y_ (Bh (T U) (T U)) (Aj (Ah (B5 [(8,_),(9,_),(39,_)] (kg U) (Cf (Aa U) (Ad (y_ (Af (T U)) ?_ U)))))) U)) U U U U) U U U U) U U U U
     first|refine A9 (Ls U U sizeOf3) U Ac ?_|refine A9 (B1 (T U) (T U) U sizeOf3) U Ac ?_
     rintro _ _ ⟨rfl,rfl⟩;refine Aj (B4 (Em (nd) ?_ sbt));rw[hcs,leastI_yes c26 c31 (.inl c34)]
    ·refine A3 (Af (T U)) U (Ax U U (Aa U)) (A3 (Lo U isAgg3 (by first|exact c_o)) U (Ax U U (Aa U)) ?_);refine A3 (Ci (T U) (T U)) U (Ax U U (Aa U)) (A3 (Bm (T U) (T U)) U (Ax U U (Aa U)) (y_ (Bh (T U) (T U)) (Aj (Ah (B5 [(8,_),(9,_),(39,_)] (kg U) ?_))) U))
     first|refine Ak (Aa U) (fun c39=> ?_) (fun c39=> ?_)|refine Au (Aa U) (fun c39=> ?_) (fun c39=> ?_)
     ·refine Ad (y_ (Af (T U)) ?_ U)
      first|refine A9 (Ls U U sizeOf3) U Ac ?_|refine A9 (B1 (T U) (T U) U sizeOf3) U Ac ?_
      rintro _ _ ⟨rfl,rfl⟩;refine Aj (B4 (Em (nd) ?_ sbt));rw[hcs,leastI_yes c26 c31 (.inr c39)]
     ·refine Bp (B4 (Em (_) ?_ sbt));rw[hcs,leastI_no (.inr (.inr ⟨c34,c39⟩))]
   ·refine B8 (B8 (B8 (n_u (n_u (n_u (B8 (y_ (Bm (T U) An) (Aj (Ah (B5 [(8,_),(9,_),(39,_)] (kg U) (Cz (Aa U) (Bp (B4 (Em (_) ?_ sbt))))))) U) U U U U) U U U U) U U U U) U U U U) U U U U) U U U U) U U U U;rw[hcs,leastI_no (.inr (.inl (Classical.not_not.1 c31)))]
  ·refine B8 (B8 (B8 (y_ (Bm (T U) An) (y_ (Af (T U)) (B8 (B8 (B8 (n_u (n_u (n_u (B8 (y_ (Bm (T U) An) (Aj (Ah (B5 [(8,_),(9,_),(39,_)] (kg U) (Cz (Aa U) (Bp (B4 (Em (_) ?_ sbt))))))) U) U U U U) U U U U) U U U U) U U U U) U U U U) U U U U) U U U U) U) U) U U U U) U U U U) U U U U;rw[hcs,leastI_no (.inl c26)]
 ·rintro D0 z rfl;refine B4 (Ah (Am (B9 6 [(0,true),(1,true),(2,true),(3,true),(4,true),(5,true)] _ mixd qkr sb0 ?_)));refine o_y U (Lo U isAgg3 (by first|exact c_o)) ?_ U Ac;refine o_y U (Kg (T U) An) (o_y U (Lo U isAgg3 (by first|exact c_o)) ?_ U Ac) U Ac;refine o_y U (Dy (T U) An) (o_y U (Ag (T U)) (o_y U (Ag (T U)) (Bj U (Aj (Ah (Bq (Eg ?_))))) U Ac) U Ac) U Ac;refine As U (.tmp (Aa U) (Ll U)) ?_;exact⟨_,⟨by rw[confK_end];rfl,rfl⟩,sbt⟩
 ·exact fun _ _ h=>h.elim
 ·exact fun _ _ _ h=>h.elim
abbrev PlanL:=List ((Int × Int) × Hop)
def fitsL (ls:List Lnk) (l:PlanL) (w:Way) (t:Int):Bool:=(hops ls w).all fun e=>(look l (t,e.1)).isNone||decide (hopOr (look l (t,e.1))=e.2)
def addK (ls:List Lnk) (l:PlanL) (w:Way) (t:Int) (k:Nat):PlanL:=((hops ls w).take k).foldl (fun l e=>upsert l (t,e.1) e.2) l
def addLT (ls:List Lnk) (l:PlanL) (w:Way) (t:Int):PlanL:=(hops ls w).foldl (fun l e=>upsert l (t,e.1) e.2) l
theorem addK_succ {ls:List Lnk}{l:PlanL}{w:Way}{t:Int}{k:Nat}{p:Int × Hop}(h:(hops ls w)[k]? =some p):addK ls l w t (k+1)=upsert (addK ls l w t k) (t,p.1) p.2:=by
 unfold addK;rw[List.take_add_one,h];simp[List.foldl_append]
theorem addK_end (ls:List Lnk)(l:PlanL)(w:Way)(t:Int):addK ls l w t (hops ls w).length=addLT ls l w t:=by unfold addK addLT;rw[List.take_length]
theorem hopOr_map {α:Type}{f:Hop->α}{o:Option Hop}{z:α}(hz:f ⟨0,0,0,0⟩=z):(o.map f).getD z=f (hopOr o):=by cases o<;>simp[hopOr,hz]
theorem yl_lookH {w0:World}{L:Fm}{H:List (Nat × Obj)}{ty:TypeId}{x y:Operand}{r:Nat}{l:PlanL}{k:Int × Int}{v:Value}(hx:Ev L x (.map (some r)))(hy:Ev L y v)(hv:v=encK2 k)(hf:Fnd H r (mapO encK2 encHv l)):
  Yl prog w0 (.lookup 108 x y true) ty L H (.tuple #[encHv (hopOr (look l k)), .bool (look l k).isSome]):=by
 have h:=Ga (P:=prog) (w0:=w0) (ty:=ty) (keyP (V:=Hop)) hx hy hv runUnderlying108 zeroValue194 hf
 rwa [hopOr_map (f:=encHv) rfl] at h
theorem fits_sT {w0:World}{H:List (Nat × Obj)}(n:Nm)(hn:NetM w0 H n)(m:Wm)(hm:WayM w0 H m)(hr:InR n.links m.way.links)(r:Nat)(pl:PlanL)(hf:Fnd H r (mapO encK2 encHv pl))(t:Int):
  FSpec prog w0 61 #[.map (some r), .agg (encNm n).toArray, .agg (encW m).toArray, .int .i64 t] H (Still (.bool (fitsL n.links pl m.way t)) H):=by
 refine Az func61 U ntmps61 U (Am (Ad (e_ (Lt U cs_) ?_ U)));rintro _ _ ⟨n4,rfl,rfl⟩;refine e_ (Lt U cs_) ?_ U;rintro _ _ ⟨n5,rfl,rfl⟩;refine e_ (Lt U cs_) ?_ U;rintro _ _ ⟨n6,rfl,rfl⟩;refine e_ (Lt U cs_) ?_ U;rintro _ _ ⟨n7,rfl,rfl⟩;refine e_ (Ap zeroValue4 cs_) ?_ U;rintro _ _ ⟨n8,rfl,rfl⟩;refine Aj (Ah (Am (Am (Ad (y_ (Lp U isAgg26 sizeOf26 U (by first|exact A2)) ?_ U)))));refine y_ (Lp U isAgg59 sizeOf59 U (by first|exact A2)) ?_ U;refine e_ (A1 (qe2 U U) call112 (K2 _ _)) ?_ U;rintro _ _ ⟨m2,m3,rfl,rfl⟩;refine Aj (Ah (Bo ?_));refine J0 (Z:=Bool) (T U) call160 (J6 n hn m hm hr _ _) (fun _=>rfl) U (fun b=>(m3,Cl (encW m) 59)::(m2,Cl (encNm n) 26)::(n8,Cl [.bool b] 4)::(n7,Cl [.int .i64 t] 3)::(n6,Cl (encW m) 59)::(n5,Cl (encNm n) 26)::(n4,Cl [.map (some r)] 108)::H) (fun k b=>b=false/\∀ i,i<k->((look pl (t,(gd (hops n.links m.way) i).1)).isNone||decide (hopOr (look pl (t,(gd (hops n.links m.way) i).1))=(gd (hops n.links m.way) i).2))=true) (fun b=>b=false/\fitsL n.links pl m.way t=false) (fun _ b=>False) (false) ?_ sbt ?_ ?_ ?_ ?_ ?_
 ·exact⟨rfl,fun i hi=>by omega⟩
 ·intro b;exact sbt
 ·rintro l lr Y X k ⟨nd,hp⟩ b hl hx ⟨rfl,hall⟩;have hkl:k<(hops n.links m.way).length:=(List.getElem?_eq_some_iff.1 hx).1;have egd:gd (hops n.links m.way) k=(nd,hp):=by rw[Dt hkl] at hx;simpa using hx
  have hmem:(nd,hp)∈hops n.links m.way:=List.mem_of_getElem? hx;refine B5 [(4,_),(7,_),(8,_),(16,_),(17,_)] (kg U) (Am (Ad (y_ (Ag (T U)) (Aj (Ah (Ad (e_ (Ap zeroValue194 cs_) ?_ U)))) U)));rintro _ _ ⟨n10,rfl,rfl⟩
  first|refine A9 (Ls U U sizeOf194) U Ac ?_
  rintro _ _ ⟨rfl,rfl⟩;refine Aj (Ii hl ?_);refine Bo (Am (Ad (y_ (Lo U isAgg108 (by first|exact c_o)) ?_ U)));refine y_ (Lo U isAgg3 (by first|exact c_o)) ?_ U;refine y_ (Af (T U)) (y_ (Bg (.cons (T U) (.cons (T U) .nil)) (bd100_0_1 _ _)) (y_ (yl_lookH (k:=(t,nd)) (T U) (T U) U (hf.mono)) (y_ (Af (T U)) (y_ (Bx (T U) U) (y_ (Bx (T U) U) (e_ (Ap zeroValue194 cs_) ?_ U) U) U) U) U) U) U;rintro _ _ ⟨n11,rfl,rfl⟩
  first|refine A9 (Ls U U sizeOf194) U Ac ?_
  rintro _ _ ⟨rfl,rfl⟩;refine y_ (Ag (T U)) (Aj (Ah (Am (Ad (y_ (Af (T U)) (y_ (Af (T U)) ?_ U) U))))) U
  first|refine Bi (s:=27) (Aa U) (fun c27=> ?_) (fun c27=> ?_)|refine B2 (s:=27) (Aa U) (fun c27=> ?_) (fun c27=> ?_)
  ·refine A3 (Lp U isAgg194 sizeOf194 U (by first|exact A2)) U (Ax U U (Aa U)) ?_;refine A3 (Lp U isAgg194 sizeOf194 U (by first|exact A2)) U (Ax U U (Aa U)) ?_;refine A3 (yl_neqA (T U) (T U) eqGuardType194 (eqHop _ _)) U (Ax U U (Aa U)) (y_ (Bh (T U) (T U)) (Aj (Ah (B5 [(8,_),(31,_)] (kg U) ?_))) U)
   first|refine Ak (Aa U) (fun c31=> ?_) (fun c31=> ?_)|refine Au (Aa U) (fun c31=> ?_) (fun c31=> ?_)
   ·refine Am (Ad ?_)
    first|refine A9 (Ar (T U) An sizeOf4) U Ac ?_|refine A9 (B1 (T U) An U sizeOf4) U Ac ?_
    rintro _ _ ⟨rfl,rfl⟩;refine Aj (Ah (Bq (A4 (q_round_ret (false) ?_ sbt))));exact⟨rfl,by unfold fitsL;rw[List.all_eq_false];exact⟨_,hmem,by simp only[];rw[decide_eq_false c31];simpa[Option.isSome_iff_ne_none] using c27⟩⟩
   ·refine Bp (B4 (Em (false) (⟨rfl,fun i hi=> ?_⟩) sbt))
    by_cases e:i=k
    ·subst e;rw[egd];simp only[];rw[decide_eq_true (Classical.not_not.1 c31)];simp
    ·exact hall i qom
  ·refine B8 (B8 (B8 (y_ (Bm (T U) An) (Aj (Ah (B5 [(8,_),(31,_)] (kg U) (Cz (Aa U) (Bp (B4 (Em (false) (⟨rfl,fun i hi=> ?_⟩) sbt))))))) U) U U U U) U U U U) U U U U
   by_cases e:i=k
   ·subst e;rw[egd];simp only[];simp at c27;simp[c27]
   ·exact hall i qom
 ·rintro D0 b ⟨rfl,hall⟩;refine B4 (Ah (Am (Ad ?_)))
  first|refine A9 (Ar (T U) An sizeOf4) U Ac ?_|refine A9 (B1 (T U) An U sizeOf4) U Ac ?_
  rintro _ _ ⟨rfl,rfl⟩;refine Aj (Ah (Bq (Eg ?_)));refine As U (.cell (Aa U) isAgg4 (by first|exact c_o) .nil) ?_;exact⟨_,⟨vbool (by symm;unfold fitsL;rw[List.all_eq_true];intro e he;obtain⟨i,hi,rfl⟩:=List.getElem_of_mem he;rw[<- Ay hi];exact hall i hi),rfl⟩,sbt⟩
 ·rintro D0 b ⟨rfl,hno⟩;refine A4 (Aw (Eg ?_));refine As U (.cell (Aa U) isAgg4 (by first|exact c_o) .nil) ?_;exact⟨_,⟨vbool hno.symm,rfl⟩,sbt⟩
 ·exact fun _ _ _ h=>h.elim
theorem add_sT {w0:World}{R:List (Nat × Obj)}(n:Nm)(hn:NetM w0 R n)(m:Wm)(hm:WayM w0 R m)(hr:InR n.links m.way.links)(r:Nat)(pl:PlanL)(t:Int):
  FSpec prog w0 62 #[.map (some r), .agg (encNm n).toArray, .agg (encW m).toArray, .int .i64 t] ((r,mapO encK2 encHv pl)::R) (fun v H'=>∃ _:Unit,v= .tuple #[]/\H'=(r,mapO encK2 encHv (addLT n.links pl m.way t))::R):=by
 refine Az func62 U ntmps62 U (Am (Ad (e_ (Lt U cs_) ?_ U)));rintro _ _ ⟨n4,rfl,rfl⟩;refine e_ (Lt U cs_) ?_ U;rintro _ _ ⟨n5,rfl,rfl⟩;refine e_ (Lt U cs_) ?_ U;rintro _ _ ⟨n6,rfl,rfl⟩;refine e_ (Lt U cs_) ?_ U;rintro _ _ ⟨n7,rfl,rfl⟩;refine Aj (Ah (Am (Ad (y_ (Lp U isAgg26 sizeOf26 U (by first|exact A2)) ?_ U))));refine y_ (Lp U isAgg59 sizeOf59 U (by first|exact A2)) ?_ U;refine e_ (A1 (qe2 U U) call112 (K2 _ _)) ?_ U;rintro _ _ ⟨m2,m3,rfl,rfl⟩;refine Aj (Ah (Bo ?_));refine J0 (Z:=PlanL) (T U) call160 (J6 (H:=R) n hn m hm hr _ _) (fun _=>rfl) U (fun z=>(m3,Cl (encW m) 59)::(m2,Cl (encNm n) 26)::(n7,Cl [.int .i64 t] 3)::(n6,Cl (encW m) 59)::(n5,Cl (encNm n) 26)::(n4,Cl [.map (some r)] 108)::(r,mapO encK2 encHv z)::R) (fun k z=>z=addK n.links pl m.way t k) (fun z=>False) (fun _ z=>False) (pl) ?_ sbt ?_ ?_ ?_ ?_ ?_
 ·rfl
 ·intro z;exact sbt
 ·rintro l lr Y X k ⟨nd,hp⟩ z hl hx rfl;refine B5 [(4,_),(7,_),(13,_),(14,_)] (kg U) (Am (Ad (y_ (Ag (T U)) (Aj (Ah (Ad (e_ (Ap zeroValue194 cs_) ?_ U)))) U)));rintro _ _ ⟨n9,rfl,rfl⟩
  first|refine A9 (Ls U U sizeOf194) U Ac ?_
  rintro _ _ ⟨rfl,rfl⟩;refine Aj (Ii hl ?_);refine Bo (Ad (y_ (Lo U isAgg108 (by first|exact c_o)) ?_ U));refine y_ (Lo U isAgg3 (by first|exact c_o)) ?_ U;refine y_ (Af (T U)) (y_ (Bg (.cons (T U) (.cons (T U) .nil)) (bd100_0_1 _ _)) (y_ (Lp U isAgg194 sizeOf194 U (by first|exact A2)) ?_ U) U) U;refine e_ (C5 (V:=Hop) (encV:=encHv) (t,nd) hp keyP (T U) (T U) U (T U) U runUnderlying108) ?_ U;rintro _ _ ⟨rfl,rfl⟩;refine Aj (B4 (Em (_) ?_ sbt));rw[addK_succ hx]
 ·rintro D0 z rfl;refine B4 (q_mark_end ?_);refine Ea U .nil ?_;exact⟨_,⟨(),rfl,by rw[<- addK_end]⟩,sbt⟩
 ·exact fun _ _ h=>h.elim
 ·exact fun _ _ _ h=>h.elim
def RepT (ls:List Lnk) (pl:PlanL) (ps:List (Way × Int)):Prop:=∀ s k,look pl (s,k)=planR ls ps s k
theorem rep_nil (ls:List Lnk):RepT ls [] []:=fun s k=>rfl
theorem It {ls:List Lnk}{pl:PlanL}{ps:List (Way × Int)}(h:RepT ls pl ps)(w:Way)(t:Int):fitsL ls pl w t=fitsP ls (planR ls ps) w t:=by
 unfold fitsL fitsP
 congr 1;funext e;unfold okAt;rw[h]
 cases planR ls ps t e.1 with
 |none=>rfl
 |some x=>simp only[hopOr,Option.isNone_some,Bool.false_or,Option.getD_some];rw[Bool.eq_iff_iff];rw[beq_iff_eq];exact⟨fun h=>of_decide_eq_true h,fun h=>decide_eq_true h⟩
theorem fold_look (t s k:Int):∀ (l:List (Int × Hop)) (pl:PlanL),(l.map (·.1)).Nodup->look (l.foldl (fun l e=>upsert l (t,e.1) e.2) pl) (s,k)=if s=t then (match (l.find? fun p=>p.1==k).map (·.2) with|some h=>some h|none=>look pl (s,k)) else look pl (s,k)
 |[],pl,_=>by simp
 |e::l,pl,hnd=>by
  simp only[List.map_cons,List.nodup_cons] at hnd;rw[List.foldl_cons,fold_look t s k l _ hnd.2,look_upsert]
  by_cases hs:s=t
  ·subst hs;rw[if_pos U,if_pos U,List.find?_cons]
   by_cases hk:e.1=k
   ·subst hk;have:l.find? (fun p=>p.1==e.1)=none:=by
     rw[List.find?_eq_none];intro p hp h;exact hnd.1 (List.mem_map.2 ⟨p,hp,by simpa using h⟩)
    rw[this];simp
   ·have hb:(e.1==k)=false:=by simpa using hk
    rw[hb];have hne: ¬ ((s,e.1)=(s,k)):=by simp[hk]
    simp only[if_neg hne]
  ·rw[if_neg hs,if_neg hs,if_neg (by simp;intro h;exact absurd h.symm hs)]
theorem addL_rep {ls:List Lnk}{pl:PlanL}{ps:List (Way × Int)}(h:RepT ls pl ps){w:Way}(hnd:(nodesF ls w).Nodup)(t:Int):RepT ls (addLT ls pl w t) ((w,t)::ps):=fun s k=>by
 unfold addLT;rw[fold_look t s k _ _ hnd,h s k]
 rfl
theorem upsert_mem {K V:Type}[DecidableEq K] (k:K)(v:V):∀ (l:List (K × V)) (x:K),x∈(upsert l k v).map (·.1)->x=k\/x∈l.map (·.1)
 |[],x,h=>by unfold upsert at h;simp[findI] at h;exact .inl h
 |e::l,x,h=>by
  rw[Dl] at h
  split at h
  ·simp at h ⊢;rcases h with h|h
   ·exact .inl h
   ·exact .inr (.inr h)
  ·simp only[List.map_cons,List.mem_cons] at h ⊢;rcases h with h|h
   ·exact .inr (.inl h)
   ·rcases upsert_mem k v l x h with h|h
    ·exact .inl h
    ·exact .inr (.inr h)
theorem upsert_nd {K V:Type}[DecidableEq K] (k:K)(v:V):∀ (l:List (K × V)),(l.map (·.1)).Nodup->((upsert l k v).map (·.1)).Nodup
 |[],_=>by simp[upsert,findI]
 |e::l,h=>by
  simp only[List.map_cons,List.nodup_cons] at h;rw[Dl]
  split
  ·rename_i he;simp only[List.map_cons,List.nodup_cons];rw[<- he];exact h
  ·rename_i he;simp only[List.map_cons,List.nodup_cons];refine⟨fun hm=> ?_,upsert_nd k v l h.2⟩;rcases upsert_mem k v l _ hm with h1|h1
   ·exact he h1
   ·exact h.1 h1
theorem upsert_len {K V:Type}[DecidableEq K] (k:K)(v:V):∀ (l:List (K × V)),(upsert l k v).length<=l.length+1
 |[]=>by simp[upsert,findI]
 |e::l=>by
  rw[Dl]
  split
  ·simp
  ·have:=upsert_len k v l;simp;omega
structure PlOkT (l:List Wm) (k:Nat) (pl:PlanL):Prop where
 nd:(pl.map (·.1)).Nodup
 len:∀ B,(∀ m∈l,m.way.links.length+1<=B)->pl.length<=B*k
theorem plOk_nil (l:List Wm):PlOkT l 0 []:=⟨by simp,fun _ _=>by simp⟩
theorem addL_ndT (ls:List Lnk)(w:Way)(t:Int)(pl:PlanL)(h:(pl.map (·.1)).Nodup):((addLT ls pl w t).map (·.1)).Nodup/\(addLT ls pl w t).length<=pl.length+(w.links.length+1):=by
 unfold addLT;rw[<- C3 ls w]
 generalize hops ls w=hs
 induction hs generalizing pl with
 |nil=>exact⟨h,by simp⟩
 |cons e hs ih=>
  rw[List.foldl_cons];have h1:=ih (upsert pl (t,e.1) e.2) (upsert_nd _ _ _ h);have h2:=upsert_len (t,e.1) e.2 pl;refine⟨h1.1,?_⟩;have:=h1.2;simp only[List.length_cons];omega
theorem PlOkT.add {l:List Wm}{k:Nat}{pl:PlanL}(h:PlOkT l k pl)(ls:List Lnk){m:Wm}(hm:m∈l)(t:Int):PlOkT l (k+1) (addLT ls pl m.way t):=by
 have h1:=addL_ndT ls m.way t pl h.nd;refine⟨h1.1,fun B hB=> ?_⟩;have h2:=h.len B hB;have h3:=hB m hm;rw[Nat.mul_succ];omega
def asgRes (ls:List Lnk) (first:Int) (ws:List Way):List Int × Int:=
 if 1<=first/\first<=65535 then (match asgF ls first [] ws with|some ps=>(ps.reverse.map (·.2),0)|none=>([],12)) else ([],1)
def Good (ls:List Lnk) (l:List Wm):Prop:=∀ m∈l,(nodesF ls m.way).Nodup/\InR ls m.way.links
theorem Good.at {ls:List Lnk}{l:List Wm}(h:Good ls l){i:Nat}(hi:i<l.length):(nodesF ls (gd l i).way).Nodup/\InR ls (gd l i).way.links:=h _ (Ao hi)
def rgtF (ls:List Lnk):List (Way × Int)->List Way->List Int->Bool
 |_,[],[]=>true
 |ps,w::ws,t::ts=>decide (1<=t/\t<=65535)&&fitsP ls (planR ls ps) w t&&rgtF ls ((w,t)::ps) ws ts
 |_,_,_=>false
def madF (ls:List Lnk):List (Way × Int)->List Way->List Int->Bool
 |ps,w::ws,t::ts=>fitsP ls (planR ls ps) w t&&madF ls ((w,t)::ps) ws ts
 |_,_,_=>true
theorem E0 (ls:List Lnk):∀ (ws:List Way) (ts:List Int) (ps:List (Way × Int)),rgtF ls ps ws ts=(decide (ts.length=ws.length)&&ts.all (fun t=>decide (1<=t/\t<=65535))&&madF ls ps ws ts)
 |[],[],ps=>rfl
 |[],t::ts,ps=>by simp[rgtF]
 |w::ws,[],ps=>by simp[rgtF]
 |w::ws,t::ts,ps=>by
  rw[rgtF,madF,E0 ls ws ts];simp only[List.length_cons,List.all_cons,Nat.add_right_cancel_iff];cases decide (1<=t/\t<=65535)<;>cases fitsP ls (planR ls ps) w t<;>simp
theorem gd_zipT {α β:Type}[Inhabited α] [Inhabited β] {x:List α}{y:List β}{k:Nat}(h:k<x.length)(h2:k<y.length):gd (x.zip y) k=(gd x k,gd y k):=by
 rw[Ay (by simp;omega),Ay h,Ay h2];simp
theorem zip_step {l:List Wm}{tg:List Int}{k:Nat}(h:k<l.length)(h2:k<tg.length):(((l.map (·.way)).zip tg).take (k+1)).reverse=((gd l k).way,gd tg k)::(((l.map (·.way)).zip tg).take k).reverse:=by
 rw[C6 (by simp;omega),gd_zipT (by simpa using h) h2,Cr h];simp
theorem asg1_s {w0:World}{H:List (Nat × Obj)}(n:Nm)(hn:NetM w0 H n)(m:Wm)(hm:WayM w0 H m)(hr:InR n.links m.way.links)(b1 b2 b3 r:Nat)(first:Int)(pl:PlanL)(ps:List (Way × Int))(h1:Fnd H b1 (Cl [.int .i64 first] 3))(h2:Fnd H b2 (Cl [.map (some r)] 108))(h3:Fnd H b3 (Cl (encNm n) 26))(hf:Fnd H r (mapO encK2 encHv pl))(hrep:RepT n.links pl ps)(hc:Cons n.links ps)(hnd:(nodesF n.links m.way).Nodup)(hfb:1<=first/\first<=65535)(hps:ps.length<=1000000):
  FSpec prog w0 60 #[.agg (encW m).toArray, .pointer (some ⟨b1,0,none⟩), .pointer (some ⟨b2,0,none⟩), .pointer (some ⟨b3,0,none⟩)] H (Still (.int .i64 (tagF n.links first ps m.way)) H):=by
 refine Az func60 U ntmps60 U ?_;obtain⟨hT,hT1,hT2,hT3⟩:=tagF_spec (first:=first) hc hnd;have c1:=c_o (w0:=w0) (i:=0) (hf:=h1);have c2:=c_o (w0:=w0) (i:=0) (hf:=h2);have c3:=A2 (w0:=w0) (hf:=h3);refine Am (Ad (e_ (Lt U cs_) ?_ U));rintro _ _ ⟨n4,rfl,rfl⟩;refine y_ (Ag An) (Aj (Ah (Am (Ad (y_ (Lo U isAgg3 (by first|exact c_o|exact c_m (c1)|exact c_m (c2)|exact c_m (c3))) ?_ U))))) U;refine y_ (Ag (T U)) (Aj (Ah (Am (Bo ?_)))) U;refine Cb (X:=Int) (V:=fun t=>[(6, .int .i64 t)]) (C:=[(2,_),(3,_),(4,_)]) (φ:=fun t=>first<=t/\t<=tagF n.links first ps m.way) (μ:=fun t=>(tagF n.links first ps m.way - t).toNat) (x0:=first) ?_ (kg U) ⟨atd,trivial⟩ ?_
 ·exact⟨Int.le_refl _,hT1⟩
 rintro t ⟨ht1,ht2⟩;refine Am (Am (Ad (y_ (Lo U isAgg108 (by first|exact c_o|exact c_m (c1)|exact c_m (c2)|exact c_m (c3))) ?_ U)));refine y_ (Lp U isAgg26 sizeOf26 U (by first|exact A2|exact Cw (c1)|exact Cw (c2)|exact Cw (c3))) ?_ U;refine y_ (Lp U isAgg59 sizeOf59 U (by first|exact A2|exact Cw (c1)|exact Cw (c2)|exact Cw (c3))) ?_ U;refine y_ (Af (T U)) (y_ (Bb (qe4 U U U U) call61 (fun H' hs=>fits_sT n (hn.mono (stn hs)) m (hm.mono (stn hs)) hr r pl (hf.mono (stn hs)) _)) ?_ U) U
 first|refine A3 (B7 (T U)) U Ac ?_|refine A3 (Cc (T U)) U Ac ?_
 refine Aj (Ah ?_)
 first|refine Ak (Aa U) (fun c13=> ?_) (fun c13=> ?_)|refine Au (Aa U) (fun c13=> ?_) (fun c13=> ?_)
 ·refine Bp (Ah (Bo (Ad (y_ (Af (T U)) (y_ (Bd (T U) An qom) ?_ U) U))));refine y_ (Ag (T U)) (Aj (B4 ?_)) U;rw[It hrep] at c13;have hne: ¬ t=tagF n.links first ps m.way:=by intro e;rw[<- e] at hT;simp[hT] at c13
  refine A8 (t+1) ?_ ?_ ⟨atd,trivial⟩ (kg U) ?_
  ·exact⟨by omega,by omega⟩
  ·first|omega|(simp only[];omega)
  ·exact sbt
 ·refine Ct (Bv (Aq (Bw (Ah (Am (Ad (y_ (Af (T U)) (y_ (Ag (T U)) (Aj (Ah (Bq (As U (Ll U) ?_)))) U) U)))))));rw[It hrep] at c13;have hlt: ¬ t<tagF n.links first ps m.way:=by intro h;have:=hT3 t ht1 h;simp[this] at c13
  have e:t=tagF n.links first ps m.way:=by omega
  exact⟨_,⟨by rw[e];rfl,rfl⟩,sbt⟩
theorem padd_at {w0:World}{H R:List (Nat × Obj)}{F:Obj->List (Nat × Obj)}{r:Nat}{pl:PlanL}(hl:Loc H r (mapO encK2 encHv pl) R F)(n:Nm)(hn:NetM w0 R n)(m:Wm)(hm:WayM w0 R m)(hr:InR n.links m.way.links)(t:Int):
  FSpec prog w0 62 #[.map (some r), .agg (encNm n).toArray, .agg (encW m).toArray, .int .i64 t] H (fun v H'=>∃ _:Unit,v= .tuple #[]/\H'=F (mapO encK2 encHv (addLT n.links pl m.way t))):=
 spec_at (add_sT n hn m hm hr r pl t) hl
theorem assign_s {w0:World}{H:List (Nat × Obj)}(n:Nm)(hn:NetM w0 H n)(q:Option Addr)(cap:Nat)(l:List Wm)(hw:WaysM w0 H q l)(hg:Good n.links l)(hl5:l.length<=100000)(first:Int):
  FSpec prog w0 19 #[.agg (encNm n).toArray, .slice q l.length cap, .int .i64 first] H (fun v H'=>∃ (d:Sl) (tg:List Int) (e:Int),v= .tuple #[slV d tg.length, .int .i64 e]/\SlOk d tg.length 1/\H'=slH d (tg.flatMap encI) 3++H/\asgRes n.links first (l.map (·.way))=(tg,e)):=by
 refine Az func19 U ntmps19 U (Am (Ad (e_ (Lt U cs_) ?_ U)));rintro _ _ ⟨n3,rfl,rfl⟩;refine e_ (Lt U cs_) ?_ U;rintro _ _ ⟨n5,rfl,rfl⟩;refine y_ (Ag An) (y_ (Ag An) (Aj (Ah (Am (Am (Ad (y_ (Lo U isAgg3 (by first|exact c_o)) ?_ U)))))) U) U;refine y_ (Bb (.cons (T U) (.cons An (.cons An .nil))) call59 (fun H' hs=>within_sT _ _ _)) ?_ U
 first|refine A3 (B7 (T U)) U Ac ?_|refine A3 (Cc (T U)) U Ac ?_
 refine Aj (Ah ?_)
 first|refine Ak (Aa U) (fun c16=> ?_) (fun c16=> ?_)|refine Au (Aa U) (fun c16=> ?_) (fun c16=> ?_)
 ·refine Am (Ad (y_ (Ag An) (y_ (Ag An) (Aj (Ah (Bq (Aw (As U (.tmp (Aa U) (Ll U)) ?_))))) U) U));exact⟨_,⟨.nil,[],1,rfl,rfl,rfl,by unfold asgRes;rw[if_neg (by simpa using c16)]⟩,sbt⟩
 ·refine Bp (Ah (Am (Ad (e_ Dd ?_ U))));rintro _ _ ⟨n17,rfl,rfl⟩;refine e_ (Ap zeroValue108 cs_) ?_ U;rintro _ _ ⟨n8,rfl,rfl⟩
  first|refine A9 (Ls U U sizeOf108) U Ac ?_|refine A9 (B1 (T U) (T U) U sizeOf108) U Ac ?_
  rintro _ _ ⟨rfl,rfl⟩;refine Aj (Ah (Am (Ad (y_ (Cg (.cons (T U) (.cons (T U) (.cons (T U) .nil)))) (y_ (Ag (T U)) (Aj (Ah (Am (Ad (y_ (Ag An) (Aj (Ah (Am (Am (Ad (y_ (Af (T U)) (y_ (Cd (T U) runUnderlying27) (y_ (Af An) (Aj (Ah (Bo ?_))) U) U) U)))))) U))))) U) U))));refine Bz (X:=Nat × PlanL × List (Way × Int) × Sl × List Int) (V:=fun ⟨k,pl,ps,d,tg⟩=>[(21, .int .i64 (k:Nat)),(10,slV d tg.length)]) (C:=[(3,_),(8,_),(9,_),(19,_),(20,_)]) (G:=fun ⟨k,pl,ps,d,tg⟩=>slH d (tg.flatMap encI) 3++((n8,Cl [.map (some n17)] 108)::(n17,mapO encK2 encHv pl)::(n5,Cl [.int .i64 first] 3)::(n3,Cl (encNm n) 26)::H)) (φ:=fun ⟨k,pl,ps,d,tg⟩=>k<=l.length/\RepT n.links pl ps/\Made n.links first ps/\tg=ps.reverse.map (·.2)/\ps.length=k/\asgF n.links first ps ((l.drop k).map (·.way))=asgF n.links first [] (l.map (·.way))/\SlOk d tg.length 1) (μ:=fun ⟨k,pl,ps,d,tg⟩=>l.length - k) (x0:=(0,[],[], .nil,[])) ?_ (kg U) ⟨atd,atd,trivial⟩ sb0 ?_
  ·exact⟨Nat.zero_le _,rep_nil _, .nil,rfl,rfl,rfl,rfl⟩
  rintro⟨k,pl,ps,d,tg⟩ ⟨hk,hrep,hmd,htg,hpl,has,hok⟩;have htl:tg.length=k:=by rw[htg];simp[hpl]
  refine Am (Ad (y_ (Ci (T U) (T U)) (Aj (Ah (Am ?_))) U))
  first|refine Ak (Aa U) (fun c22=> ?_) (fun c22=> ?_)|refine Au (Aa U) (fun c22=> ?_) (fun c22=> ?_)
  ·refine Bp (Ah (Am (Bo (Am (Ad (y_ (Lq U U runUnderlying27 sizeOf59 qom (by first|exact rfl|exact hw.arr.b (i:=k) qom)) ?_ U))))));refine y_ (Lp U isAgg59 sizeOf59 U (by first|exact A2|exact Cw (hw.arr.cs (i:=k) qom))) ?_ U;refine e_ (Ap zeroValue59 cs_) ?_ U;rintro _ _ ⟨n12,rfl,rfl⟩
   first|refine A9 (Ls U U sizeOf59) U Ac ?_
   rintro _ _ ⟨rfl,rfl⟩;refine Aj (Ah (Am (Ad (y_ (Af (T U)) (y_ (Lp U isAgg59 sizeOf59 U (by first|exact A2)) ?_ U) U))));refine y_ (C1 (T U) (qe1 U) call60 (fun H' hs=>asg1_s n (hn.mono (stn hs)) (gd l k) ((hw.at (i:=k) qom).mono (stn hs)) (hg.at qom).2 _ _ _ n17 first pl ps (Fnd.mono (H':=_) fdd hs) (Fnd.mono (H':=_) fdd hs) (Fnd.mono (H':=_) fdd hs) (Fnd.mono (H':=_) fdd hs) hrep hmd.cons' (hg.at qom).1 qom qom)) ?_ U;refine y_ (Ag (T U)) (Aj (Ah (Am (Am (Ad (y_ (Af (T U)) (y_ (Dx (T U) An) (Aj (Ah ?_)) U) U)))))) U
   first|refine Ak (Aa U) (fun c29=> ?_) (fun c29=> ?_)|refine Au (Aa U) (fun c29=> ?_) (fun c29=> ?_)
   ·refine Am (Ad (y_ (Ag An) (y_ (Ag An) (Aj (Ah (Bq (Aw (A4 (Aw (Bc (A4 (Aw (As U (.tmp (Aa U) (Ll U)) ?_)))))))))) U) U));rw[Cy (l:=l) (k:=k) qom,List.map_cons,asgF,if_pos qom] at has;exact⟨_,⟨.nil,[],12,rfl,rfl,rfl,by unfold asgRes;rw[if_pos (by simpa using c16),<- has]⟩,sbt⟩
   ·refine Bp (Ah (Am (Ad (y_ (Lo U isAgg108 (by first|exact c_o)) ?_ U))));refine y_ (Lp U isAgg26 sizeOf26 U (by first|exact A2)) ?_ U;refine y_ (Lp U isAgg59 sizeOf59 U (by first|exact A2)) ?_ U;refine y_ (Af (T U)) (e_ (A1 (qe4 U U U U) call62 (padd_at (by repeat (first|exact Loc.h|apply Loc.t|apply Loc.a)) n (hn.mono) (gd l k) ((hw.at (i:=k) qom).mono)  (hg.at qom).2 _)) ?_ U) U;rintro _ _ ⟨_,rfl,rfl⟩;refine Aj (Ah (Ad (y_ (Af (T U)) (y_ (Af (T U)) (e_ (A7 (.cons (T U) .nil) (Iq)) ?_ U) U) U)));rintro _ _ ⟨n37,rfl,rfl⟩;refine e_ (Gq (tagF n.links first ps (gd l k).way) (A:=[_,_]) (by':=8) (T U) (T U) runUnderlying41 runUnderlying41 sizeOf3 typeInfo3 U zeroValue3 U (fun _=>rfl) U hok qde qom) ?_ U;rintro _ _ ⟨d',rfl,hok',rfl⟩;refine y_ (Ag (T U)) (Aj (B4 (Ah (B5 [(3,_),(8,_),(9,_),(10,_),(19,_),(20,_),(21,_)] (kg U) (Ad (y_ (Bd (T U) An qom) ?_ U)))))) U;refine y_ (Af (T U)) (Aj ?_) U;refine A8 ((k+1,addLT n.links pl (gd l k).way (tagF n.links first ps (gd l k).way),((gd l k).way,tagF n.links first ps (gd l k).way)::ps,d',tg++[tagF n.links first ps (gd l k).way])) ?_ ?_ ⟨atd,atd,trivial⟩ (kg U) ?_
    ·refine⟨by omega,addL_rep hrep (hg.at qom).1 _,hmd.cons (hg.at qom).1,by rw[htg];simp,by simp[hpl],?_,by simpa using hok'⟩;rw[<- has,Cy (l:=l) (k:=k) qom,List.map_cons,asgF,if_neg qom]
    ·first|omega|(simp only[];omega)
    ·exact sbt
  ·refine Ct (Bv (Aq (Bw (Ah (Am (Ad (y_ (Af (T U)) (y_ (Ag (T U)) (y_ (Ag An) (Aj (Ah (Bq (As U (.tmp (Aa U) (Ll U)) ?_)))) U) U) U)))))));rw[Ep (l:=l) qom,List.map_nil,asgF] at has;exact⟨_,⟨d,tg,0,rfl,hok,rfl,by unfold asgRes;rw[if_pos (by simpa using c16),<- has,htg]⟩,sbt⟩
theorem made_s {w0:World}{H:List (Nat × Obj)}(n:Nm)(hn:NetM w0 H n)(q:Option Addr)(cap:Nat)(l:List Wm)(hw:WaysM w0 H q l)(hg:Good n.links l)(hl5:l.length<=100000)(q2:Option Addr)(cap2:Nat)(tg:List Int)(ht:IntArr w0 H q2 tg)(htl:tg.length<=100000)(hel:tg.length=l.length):
    FSpec prog w0 110 #[.agg (encNm n).toArray, .slice q l.length cap, .slice q2 tg.length cap2] H (fun v H'=>(madF n.links [] (l.map (·.way)) tg=true/\∃ r pl,v= .tuple #[.map (some r), .bool true]/\H'=(r,mapO encK2 encHv pl)::H/\RepT n.links pl ((l.map (·.way)).zip tg).reverse/\PlOkT l l.length pl)\/(madF n.links [] (l.map (·.way)) tg=false/\v= .tuple #[.map none, .bool false]/\H'=H)):=by
  refine Az func110 U ntmps110 U (Am (Ad (e_ (Lt U cs_) ?_ U)));rintro _ _ ⟨n3,rfl,rfl⟩;refine y_ (Ag An) (y_ (Ag An) (Aj (Ah (Am (Ad (e_ Dd ?_ U))))) U) U;rintro _ _ ⟨n11,rfl,rfl⟩;refine y_ (Ag (T U)) (Aj (Ah (Am (Am (Ad (y_ (Af (T U)) (y_ (Cd (T U) runUnderlying27) (y_ (Af An) (Aj (Ah (Bo ?_))) U) U) U)))))) U;refine Bz (X:=Nat × PlanL × List (Way × Int)) (V:=fun ⟨k,pl,ps⟩=>[(14, .int .i64 (k:Nat))]) (C:=[(2,_),(3,_),(8,_),(12,_),(13,_)]) (G:=fun ⟨k,pl,ps⟩=>(n11,mapO encK2 encHv pl)::(n3,Cl (encNm n) 26)::H) (φ:=fun ⟨k,pl,ps⟩=>k<=l.length/\PlOkT l k pl/\RepT n.links pl ps/\ps=(((l.map (·.way)).zip tg).take k).reverse/\madF n.links ps ((l.drop k).map (·.way)) (tg.drop k)=madF n.links [] (l.map (·.way)) tg) (μ:=fun ⟨k,pl,ps⟩=>l.length - k) (x0:=(0,[],[])) ?_ (kg U) ⟨atd,trivial⟩ sb0 ?_
  · exact⟨Nat.zero_le _,plOk_nil _,rep_nil _,rfl,rfl⟩
  rintro⟨k,pl,ps⟩ ⟨hk,hplk,hrep,hps,hma⟩;refine Am (Ad (y_ (Ci (T U) (T U)) (Aj (Ah (Am ?_))) U))
  first|refine Ak (Aa U) (fun c15=> ?_) (fun c15=> ?_)|refine Au (Aa U) (fun c15=> ?_) (fun c15=> ?_)
  · refine Bp (Ah (Am (Bo (Am (Ad (y_ (Af (T U)) (y_ (Lq U U runUnderlying27 sizeOf59 qom (by first|exact rfl|exact hw.arr.b (i:=k) qom|exact ht.b (i:=k) qom)) ?_ U) U))))));refine y_ (Lp U isAgg59 sizeOf59 U (by first|exact A2|exact Cw (hw.arr.cs (i:=k) qom)|exact Cw (ht.f0 (i:=k) qom U))) ?_ U;refine e_ (Ap zeroValue59 cs_) ?_ U;rintro _ _ ⟨n10,rfl,rfl⟩;refine y_ (Ag (T U)) ?_ U
    first|refine A9 (Ls U U sizeOf59) U Ac ?_
    rintro _ _ ⟨rfl,rfl⟩;refine Aj (Ah (Am (Am (B9 9 [(0,true),(1,true),(2,true),(3,true),(4,true),(5,true),(6,true),(7,true),(8,true)] _ mixd qkr sb0 ?_))));refine o_y U (Af (T U)) (o_y U (Lp U isAgg26 sizeOf26 U (by first|exact A2|exact Cw (ht.f0 (i:=k) qom U))) ?_ U Ac) U Ac;refine o_y U (Lp U isAgg59 sizeOf59 U (by first|exact A2|exact Cw (ht.f0 (i:=k) qom U))) ?_ U Ac;refine o_y U (Af (T U)) (o_y U (Af (T U)) (o_y U (Lq U U runUnderlying41 sizeOf3 qom (by first|exact rfl|exact hw.arr.b (i:=k) qom|exact ht.b (i:=k) qom)) ?_ U Ac) U Ac) U Ac;refine o_y U (Lo U isAgg3 (by first|exact c_o|exact c_m (ht.f0 (i:=k) qom U))) ?_ U Ac;refine o_y U (Bb (qe4 U U U U) call61 (fun H' hs=>fits_sT n (hn.mono (stn hs)) (gd l k) ((hw.at (i:=k) qom).mono (stn hs)) (hg.at qom).2 _ pl (Fnd.mono (H':=_) fdd hs) _)) ?_ U Ac
    first|refine o_y U (B7 (T U)) ?_ U Ac|refine o_y U (Cc (T U)) ?_ U Ac
    refine Bj U (Aj (Ah ?_))
    first|refine Ak (Aa U) (fun c27=> ?_) (fun c27=> ?_)|refine Au (Aa U) (fun c27=> ?_) (fun c27=> ?_)
    · refine Am (Ad (y_ (Ag An) (y_ (Ag An) (Aj (Ah (B5 [(6,_),(7,_)] (kg U) (Bq (Aw (A4 (Aw (Bc (A4 (Aw (As U (.tmp (Aa U) (Ll U)) ?_))))))))))) U) U));rw[It hrep] at c27;rw[Cy (l:=l) (k:=k) qom,Cy (l:=tg) (k:=k) qom,List.map_cons,madF] at hma;simp at c27;rw[c27] at hma;exact⟨_, .inr ⟨hma.symm,rfl,rfl⟩,sbt⟩
    · refine Bp (Ah (B9 7 [(0,true),(1,true),(2,true),(3,true),(4,true),(5,true),(6,true)] _ mixd qkr sb0 ?_));refine o_y U (Af (T U)) (o_y U (Lp U isAgg26 sizeOf26 U (by first|exact A2|exact Cw (ht.f0 (i:=k) qom U))) ?_ U Ac) U Ac;refine o_y U (Lp U isAgg59 sizeOf59 U (by first|exact A2|exact Cw (ht.f0 (i:=k) qom U))) ?_ U Ac;refine o_y U (Af (T U)) (o_y U (Af (T U)) (o_y U (Lq U U runUnderlying41 sizeOf3 qom (by first|exact rfl|exact hw.arr.b (i:=k) qom|exact ht.b (i:=k) qom)) ?_ U Ac) U Ac) U Ac;refine o_y U (Lo U isAgg3 (by first|exact c_o|exact c_m (ht.f0 (i:=k) qom U))) ?_ U Ac;refine Bj U (e_ (A1 (qe4 U U U U) call62 (padd_at (by repeat (first|exact Loc.h|apply Loc.t|apply Loc.a)) n (hn.mono) (gd l k) ((hw.at (i:=k) qom).mono)   (hg.at qom).2 _)) ?_ U);rintro _ _ ⟨_,rfl,rfl⟩;refine Aj (B4 (Ah (B5 [(2,_),(3,_),(8,_),(12,_),(13,_),(14,_)] (kg U) (Ad (y_ (Bd (T U) An qom) ?_ U)))));refine y_ (Af (T U)) (Aj ?_) U;refine A8 ((k+1,addLT n.links pl (gd l k).way (gd tg k),((gd l k).way,gd tg k)::ps)) ?_ ?_ ⟨atd,trivial⟩ (kg U) ?_
      · rw[It hrep] at c27;refine⟨by omega,hplk.add _ (Ao qom) _,addL_rep hrep (hg.at qom).1 _,by rw[hps,zip_step qom qom],?_⟩;rw[Cy (l:=l) (k:=k) qom,Cy (l:=tg) (k:=k) qom,List.map_cons,madF] at hma;rw[<- hma];simp at c27;rw[c27];rfl
      · first|omega|(simp only[];omega)
      · exact sbt
  · refine Ct (Bv (Aq (Bw (Ah (Am (Ad (y_ (Af (T U)) (y_ (Ag (T U)) (y_ (Ag An) (Aj (Ah (Bq (As U (.tmp (Aa U) (Ll U)) ?_)))) U) U) U)))))));rw[Ep (l:=l) qom,List.map_nil] at hma;rw[List.take_of_length_le (by simp;omega)] at hps;exact⟨_, .inl ⟨by rw[<- hma];rfl,n11,pl,rfl,rfl,hps ▸ hrep,by rw[show l.length=k by omega];exact hplk⟩,sbt⟩
theorem right1_s {w0:World}{H:List (Nat × Obj)}(t:Int):
  FSpec prog w0 109 #[.int .i64 t] H (Still (.bool (decide ¬ (1<=t/\t<=65535))) H):=by
 refine Az func109 U ntmps109 U (Am (Ad (y_ (Ag An) (Aj (Ah (Am (Ad (y_ (Af (T U)) (y_ (Bb (.cons (T U) (.cons An (.cons An .nil))) call59 (fun H' hs=>within_sT _ _ _)) ?_ U) U))))) U)))
 first|refine A3 (B7 (T U)) U Ac ?_|refine A3 (Cc (T U)) U Ac ?_
 refine y_ (Ag (T U)) (Aj (Ah (Bq (As U (Ll U) ?_)))) U;exact⟨_,⟨rfl,rfl⟩,sbt⟩
theorem idx_s {w0:World}{H:List (Nat × Obj)}(q2:Option Addr)(cap2:Nat)(tg:List Int)(ht:IntArr w0 H q2 tg)(htl:tg.length<=100000):
  FSpec prog w0 159 #[.slice q2 tg.length cap2, .func (.func 109) #[] #[]] H (fun v H'=>(∃ i:Int,v= .int .i64 i/\(0<=i↔¬ ∀ t∈tg,1<=t/\t<=65535))/\H'=H):=by
 refine Az func159 U ntmps159 U (Am (Ad (y_ (Ag An) (Aj (Ah (Am (Am (Ad (y_ (Af (T U)) (y_ (Cd (T U) runUnderlying41) (y_ (Af An) (Aj (Ah (Bo ?_))) U) U) U)))))) U)));refine Cb (X:=Nat) (V:=fun k=>[(8, .int .i64 (k:Nat))]) (C:=[(0,_),(1,_),(7,_)]) (φ:=fun k=>k<=tg.length/\∀ i,i<k->1<=gd tg i/\gd tg i<=65535) (μ:=fun k=>tg.length - k) (x0:=0) ?_ (kg U) ⟨atd,trivial⟩ ?_
 ·exact⟨Nat.zero_le _,fun i hi=>by omega⟩
 rintro k ⟨hk,hall⟩;refine Am (Ad (y_ (Ci (T U) (T U)) (Aj (Ah (Am ?_))) U))
 first|refine Ak (Aa U) (fun c9=> ?_) (fun c9=> ?_)|refine Au (Aa U) (fun c9=> ?_) (fun c9=> ?_)
 ·refine Bp (Ah (Am (Bo (Am (Ad (y_ (Af (T U)) (y_ (Ag (T U)) (Aj (Ah (Am (Ad (y_ (Af (T U)) (y_ (Af (T U)) (y_ (Af (T U)) (y_ (Lq U U runUnderlying41 sizeOf3 qom (by first|exact rfl|exact ht.b (i:=k) qom)) ?_ U) U) U) U))))) U) U))))));refine y_ (Lo U isAgg3 (by first|exact c_o|exact c_m (ht.f0 (i:=k) qom U))) ?_ U;refine y_ (C1 (T U) (qe1 U) call109 (fun H' hs=>right1_s _)) (Aj (Ah ?_)) U
  first|refine Ak (Aa U) (fun c16=> ?_) (fun c16=> ?_)|refine Au (Aa U) (fun c16=> ?_) (fun c16=> ?_)
  ·refine Am (Ad (y_ (Af (T U)) (y_ (Ag (T U)) (Aj (Ah (Bq (A4 (Aw (Bc (A4 (Aw (As U (Ll U) ?_))))))))) U) U));exact⟨_,⟨⟨_,rfl,⟨fun _ h=>c16 (h _ (Ao qom)),fun _=>by omega⟩⟩,rfl⟩,sbt⟩
  ·refine Bp (B4 (Ah (Ad (y_ (Bd (T U) An qom) ?_ U))));refine y_ (Af (T U)) (Aj ?_) U;refine A8 (k+1) ?_ ?_ ⟨atd,trivial⟩ (kg U) ?_
   ·refine⟨by omega,fun i hi=> ?_⟩
    by_cases e:i=k
    ·subst e;exact Classical.not_not.1 c16
    ·exact hall i qom
   ·first|omega|(simp only[];omega)
   ·exact sbt
 ·refine Ct (Bv (Aq (Bw (Ah (Am (Ad (y_ (Ag An) (Aj (Ah (Bq (As U (Ll U) ?_)))) U)))))));exact⟨_,⟨⟨_,rfl,⟨fun h=>by omega,fun h=>(h (fun t hh=>by obtain⟨i,hi,rfl⟩:=List.getElem_of_mem hh;rw[<- Ay hi];exact hall i qom)).elim⟩⟩,rfl⟩,sbt⟩
theorem cont_s {w0:World}{H:List (Nat × Obj)}(q2:Option Addr)(cap2:Nat)(tg:List Int)(ht:IntArr w0 H q2 tg)(htl:tg.length<=100000):
  FSpec prog w0 108 #[.slice q2 tg.length cap2, .func (.func 109) #[] #[]] H (Still (.bool (decide ¬ ∀ t∈tg,1<=t/\t<=65535)) H):=by
 refine Az func108 U ntmps108 U (Am (Ad (y_ (Ag An) (Aj (Ah (Am (Ad (y_ (Af (T U)) (y_ (Af (T U)) (e_ (A1 (qe2 U U) call159 (idx_s _ _ _ ht htl)) ?_ U) U) U))))) U)));rintro _ _ ⟨⟨i,rfl,hi⟩,rfl⟩;refine y_ (Dy (T U) An) (y_ (Ag (T U)) (Aj (Ah (Bq (As U (Ll U) ?_)))) U) U;exact⟨_,⟨vbool (decide_eq_decide.2 hi),rfl⟩,sbt⟩
theorem right_p {w0:World}{H:List (Nat × Obj)}(n:Nm)(hn:NetM w0 H n)(q:Option Addr)(cap:Nat)(l:List Wm)(hw:WaysM w0 H q l)(hg:Good n.links l)(hl5:l.length<=100000)(q2:Option Addr)(cap2:Nat)(tg:List Int)(ht:IntArr w0 H q2 tg)(htl:tg.length<=100000):
  FSpec prog w0 57 #[.agg (encNm n).toArray, .slice q l.length cap, .slice q2 tg.length cap2] H (Still (.bool (rgtF n.links [] (l.map (·.way)) tg)) H):=by
 refine Az func57 U ntmps57 U (Am (Ad (e_ (Lt U cs_) ?_ U)));rintro _ _ ⟨n3,rfl,rfl⟩;refine y_ (Ag An) (Aj (Ah (Am (Am (Ad (y_ (Af (T U)) (y_ (Cd (T U) runUnderlying41) (y_ (Af (T U)) (y_ (Cd (T U) runUnderlying27) (y_ (F7 (T U) (T U)) (y_ (Af (T U)) ?_ U) U) U) U) U) U)))))) U
 first|refine Bi (s:=14) (Aa U) (fun c14=> ?_) (fun c14=> ?_)|refine B2 (s:=14) (Aa U) (fun c14=> ?_) (fun c14=> ?_)
 ·refine Bs (Bs (y_ (Bh (T U) An) (Aj (Ah (Cf (Aa U) (Am (Ad (y_ (Ag An) (Aj (Ah (Bq (Aw (As U (Ll U) ?_))))) U)))))) U) U U U U) U U U U;exact⟨_,⟨by rw[E0,decide_eq_false (by simp;omega)];rfl,rfl⟩,sbt⟩
 ·refine A3 (Af (T U)) U (Ax U U (Aa U)) (A3 (Bb (.cons (T U) (.cons Ku .nil)) call108 (fun H' hs=>cont_s _ _ _ (ht.m (stn hs)) htl)) U (Ax U U (Aa U)) (y_ (Bm (T U) (T U)) (Aj (Ah ?_)) U))
  first|refine Ak (Aa U) (fun c17=> ?_) (fun c17=> ?_)|refine Au (Aa U) (fun c17=> ?_) (fun c17=> ?_)
  ·refine Am (Ad (y_ (Ag An) (Aj (Ah (Bq (Aw (As U (Ll U) ?_))))) U));exact⟨_,⟨by rw[E0,show (tg.all fun t=>decide (1<=t/\t<=65535))=false from by rw[Bool.eq_false_iff];simpa using c17];simp[resOf],rfl⟩,sbt⟩
  ·refine Bp (Ah (Am (Ad (y_ (Lp U isAgg26 sizeOf26 U (by first|exact A2)) ?_ U))));refine y_ (Af (T U)) (y_ (Af (T U)) (e_ (A1 (qe3 U U U) call110 (made_s n hn.mono _ _ l hw.mono hg hl5 _ _ tg ht.m htl qom)) ?_ U) U) U;rintro _ _ (⟨hmd,r,pl,rfl,rfl,hrep⟩|⟨hmd,rfl,rfl⟩)
   ·refine y_ (Af (T U)) (y_ (Bx (T U) U) (y_ (Bx (T U) U) (y_ (Ag (T U)) (y_ (Ag (T U)) (Aj (Ah (Am (Ad (y_ (Af (T U)) (y_ (Ag (T U)) (Aj (Ah (Bq (As U (Ll U) ?_)))) U) U))))) U) U) U) U) U;exact⟨_,⟨by rw[E0,hmd,decide_eq_true (by simp;omega),show (tg.all fun t=>decide (1<=t/\t<=65535))=true from by simpa using c17];rfl,rfl⟩,sbt⟩
   ·refine y_ (Af (T U)) (y_ (Bx (T U) U) (y_ (Bx (T U) U) (y_ (Ag (T U)) (y_ (Ag (T U)) (Aj (Ah (Am (Ad (y_ (Af (T U)) (y_ (Ag (T U)) (Aj (Ah (Bq (As U (Ll U) ?_)))) U) U))))) U) U) U) U) U;exact⟨_,⟨by rw[E0,hmd,decide_eq_true (by simp;omega),show (tg.all fun t=>decide (1<=t/\t<=65535))=true from by simpa using c17];rfl,rfl⟩,sbt⟩
structure Gw (n:Nm) (l:List Wm):Prop where
 nd:∀ m∈l,(nodesF n.links m.way).Nodup
 inr:∀ m∈l,InR n.links m.way.links
 at':∀ m∈l,∀ p∈hops n.links m.way,0<=p.1/\p.1<n.nodes.length
 len:∀ m∈l,m.way.links.length<=1000000
theorem Gw.good {n:Nm}{l:List Wm}(h:Gw n l):Good n.links l:=fun m hm=>⟨h.nd m hm,h.inr m hm⟩
def freeI (ls:List Lnk) (N:Nat) (l:List Wm) (tg:List Int) (t:Int) (w:Way):Bool:=(List.range tg.length).all fun i=>gd tg i !=t||(confR ls N (gd l i).way w).isNone
theorem freeI_iff {ls:List Lnk}{N:Nat}{l:List Wm}{tg:List Int}{t:Int}{w:Way}:freeI ls N l tg t w=true↔∀ i,i<tg.length->gd tg i=t->confR ls N (gd l i).way w=none:=by
 unfold freeI;rw[List.all_eq_true]
 constructor
 ·intro h i hi ht;have:=h i (List.mem_range.2 hi)
  simpa[ht] using this
 ·intro h i hi;have:=h i (List.mem_range.1 hi)
  by_cases ht:gd tg i=t
  ·simp[this ht]
  ·simp[ht]
def pairs (l:List Wm) (tg:List Int):List (Way × Int):=((l.map (·.way)).zip tg).reverse
theorem E7 (l:List Wm):pairs l []=[]:=by simp[pairs]
theorem pairs_snoc {l:List Wm}{tg:List Int}(h:tg.length<l.length)(t:Int):pairs l (tg++[t])=((gd l tg.length).way,t)::pairs l tg:=by
 unfold pairs;have e:l.map (·.way)=(l.take tg.length).map (·.way)++(gd l tg.length).way::(l.drop (tg.length+1)).map (·.way):=by
  rw[<- List.map_cons,<- List.map_append,<- Cy h,List.take_append_drop]
 have hl:((l.take tg.length).map (·.way)).length=tg.length:=by simp;omega
 rw[e,List.zip_append hl];have e2:((l.take tg.length).map (·.way)++(gd l tg.length).way::(l.drop (tg.length+1)).map (·.way)).zip tg=((l.take tg.length).map (·.way)).zip tg:=by
  have:=List.zip_append (r₁:=(gd l tg.length).way::(l.drop (tg.length+1)).map (·.way)) (r₂:=([]:List Int)) hl
  simpa using this
 rw[e2];simp
theorem Gf {l:List Wm}{tg:List Int}{k:Nat}(h:k<l.length)(h2:k<tg.length):pairs l (tg.take (k+1))=((gd l k).way,gd tg k)::pairs l (tg.take k):=by
 have hl:(tg.take k).length=k:=by simp;omega
 rw[C6 h2,pairs_snoc qom,hl]
theorem C8 {l:List Wm}{tg:List Int}(h:tg.length<=l.length){e:Way × Int}:e∈pairs l tg↔∃ i,i<tg.length/\e=((gd l i).way,gd tg i):=by
 unfold pairs;rw[List.mem_reverse,List.mem_iff_getElem]
 constructor
 ·rintro⟨i,hi,rfl⟩;simp at hi;have h1:i<l.length:=by omega
  have h2:i<tg.length:=by omega
  exact⟨i,h2,by simp[Ay h1,Ay h2]⟩
 ·rintro⟨i,hi,rfl⟩;exact⟨i,by simp;omega,by simp[Ay (show i<l.length by omega),Ay hi]⟩
theorem freeI_eq (ls:List Lnk)(N:Nat){l:List Wm}{tg:List Int}(h:tg.length<=l.length)(t:Int)(w:Way):freeI ls N l tg t w=freeR ls N (pairs l tg) t w:=by
 unfold freeR;rw[Bool.eq_iff_iff,freeI_iff,List.all_eq_true]
 constructor
 ·intro hh e he;obtain⟨i,hi,rfl⟩:=(C8 h).1 he
  by_cases ht:gd tg i=t
  ·simp[hh i hi ht]
  ·simp[ht]
 ·intro hh i hi ht;have:=hh _ ((C8 h).2 ⟨i,hi,rfl⟩)
  simpa[ht] using this
theorem freeI_fits {n:Nm}{l:List Wm}(hg:Gw n l){tg:List Int}(h:tg.length<=l.length)(hc:Cons n.links (pairs l tg)){m:Wm}(hm:m∈l)(t:Int):freeI n.links n.nodes.length l tg t m.way=fitsP n.links (planR n.links (pairs l tg)) m.way t:=by
 rw[freeI_eq _ _ h,free_fits hc (hg.nd m hm)];intro e he;obtain⟨i,hi,rfl⟩:=(C8 h).1 he;exact hg.at' _ (Ao qom)
theorem Jp {ls:List Lnk}{l:List Wm}{tg:List Int}{k:Nat}(h:k<l.length)(h2:k<tg.length):rgtF ls (pairs l (tg.take k)) ((l.drop k).map (·.way)) (tg.drop k)=(decide (1<=gd tg k/\gd tg k<=65535)&&fitsP ls (planR ls (pairs l (tg.take k))) (gd l k).way (gd tg k)&&rgtF ls (pairs l (tg.take (k+1))) ((l.drop (k+1)).map (·.way)) (tg.drop (k+1))):=by
 rw[Cy h,Cy h2,List.map_cons,rgtF,Gf h h2]
theorem rgt_end {ls:List Lnk}{l:List Wm}{tg:List Int}{k:Nat}{ps:List (Way × Int)}(h: ¬ k<l.length)(h2: ¬ k<tg.length):rgtF ls ps ((l.drop k).map (·.way)) (tg.drop k)=true:=by
 rw[Ep h,Ep h2];rfl
theorem Iu {n:Nm}{l:List Wm}(hg:Gw n l){tg:List Int}(hel:tg.length=l.length)(h:rgtF n.links [] (l.map (·.way)) tg=true):Cons n.links (pairs l tg)/\∀ i,i<tg.length->1<=gd tg i/\gd tg i<=65535:=by
 have key:∀ k,k<=tg.length->Cons n.links (pairs l (tg.take k))/\(∀ i,i<k->1<=gd tg i/\gd tg i<=65535)/\rgtF n.links (pairs l (tg.take k)) ((l.drop k).map (·.way)) (tg.drop k)=true:=by
  intro k
  induction k with
  |zero=>intro _;exact⟨by simp[E7];exact Cons.nil _,fun i hi=>by omega,by simpa[E7] using h⟩
  |succ k ih=>
   intro hk;obtain⟨h1,h2,h3⟩:=ih qom;rw[Jp qom qom] at h3;simp only[Bool.and_eq_true,decide_eq_true_eq] at h3;refine⟨?_,fun i hi=> ?_,h3.2⟩
   ·rw[Gf qom qom];exact h1.cons (hg.nd _ (Ao qom)) h3.1.2
   ·by_cases e:i=k
    ·subst e;exact h3.1.1
    ·exact h2 i qom
 obtain⟨h1,h2,_⟩:=key tg.length (Nat.le_refl _);rw[List.take_length] at h1;exact⟨h1,h2⟩
structure Dtm where
 way:Int
 place:Int
 m:Wm
instance:Inhabited Dtm:=⟨⟨0,0,default⟩⟩
abbrev encDt (d:Dtm):List Value:=[.int .i64 d.way, .int .i64 d.place]++encW d.m
def dnode (ls:List Lnk) (ws:List Wm) (d:Dtm):Int:=gd (nodesF ls (gd ws d.way.toNat).way) d.place.toNat
structure DtIn (ls:List Lnk) (ws:List Wm) (l:List Dtm):Prop where
 w:∀ d∈l,0<=d.way/\d.way<ws.length
 p:∀ d∈l,0<=d.place/\d.place<(gd ws d.way.toNat).way.links.length
 inc:∀ i j,i<j->j<l.length->(gd l i).way<(gd l j).way\/((gd l i).way=(gd l j).way/\(gd l i).place<(gd l j).place)
theorem gd_inj {α:Type}[Inhabited α] {l:List α}(h:l.Nodup){i j:Nat}(hi:i<l.length)(hj:j<l.length)(e:gd l i=gd l j):i=j:=by
 rw[Ay hi,Ay hj] at e;exact(List.getElem_inj h).1 e
theorem DtIn.key {ls:List Lnk}{ws:List Wm}{l:List Dtm}(h:DtIn ls ws l)(hnd:∀ m∈ws,(nodesF ls m.way).Nodup){i j:Nat}(hi:i<l.length)(hj:j<l.length)
  (e1:(gd l i).way=(gd l j).way) (e2:dnode ls ws (gd l i)=dnode ls ws (gd l j)):i=j:=by
 have hpi:=h.p _ (Ao hi);have hpj:=h.p _ (Ao hj);have hwi:=h.w _ (Ao hi);unfold dnode at e2;rw[e1] at hpi e2;have hwj:=h.w _ (Ao hj);have e3:(gd l i).place.toNat=(gd l j).place.toNat:=gd_inj (hnd _ (Ao qom)) (by rw[Co];omega) (by rw[Co];omega) e2;rcases Nat.lt_trichotomy i j with h1|h1|h1
 ·have:=h.inc i j h1 hj;omega
 ·exact h1
 ·have:=h.inc j i h1 hi;omega
def detF (ls:List Lnk) (ws:List Wm) (l:List Dtm) (i x:Int):Option Nat:=(List.range l.length).find? fun j=>decide ((gd l j).way=i/\dnode ls ws (gd l j)=x)
theorem Di {ls:List Lnk}{ws:List Wm}{l:List Dtm}{i x:Int}{k:Nat}(h:detF ls ws l i x=some k):k<l.length/\(gd l k).way=i/\dnode ls ws (gd l k)=x:=by
 unfold detF at h;have h1:=List.find?_some h;have h2:=List.mem_of_find?_eq_some h;simp only[decide_eq_true_eq] at h1;exact⟨List.mem_range.1 h2,h1⟩
theorem detF_none {ls:List Lnk}{ws:List Wm}{l:List Dtm}{i x:Int}(h:detF ls ws l i x=none){k:Nat}(hk:k<l.length): ¬ ((gd l k).way=i/\dnode ls ws (gd l k)=x):=by
 unfold detF at h;have:=List.find?_eq_none.1 h k (List.mem_range.2 hk)
 simpa only[decide_eq_true_eq] using this
abbrev BookL:=List ((Int × Int) × Int)
def bookF (ls:List Lnk) (ws:List Wm) (l:List Dtm):Nat->BookL
 |0=>[]
 |k+1=>upsert (bookF ls ws l k) ((gd l k).way,dnode ls ws (gd l k)) (k:Int)
theorem E8 {ls:List Lnk}{ws:List Wm}{l:List Dtm}(h:DtIn ls ws l)(hnd:∀ m∈ws,(nodesF ls m.way).Nodup):∀ {k:Nat},k<=l.length->∀ {i x:Int} {v:Int},
  look (bookF ls ws l k) (i,x)=some v↔∃ j:Nat,v=j/\j<k/\(gd l j).way=i/\dnode ls ws (gd l j)=x
 |0,_,i,x,v=>by
  constructor
  ·intro h1;cases h1
  ·rintro⟨j,_,h1,_⟩;omega
 |k+1,hk,i,x,v=>by
  rw[bookF,look_upsert]
  split
  ·rename_i e;obtain⟨rfl,rfl⟩:=Prod.mk.inj e
   constructor
   ·intro h1;exact⟨k,(Option.some.inj h1).symm,Nat.lt_succ_self k,rfl,rfl⟩
   ·rintro⟨j,rfl,hj,e1,e2⟩;rw[h.key hnd (show j<l.length by omega) (show k<l.length by omega) e1 e2]
  ·rename_i e;rw[E8 h hnd (show k<=l.length by omega)]
   constructor
   ·rintro⟨j,e0,hj,h3⟩;exact⟨j,e0,by omega,h3⟩
   ·rintro⟨j,e0,hj,h3⟩;refine⟨j,e0,?_,h3⟩;rcases Nat.lt_succ_iff_lt_or_eq.1 hj with h4|rfl
    ·exact h4
    ·exact absurd (by rw[h3.1,h3.2]) e
theorem book_det {ls:List Lnk}{ws:List Wm}{l:List Dtm}(h:DtIn ls ws l)(hnd:∀ m∈ws,(nodesF ls m.way).Nodup)(i x:Int):
  look (bookF ls ws l l.length) (i,x)=(detF ls ws l i x).map fun k=>(k:Int):=by
 cases hd:detF ls ws l i x with
 |none=>
  cases hl:look (bookF ls ws l l.length) (i,x) with
  |none=>rfl
  |some v=>
   obtain⟨j,_,hj,h3⟩:=(E8 h hnd (Nat.le_refl _)).1 hl;exact absurd h3 (detF_none hd hj)
 |some k=>
  obtain⟨hk,h3⟩:=Di hd;exact(E8 h hnd (Nat.le_refl _)).2 ⟨k,rfl,hk,h3⟩
theorem book_nd (ls:List Lnk)(ws:List Wm)(l:List Dtm):∀ k,((bookF ls ws l k).map (·.1)).Nodup
 |0=>List.nodup_nil
 |k+1=>upsert_nd _ _ _ (book_nd ls ws l k)
def secF (ls:List Lnk) (ws:List Wm) (l:List Dtm) (tg:List Int) (i x:Int):Int:=match detF ls ws l i x with|some k=>gd tg k|none=>0
def agrP (ls:List Lnk) (ws:List Wm) (l:List Dtm) (tg:List Int) (i k:Nat):Bool:=
 decide (¬ 0<=confI ls (gd ws i).way (gd ws k).way)&&(List.range (gd ws i).way.links.length).all fun a=>
  decide (¬ (gd (nodesF ls (gd ws i).way) a∈nodesF ls (gd ws k).way/\¬ secF ls ws l tg i (gd (nodesF ls (gd ws i).way) a)=secF ls ws l tg k (gd (nodesF ls (gd ws i).way) a)))
def goesF (ls:List Lnk) (w:Way) (x:Int):Bool:=decide ((atF ls w x).isSome=true/\0<=(hopOr (atF ls w x)).link)
def agrR (ls:List Lnk) (N:Nat) (ws:List Wm) (l:List Dtm) (tg:List Int) (i k:Nat):Bool:=
 (confR ls N (gd ws i).way (gd ws k).way).isNone&&(List.range N).all fun x=>
  decide (goesF ls (gd ws i).way (x:Int)=true->goesF ls (gd ws k).way (x:Int)=true->
   ((detF ls ws l i x).isSome=(detF ls ws l k x).isSome/\((detF ls ws l i x).isSome=true->gd tg ((detF ls ws l i x).getD 0)=gd tg ((detF ls ws l k x).getD 0))))
theorem Iv {ls:List Lnk}{w:Way}(hnd:(nodesF ls w).Nodup)(hin:InR ls w.links){x:Int}:goesF ls w x=true↔∃ a,a<w.links.length/\gd (nodesF ls w) a=x:=by
 unfold goesF;rw[decide_eq_true_eq]
 constructor
 ·rintro⟨h1,h2⟩;obtain⟨y,hy⟩:=Option.isSome_iff_exists.1 h1;rw[hy] at h2;obtain⟨a,ha,e⟩:=List.getElem_of_mem (Hf hy);rw[C3] at ha;have h3:=Eb (ls:=ls) (w:=w) (k:=a) qom;rw[Ay (by rw[C3];exact ha),e] at h3;obtain⟨e1,e2⟩:=Prod.mk.inj h3;refine⟨a,?_,e1.symm⟩;refine Nat.lt_of_not_le fun hle=> ?_
  have h4:(hopN w a).link= -1:=by unfold hopN;rw[if_neg qom]
  rw[show hopOr (some y)=y from rfl,e2,h4] at h2;omega
 ·rintro⟨a,ha,rfl⟩;have hm:(gd (nodesF ls w) a,hopN w a)∈hops ls w:=by
   rw[<- Eb (show a<=w.links.length by omega)];exact Ao (by rw[C3];omega)
  rw[Fe hnd hm];refine⟨rfl,?_⟩;show 0<=(hopN w a).link;unfold hopN;rw[if_pos ha];exact(hin a ha).1
theorem at_some {ls:List Lnk}{w:Way}{x:Int}(h:x∈nodesF ls w):∃ y,atF ls w x=some y:=by
 obtain⟨p,hp,rfl⟩:=List.mem_map.1 h;unfold atF;cases hf:(hops ls w).find? fun q=>q.1==p.1 with
 |some q=>exact⟨q.2,rfl⟩
 |none=>
  have:=List.find?_eq_none.1 hf p hp;simp at this
theorem sec_iff {ls:List Lnk}{ws:List Wm}{l:List Dtm}{tg:List Int}(ht:∀ k,k<l.length->1<=gd tg k)(i k x:Int):
  secF ls ws l tg i x=secF ls ws l tg k x↔((detF ls ws l i x).isSome=(detF ls ws l k x).isSome/\((detF ls ws l i x).isSome=true->gd tg ((detF ls ws l i x).getD 0)=gd tg ((detF ls ws l k x).getD 0))):=by
 unfold secF;cases h1:detF ls ws l i x with
 |none=>
  cases h2:detF ls ws l k x with
  |none=>simp
  |some b=>have:=ht b (Di h2).1;simp;omega
 |some a=>
  have ha:=ht a (Di h1).1;cases h2:detF ls ws l k x with
  |none=>simp;omega
  |some b=>simp
theorem agr_same {ls:List Lnk}{N:Nat}{ws:List Wm}{l:List Dtm}{tg:List Int}(ht:∀ k,k<l.length->1<=gd tg k)
  (hnd:∀ m∈ws,(nodesF ls m.way).Nodup) (hin:∀ m∈ws,InR ls m.way.links) (hN:∀ m∈ws,∀ p∈hops ls m.way,0<=p.1/\p.1<N) {i k:Nat} (hi:i<ws.length) (hk:k<ws.length):
  agrP ls ws l tg i k=agrR ls N ws l tg i k:=by
 have mi:=Ao hi;have mk:=Ao hk;unfold agrP agrR;rcases conf_same (hnd _ mi) (hN _ mi) (b:=(gd ws k).way) with ⟨h1,h2⟩|⟨c,h1,h2⟩
 ·rw[h1,h2];have hd:=(Ff (hN _ mi)).1 h2;have hsame:∀ {x:Int} {y z:Hop},atF ls (gd ws i).way x=some y->atF ls (gd ws k).way x=some z->y=z:=by
   intro x y z e1 e2;refine Decidable.byContradiction fun hne=> ?_
   have:=differ_iff.2 ⟨y,z,e1,e2,hne⟩;rw[hd x] at this;cases this
  rw[show decide (¬ (0:Int)<= -1)=true from rfl,show (none:Option Nat).isNone=true from rfl,Bool.true_and,Bool.true_and,Bool.eq_iff_iff,List.all_eq_true,List.all_eq_true]
  constructor
  ·intro h x hx;rw[decide_eq_true_eq];intro g1 g2;obtain⟨a,ha,e1⟩:=(Iv (hnd _ mi) (hin _ mi)).1 g1;obtain⟨b,hb,e2⟩:=(Iv (hnd _ mk) (hin _ mk)).1 g2;have h3:=h a (List.mem_range.2 ha);rw[decide_eq_true_eq,e1] at h3;have h4:secF ls ws l tg i (x:Int)=secF ls ws l tg k (x:Int):=by
    refine Decidable.byContradiction fun hne=>h3 ⟨?_,hne⟩
    rw[<- e2];exact Ao (by rw[Co];omega)
   exact(sec_iff ht i k x).1 h4
  ·intro h a ha;rw[decide_eq_true_eq];rintro⟨hm,hne⟩;have ha:=List.mem_range.1 ha;have hx:(gd (nodesF ls (gd ws i).way) a,hopN (gd ws i).way a)∈hops ls (gd ws i).way:=by
    rw[<- Eb (show a<=(gd ws i).way.links.length by omega)];exact Ao (by rw[C3];omega)
   have hr:=hN _ mi _ hx;have g1:goesF ls (gd ws i).way (gd (nodesF ls (gd ws i).way) a)=true:=(Iv (hnd _ mi) (hin _ mi)).2 ⟨a,ha,rfl⟩;obtain⟨z,hz⟩:=at_some hm;have hy:=Fe (hnd _ mi) hx;have e:=hsame hy hz;have g2:goesF ls (gd ws k).way (gd (nodesF ls (gd ws i).way) a)=true:=by
    have g3:=g1;unfold goesF at g3 ⊢;rw[hz,<- e];rw[hy] at g3;exact g3
   obtain⟨x,ex⟩:∃ x:Nat,gd (nodesF ls (gd ws i).way) a=(x:Int):=⟨(gd (nodesF ls (gd ws i).way) a).toNat,by have:=hr.1;simp only[] at this;omega⟩;have hxN:x<N:=by have:=hr.2;simp only[ex] at this;omega
   have h3:=h x (List.mem_range.2 hxN);rw[decide_eq_true_eq] at h3;rw[ex] at g1 g2 hne;exact hne ((sec_iff ht i k x).2 (h3 g1 g2))
 ·rw[h1,h2];rw[show decide (¬ (0:Int)<=(c:Int))=false from decide_eq_false qom]
  rfl
def clsF (f:Nat->Nat->Bool) (tags:List Int) (i:Nat) (t:Int):Bool:=(List.range tags.length).any fun k=>decide (gd tags k=t)&& !f i k
theorem cls_new {f:Nat->Nat->Bool}{tags:List Int}{i:Nat}{t:Int}(h:∀ k,k<tags.length->gd tags k≠t):clsF f tags i t=false:=by
 unfold clsF;rw[List.any_eq_false];intro k hk;simp[h k (List.mem_range.1 hk)]
def tgG (f:Nat->Nat->Bool) (b:Int) (tags:List Int) (i:Nat):Int:=lowest (fun t=> !clsF f tags i t) tags.length b
theorem tgG_spec (f:Nat->Nat->Bool)(b:Int)(tags:List Int)(i:Nat):
  clsF f tags i (tgG f b tags i)=false/\b<=tgG f b tags i/\tgG f b tags i<=b+tags.length/\∀ s,b<=s->s<tgG f b tags i->clsF f tags i s=true:=by
 obtain⟨d,hd,hn⟩:=exists_new (tags.map fun t=>((default:Way),t)) b;rw[List.length_map] at hd;have h:=lowest_spec (f:=fun t=> !clsF f tags i t) (n:=tags.length) (t:=b) ⟨d,hd,by
  rw[cls_new];rfl;intro k hk e;exact hn (default,gd tags k) (List.mem_map.2 ⟨_,Ao hk,rfl⟩) e⟩
 unfold tgG;refine⟨by simpa using h.1,h.2.1,h.2.2.1,fun s h1 h2=>by simpa using h.2.2.2 s h1 h2⟩
def asgG (f:Nat->Nat->Bool) (b:Int):Nat->List Int->Option (List Int)
 |0,tags=>some tags
 |n+1,tags=>if 65535<tgG f b tags tags.length then none else asgG f b n (tags++[tgG f b tags tags.length])
theorem cls_congr {f g:Nat->Nat->Bool}{tags:List Int}{i:Nat}(h:∀ k,k<tags.length->f i k=g i k)(t:Int):clsF f tags i t=clsF g tags i t:=by
 unfold clsF;rw[Bool.eq_iff_iff,List.any_eq_true,List.any_eq_true]
 constructor
 ·rintro⟨k,hk,e⟩;exact⟨k,hk,by rw[<- h k (List.mem_range.1 hk)];exact e⟩
 ·rintro⟨k,hk,e⟩;exact⟨k,hk,by rw[h k (List.mem_range.1 hk)];exact e⟩
def begF (first:Int) (dt:List Int):Int:=dt.foldl (fun b t=>max b (t+1)) first
theorem begF_ge:∀ (dt:List Int) (first:Int),first<=begF first dt/\∀ t∈dt,t<begF first dt
 |[],first=>⟨Int.le_refl _,fun _ h=>by cases h⟩
 |a::dt,first=>by
  obtain⟨h1,h2⟩:=begF_ge dt (max first (a+1));refine⟨by rw[show begF first (a::dt)=begF (max first (a+1)) dt from rfl];omega,fun t ht=> ?_⟩;rw[show begF first (a::dt)=begF (max first (a+1)) dt from rfl];rcases List.mem_cons.1 ht with rfl|ht
  ·omega
  ·exact h2 t ht
theorem begF_mem:∀ (dt:List Int) (first:Int),begF first dt=first\/∃ t∈dt,begF first dt=t+1
 |[],first=> .inl rfl
 |a::dt,first=>by
  rw[show begF first (a::dt)=begF (max first (a+1)) dt from rfl];rcases begF_mem dt (max first (a+1)) with h|⟨t,ht,h⟩
  ·rw[h]
   by_cases hc:first<=a+1
   ·exact .inr ⟨a,List.mem_cons_self,by omega⟩
   ·exact .inl qom
  ·exact .inr ⟨t,List.mem_cons_of_mem _ ht,h⟩
theorem begF_max {dt:List Int}{first m:Int}(hm:m∈dt)(hg:∀ t∈dt,t<=m)(hf:first<=m):begF first dt=m+1:=by
 have h1:=(begF_ge dt first).2 m hm;rcases begF_mem dt first with h|⟨t,ht,h⟩
 ·omega
 ·have:=hg t ht;omega
def gasg (f:List Int->Nat->Nat->Bool) (first:Int) (n:Nat) (r:List Int × Int):List Int × List Int × Int:=
 if r.2=0 then (match asgG (f r.1) (begF first r.1) n [] with|some t=>(t,r.1,0)|none=>([],[],12)) else ([],[],r.2)
def grgt (f:Nat->Nat->Bool) (n:Nat) (ok:Bool) (tags dt:List Int):Bool:=
 decide (tags.length=n)&&ok&&(List.range tags.length).all fun i=>decide (1<=gd tags i/\gd tags i<=65535/\gd tags i∉dt)&& !clsF f (tags.take i) i (gd tags i)
theorem Iw {tags:List Int}{i k:Nat}(h:k<i):gd (tags.take i) k=gd tags k:=by
 unfold gd;rw[List.getD_eq_getElem?_getD,List.getD_eq_getElem?_getD,List.getElem?_take_of_lt h]
end Go.Proofs.YtnafbfbfmgfcfaaGreatDoor
