/-
  Facts on the program's types (printed by vcg.py).
-/
import Derived.Test.YtdbffighngmibaaProg
import Derived.KernelRfl
import Derived.Test.YtdbffighngmibaaLa
namespace Go.Proofs.Ytdbffighngmibaa
theorem mixd : Try.prog.follows .mixedOrders = true := by kernel_rfl
theorem bd100_0_1 (a0 : Int) (a1 : Int) (w : World) : (Instr.build 100 #[(0, .int .i64 a0), (1, .int .i64 a1)]).run Try.prog w = .ok (.agg #[.int .i64 a0, .int .i64 a1]) w := by kernel_rfl
theorem bd72_0_1_2_3 (a0 : Int) (a1 : Int) (a2 : Int) (a3 : Int) (w : World) : (Instr.build 72 #[(0, .int .i64 a0), (1, .int .i64 a1), (2, .int .i64 a2), (3, .int .i64 a3)]).run Try.prog w = .ok (.agg #[.int .i64 a0, .int .i64 a1, .int .i64 a2, .int .i64 a3]) w := by kernel_rfl
theorem bd72_z  (w : World) : (Instr.build 72 #[]).run Try.prog w = .ok (.agg #[.int .i64 0, .int .i64 0, .int .i64 0, .int .i64 0]) w := by kernel_rfl
theorem bs116_1_0 (a0 : ByteArray) (w : World) : (Instr.buildSlice 116 1 #[(0, .string a0)]).run Try.prog w = .ok (.slice (some ⟨w.heap.size, 0, none⟩) 1 1) (w.alloc (Cl [.string a0] 9)) := by kernel_rfl
theorem bs28_1_0 (a0 : Int) (w : World) : (Instr.buildSlice 28 1 #[(0, .int .i64 a0)]).run Try.prog w = .ok (.slice (some ⟨w.heap.size, 0, none⟩) 1 1) (w.alloc (Cl [.int .i64 a0] 3)) := by kernel_rfl
theorem fa121_0 (b o : Nat) (w : World) : (Instr.fieldAt 121 (.pointer (some ⟨b, o, none⟩)) 0).run Try.prog w = .ok (.pointer (some ⟨b, o, none⟩)) w := by kernel_rfl
theorem fa121_2 (b o : Nat) (w : World) : (Instr.fieldAt 121 (.pointer (some ⟨b, o, none⟩)) 2).run Try.prog w = .ok (.pointer (some ⟨b, o + 2, none⟩)) w := by kernel_rfl
theorem fa121_3 (b o : Nat) (w : World) : (Instr.fieldAt 121 (.pointer (some ⟨b, o, none⟩)) 3).run Try.prog w = .ok (.pointer (some ⟨b, o + 3, none⟩)) w := by kernel_rfl
theorem fa124_0 (b o : Nat) (w : World) : (Instr.fieldAt 124 (.pointer (some ⟨b, o, none⟩)) 0).run Try.prog w = .ok (.pointer (some ⟨b, o, none⟩)) w := by kernel_rfl
theorem fa124_1 (b o : Nat) (w : World) : (Instr.fieldAt 124 (.pointer (some ⟨b, o, none⟩)) 1).run Try.prog w = .ok (.pointer (some ⟨b, o + 1, none⟩)) w := by kernel_rfl
theorem fa26_0 (b o : Nat) (w : World) : (Instr.fieldAt 26 (.pointer (some ⟨b, o, none⟩)) 0).run Try.prog w = .ok (.pointer (some ⟨b, o, none⟩)) w := by kernel_rfl
theorem fa26_1 (b o : Nat) (w : World) : (Instr.fieldAt 26 (.pointer (some ⟨b, o, none⟩)) 1).run Try.prog w = .ok (.pointer (some ⟨b, o + 1, none⟩)) w := by kernel_rfl
theorem fa26_2 (b o : Nat) (w : World) : (Instr.fieldAt 26 (.pointer (some ⟨b, o, none⟩)) 2).run Try.prog w = .ok (.pointer (some ⟨b, o + 2, none⟩)) w := by kernel_rfl
theorem fa48_0 (b o : Nat) (w : World) : (Instr.fieldAt 48 (.pointer (some ⟨b, o, none⟩)) 0).run Try.prog w = .ok (.pointer (some ⟨b, o, none⟩)) w := by kernel_rfl
theorem fa48_1 (b o : Nat) (w : World) : (Instr.fieldAt 48 (.pointer (some ⟨b, o, none⟩)) 1).run Try.prog w = .ok (.pointer (some ⟨b, o + 1, none⟩)) w := by kernel_rfl
theorem fa48_2 (b o : Nat) (w : World) : (Instr.fieldAt 48 (.pointer (some ⟨b, o, none⟩)) 2).run Try.prog w = .ok (.pointer (some ⟨b, o + 2, none⟩)) w := by kernel_rfl
theorem fa48_3 (b o : Nat) (w : World) : (Instr.fieldAt 48 (.pointer (some ⟨b, o, none⟩)) 3).run Try.prog w = .ok (.pointer (some ⟨b, o + 3, none⟩)) w := by kernel_rfl
theorem fa48_4 (b o : Nat) (w : World) : (Instr.fieldAt 48 (.pointer (some ⟨b, o, none⟩)) 4).run Try.prog w = .ok (.pointer (some ⟨b, o + 4, none⟩)) w := by kernel_rfl
theorem fa63_0 (b o : Nat) (w : World) : (Instr.fieldAt 63 (.pointer (some ⟨b, o, none⟩)) 0).run Try.prog w = .ok (.pointer (some ⟨b, o, none⟩)) w := by kernel_rfl
theorem fa63_1 (b o : Nat) (w : World) : (Instr.fieldAt 63 (.pointer (some ⟨b, o, none⟩)) 1).run Try.prog w = .ok (.pointer (some ⟨b, o + 1, none⟩)) w := by kernel_rfl
theorem fa63_2 (b o : Nat) (w : World) : (Instr.fieldAt 63 (.pointer (some ⟨b, o, none⟩)) 2).run Try.prog w = .ok (.pointer (some ⟨b, o + 2, none⟩)) w := by kernel_rfl
end Go.Proofs.Ytdbffighngmibaa
