/- The types of the program, as the abstract machine asks for them. -/
import Derived.Test.YtgojpagfgfknkaaProg
import Derived.Test.YtgojpagfgfknkaaAbsZb
import Derived.KernelRfl
namespace Go.Proofs.Ytgojpagfgfknkaa
open Go Go.Abs Go.Proofs

abbrev T3 : TI := ⟨1, 8, some ([cn 0]), .int .i64, true⟩
theorem y3 : tiOf Try.prog 3 = some T3 := by kernel_rfl
instance : TiOf Try.prog 3 T3 := ⟨y3⟩
abbrev T4 : TI := ⟨1, 1, some ([.bool false]), .bool, true⟩
theorem y4 : tiOf Try.prog 4 = some T4 := by kernel_rfl
instance : TiOf Try.prog 4 T4 := ⟨y4⟩
abbrev T22 : TI := ⟨1, 24, some ([.nils]), .slice 23, true⟩
theorem y22 : tiOf Try.prog 22 = some T22 := by kernel_rfl
instance : TiOf Try.prog 22 T22 := ⟨y22⟩
abbrev T23 : TI := ⟨1, 8, some ([c64 0]), .int .u64, true⟩
theorem y23 : tiOf Try.prog 23 = some T23 := by kernel_rfl
instance : TiOf Try.prog 23 T23 := ⟨y23⟩
abbrev T25 : TI := ⟨1, 8, some ([.nilp]), .ptr 36, true⟩
theorem y25 : tiOf Try.prog 25 = some T25 := by kernel_rfl
instance : TiOf Try.prog 25 T25 := ⟨y25⟩
abbrev T28 : TI := ⟨1, 8, some ([cn 0]), .int .i64, true⟩
theorem y28 : tiOf Try.prog 28 = some T28 := by kernel_rfl
instance : TiOf Try.prog 28 T28 := ⟨y28⟩
abbrev T30 : TI := ⟨64, 64, some (List.replicate 64 (.bool false)), .array 64 4, true⟩
theorem y30 : tiOf Try.prog 30 = some T30 := by kernel_rfl
instance : TiOf Try.prog 30 T30 := ⟨y30⟩
abbrev T36 : TI := ⟨3, 24, some ([c64 0, c64 0, .bool false]), .struct [(0, 23), (1, 23), (2, 4)], true⟩
theorem y36 : tiOf Try.prog 36 = some T36 := by kernel_rfl
instance : TiOf Try.prog 36 T36 := ⟨y36⟩
instance : ZT Try.prog 3 T3 ([cn 0]) := ⟨y3, rfl⟩
instance : ZT Try.prog 4 T4 ([.bool false]) := ⟨y4, rfl⟩
instance : ZT Try.prog 22 T22 ([.nils]) := ⟨y22, rfl⟩
instance : ZT Try.prog 23 T23 ([c64 0]) := ⟨y23, rfl⟩
instance : ZT Try.prog 25 T25 ([.nilp]) := ⟨y25, rfl⟩
instance : ZT Try.prog 28 T28 ([cn 0]) := ⟨y28, rfl⟩
instance : ZT Try.prog 30 T30 (List.replicate 64 (.bool false)) := ⟨y30, rfl⟩
instance : ZT Try.prog 36 T36 ([c64 0, c64 0, .bool false]) := ⟨y36, rfl⟩
instance : StT Try.prog 36 T36 [(0, 23), (1, 23), (2, 4)] := ⟨y36, rfl⟩
instance : SlT Try.prog 22 T22 23 T23 1 := ⟨y22, rfl, y23, rfl⟩
instance : ArT Try.prog 30 T30 64 4 T4 1 := ⟨y30, rfl, y4, rfl⟩
instance : FdT Try.prog 36 0 T36 [(0, 23), (1, 23), (2, 4)] 0 23 T23 1 := ⟨y36, rfl, rfl, y23, rfl⟩
instance : FdT Try.prog 36 1 T36 [(0, 23), (1, 23), (2, 4)] 1 23 T23 1 := ⟨y36, rfl, rfl, y23, rfl⟩
instance : FdT Try.prog 36 2 T36 [(0, 23), (1, 23), (2, 4)] 2 4 T4 1 := ⟨y36, rfl, rfl, y4, rfl⟩
end Go.Proofs.Ytgojpagfgfknkaa
