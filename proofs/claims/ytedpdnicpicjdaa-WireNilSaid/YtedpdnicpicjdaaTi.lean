/- The types of the program, as the abstract machine asks for them. -/
import Derived.Test.YtedpdnicpicjdaaProg
import Derived.Test.YtedpdnicpicjdaaAbsZb
import Derived.KernelRfl
namespace Go.Proofs.Ytedpdnicpicjdaa
open Go Go.Abs Go.Proofs

abbrev T3 : TI := ⟨1, 8, some ([cn 0]), .int .i64, true⟩
theorem y3 : tiOf Try.prog 3 = some T3 := by kernel_rfl
instance : TiOf Try.prog 3 T3 := ⟨y3⟩
abbrev T4 : TI := ⟨1, 1, some ([.bool false]), .bool, true⟩
theorem y4 : tiOf Try.prog 4 = some T4 := by kernel_rfl
instance : TiOf Try.prog 4 T4 := ⟨y4⟩
abbrev T5 : TI := ⟨1, 1, some ([c8 0]), .int .u8, true⟩
theorem y5 : tiOf Try.prog 5 = some T5 := by kernel_rfl
instance : TiOf Try.prog 5 T5 := ⟨y5⟩
abbrev T9 : TI := ⟨1, 16, some ([.str ⟨#[]⟩]), .str, true⟩
theorem y9 : tiOf Try.prog 9 = some T9 := by kernel_rfl
instance : TiOf Try.prog 9 T9 := ⟨y9⟩
abbrev T22 : TI := ⟨1, 8, some ([c64 0]), .int .u64, true⟩
theorem y22 : tiOf Try.prog 22 = some T22 := by kernel_rfl
instance : TiOf Try.prog 22 T22 := ⟨y22⟩
abbrev T23 : TI := ⟨1, 24, some ([.nils]), .slice 5, true⟩
theorem y23 : tiOf Try.prog 23 = some T23 := by kernel_rfl
instance : TiOf Try.prog 23 T23 := ⟨y23⟩
abbrev T35 : TI := ⟨1, 8, some ([.nilp]), .ptr 37, true⟩
theorem y35 : tiOf Try.prog 35 = some T35 := by kernel_rfl
instance : TiOf Try.prog 35 T35 := ⟨y35⟩
abbrev T37 : TI := ⟨3, 32, some ([.nils, .bool false, .bool false]), .struct [(0, 23), (1, 4), (2, 4)], true⟩
theorem y37 : tiOf Try.prog 37 = some T37 := by kernel_rfl
instance : TiOf Try.prog 37 T37 := ⟨y37⟩
abbrev T43 : TI := ⟨32, 32, some (u8s (List.replicate 32 0)), .array 32 5, true⟩
theorem y43 : tiOf Try.prog 43 = some T43 := by kernel_rfl
instance : TiOf Try.prog 43 T43 := ⟨y43⟩
instance : ZT Try.prog 3 T3 ([cn 0]) := ⟨y3, rfl⟩
instance : ZT Try.prog 4 T4 ([.bool false]) := ⟨y4, rfl⟩
instance : ZT Try.prog 5 T5 ([c8 0]) := ⟨y5, rfl⟩
instance : ZT Try.prog 9 T9 ([.str ⟨#[]⟩]) := ⟨y9, rfl⟩
instance : ZT Try.prog 22 T22 ([c64 0]) := ⟨y22, rfl⟩
instance : ZT Try.prog 23 T23 ([.nils]) := ⟨y23, rfl⟩
instance : ZT Try.prog 35 T35 ([.nilp]) := ⟨y35, rfl⟩
instance : ZT Try.prog 37 T37 ([.nils, .bool false, .bool false]) := ⟨y37, rfl⟩
instance : StT Try.prog 37 T37 [(0, 23), (1, 4), (2, 4)] := ⟨y37, rfl⟩
instance : ZT Try.prog 43 T43 (u8s (List.replicate 32 0)) := ⟨y43, rfl⟩
instance : SlT Try.prog 23 T23 5 T5 1 := ⟨y23, rfl, y5, rfl⟩
instance : FdT Try.prog 37 0 T37 [(0, 23), (1, 4), (2, 4)] 0 23 T23 1 := ⟨y37, rfl, rfl, y23, rfl⟩
instance : FdT Try.prog 37 1 T37 [(0, 23), (1, 4), (2, 4)] 1 4 T4 1 := ⟨y37, rfl, rfl, y4, rfl⟩
instance : FdT Try.prog 37 2 T37 [(0, 23), (1, 4), (2, 4)] 2 4 T4 1 := ⟨y37, rfl, rfl, y4, rfl⟩
instance : ArT Try.prog 43 T43 32 5 T5 1 := ⟨y43, rfl, y5, rfl⟩
end Go.Proofs.Ytedpdnicpicjdaa
