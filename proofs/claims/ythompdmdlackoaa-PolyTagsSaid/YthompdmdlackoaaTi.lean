/- The types of the program, as the abstract machine asks for them. -/
import Derived.Test.YthompdmdlackoaaProg
import Derived.Test.YthompdmdlackoaaAbsZd
import Derived.KernelRfl
namespace Go.Proofs.Ythompdmdlackoaa
open Go Go.Abs Go.Proofs

abbrev T3 : TI := ⟨1, 8, some ([cn 0]), .int .i64, true⟩
theorem y3 : tiOf Try.prog 3 = some T3 := by kernel_rfl
instance : TiOf Try.prog 3 T3 := ⟨y3⟩
abbrev T4 : TI := ⟨1, 1, some ([.bool false]), .bool, true⟩
theorem y4 : tiOf Try.prog 4 = some T4 := by kernel_rfl
instance : TiOf Try.prog 4 T4 := ⟨y4⟩
abbrev T5 : TI := ⟨1, 1, some ([c8 0]), .int .u8, true⟩
theorem y5 : tiOf Try.prog 5 = some T5 := by kernel_rfl
instance : TiOf Try.prog 5 T5 := ⟨y5⟩
abbrev T23 : TI := ⟨32, 32, some (u8s (List.replicate 32 0)), .array 32 5, true⟩
theorem y23 : tiOf Try.prog 23 = some T23 := by kernel_rfl
instance : TiOf Try.prog 23 T23 := ⟨y23⟩
abbrev T24 : TI := ⟨1, 24, some ([.nils]), .slice 5, true⟩
theorem y24 : tiOf Try.prog 24 = some T24 := by kernel_rfl
instance : TiOf Try.prog 24 T24 := ⟨y24⟩
abbrev T26 : TI := ⟨16, 16, some (u8s (List.replicate 16 0)), .array 16 5, true⟩
theorem y26 : tiOf Try.prog 26 = some T26 := by kernel_rfl
instance : TiOf Try.prog 26 T26 := ⟨y26⟩
abbrev T33 : TI := ⟨1, 8, some ([c64 0]), .int .u64, true⟩
theorem y33 : tiOf Try.prog 33 = some T33 := by kernel_rfl
instance : TiOf Try.prog 33 T33 := ⟨y33⟩
abbrev T34 : TI := ⟨16, 128, some (u64s (List.replicate 16 0)), .array 16 33, true⟩
theorem y34 : tiOf Try.prog 34 = some T34 := by kernel_rfl
instance : TiOf Try.prog 34 T34 := ⟨y34⟩
abbrev T36 : TI := ⟨17, 136, some (u64s (List.replicate 17 0)), .array 17 33, true⟩
theorem y36 : tiOf Try.prog 36 = some T36 := by kernel_rfl
instance : TiOf Try.prog 36 T36 := ⟨y36⟩
abbrev T37 : TI := ⟨34, 272, some (u64s (List.replicate 34 0)), .array 34 33, true⟩
theorem y37 : tiOf Try.prog 37 = some T37 := by kernel_rfl
instance : TiOf Try.prog 37 T37 := ⟨y37⟩
abbrev T39 : TI := ⟨1, 24, some ([.nils]), .slice 24, true⟩
theorem y39 : tiOf Try.prog 39 = some T39 := by kernel_rfl
instance : TiOf Try.prog 39 T39 := ⟨y39⟩
abbrev T41 : TI := ⟨2, 16, some (u64s (List.replicate 2 0)), .array 2 33, true⟩
theorem y41 : tiOf Try.prog 41 = some T41 := by kernel_rfl
instance : TiOf Try.prog 41 T41 := ⟨y41⟩
abbrev T42 : TI := ⟨3, 24, some (u64s (List.replicate 3 0)), .array 3 33, true⟩
theorem y42 : tiOf Try.prog 42 = some T42 := by kernel_rfl
instance : TiOf Try.prog 42 T42 := ⟨y42⟩
abbrev T43 : TI := ⟨24, 24, some (u8s (List.replicate 24 0)), .array 24 5, true⟩
theorem y43 : tiOf Try.prog 43 = some T43 := by kernel_rfl
instance : TiOf Try.prog 43 T43 := ⟨y43⟩
abbrev T49 : TI := ⟨5, 40, some (u64s (List.replicate 5 0)), .array 5 33, true⟩
theorem y49 : tiOf Try.prog 49 = some T49 := by kernel_rfl
instance : TiOf Try.prog 49 T49 := ⟨y49⟩
instance : ZT Try.prog 3 T3 ([cn 0]) := ⟨y3, rfl⟩
instance : ZT Try.prog 4 T4 ([.bool false]) := ⟨y4, rfl⟩
instance : ZT Try.prog 5 T5 ([c8 0]) := ⟨y5, rfl⟩
instance : ZT Try.prog 23 T23 (u8s (List.replicate 32 0)) := ⟨y23, rfl⟩
instance : ZT Try.prog 24 T24 ([.nils]) := ⟨y24, rfl⟩
instance : ZT Try.prog 26 T26 (u8s (List.replicate 16 0)) := ⟨y26, rfl⟩
instance : ZT Try.prog 33 T33 ([c64 0]) := ⟨y33, rfl⟩
instance : ZT Try.prog 34 T34 (u64s (List.replicate 16 0)) := ⟨y34, rfl⟩
instance : ZT Try.prog 36 T36 (u64s (List.replicate 17 0)) := ⟨y36, rfl⟩
instance : ZT Try.prog 37 T37 (u64s (List.replicate 34 0)) := ⟨y37, rfl⟩
instance : ZT Try.prog 39 T39 ([.nils]) := ⟨y39, rfl⟩
instance : ZT Try.prog 41 T41 (u64s (List.replicate 2 0)) := ⟨y41, rfl⟩
instance : ZT Try.prog 42 T42 (u64s (List.replicate 3 0)) := ⟨y42, rfl⟩
instance : ZT Try.prog 43 T43 (u8s (List.replicate 24 0)) := ⟨y43, rfl⟩
instance : ZT Try.prog 49 T49 (u64s (List.replicate 5 0)) := ⟨y49, rfl⟩
instance : ArT Try.prog 23 T23 32 5 T5 1 := ⟨y23, rfl, y5, rfl⟩
instance : SlT Try.prog 24 T24 5 T5 1 := ⟨y24, rfl, y5, rfl⟩
instance : ArT Try.prog 26 T26 16 5 T5 1 := ⟨y26, rfl, y5, rfl⟩
instance : ArT Try.prog 34 T34 16 33 T33 1 := ⟨y34, rfl, y33, rfl⟩
instance : ArT Try.prog 36 T36 17 33 T33 1 := ⟨y36, rfl, y33, rfl⟩
instance : ArT Try.prog 37 T37 34 33 T33 1 := ⟨y37, rfl, y33, rfl⟩
instance : SlT Try.prog 39 T39 24 T24 1 := ⟨y39, rfl, y24, rfl⟩
instance : ArT Try.prog 41 T41 2 33 T33 1 := ⟨y41, rfl, y33, rfl⟩
instance : ArT Try.prog 42 T42 3 33 T33 1 := ⟨y42, rfl, y33, rfl⟩
instance : ArT Try.prog 43 T43 24 5 T5 1 := ⟨y43, rfl, y5, rfl⟩
instance : ArT Try.prog 49 T49 5 33 T33 1 := ⟨y49, rfl, y33, rfl⟩
instance : AddX Try.prog 13 := ⟨fun x y c hc => add_ext (fn := Try.f13) (by kernel_rfl) (by kernel_rfl) (by kernel_rfl) (by kernel_rfl) (by kernel_rfl) x y c hc⟩
instance : SubX Try.prog 16 := ⟨fun x y c hc => sub_ext (fn := Try.f16) (by kernel_rfl) (by kernel_rfl) (by kernel_rfl) (by kernel_rfl) (by kernel_rfl) x y c hc⟩
end Go.Proofs.Ythompdmdlackoaa
