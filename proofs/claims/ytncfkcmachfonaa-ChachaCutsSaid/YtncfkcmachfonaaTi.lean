/- The types of the program, as the abstract machine asks for them. -/
import Derived.Test.YtncfkcmachfonaaProg
import Derived.Test.YtncfkcmachfonaaAbsZb
import Derived.KernelRfl
namespace Go.Proofs.Ytncfkcmachfonaa
open Go Go.Abs Go.Proofs

abbrev T3 : TI := ⟨1, 8, some ([cn 0]), .int .i64, true⟩
theorem y3 : tiOf Try.prog 3 = some T3 := by kernel_rfl
instance : TiOf Try.prog 3 T3 := ⟨y3⟩
abbrev T5 : TI := ⟨1, 1, some ([c8 0]), .int .u8, true⟩
theorem y5 : tiOf Try.prog 5 = some T5 := by kernel_rfl
instance : TiOf Try.prog 5 T5 := ⟨y5⟩
abbrev T9 : TI := ⟨1, 16, some ([.str ⟨#[]⟩]), .str, true⟩
theorem y9 : tiOf Try.prog 9 = some T9 := by kernel_rfl
instance : TiOf Try.prog 9 T9 := ⟨y9⟩
abbrev T23 : TI := ⟨32, 32, some (u8s (List.replicate 32 0)), .array 32 5, true⟩
theorem y23 : tiOf Try.prog 23 = some T23 := by kernel_rfl
instance : TiOf Try.prog 23 T23 := ⟨y23⟩
abbrev T24 : TI := ⟨1, 4, some ([c32 0]), .int .u32, true⟩
theorem y24 : tiOf Try.prog 24 = some T24 := by kernel_rfl
instance : TiOf Try.prog 24 T24 := ⟨y24⟩
abbrev T25 : TI := ⟨12, 12, some (u8s (List.replicate 12 0)), .array 12 5, true⟩
theorem y25 : tiOf Try.prog 25 = some T25 := by kernel_rfl
instance : TiOf Try.prog 25 T25 := ⟨y25⟩
abbrev T26 : TI := ⟨1, 24, some ([.nils]), .slice 5, true⟩
theorem y26 : tiOf Try.prog 26 = some T26 := by kernel_rfl
instance : TiOf Try.prog 26 T26 := ⟨y26⟩
abbrev T30 : TI := ⟨64, 64, some (u8s (List.replicate 64 0)), .array 64 5, true⟩
theorem y30 : tiOf Try.prog 30 = some T30 := by kernel_rfl
instance : TiOf Try.prog 30 T30 := ⟨y30⟩
abbrev T34 : TI := ⟨16, 64, some (u32s (List.replicate 16 0)), .array 16 24, true⟩
theorem y34 : tiOf Try.prog 34 = some T34 := by kernel_rfl
instance : TiOf Try.prog 34 T34 := ⟨y34⟩
abbrev T36 : TI := ⟨2, 16, some ([cn 0, cn 0]), .array 2 3, true⟩
theorem y36 : tiOf Try.prog 36 = some T36 := by kernel_rfl
instance : TiOf Try.prog 36 T36 := ⟨y36⟩
abbrev T37 : TI := ⟨4, 32, some (i64s (List.replicate 4 0)), .array 2 36, true⟩
theorem y37 : tiOf Try.prog 37 = some T37 := by kernel_rfl
instance : TiOf Try.prog 37 T37 := ⟨y37⟩
abbrev T40 : TI := ⟨1, 8, some ([c64 0]), .int .u64, true⟩
theorem y40 : tiOf Try.prog 40 = some T40 := by kernel_rfl
instance : TiOf Try.prog 40 T40 := ⟨y40⟩
instance : ZT Try.prog 3 T3 ([cn 0]) := ⟨y3, rfl⟩
instance : ZT Try.prog 5 T5 ([c8 0]) := ⟨y5, rfl⟩
instance : ZT Try.prog 9 T9 ([.str ⟨#[]⟩]) := ⟨y9, rfl⟩
instance : ZT Try.prog 23 T23 (u8s (List.replicate 32 0)) := ⟨y23, rfl⟩
instance : ZT Try.prog 24 T24 ([c32 0]) := ⟨y24, rfl⟩
instance : ZT Try.prog 25 T25 (u8s (List.replicate 12 0)) := ⟨y25, rfl⟩
instance : ZT Try.prog 26 T26 ([.nils]) := ⟨y26, rfl⟩
instance : ZT Try.prog 30 T30 (u8s (List.replicate 64 0)) := ⟨y30, rfl⟩
instance : ZT Try.prog 34 T34 (u32s (List.replicate 16 0)) := ⟨y34, rfl⟩
instance : ZT Try.prog 36 T36 ([cn 0, cn 0]) := ⟨y36, rfl⟩
instance : ZT Try.prog 37 T37 (i64s (List.replicate 4 0)) := ⟨y37, rfl⟩
instance : ZT Try.prog 40 T40 ([c64 0]) := ⟨y40, rfl⟩
instance : ArT Try.prog 23 T23 32 5 T5 1 := ⟨y23, rfl, y5, rfl⟩
instance : ArT Try.prog 25 T25 12 5 T5 1 := ⟨y25, rfl, y5, rfl⟩
instance : SlT Try.prog 26 T26 5 T5 1 := ⟨y26, rfl, y5, rfl⟩
instance : ArT Try.prog 30 T30 64 5 T5 1 := ⟨y30, rfl, y5, rfl⟩
instance : ArT Try.prog 34 T34 16 24 T24 1 := ⟨y34, rfl, y24, rfl⟩
instance : ArT Try.prog 36 T36 2 3 T3 1 := ⟨y36, rfl, y3, rfl⟩
instance : ArT Try.prog 37 T37 2 36 T36 2 := ⟨y37, rfl, y36, rfl⟩
end Go.Proofs.Ytncfkcmachfonaa
