/- The types of the program, as the abstract machine asks for them. -/
import Derived.Test.YtbcbgphnadfijaaProg
import Derived.Test.YtbcbgphnadfijaaAbsZb
import Derived.KernelRfl
namespace Go.Proofs.Ytbcbgphnadfijaa
open Go Go.Abs Go.Proofs

abbrev T3 : TI := ⟨1, 8, some ([cn 0]), .int .i64, true⟩
theorem y3 : tiOf Try.prog 3 = some T3 := by kernel_rfl
instance : TiOf Try.prog 3 T3 := ⟨y3⟩
abbrev T4 : TI := ⟨1, 1, some ([.bool false]), .bool, true⟩
theorem y4 : tiOf Try.prog 4 = some T4 := by kernel_rfl
instance : TiOf Try.prog 4 T4 := ⟨y4⟩
abbrev T5 : TI := ⟨1, 1, some ([c8 0]), .int .u8, true⟩
theorem y5 : tiOf Try.prog 5 = some T5 := by kernel_rfl
instance : TiOf Try.prog 5 T5 := ⟨y5⟩
abbrev T22 : TI := ⟨1, 24, some ([.nils]), .slice 5, true⟩
theorem y22 : tiOf Try.prog 22 = some T22 := by kernel_rfl
instance : TiOf Try.prog 22 T22 := ⟨y22⟩
abbrev T23 : TI := ⟨1, 24, some ([.nils]), .slice 3, true⟩
theorem y23 : tiOf Try.prog 23 = some T23 := by kernel_rfl
instance : TiOf Try.prog 23 T23 := ⟨y23⟩
abbrev T25 : TI := ⟨1, 24, some ([.nils]), .slice 22, true⟩
theorem y25 : tiOf Try.prog 25 = some T25 := by kernel_rfl
instance : TiOf Try.prog 25 T25 := ⟨y25⟩
abbrev T27 : TI := ⟨32, 32, some (u8s (List.replicate 32 0)), .array 32 5, true⟩
theorem y27 : tiOf Try.prog 27 = some T27 := by kernel_rfl
instance : TiOf Try.prog 27 T27 := ⟨y27⟩
abbrev T31 : TI := ⟨1, 24, some ([.nils]), .slice 23, true⟩
theorem y31 : tiOf Try.prog 31 = some T31 := by kernel_rfl
instance : TiOf Try.prog 31 T31 := ⟨y31⟩
abbrev T33 : TI := ⟨16, 128, some (i64s (List.replicate 16 0)), .array 16 3, true⟩
theorem y33 : tiOf Try.prog 33 = some T33 := by kernel_rfl
instance : TiOf Try.prog 33 T33 := ⟨y33⟩
abbrev T35 : TI := ⟨16, 16, some (List.replicate 16 (.bool false)), .array 16 4, true⟩
theorem y35 : tiOf Try.prog 35 = some T35 := by kernel_rfl
instance : TiOf Try.prog 35 T35 := ⟨y35⟩
abbrev T36 : TI := ⟨1, 4, some ([c32 0]), .int .u32, true⟩
theorem y36 : tiOf Try.prog 36 = some T36 := by kernel_rfl
instance : TiOf Try.prog 36 T36 := ⟨y36⟩
abbrev T39 : TI := ⟨8, 32, some (u32s (List.replicate 8 0)), .array 8 36, true⟩
theorem y39 : tiOf Try.prog 39 = some T39 := by kernel_rfl
instance : TiOf Try.prog 39 T39 := ⟨y39⟩
abbrev T41 : TI := ⟨160, 1280, some (i64s (List.replicate 160 0)), .array 10 33, true⟩
theorem y41 : tiOf Try.prog 41 = some T41 := by kernel_rfl
instance : TiOf Try.prog 41 T41 := ⟨y41⟩
abbrev T43 : TI := ⟨1, 8, some ([c64 0]), .int .u64, true⟩
theorem y43 : tiOf Try.prog 43 = some T43 := by kernel_rfl
instance : TiOf Try.prog 43 T43 := ⟨y43⟩
abbrev T44 : TI := ⟨64, 64, some (u8s (List.replicate 64 0)), .array 64 5, true⟩
theorem y44 : tiOf Try.prog 44 = some T44 := by kernel_rfl
instance : TiOf Try.prog 44 T44 := ⟨y44⟩
abbrev T47 : TI := ⟨16, 64, some (u32s (List.replicate 16 0)), .array 16 36, true⟩
theorem y47 : tiOf Try.prog 47 = some T47 := by kernel_rfl
instance : TiOf Try.prog 47 T47 := ⟨y47⟩
abbrev T48 : TI := ⟨1, 8, some ([c64 0]), .int .u64, true⟩
theorem y48 : tiOf Try.prog 48 = some T48 := by kernel_rfl
instance : TiOf Try.prog 48 T48 := ⟨y48⟩
abbrev T50 : TI := ⟨1, 24, some ([.nils]), .slice 43, true⟩
theorem y50 : tiOf Try.prog 50 = some T50 := by kernel_rfl
instance : TiOf Try.prog 50 T50 := ⟨y50⟩
abbrev T52 : TI := ⟨1, 24, some ([.nils]), .slice 36, true⟩
theorem y52 : tiOf Try.prog 52 = some T52 := by kernel_rfl
instance : TiOf Try.prog 52 T52 := ⟨y52⟩
instance : ZT Try.prog 3 T3 ([cn 0]) := ⟨y3, rfl⟩
instance : ZT Try.prog 4 T4 ([.bool false]) := ⟨y4, rfl⟩
instance : ZT Try.prog 5 T5 ([c8 0]) := ⟨y5, rfl⟩
instance : ZT Try.prog 22 T22 ([.nils]) := ⟨y22, rfl⟩
instance : ZT Try.prog 23 T23 ([.nils]) := ⟨y23, rfl⟩
instance : ZT Try.prog 25 T25 ([.nils]) := ⟨y25, rfl⟩
instance : ZT Try.prog 27 T27 (u8s (List.replicate 32 0)) := ⟨y27, rfl⟩
instance : ZT Try.prog 31 T31 ([.nils]) := ⟨y31, rfl⟩
instance : ZT Try.prog 33 T33 (i64s (List.replicate 16 0)) := ⟨y33, rfl⟩
instance : ZT Try.prog 35 T35 (List.replicate 16 (.bool false)) := ⟨y35, rfl⟩
instance : ZT Try.prog 36 T36 ([c32 0]) := ⟨y36, rfl⟩
instance : ZT Try.prog 39 T39 (u32s (List.replicate 8 0)) := ⟨y39, rfl⟩
instance : ZT Try.prog 41 T41 (i64s (List.replicate 160 0)) := ⟨y41, rfl⟩
instance : ZT Try.prog 43 T43 ([c64 0]) := ⟨y43, rfl⟩
instance : ZT Try.prog 44 T44 (u8s (List.replicate 64 0)) := ⟨y44, rfl⟩
instance : ZT Try.prog 47 T47 (u32s (List.replicate 16 0)) := ⟨y47, rfl⟩
instance : ZT Try.prog 48 T48 ([c64 0]) := ⟨y48, rfl⟩
instance : ZT Try.prog 50 T50 ([.nils]) := ⟨y50, rfl⟩
instance : ZT Try.prog 52 T52 ([.nils]) := ⟨y52, rfl⟩
instance : SlT Try.prog 22 T22 5 T5 1 := ⟨y22, rfl, y5, rfl⟩
instance : SlT Try.prog 23 T23 3 T3 1 := ⟨y23, rfl, y3, rfl⟩
instance : SlT Try.prog 25 T25 22 T22 1 := ⟨y25, rfl, y22, rfl⟩
instance : ArT Try.prog 27 T27 32 5 T5 1 := ⟨y27, rfl, y5, rfl⟩
instance : SlT Try.prog 31 T31 23 T23 1 := ⟨y31, rfl, y23, rfl⟩
instance : ArT Try.prog 33 T33 16 3 T3 1 := ⟨y33, rfl, y3, rfl⟩
instance : ArT Try.prog 35 T35 16 4 T4 1 := ⟨y35, rfl, y4, rfl⟩
instance : ArT Try.prog 39 T39 8 36 T36 1 := ⟨y39, rfl, y36, rfl⟩
instance : ArT Try.prog 41 T41 10 33 T33 16 := ⟨y41, rfl, y33, rfl⟩
instance : ArT Try.prog 44 T44 64 5 T5 1 := ⟨y44, rfl, y5, rfl⟩
instance : ArT Try.prog 47 T47 16 36 T36 1 := ⟨y47, rfl, y36, rfl⟩
instance : SlT Try.prog 50 T50 43 T43 1 := ⟨y50, rfl, y43, rfl⟩
instance : SlT Try.prog 52 T52 36 T36 1 := ⟨y52, rfl, y36, rfl⟩
end Go.Proofs.Ytbcbgphnadfijaa
