/- The types of the program, as the abstract machine asks for them. -/
import Derived.Test.YtcihpgdmldkjfaaProg
import Derived.Test.YtcihpgdmldkjfaaAbsZd
import Derived.KernelRfl
namespace Go.Proofs.Ytcihpgdmldkjfaa
open Go Go.Abs Go.Proofs

abbrev T3 : TI := ⟨1, 8, some ([cn 0]), .int .i64, true⟩
theorem y3 : tiOf Try.prog 3 = some T3 := by kernel_rfl
instance : TiOf Try.prog 3 T3 := ⟨y3⟩
abbrev T5 : TI := ⟨1, 1, some ([c8 0]), .int .u8, true⟩
theorem y5 : tiOf Try.prog 5 = some T5 := by kernel_rfl
instance : TiOf Try.prog 5 T5 := ⟨y5⟩
abbrev T9 : TI := ⟨1, 16, some ([.str ⟨#[]⟩]), .str, true⟩
theorem y9 : tiOf Try.prog 9 = some T9 := by kernel_rfl
instance : TiOf Try.prog 9 T9 := ⟨y9⟩
abbrev T23 : TI := ⟨32, 32, some (u8s (List.replicate 32 0)), .array 32 5, true⟩
theorem y23 : tiOf Try.prog 23 = some T23 := by kernel_rfl
instance : TiOf Try.prog 23 T23 := ⟨y23⟩
abbrev T24 : TI := ⟨1, 8, some ([c64 0]), .int .u64, true⟩
theorem y24 : tiOf Try.prog 24 = some T24 := by kernel_rfl
instance : TiOf Try.prog 24 T24 := ⟨y24⟩
abbrev T25 : TI := ⟨1, 24, some ([.nils]), .slice 5, true⟩
theorem y25 : tiOf Try.prog 25 = some T25 := by kernel_rfl
instance : TiOf Try.prog 25 T25 := ⟨y25⟩
abbrev T27 : TI := ⟨12, 12, some (u8s (List.replicate 12 0)), .array 12 5, true⟩
theorem y27 : tiOf Try.prog 27 = some T27 := by kernel_rfl
instance : TiOf Try.prog 27 T27 := ⟨y27⟩
abbrev T30 : TI := ⟨1, 8, some ([cn 0]), .int .i64, true⟩
theorem y30 : tiOf Try.prog 30 = some T30 := by kernel_rfl
instance : TiOf Try.prog 30 T30 := ⟨y30⟩
abbrev T40 : TI := ⟨1, 4, some ([c32 0]), .int .u32, true⟩
theorem y40 : tiOf Try.prog 40 = some T40 := by kernel_rfl
instance : TiOf Try.prog 40 T40 := ⟨y40⟩
abbrev T41 : TI := ⟨16, 16, some (u8s (List.replicate 16 0)), .array 16 5, true⟩
theorem y41 : tiOf Try.prog 41 = some T41 := by kernel_rfl
instance : TiOf Try.prog 41 T41 := ⟨y41⟩
abbrev T44 : TI := ⟨1, 8, some ([c64 0]), .int .u64, true⟩
theorem y44 : tiOf Try.prog 44 = some T44 := by kernel_rfl
instance : TiOf Try.prog 44 T44 := ⟨y44⟩
abbrev T46 : TI := ⟨64, 64, some (u8s (List.replicate 64 0)), .array 64 5, true⟩
theorem y46 : tiOf Try.prog 46 = some T46 := by kernel_rfl
instance : TiOf Try.prog 46 T46 := ⟨y46⟩
abbrev T52 : TI := ⟨16, 64, some (u32s (List.replicate 16 0)), .array 16 40, true⟩
theorem y52 : tiOf Try.prog 52 = some T52 := by kernel_rfl
instance : TiOf Try.prog 52 T52 := ⟨y52⟩
abbrev T54 : TI := ⟨2, 16, some (i64s (List.replicate 2 0)), .array 2 3, true⟩
theorem y54 : tiOf Try.prog 54 = some T54 := by kernel_rfl
instance : TiOf Try.prog 54 T54 := ⟨y54⟩
abbrev T55 : TI := ⟨4, 32, some (i64s (List.replicate 4 0)), .array 2 54, true⟩
theorem y55 : tiOf Try.prog 55 = some T55 := by kernel_rfl
instance : TiOf Try.prog 55 T55 := ⟨y55⟩
abbrev T58 : TI := ⟨1, 24, some ([.nils]), .slice 25, true⟩
theorem y58 : tiOf Try.prog 58 = some T58 := by kernel_rfl
instance : TiOf Try.prog 58 T58 := ⟨y58⟩
abbrev T60 : TI := ⟨2, 16, some (u64s (List.replicate 2 0)), .array 2 24, true⟩
theorem y60 : tiOf Try.prog 60 = some T60 := by kernel_rfl
instance : TiOf Try.prog 60 T60 := ⟨y60⟩
abbrev T61 : TI := ⟨3, 24, some (u64s (List.replicate 3 0)), .array 3 24, true⟩
theorem y61 : tiOf Try.prog 61 = some T61 := by kernel_rfl
instance : TiOf Try.prog 61 T61 := ⟨y61⟩
abbrev T62 : TI := ⟨24, 24, some (u8s (List.replicate 24 0)), .array 24 5, true⟩
theorem y62 : tiOf Try.prog 62 = some T62 := by kernel_rfl
instance : TiOf Try.prog 62 T62 := ⟨y62⟩
abbrev T68 : TI := ⟨16, 128, some (u64s (List.replicate 16 0)), .array 16 24, true⟩
theorem y68 : tiOf Try.prog 68 = some T68 := by kernel_rfl
instance : TiOf Try.prog 68 T68 := ⟨y68⟩
abbrev T70 : TI := ⟨17, 136, some (u64s (List.replicate 17 0)), .array 17 24, true⟩
theorem y70 : tiOf Try.prog 70 = some T70 := by kernel_rfl
instance : TiOf Try.prog 70 T70 := ⟨y70⟩
abbrev T71 : TI := ⟨34, 272, some (u64s (List.replicate 34 0)), .array 34 24, true⟩
theorem y71 : tiOf Try.prog 71 = some T71 := by kernel_rfl
instance : TiOf Try.prog 71 T71 := ⟨y71⟩
abbrev T73 : TI := ⟨5, 40, some (u64s (List.replicate 5 0)), .array 5 24, true⟩
theorem y73 : tiOf Try.prog 73 = some T73 := by kernel_rfl
instance : TiOf Try.prog 73 T73 := ⟨y73⟩
instance : ZT Try.prog 3 T3 ([cn 0]) := ⟨y3, rfl⟩
instance : ZT Try.prog 5 T5 ([c8 0]) := ⟨y5, rfl⟩
instance : ZT Try.prog 9 T9 ([.str ⟨#[]⟩]) := ⟨y9, rfl⟩
instance : ZT Try.prog 23 T23 (u8s (List.replicate 32 0)) := ⟨y23, rfl⟩
instance : ZT Try.prog 24 T24 ([c64 0]) := ⟨y24, rfl⟩
instance : ZT Try.prog 25 T25 ([.nils]) := ⟨y25, rfl⟩
instance : ZT Try.prog 27 T27 (u8s (List.replicate 12 0)) := ⟨y27, rfl⟩
instance : ZT Try.prog 30 T30 ([cn 0]) := ⟨y30, rfl⟩
instance : ZT Try.prog 40 T40 ([c32 0]) := ⟨y40, rfl⟩
instance : ZT Try.prog 41 T41 (u8s (List.replicate 16 0)) := ⟨y41, rfl⟩
instance : ZT Try.prog 44 T44 ([c64 0]) := ⟨y44, rfl⟩
instance : ZT Try.prog 46 T46 (u8s (List.replicate 64 0)) := ⟨y46, rfl⟩
instance : ZT Try.prog 52 T52 (u32s (List.replicate 16 0)) := ⟨y52, rfl⟩
instance : ZT Try.prog 54 T54 (i64s (List.replicate 2 0)) := ⟨y54, rfl⟩
instance : ZT Try.prog 55 T55 (i64s (List.replicate 4 0)) := ⟨y55, rfl⟩
instance : ZT Try.prog 58 T58 ([.nils]) := ⟨y58, rfl⟩
instance : ZT Try.prog 60 T60 (u64s (List.replicate 2 0)) := ⟨y60, rfl⟩
instance : ZT Try.prog 61 T61 (u64s (List.replicate 3 0)) := ⟨y61, rfl⟩
instance : ZT Try.prog 62 T62 (u8s (List.replicate 24 0)) := ⟨y62, rfl⟩
instance : ZT Try.prog 68 T68 (u64s (List.replicate 16 0)) := ⟨y68, rfl⟩
instance : ZT Try.prog 70 T70 (u64s (List.replicate 17 0)) := ⟨y70, rfl⟩
instance : ZT Try.prog 71 T71 (u64s (List.replicate 34 0)) := ⟨y71, rfl⟩
instance : ZT Try.prog 73 T73 (u64s (List.replicate 5 0)) := ⟨y73, rfl⟩
instance : ArT Try.prog 23 T23 32 5 T5 1 := ⟨y23, rfl, y5, rfl⟩
instance : SlT Try.prog 25 T25 5 T5 1 := ⟨y25, rfl, y5, rfl⟩
instance : ArT Try.prog 27 T27 12 5 T5 1 := ⟨y27, rfl, y5, rfl⟩
instance : ArT Try.prog 41 T41 16 5 T5 1 := ⟨y41, rfl, y5, rfl⟩
instance : ArT Try.prog 46 T46 64 5 T5 1 := ⟨y46, rfl, y5, rfl⟩
instance : ArT Try.prog 52 T52 16 40 T40 1 := ⟨y52, rfl, y40, rfl⟩
instance : ArT Try.prog 54 T54 2 3 T3 1 := ⟨y54, rfl, y3, rfl⟩
instance : ArT Try.prog 55 T55 2 54 T54 2 := ⟨y55, rfl, y54, rfl⟩
instance : SlT Try.prog 58 T58 25 T25 1 := ⟨y58, rfl, y25, rfl⟩
instance : ArT Try.prog 60 T60 2 24 T24 1 := ⟨y60, rfl, y24, rfl⟩
instance : ArT Try.prog 61 T61 3 24 T24 1 := ⟨y61, rfl, y24, rfl⟩
instance : ArT Try.prog 62 T62 24 5 T5 1 := ⟨y62, rfl, y5, rfl⟩
instance : ArT Try.prog 68 T68 16 24 T24 1 := ⟨y68, rfl, y24, rfl⟩
instance : ArT Try.prog 70 T70 17 24 T24 1 := ⟨y70, rfl, y24, rfl⟩
instance : ArT Try.prog 71 T71 34 24 T24 1 := ⟨y71, rfl, y24, rfl⟩
instance : ArT Try.prog 73 T73 5 24 T24 1 := ⟨y73, rfl, y24, rfl⟩
instance : AddX Try.prog 30 := ⟨fun x y c hc => add_ext (fn := Try.f30) (by kernel_rfl) (by kernel_rfl) (by kernel_rfl) (by kernel_rfl) (by kernel_rfl) x y c hc⟩
instance : SubX Try.prog 35 := ⟨fun x y c hc => sub_ext (fn := Try.f35) (by kernel_rfl) (by kernel_rfl) (by kernel_rfl) (by kernel_rfl) (by kernel_rfl) x y c hc⟩
end Go.Proofs.Ytcihpgdmldkjfaa
