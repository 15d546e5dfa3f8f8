/- The types of the program, as the abstract machine asks for them. -/
import Derived.Test.YtngmhcgenknokaaProg
import Derived.Test.YtngmhcgenknokaaAbsZb
import Derived.KernelRfl
namespace Go.Proofs.Ytngmhcgenknokaa
open Go Go.Abs Go.Proofs

abbrev T3 : TI := ⟨1, 8, some ([cn 0]), .int .i64, true⟩
theorem y3 : tiOf Try.prog 3 = some T3 := by kernel_rfl
instance : TiOf Try.prog 3 T3 := ⟨y3⟩
abbrev T5 : TI := ⟨1, 1, some ([c8 0]), .int .u8, true⟩
theorem y5 : tiOf Try.prog 5 = some T5 := by kernel_rfl
instance : TiOf Try.prog 5 T5 := ⟨y5⟩
abbrev T9 : TI := ⟨1, 16, some ([.str ⟨#[]⟩]), .str, true⟩
theorem y9 : tiOf Try.prog 9 = some T9 := by kernel_rfl
instance : TiOf Try.prog 9 T9 := ⟨y9⟩
abbrev T22 : TI := ⟨1, 24, some ([.nils]), .slice 5, true⟩
theorem y22 : tiOf Try.prog 22 = some T22 := by kernel_rfl
instance : TiOf Try.prog 22 T22 := ⟨y22⟩
abbrev T25 : TI := ⟨32, 32, some (u8s (List.replicate 32 0)), .array 32 5, true⟩
theorem y25 : tiOf Try.prog 25 = some T25 := by kernel_rfl
instance : TiOf Try.prog 25 T25 := ⟨y25⟩
abbrev T30 : TI := ⟨1, 24, some ([.nils]), .slice 25, true⟩
theorem y30 : tiOf Try.prog 30 = some T30 := by kernel_rfl
instance : TiOf Try.prog 30 T30 := ⟨y30⟩
abbrev T39 : TI := ⟨64, 64, some (u8s (List.replicate 64 0)), .array 64 5, true⟩
theorem y39 : tiOf Try.prog 39 = some T39 := by kernel_rfl
instance : TiOf Try.prog 39 T39 := ⟨y39⟩
abbrev T40 : TI := ⟨1, 24, some ([.nils]), .slice 22, true⟩
theorem y40 : tiOf Try.prog 40 = some T40 := by kernel_rfl
instance : TiOf Try.prog 40 T40 := ⟨y40⟩
abbrev T42 : TI := ⟨1, 4, some ([c32 0]), .int .u32, true⟩
theorem y42 : tiOf Try.prog 42 = some T42 := by kernel_rfl
instance : TiOf Try.prog 42 T42 := ⟨y42⟩
abbrev T43 : TI := ⟨8, 32, some (u32s (List.replicate 8 0)), .array 8 42, true⟩
theorem y43 : tiOf Try.prog 43 = some T43 := by kernel_rfl
instance : TiOf Try.prog 43 T43 := ⟨y43⟩
abbrev T45 : TI := ⟨1, 24, some ([.nils]), .slice 47, true⟩
theorem y45 : tiOf Try.prog 45 = some T45 := by kernel_rfl
instance : TiOf Try.prog 45 T45 := ⟨y45⟩
abbrev T47 : TI := ⟨1, 24, some ([.nils]), .slice 3, true⟩
theorem y47 : tiOf Try.prog 47 = some T47 := by kernel_rfl
instance : TiOf Try.prog 47 T47 := ⟨y47⟩
abbrev T48 : TI := ⟨16, 64, some (u32s (List.replicate 16 0)), .array 16 42, true⟩
theorem y48 : tiOf Try.prog 48 = some T48 := by kernel_rfl
instance : TiOf Try.prog 48 T48 := ⟨y48⟩
abbrev T49 : TI := ⟨1, 8, some ([c64 0]), .int .u64, true⟩
theorem y49 : tiOf Try.prog 49 = some T49 := by kernel_rfl
instance : TiOf Try.prog 49 T49 := ⟨y49⟩
abbrev T50 : TI := ⟨1, 8, some ([c64 0]), .int .u64, true⟩
theorem y50 : tiOf Try.prog 50 = some T50 := by kernel_rfl
instance : TiOf Try.prog 50 T50 := ⟨y50⟩
abbrev T53 : TI := ⟨16, 128, some (i64s (List.replicate 16 0)), .array 16 3, true⟩
theorem y53 : tiOf Try.prog 53 = some T53 := by kernel_rfl
instance : TiOf Try.prog 53 T53 := ⟨y53⟩
abbrev T54 : TI := ⟨160, 1280, some (i64s (List.replicate 160 0)), .array 10 53, true⟩
theorem y54 : tiOf Try.prog 54 = some T54 := by kernel_rfl
instance : TiOf Try.prog 54 T54 := ⟨y54⟩
abbrev T58 : TI := ⟨1, 24, some ([.nils]), .slice 49, true⟩
theorem y58 : tiOf Try.prog 58 = some T58 := by kernel_rfl
instance : TiOf Try.prog 58 T58 := ⟨y58⟩
abbrev T61 : TI := ⟨1, 24, some ([.nils]), .slice 42, true⟩
theorem y61 : tiOf Try.prog 61 = some T61 := by kernel_rfl
instance : TiOf Try.prog 61 T61 := ⟨y61⟩
instance : ZT Try.prog 3 T3 ([cn 0]) := ⟨y3, rfl⟩
instance : ZT Try.prog 5 T5 ([c8 0]) := ⟨y5, rfl⟩
instance : ZT Try.prog 9 T9 ([.str ⟨#[]⟩]) := ⟨y9, rfl⟩
instance : ZT Try.prog 22 T22 ([.nils]) := ⟨y22, rfl⟩
instance : ZT Try.prog 25 T25 (u8s (List.replicate 32 0)) := ⟨y25, rfl⟩
instance : ZT Try.prog 30 T30 ([.nils]) := ⟨y30, rfl⟩
instance : ZT Try.prog 39 T39 (u8s (List.replicate 64 0)) := ⟨y39, rfl⟩
instance : ZT Try.prog 40 T40 ([.nils]) := ⟨y40, rfl⟩
instance : ZT Try.prog 42 T42 ([c32 0]) := ⟨y42, rfl⟩
instance : ZT Try.prog 43 T43 (u32s (List.replicate 8 0)) := ⟨y43, rfl⟩
instance : ZT Try.prog 45 T45 ([.nils]) := ⟨y45, rfl⟩
instance : ZT Try.prog 47 T47 ([.nils]) := ⟨y47, rfl⟩
instance : ZT Try.prog 48 T48 (u32s (List.replicate 16 0)) := ⟨y48, rfl⟩
instance : ZT Try.prog 49 T49 ([c64 0]) := ⟨y49, rfl⟩
instance : ZT Try.prog 50 T50 ([c64 0]) := ⟨y50, rfl⟩
instance : ZT Try.prog 53 T53 (i64s (List.replicate 16 0)) := ⟨y53, rfl⟩
instance : ZT Try.prog 54 T54 (i64s (List.replicate 160 0)) := ⟨y54, rfl⟩
instance : ZT Try.prog 58 T58 ([.nils]) := ⟨y58, rfl⟩
instance : ZT Try.prog 61 T61 ([.nils]) := ⟨y61, rfl⟩
instance : SlT Try.prog 22 T22 5 T5 1 := ⟨y22, rfl, y5, rfl⟩
instance : ArT Try.prog 25 T25 32 5 T5 1 := ⟨y25, rfl, y5, rfl⟩
instance : SlT Try.prog 30 T30 25 T25 32 := ⟨y30, rfl, y25, rfl⟩
instance : ArT Try.prog 39 T39 64 5 T5 1 := ⟨y39, rfl, y5, rfl⟩
instance : SlT Try.prog 40 T40 22 T22 1 := ⟨y40, rfl, y22, rfl⟩
instance : ArT Try.prog 43 T43 8 42 T42 1 := ⟨y43, rfl, y42, rfl⟩
instance : SlT Try.prog 45 T45 47 T47 1 := ⟨y45, rfl, y47, rfl⟩
instance : SlT Try.prog 47 T47 3 T3 1 := ⟨y47, rfl, y3, rfl⟩
instance : ArT Try.prog 48 T48 16 42 T42 1 := ⟨y48, rfl, y42, rfl⟩
instance : ArT Try.prog 53 T53 16 3 T3 1 := ⟨y53, rfl, y3, rfl⟩
instance : ArT Try.prog 54 T54 10 53 T53 16 := ⟨y54, rfl, y53, rfl⟩
instance : SlT Try.prog 58 T58 49 T49 1 := ⟨y58, rfl, y49, rfl⟩
instance : SlT Try.prog 61 T61 42 T42 1 := ⟨y61, rfl, y42, rfl⟩
end Go.Proofs.Ytngmhcgenknokaa
