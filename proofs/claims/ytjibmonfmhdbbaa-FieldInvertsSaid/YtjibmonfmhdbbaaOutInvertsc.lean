/- Texts that the proof stands on, put together: the abstract machine, and what functions do over it. -/
import Derived.Test.YtjibmonfmhdbbaaOutInvertsb
import Derived.Test.YtjibmonfmhdbbaaProg
import Derived.KernelRfl
/- The types of the program, as the abstract machine asks for them. -/
namespace Go.Proofs.Ytjibmonfmhdbbaa
open Go Go.Abs Go.Proofs

abbrev T1 : TI := ⟨1, 8, some ([.nilf]), .func, true⟩
theorem y1 : tiOf Try.prog 1 = some T1 := by kernel_rfl
instance : TiOf Try.prog 1 T1 := ⟨y1⟩
abbrev T2 : TI := ⟨1, 8, some ([cn 0]), .int .i64, true⟩
theorem y2 : tiOf Try.prog 2 = some T2 := by kernel_rfl
instance : TiOf Try.prog 2 T2 := ⟨y2⟩
abbrev T3 : TI := ⟨1, 8, some ([cn 0]), .int .i64, true⟩
theorem y3 : tiOf Try.prog 3 = some T3 := by kernel_rfl
instance : TiOf Try.prog 3 T3 := ⟨y3⟩
abbrev T4 : TI := ⟨1, 1, some ([.bool false]), .bool, true⟩
theorem y4 : tiOf Try.prog 4 = some T4 := by kernel_rfl
instance : TiOf Try.prog 4 T4 := ⟨y4⟩
abbrev T5 : TI := ⟨1, 1, some ([c8 0]), .int .u8, true⟩
theorem y5 : tiOf Try.prog 5 = some T5 := by kernel_rfl
instance : TiOf Try.prog 5 T5 := ⟨y5⟩
abbrev T6 : TI := ⟨1, 1, some ([c8 0]), .int .u8, true⟩
theorem y6 : tiOf Try.prog 6 = some T6 := by kernel_rfl
instance : TiOf Try.prog 6 T6 := ⟨y6⟩
abbrev T7 : TI := ⟨4, 24, some ([cn 0, cn 0, .bool false, c8 0]), .struct [(0, 2), (1, 3), (2, 4), (3, 6)], true⟩
theorem y7 : tiOf Try.prog 7 = some T7 := by kernel_rfl
instance : TiOf Try.prog 7 T7 := ⟨y7⟩
abbrev T8 : TI := ⟨4, 24, some ([cn 0, cn 0, .bool false, c8 0]), .struct [(0, 2), (1, 3), (2, 4), (3, 6)], true⟩
theorem y8 : tiOf Try.prog 8 = some T8 := by kernel_rfl
instance : TiOf Try.prog 8 T8 := ⟨y8⟩
abbrev T9 : TI := ⟨1, 16, some ([.str ⟨#[]⟩]), .str, true⟩
theorem y9 : tiOf Try.prog 9 = some T9 := by kernel_rfl
instance : TiOf Try.prog 9 T9 := ⟨y9⟩
abbrev T10 : TI := ⟨1, 16, some ([.str ⟨#[]⟩]), .str, true⟩
theorem y10 : tiOf Try.prog 10 = some T10 := by kernel_rfl
instance : TiOf Try.prog 10 T10 := ⟨y10⟩
abbrev T11 : TI := ⟨1, 16, some ([.str ⟨#[]⟩]), .str, true⟩
theorem y11 : tiOf Try.prog 11 = some T11 := by kernel_rfl
instance : TiOf Try.prog 11 T11 := ⟨y11⟩
abbrev T12 : TI := ⟨1, 8, some ([c64 0]), .int .u64, true⟩
theorem y12 : tiOf Try.prog 12 = some T12 := by kernel_rfl
instance : TiOf Try.prog 12 T12 := ⟨y12⟩
abbrev T13 : TI := ⟨2, 24, some ([.str ⟨#[]⟩, c64 0]), .struct [(0, 9), (1, 12)], true⟩
theorem y13 : tiOf Try.prog 13 = some T13 := by kernel_rfl
instance : TiOf Try.prog 13 T13 := ⟨y13⟩
abbrev T14 : TI := ⟨2, 24, some ([.str ⟨#[]⟩, c64 0]), .struct [(0, 9), (1, 12)], true⟩
theorem y14 : tiOf Try.prog 14 = some T14 := by kernel_rfl
instance : TiOf Try.prog 14 T14 := ⟨y14⟩
abbrev T15 : TI := ⟨1, 8, some ([.nilp]), .ptr 74, true⟩
theorem y15 : tiOf Try.prog 15 = some T15 := by kernel_rfl
instance : TiOf Try.prog 15 T15 := ⟨y15⟩
abbrev T16 : TI := ⟨1, 8, some ([.nilp]), .ptr 77, true⟩
theorem y16 : tiOf Try.prog 16 = some T16 := by kernel_rfl
instance : TiOf Try.prog 16 T16 := ⟨y16⟩
abbrev T17 : TI := ⟨1, 8, some ([.nilp]), .ptr 87, true⟩
theorem y17 : tiOf Try.prog 17 = some T17 := by kernel_rfl
instance : TiOf Try.prog 17 T17 := ⟨y17⟩
abbrev T18 : TI := ⟨1, 8, some ([.nilp]), .struct [(0, 17)], true⟩
theorem y18 : tiOf Try.prog 18 = some T18 := by kernel_rfl
instance : TiOf Try.prog 18 T18 := ⟨y18⟩
abbrev T19 : TI := ⟨1, 8, some ([.nilp]), .struct [(0, 17)], true⟩
theorem y19 : tiOf Try.prog 19 = some T19 := by kernel_rfl
instance : TiOf Try.prog 19 T19 := ⟨y19⟩
abbrev T21 : TI := ⟨1, 4, some ([.int .i32 0]), .int .i32, true⟩
theorem y21 : tiOf Try.prog 21 = some T21 := by kernel_rfl
instance : TiOf Try.prog 21 T21 := ⟨y21⟩
abbrev T22 : TI := ⟨32, 32, some (u8s (List.replicate 32 0)), .array 32 5, true⟩
theorem y22 : tiOf Try.prog 22 = some T22 := by kernel_rfl
instance : TiOf Try.prog 22 T22 := ⟨y22⟩
abbrev T23 : TI := ⟨32, 32, some (u8s (List.replicate 32 0)), .array 32 5, true⟩
theorem y23 : tiOf Try.prog 23 = some T23 := by kernel_rfl
instance : TiOf Try.prog 23 T23 := ⟨y23⟩
abbrev T24 : TI := ⟨1, 8, some ([c64 0]), .int .u64, true⟩
theorem y24 : tiOf Try.prog 24 = some T24 := by kernel_rfl
instance : TiOf Try.prog 24 T24 := ⟨y24⟩
abbrev T25 : TI := ⟨4, 32, some (u64s (List.replicate 4 0)), .array 4 24, true⟩
theorem y25 : tiOf Try.prog 25 = some T25 := by kernel_rfl
instance : TiOf Try.prog 25 T25 := ⟨y25⟩
abbrev T26 : TI := ⟨4, 32, some (u64s (List.replicate 4 0)), .struct [(0, 25)], true⟩
theorem y26 : tiOf Try.prog 26 = some T26 := by kernel_rfl
instance : TiOf Try.prog 26 T26 := ⟨y26⟩
abbrev T27 : TI := ⟨4, 32, some (u64s (List.replicate 4 0)), .struct [(0, 25)], true⟩
theorem y27 : tiOf Try.prog 27 = some T27 := by kernel_rfl
instance : TiOf Try.prog 27 T27 := ⟨y27⟩
abbrev T28 : TI := ⟨1, 8, some ([.nilf]), .func, true⟩
theorem y28 : tiOf Try.prog 28 = some T28 := by kernel_rfl
instance : TiOf Try.prog 28 T28 := ⟨y28⟩
abbrev T29 : TI := ⟨16, 128, some (u64s (List.replicate 16 0)), .array 16 24, true⟩
theorem y29 : tiOf Try.prog 29 = some T29 := by kernel_rfl
instance : TiOf Try.prog 29 T29 := ⟨y29⟩
abbrev T30 : TI := ⟨16, 128, some (u64s (List.replicate 16 0)), .array 16 24, true⟩
theorem y30 : tiOf Try.prog 30 = some T30 := by kernel_rfl
instance : TiOf Try.prog 30 T30 := ⟨y30⟩
abbrev T31 : TI := ⟨1, 8, some ([.nilf]), .func, true⟩
theorem y31 : tiOf Try.prog 31 = some T31 := by kernel_rfl
instance : TiOf Try.prog 31 T31 := ⟨y31⟩
abbrev T32 : TI := ⟨1, 8, some ([.nilf]), .func, true⟩
theorem y32 : tiOf Try.prog 32 = some T32 := by kernel_rfl
instance : TiOf Try.prog 32 T32 := ⟨y32⟩
abbrev T33 : TI := ⟨1, 8, some ([.nilf]), .func, true⟩
theorem y33 : tiOf Try.prog 33 = some T33 := by kernel_rfl
instance : TiOf Try.prog 33 T33 := ⟨y33⟩
abbrev T34 : TI := ⟨1, 8, some ([.nilf]), .func, true⟩
theorem y34 : tiOf Try.prog 34 = some T34 := by kernel_rfl
instance : TiOf Try.prog 34 T34 := ⟨y34⟩
abbrev T35 : TI := ⟨1, 8, some ([.nilf]), .func, true⟩
theorem y35 : tiOf Try.prog 35 = some T35 := by kernel_rfl
instance : TiOf Try.prog 35 T35 := ⟨y35⟩
abbrev T36 : TI := ⟨1, 8, some ([.nilf]), .func, true⟩
theorem y36 : tiOf Try.prog 36 = some T36 := by kernel_rfl
instance : TiOf Try.prog 36 T36 := ⟨y36⟩
abbrev T37 : TI := ⟨1, 8, some ([.nilf]), .func, true⟩
theorem y37 : tiOf Try.prog 37 = some T37 := by kernel_rfl
instance : TiOf Try.prog 37 T37 := ⟨y37⟩
abbrev T38 : TI := ⟨1, 8, some ([.nilf]), .func, true⟩
theorem y38 : tiOf Try.prog 38 = some T38 := by kernel_rfl
instance : TiOf Try.prog 38 T38 := ⟨y38⟩
abbrev T39 : TI := ⟨1, 8, some ([.nilf]), .func, true⟩
theorem y39 : tiOf Try.prog 39 = some T39 := by kernel_rfl
instance : TiOf Try.prog 39 T39 := ⟨y39⟩
abbrev T40 : TI := ⟨1, 8, some ([.nilf]), .func, true⟩
theorem y40 : tiOf Try.prog 40 = some T40 := by kernel_rfl
instance : TiOf Try.prog 40 T40 := ⟨y40⟩
abbrev T41 : TI := ⟨1, 8, some ([.nilf]), .func, true⟩
theorem y41 : tiOf Try.prog 41 = some T41 := by kernel_rfl
instance : TiOf Try.prog 41 T41 := ⟨y41⟩
abbrev T42 : TI := ⟨1, 8, some ([.nilf]), .func, true⟩
theorem y42 : tiOf Try.prog 42 = some T42 := by kernel_rfl
instance : TiOf Try.prog 42 T42 := ⟨y42⟩
abbrev T43 : TI := ⟨1, 8, some ([.nilf]), .func, true⟩
theorem y43 : tiOf Try.prog 43 = some T43 := by kernel_rfl
instance : TiOf Try.prog 43 T43 := ⟨y43⟩
abbrev T44 : TI := ⟨1, 8, some ([.nilf]), .func, true⟩
theorem y44 : tiOf Try.prog 44 = some T44 := by kernel_rfl
instance : TiOf Try.prog 44 T44 := ⟨y44⟩
abbrev T45 : TI := ⟨1, 8, some ([.nilf]), .func, true⟩
theorem y45 : tiOf Try.prog 45 = some T45 := by kernel_rfl
instance : TiOf Try.prog 45 T45 := ⟨y45⟩
abbrev T46 : TI := ⟨1, 8, some ([.nilf]), .func, true⟩
theorem y46 : tiOf Try.prog 46 = some T46 := by kernel_rfl
instance : TiOf Try.prog 46 T46 := ⟨y46⟩
abbrev T47 : TI := ⟨1, 8, some ([.nilf]), .func, true⟩
theorem y47 : tiOf Try.prog 47 = some T47 := by kernel_rfl
instance : TiOf Try.prog 47 T47 := ⟨y47⟩
abbrev T49 : TI := ⟨1, 8, some ([.nilf]), .func, true⟩
theorem y49 : tiOf Try.prog 49 = some T49 := by kernel_rfl
instance : TiOf Try.prog 49 T49 := ⟨y49⟩
abbrev T50 : TI := ⟨1, 8, some ([.nilf]), .func, true⟩
theorem y50 : tiOf Try.prog 50 = some T50 := by kernel_rfl
instance : TiOf Try.prog 50 T50 := ⟨y50⟩
abbrev T51 : TI := ⟨1, 8, some ([.nilf]), .func, true⟩
theorem y51 : tiOf Try.prog 51 = some T51 := by kernel_rfl
instance : TiOf Try.prog 51 T51 := ⟨y51⟩
abbrev T52 : TI := ⟨1, 8, some ([.nilf]), .func, true⟩
theorem y52 : tiOf Try.prog 52 = some T52 := by kernel_rfl
instance : TiOf Try.prog 52 T52 := ⟨y52⟩
abbrev T54 : TI := ⟨1, 8, some ([.nilf]), .func, true⟩
theorem y54 : tiOf Try.prog 54 = some T54 := by kernel_rfl
instance : TiOf Try.prog 54 T54 := ⟨y54⟩
abbrev T56 : TI := ⟨1, 8, some ([.nilf]), .func, true⟩
theorem y56 : tiOf Try.prog 56 = some T56 := by kernel_rfl
instance : TiOf Try.prog 56 T56 := ⟨y56⟩
abbrev T57 : TI := ⟨1, 8, some ([.nilf]), .func, true⟩
theorem y57 : tiOf Try.prog 57 = some T57 := by kernel_rfl
instance : TiOf Try.prog 57 T57 := ⟨y57⟩
abbrev T58 : TI := ⟨1, 8, some ([.nilf]), .func, true⟩
theorem y58 : tiOf Try.prog 58 = some T58 := by kernel_rfl
instance : TiOf Try.prog 58 T58 := ⟨y58⟩
abbrev T60 : TI := ⟨1, 8, some ([.nilf]), .func, true⟩
theorem y60 : tiOf Try.prog 60 = some T60 := by kernel_rfl
instance : TiOf Try.prog 60 T60 := ⟨y60⟩
abbrev T61 : TI := ⟨1, 24, some ([.nils]), .slice 24, true⟩
theorem y61 : tiOf Try.prog 61 = some T61 := by kernel_rfl
instance : TiOf Try.prog 61 T61 := ⟨y61⟩
abbrev T62 : TI := ⟨1, 8, some ([.nilf]), .func, true⟩
theorem y62 : tiOf Try.prog 62 = some T62 := by kernel_rfl
instance : TiOf Try.prog 62 T62 := ⟨y62⟩
abbrev T63 : TI := ⟨8, 64, some (u64s (List.replicate 8 0)), .array 8 24, true⟩
theorem y63 : tiOf Try.prog 63 = some T63 := by kernel_rfl
instance : TiOf Try.prog 63 T63 := ⟨y63⟩
abbrev T64 : TI := ⟨1, 8, some ([.nilf]), .func, true⟩
theorem y64 : tiOf Try.prog 64 = some T64 := by kernel_rfl
instance : TiOf Try.prog 64 T64 := ⟨y64⟩
abbrev T65 : TI := ⟨1, 8, some ([.nilf]), .func, true⟩
theorem y65 : tiOf Try.prog 65 = some T65 := by kernel_rfl
instance : TiOf Try.prog 65 T65 := ⟨y65⟩
abbrev T66 : TI := ⟨1, 8, some ([.nilf]), .func, true⟩
theorem y66 : tiOf Try.prog 66 = some T66 := by kernel_rfl
instance : TiOf Try.prog 66 T66 := ⟨y66⟩
abbrev T67 : TI := ⟨1, 8, some ([.nilf]), .func, true⟩
theorem y67 : tiOf Try.prog 67 = some T67 := by kernel_rfl
instance : TiOf Try.prog 67 T67 := ⟨y67⟩
abbrev T68 : TI := ⟨1, 8, some ([.nilf]), .func, true⟩
theorem y68 : tiOf Try.prog 68 = some T68 := by kernel_rfl
instance : TiOf Try.prog 68 T68 := ⟨y68⟩
abbrev T69 : TI := ⟨1, 8, some ([.nilf]), .func, true⟩
theorem y69 : tiOf Try.prog 69 = some T69 := by kernel_rfl
instance : TiOf Try.prog 69 T69 := ⟨y69⟩
abbrev T70 : TI := ⟨1, 8, some ([.nilf]), .func, true⟩
theorem y70 : tiOf Try.prog 70 = some T70 := by kernel_rfl
instance : TiOf Try.prog 70 T70 := ⟨y70⟩
abbrev T71 : TI := ⟨1, 8, some ([c64 0]), .int .u64, true⟩
theorem y71 : tiOf Try.prog 71 = some T71 := by kernel_rfl
instance : TiOf Try.prog 71 T71 := ⟨y71⟩
abbrev T72 : TI := ⟨1, 8, some ([.nilf]), .func, true⟩
theorem y72 : tiOf Try.prog 72 = some T72 := by kernel_rfl
instance : TiOf Try.prog 72 T72 := ⟨y72⟩
abbrev T73 : TI := ⟨4, 40, some ([.nilp, .nilp, .nilp, .str ⟨#[]⟩]), .struct [(0, 17), (1, 17), (2, 17), (3, 9)], true⟩
theorem y73 : tiOf Try.prog 73 = some T73 := by kernel_rfl
instance : TiOf Try.prog 73 T73 := ⟨y73⟩
abbrev T74 : TI := ⟨4, 40, some ([.nilp, .nilp, .nilp, .str ⟨#[]⟩]), .struct [(0, 17), (1, 17), (2, 17), (3, 9)], true⟩
theorem y74 : tiOf Try.prog 74 = some T74 := by kernel_rfl
instance : TiOf Try.prog 74 T74 := ⟨y74⟩
abbrev T75 : TI := ⟨0, 0, some ([]), .array 0 16, true⟩
theorem y75 : tiOf Try.prog 75 = some T75 := by kernel_rfl
instance : TiOf Try.prog 75 T75 := ⟨y75⟩
abbrev T76 : TI := ⟨0, 0, some ([]), .struct [(0, 75)], true⟩
theorem y76 : tiOf Try.prog 76 = some T76 := by kernel_rfl
instance : TiOf Try.prog 76 T76 := ⟨y76⟩
abbrev T77 : TI := ⟨0, 0, some ([]), .struct [(0, 75)], true⟩
theorem y77 : tiOf Try.prog 77 = some T77 := by kernel_rfl
instance : TiOf Try.prog 77 T77 := ⟨y77⟩
abbrev T78 : TI := ⟨1, 8, some ([.nilf]), .func, true⟩
theorem y78 : tiOf Try.prog 78 = some T78 := by kernel_rfl
instance : TiOf Try.prog 78 T78 := ⟨y78⟩
abbrev T79 : TI := ⟨1, 4, some ([c32 0]), .int .u32, true⟩
theorem y79 : tiOf Try.prog 79 = some T79 := by kernel_rfl
instance : TiOf Try.prog 79 T79 := ⟨y79⟩
abbrev T80 : TI := ⟨1, 1, some ([c8 0]), .int .u8, true⟩
theorem y80 : tiOf Try.prog 80 = some T80 := by kernel_rfl
instance : TiOf Try.prog 80 T80 := ⟨y80⟩
abbrev T81 : TI := ⟨1, 1, some ([c8 0]), .int .u8, true⟩
theorem y81 : tiOf Try.prog 81 = some T81 := by kernel_rfl
instance : TiOf Try.prog 81 T81 := ⟨y81⟩
abbrev T82 : TI := ⟨1, 8, some ([.nilf]), .func, true⟩
theorem y82 : tiOf Try.prog 82 = some T82 := by kernel_rfl
instance : TiOf Try.prog 82 T82 := ⟨y82⟩
abbrev T83 : TI := ⟨1, 8, some ([.nilp]), .ptr 5, true⟩
theorem y83 : tiOf Try.prog 83 = some T83 := by kernel_rfl
instance : TiOf Try.prog 83 T83 := ⟨y83⟩
abbrev T84 : TI := ⟨1, 4, some ([.int .i32 0]), .int .i32, true⟩
theorem y84 : tiOf Try.prog 84 = some T84 := by kernel_rfl
instance : TiOf Try.prog 84 T84 := ⟨y84⟩
abbrev T85 : TI := ⟨1, 4, some ([.int .i32 0]), .int .i32, true⟩
theorem y85 : tiOf Try.prog 85 = some T85 := by kernel_rfl
instance : TiOf Try.prog 85 T85 := ⟨y85⟩
abbrev T86 : TI := ⟨11, 48, some ([c64 0, c64 0, c32 0] ++ u8s (List.replicate 4 0) ++ [.nilf, .nilp, .int .i32 0, .int .i32 0]), .struct [(0, 12), (1, 12), (2, 79), (3, 80), (4, 5), (5, 5), (6, 81), (7, 82), (8, 83), (9, 84), (10, 85)], true⟩
theorem y86 : tiOf Try.prog 86 = some T86 := by kernel_rfl
instance : TiOf Try.prog 86 T86 := ⟨y86⟩
abbrev T87 : TI := ⟨11, 48, some ([c64 0, c64 0, c32 0] ++ u8s (List.replicate 4 0) ++ [.nilf, .nilp, .int .i32 0, .int .i32 0]), .struct [(0, 12), (1, 12), (2, 79), (3, 80), (4, 5), (5, 5), (6, 81), (7, 82), (8, 83), (9, 84), (10, 85)], true⟩
theorem y87 : tiOf Try.prog 87 = some T87 := by kernel_rfl
instance : TiOf Try.prog 87 T87 := ⟨y87⟩
instance : ZT Try.prog 1 T1 ([.nilf]) := ⟨y1, rfl⟩
instance : ZT Try.prog 2 T2 ([cn 0]) := ⟨y2, rfl⟩
instance : ZT Try.prog 3 T3 ([cn 0]) := ⟨y3, rfl⟩
instance : ZT Try.prog 4 T4 ([.bool false]) := ⟨y4, rfl⟩
instance : ZT Try.prog 5 T5 ([c8 0]) := ⟨y5, rfl⟩
instance : ZT Try.prog 6 T6 ([c8 0]) := ⟨y6, rfl⟩
instance : ZT Try.prog 7 T7 ([cn 0, cn 0, .bool false, c8 0]) := ⟨y7, rfl⟩
instance : StT Try.prog 7 T7 [(0, 2), (1, 3), (2, 4), (3, 6)] := ⟨y7, rfl⟩
instance : ZT Try.prog 8 T8 ([cn 0, cn 0, .bool false, c8 0]) := ⟨y8, rfl⟩
instance : StT Try.prog 8 T8 [(0, 2), (1, 3), (2, 4), (3, 6)] := ⟨y8, rfl⟩
instance : ZT Try.prog 9 T9 ([.str ⟨#[]⟩]) := ⟨y9, rfl⟩
instance : ZT Try.prog 10 T10 ([.str ⟨#[]⟩]) := ⟨y10, rfl⟩
instance : ZT Try.prog 11 T11 ([.str ⟨#[]⟩]) := ⟨y11, rfl⟩
instance : ZT Try.prog 12 T12 ([c64 0]) := ⟨y12, rfl⟩
instance : ZT Try.prog 13 T13 ([.str ⟨#[]⟩, c64 0]) := ⟨y13, rfl⟩
instance : StT Try.prog 13 T13 [(0, 9), (1, 12)] := ⟨y13, rfl⟩
instance : ZT Try.prog 14 T14 ([.str ⟨#[]⟩, c64 0]) := ⟨y14, rfl⟩
instance : StT Try.prog 14 T14 [(0, 9), (1, 12)] := ⟨y14, rfl⟩
instance : ZT Try.prog 15 T15 ([.nilp]) := ⟨y15, rfl⟩
instance : ZT Try.prog 16 T16 ([.nilp]) := ⟨y16, rfl⟩
instance : ZT Try.prog 17 T17 ([.nilp]) := ⟨y17, rfl⟩
instance : ZT Try.prog 18 T18 ([.nilp]) := ⟨y18, rfl⟩
instance : StT Try.prog 18 T18 [(0, 17)] := ⟨y18, rfl⟩
instance : ZT Try.prog 19 T19 ([.nilp]) := ⟨y19, rfl⟩
instance : StT Try.prog 19 T19 [(0, 17)] := ⟨y19, rfl⟩
instance : ZT Try.prog 21 T21 ([.int .i32 0]) := ⟨y21, rfl⟩
instance : ZT Try.prog 22 T22 (u8s (List.replicate 32 0)) := ⟨y22, rfl⟩
instance : ZT Try.prog 23 T23 (u8s (List.replicate 32 0)) := ⟨y23, rfl⟩
instance : ZT Try.prog 24 T24 ([c64 0]) := ⟨y24, rfl⟩
instance : ZT Try.prog 25 T25 (u64s (List.replicate 4 0)) := ⟨y25, rfl⟩
instance : ZT Try.prog 26 T26 (u64s (List.replicate 4 0)) := ⟨y26, rfl⟩
instance : StT Try.prog 26 T26 [(0, 25)] := ⟨y26, rfl⟩
instance : ZT Try.prog 27 T27 (u64s (List.replicate 4 0)) := ⟨y27, rfl⟩
instance : StT Try.prog 27 T27 [(0, 25)] := ⟨y27, rfl⟩
instance : ZT Try.prog 28 T28 ([.nilf]) := ⟨y28, rfl⟩
instance : ZT Try.prog 29 T29 (u64s (List.replicate 16 0)) := ⟨y29, rfl⟩
instance : ZT Try.prog 30 T30 (u64s (List.replicate 16 0)) := ⟨y30, rfl⟩
instance : ZT Try.prog 31 T31 ([.nilf]) := ⟨y31, rfl⟩
instance : ZT Try.prog 32 T32 ([.nilf]) := ⟨y32, rfl⟩
instance : ZT Try.prog 33 T33 ([.nilf]) := ⟨y33, rfl⟩
instance : ZT Try.prog 34 T34 ([.nilf]) := ⟨y34, rfl⟩
instance : ZT Try.prog 35 T35 ([.nilf]) := ⟨y35, rfl⟩
instance : ZT Try.prog 36 T36 ([.nilf]) := ⟨y36, rfl⟩
instance : ZT Try.prog 37 T37 ([.nilf]) := ⟨y37, rfl⟩
instance : ZT Try.prog 38 T38 ([.nilf]) := ⟨y38, rfl⟩
instance : ZT Try.prog 39 T39 ([.nilf]) := ⟨y39, rfl⟩
instance : ZT Try.prog 40 T40 ([.nilf]) := ⟨y40, rfl⟩
instance : ZT Try.prog 41 T41 ([.nilf]) := ⟨y41, rfl⟩
instance : ZT Try.prog 42 T42 ([.nilf]) := ⟨y42, rfl⟩
instance : ZT Try.prog 43 T43 ([.nilf]) := ⟨y43, rfl⟩
instance : ZT Try.prog 44 T44 ([.nilf]) := ⟨y44, rfl⟩
instance : ZT Try.prog 45 T45 ([.nilf]) := ⟨y45, rfl⟩
instance : ZT Try.prog 46 T46 ([.nilf]) := ⟨y46, rfl⟩
instance : ZT Try.prog 47 T47 ([.nilf]) := ⟨y47, rfl⟩
instance : ZT Try.prog 49 T49 ([.nilf]) := ⟨y49, rfl⟩
instance : ZT Try.prog 50 T50 ([.nilf]) := ⟨y50, rfl⟩
instance : ZT Try.prog 51 T51 ([.nilf]) := ⟨y51, rfl⟩
instance : ZT Try.prog 52 T52 ([.nilf]) := ⟨y52, rfl⟩
instance : ZT Try.prog 54 T54 ([.nilf]) := ⟨y54, rfl⟩
instance : ZT Try.prog 56 T56 ([.nilf]) := ⟨y56, rfl⟩
instance : ZT Try.prog 57 T57 ([.nilf]) := ⟨y57, rfl⟩
instance : ZT Try.prog 58 T58 ([.nilf]) := ⟨y58, rfl⟩
instance : ZT Try.prog 60 T60 ([.nilf]) := ⟨y60, rfl⟩
instance : ZT Try.prog 61 T61 ([.nils]) := ⟨y61, rfl⟩
instance : ZT Try.prog 62 T62 ([.nilf]) := ⟨y62, rfl⟩
instance : ZT Try.prog 63 T63 (u64s (List.replicate 8 0)) := ⟨y63, rfl⟩
instance : ZT Try.prog 64 T64 ([.nilf]) := ⟨y64, rfl⟩
instance : ZT Try.prog 65 T65 ([.nilf]) := ⟨y65, rfl⟩
instance : ZT Try.prog 66 T66 ([.nilf]) := ⟨y66, rfl⟩
instance : ZT Try.prog 67 T67 ([.nilf]) := ⟨y67, rfl⟩
instance : ZT Try.prog 68 T68 ([.nilf]) := ⟨y68, rfl⟩
instance : ZT Try.prog 69 T69 ([.nilf]) := ⟨y69, rfl⟩
instance : ZT Try.prog 70 T70 ([.nilf]) := ⟨y70, rfl⟩
instance : ZT Try.prog 71 T71 ([c64 0]) := ⟨y71, rfl⟩
instance : ZT Try.prog 72 T72 ([.nilf]) := ⟨y72, rfl⟩
instance : ZT Try.prog 73 T73 ([.nilp, .nilp, .nilp, .str ⟨#[]⟩]) := ⟨y73, rfl⟩
instance : StT Try.prog 73 T73 [(0, 17), (1, 17), (2, 17), (3, 9)] := ⟨y73, rfl⟩
instance : ZT Try.prog 74 T74 ([.nilp, .nilp, .nilp, .str ⟨#[]⟩]) := ⟨y74, rfl⟩
instance : StT Try.prog 74 T74 [(0, 17), (1, 17), (2, 17), (3, 9)] := ⟨y74, rfl⟩
instance : ZT Try.prog 75 T75 ([]) := ⟨y75, rfl⟩
instance : ZT Try.prog 76 T76 ([]) := ⟨y76, rfl⟩
instance : StT Try.prog 76 T76 [(0, 75)] := ⟨y76, rfl⟩
instance : ZT Try.prog 77 T77 ([]) := ⟨y77, rfl⟩
instance : StT Try.prog 77 T77 [(0, 75)] := ⟨y77, rfl⟩
instance : ZT Try.prog 78 T78 ([.nilf]) := ⟨y78, rfl⟩
instance : ZT Try.prog 79 T79 ([c32 0]) := ⟨y79, rfl⟩
instance : ZT Try.prog 80 T80 ([c8 0]) := ⟨y80, rfl⟩
instance : ZT Try.prog 81 T81 ([c8 0]) := ⟨y81, rfl⟩
instance : ZT Try.prog 82 T82 ([.nilf]) := ⟨y82, rfl⟩
instance : ZT Try.prog 83 T83 ([.nilp]) := ⟨y83, rfl⟩
instance : ZT Try.prog 84 T84 ([.int .i32 0]) := ⟨y84, rfl⟩
instance : ZT Try.prog 85 T85 ([.int .i32 0]) := ⟨y85, rfl⟩
instance : ZT Try.prog 86 T86 ([c64 0, c64 0, c32 0] ++ u8s (List.replicate 4 0) ++ [.nilf, .nilp, .int .i32 0, .int .i32 0]) := ⟨y86, rfl⟩
instance : StT Try.prog 86 T86 [(0, 12), (1, 12), (2, 79), (3, 80), (4, 5), (5, 5), (6, 81), (7, 82), (8, 83), (9, 84), (10, 85)] := ⟨y86, rfl⟩
instance : ZT Try.prog 87 T87 ([c64 0, c64 0, c32 0] ++ u8s (List.replicate 4 0) ++ [.nilf, .nilp, .int .i32 0, .int .i32 0]) := ⟨y87, rfl⟩
instance : StT Try.prog 87 T87 [(0, 12), (1, 12), (2, 79), (3, 80), (4, 5), (5, 5), (6, 81), (7, 82), (8, 83), (9, 84), (10, 85)] := ⟨y87, rfl⟩
instance : FdT Try.prog 7 0 T7 [(0, 2), (1, 3), (2, 4), (3, 6)] 0 2 T2 1 := ⟨y7, rfl, rfl, y2, rfl⟩
instance : FdT Try.prog 7 1 T7 [(0, 2), (1, 3), (2, 4), (3, 6)] 1 3 T3 1 := ⟨y7, rfl, rfl, y3, rfl⟩
instance : FdT Try.prog 7 2 T7 [(0, 2), (1, 3), (2, 4), (3, 6)] 2 4 T4 1 := ⟨y7, rfl, rfl, y4, rfl⟩
instance : FdT Try.prog 7 3 T7 [(0, 2), (1, 3), (2, 4), (3, 6)] 3 6 T6 1 := ⟨y7, rfl, rfl, y6, rfl⟩
instance : FdT Try.prog 8 0 T8 [(0, 2), (1, 3), (2, 4), (3, 6)] 0 2 T2 1 := ⟨y8, rfl, rfl, y2, rfl⟩
instance : FdT Try.prog 8 1 T8 [(0, 2), (1, 3), (2, 4), (3, 6)] 1 3 T3 1 := ⟨y8, rfl, rfl, y3, rfl⟩
instance : FdT Try.prog 8 2 T8 [(0, 2), (1, 3), (2, 4), (3, 6)] 2 4 T4 1 := ⟨y8, rfl, rfl, y4, rfl⟩
instance : FdT Try.prog 8 3 T8 [(0, 2), (1, 3), (2, 4), (3, 6)] 3 6 T6 1 := ⟨y8, rfl, rfl, y6, rfl⟩
instance : FdT Try.prog 13 0 T13 [(0, 9), (1, 12)] 0 9 T9 1 := ⟨y13, rfl, rfl, y9, rfl⟩
instance : FdT Try.prog 13 1 T13 [(0, 9), (1, 12)] 1 12 T12 1 := ⟨y13, rfl, rfl, y12, rfl⟩
instance : FdT Try.prog 14 0 T14 [(0, 9), (1, 12)] 0 9 T9 1 := ⟨y14, rfl, rfl, y9, rfl⟩
instance : FdT Try.prog 14 1 T14 [(0, 9), (1, 12)] 1 12 T12 1 := ⟨y14, rfl, rfl, y12, rfl⟩
instance : FdT Try.prog 18 0 T18 [(0, 17)] 0 17 T17 1 := ⟨y18, rfl, rfl, y17, rfl⟩
instance : FdT Try.prog 19 0 T19 [(0, 17)] 0 17 T17 1 := ⟨y19, rfl, rfl, y17, rfl⟩
instance : ArT Try.prog 22 T22 32 5 T5 1 := ⟨y22, rfl, y5, rfl⟩
instance : ArT Try.prog 23 T23 32 5 T5 1 := ⟨y23, rfl, y5, rfl⟩
instance : ArT Try.prog 25 T25 4 24 T24 1 := ⟨y25, rfl, y24, rfl⟩
instance : FdT Try.prog 26 0 T26 [(0, 25)] 0 25 T25 4 := ⟨y26, rfl, rfl, y25, rfl⟩
instance : FdT Try.prog 27 0 T27 [(0, 25)] 0 25 T25 4 := ⟨y27, rfl, rfl, y25, rfl⟩
instance : ArT Try.prog 29 T29 16 24 T24 1 := ⟨y29, rfl, y24, rfl⟩
instance : ArT Try.prog 30 T30 16 24 T24 1 := ⟨y30, rfl, y24, rfl⟩
instance : SlT Try.prog 61 T61 24 T24 1 := ⟨y61, rfl, y24, rfl⟩
instance : ArT Try.prog 63 T63 8 24 T24 1 := ⟨y63, rfl, y24, rfl⟩
instance : FdT Try.prog 73 0 T73 [(0, 17), (1, 17), (2, 17), (3, 9)] 0 17 T17 1 := ⟨y73, rfl, rfl, y17, rfl⟩
instance : FdT Try.prog 73 1 T73 [(0, 17), (1, 17), (2, 17), (3, 9)] 1 17 T17 1 := ⟨y73, rfl, rfl, y17, rfl⟩
instance : FdT Try.prog 73 2 T73 [(0, 17), (1, 17), (2, 17), (3, 9)] 2 17 T17 1 := ⟨y73, rfl, rfl, y17, rfl⟩
instance : FdT Try.prog 73 3 T73 [(0, 17), (1, 17), (2, 17), (3, 9)] 3 9 T9 1 := ⟨y73, rfl, rfl, y9, rfl⟩
instance : FdT Try.prog 74 0 T74 [(0, 17), (1, 17), (2, 17), (3, 9)] 0 17 T17 1 := ⟨y74, rfl, rfl, y17, rfl⟩
instance : FdT Try.prog 74 1 T74 [(0, 17), (1, 17), (2, 17), (3, 9)] 1 17 T17 1 := ⟨y74, rfl, rfl, y17, rfl⟩
instance : FdT Try.prog 74 2 T74 [(0, 17), (1, 17), (2, 17), (3, 9)] 2 17 T17 1 := ⟨y74, rfl, rfl, y17, rfl⟩
instance : FdT Try.prog 74 3 T74 [(0, 17), (1, 17), (2, 17), (3, 9)] 3 9 T9 1 := ⟨y74, rfl, rfl, y9, rfl⟩
instance : ArT Try.prog 75 T75 0 16 T16 1 := ⟨y75, rfl, y16, rfl⟩
instance : FdT Try.prog 76 0 T76 [(0, 75)] 0 75 T75 0 := ⟨y76, rfl, rfl, y75, rfl⟩
instance : FdT Try.prog 77 0 T77 [(0, 75)] 0 75 T75 0 := ⟨y77, rfl, rfl, y75, rfl⟩
instance : FdT Try.prog 86 0 T86 [(0, 12), (1, 12), (2, 79), (3, 80), (4, 5), (5, 5), (6, 81), (7, 82), (8, 83), (9, 84), (10, 85)] 0 12 T12 1 := ⟨y86, rfl, rfl, y12, rfl⟩
instance : FdT Try.prog 86 1 T86 [(0, 12), (1, 12), (2, 79), (3, 80), (4, 5), (5, 5), (6, 81), (7, 82), (8, 83), (9, 84), (10, 85)] 1 12 T12 1 := ⟨y86, rfl, rfl, y12, rfl⟩
instance : FdT Try.prog 86 2 T86 [(0, 12), (1, 12), (2, 79), (3, 80), (4, 5), (5, 5), (6, 81), (7, 82), (8, 83), (9, 84), (10, 85)] 2 79 T79 1 := ⟨y86, rfl, rfl, y79, rfl⟩
instance : FdT Try.prog 86 3 T86 [(0, 12), (1, 12), (2, 79), (3, 80), (4, 5), (5, 5), (6, 81), (7, 82), (8, 83), (9, 84), (10, 85)] 3 80 T80 1 := ⟨y86, rfl, rfl, y80, rfl⟩
instance : FdT Try.prog 86 4 T86 [(0, 12), (1, 12), (2, 79), (3, 80), (4, 5), (5, 5), (6, 81), (7, 82), (8, 83), (9, 84), (10, 85)] 4 5 T5 1 := ⟨y86, rfl, rfl, y5, rfl⟩
instance : FdT Try.prog 86 5 T86 [(0, 12), (1, 12), (2, 79), (3, 80), (4, 5), (5, 5), (6, 81), (7, 82), (8, 83), (9, 84), (10, 85)] 5 5 T5 1 := ⟨y86, rfl, rfl, y5, rfl⟩
instance : FdT Try.prog 86 6 T86 [(0, 12), (1, 12), (2, 79), (3, 80), (4, 5), (5, 5), (6, 81), (7, 82), (8, 83), (9, 84), (10, 85)] 6 81 T81 1 := ⟨y86, rfl, rfl, y81, rfl⟩
instance : FdT Try.prog 86 7 T86 [(0, 12), (1, 12), (2, 79), (3, 80), (4, 5), (5, 5), (6, 81), (7, 82), (8, 83), (9, 84), (10, 85)] 7 82 T82 1 := ⟨y86, rfl, rfl, y82, rfl⟩
instance : FdT Try.prog 86 8 T86 [(0, 12), (1, 12), (2, 79), (3, 80), (4, 5), (5, 5), (6, 81), (7, 82), (8, 83), (9, 84), (10, 85)] 8 83 T83 1 := ⟨y86, rfl, rfl, y83, rfl⟩
instance : FdT Try.prog 86 9 T86 [(0, 12), (1, 12), (2, 79), (3, 80), (4, 5), (5, 5), (6, 81), (7, 82), (8, 83), (9, 84), (10, 85)] 9 84 T84 1 := ⟨y86, rfl, rfl, y84, rfl⟩
instance : FdT Try.prog 86 10 T86 [(0, 12), (1, 12), (2, 79), (3, 80), (4, 5), (5, 5), (6, 81), (7, 82), (8, 83), (9, 84), (10, 85)] 10 85 T85 1 := ⟨y86, rfl, rfl, y85, rfl⟩
instance : FdT Try.prog 87 0 T87 [(0, 12), (1, 12), (2, 79), (3, 80), (4, 5), (5, 5), (6, 81), (7, 82), (8, 83), (9, 84), (10, 85)] 0 12 T12 1 := ⟨y87, rfl, rfl, y12, rfl⟩
instance : FdT Try.prog 87 1 T87 [(0, 12), (1, 12), (2, 79), (3, 80), (4, 5), (5, 5), (6, 81), (7, 82), (8, 83), (9, 84), (10, 85)] 1 12 T12 1 := ⟨y87, rfl, rfl, y12, rfl⟩
instance : FdT Try.prog 87 2 T87 [(0, 12), (1, 12), (2, 79), (3, 80), (4, 5), (5, 5), (6, 81), (7, 82), (8, 83), (9, 84), (10, 85)] 2 79 T79 1 := ⟨y87, rfl, rfl, y79, rfl⟩
instance : FdT Try.prog 87 3 T87 [(0, 12), (1, 12), (2, 79), (3, 80), (4, 5), (5, 5), (6, 81), (7, 82), (8, 83), (9, 84), (10, 85)] 3 80 T80 1 := ⟨y87, rfl, rfl, y80, rfl⟩
instance : FdT Try.prog 87 4 T87 [(0, 12), (1, 12), (2, 79), (3, 80), (4, 5), (5, 5), (6, 81), (7, 82), (8, 83), (9, 84), (10, 85)] 4 5 T5 1 := ⟨y87, rfl, rfl, y5, rfl⟩
instance : FdT Try.prog 87 5 T87 [(0, 12), (1, 12), (2, 79), (3, 80), (4, 5), (5, 5), (6, 81), (7, 82), (8, 83), (9, 84), (10, 85)] 5 5 T5 1 := ⟨y87, rfl, rfl, y5, rfl⟩
instance : FdT Try.prog 87 6 T87 [(0, 12), (1, 12), (2, 79), (3, 80), (4, 5), (5, 5), (6, 81), (7, 82), (8, 83), (9, 84), (10, 85)] 6 81 T81 1 := ⟨y87, rfl, rfl, y81, rfl⟩
instance : FdT Try.prog 87 7 T87 [(0, 12), (1, 12), (2, 79), (3, 80), (4, 5), (5, 5), (6, 81), (7, 82), (8, 83), (9, 84), (10, 85)] 7 82 T82 1 := ⟨y87, rfl, rfl, y82, rfl⟩
instance : FdT Try.prog 87 8 T87 [(0, 12), (1, 12), (2, 79), (3, 80), (4, 5), (5, 5), (6, 81), (7, 82), (8, 83), (9, 84), (10, 85)] 8 83 T83 1 := ⟨y87, rfl, rfl, y83, rfl⟩
instance : FdT Try.prog 87 9 T87 [(0, 12), (1, 12), (2, 79), (3, 80), (4, 5), (5, 5), (6, 81), (7, 82), (8, 83), (9, 84), (10, 85)] 9 84 T84 1 := ⟨y87, rfl, rfl, y84, rfl⟩
instance : FdT Try.prog 87 10 T87 [(0, 12), (1, 12), (2, 79), (3, 80), (4, 5), (5, 5), (6, 81), (7, 82), (8, 83), (9, 84), (10, 85)] 10 85 T85 1 := ⟨y87, rfl, rfl, y85, rfl⟩
instance : AddX Try.prog 42 := ⟨fun x y c hc => add_ext (fn := Try.f42) (by kernel_rfl) (by kernel_rfl) (by kernel_rfl) (by kernel_rfl) (by kernel_rfl) x y c hc⟩
instance : SubX Try.prog 48 := ⟨fun x y c hc => sub_ext (fn := Try.f48) (by kernel_rfl) (by kernel_rfl) (by kernel_rfl) (by kernel_rfl) (by kernel_rfl) x y c hc⟩
end Go.Proofs.Ytjibmonfmhdbbaa

/- Words: sums with a carry, differences with a borrow, products of two words, as numbers. -/
namespace Go.Abs
open Go

theorem addc_nat (x y c : UInt64) : (x + y + c).toNat + 18446744073709551616 * (addc x y c).toNat = x.toNat + y.toNat + c.toNat ∨ 1 < c.toNat := by
  have hx := x.toNat_lt
  have hy := y.toNat_lt
  have hc := c.toNat_lt
  rcases Nat.lt_or_ge 1 c.toNat with h | h
  · exact .inr h
  refine .inl ?_
  simp only [UInt64.toNat_add]
  unfold addc
  split
  · have : UInt64.toNat 1 = 1 := rfl
    rw [this]; omega
  · have : UInt64.toNat 0 = 0 := rfl
    rw [this]; omega
theorem addc_eq {x y c : UInt64} (h : c.toNat ≤ 1) : (x + y + c).toNat + 18446744073709551616 * (addc x y c).toNat = x.toNat + y.toNat + c.toNat :=
  (addc_nat x y c).resolve_right (by omega)
theorem subb_eq {x y c : UInt64} (h : c.toNat ≤ 1) : (x - y - c).toNat + y.toNat + c.toNat = x.toNat + 18446744073709551616 * (subb x y c).toNat := by
  have hx := x.toNat_lt
  have hy := y.toNat_lt
  rw [UInt64.toNat_sub, UInt64.toNat_sub]
  unfold subb
  split
  · have : UInt64.toNat 1 = 1 := rfl
    rw [this]; omega
  · have : UInt64.toNat 0 = 0 := rfl
    rw [this]; omega
/-- The upper word of a product. -/
def mulhi (x y : UInt64) : UInt64 :=
  shr64n x 32 * shr64n y 32 + shr64n (shr64n x 32 * (y &&& 4294967295) + shr64n ((x &&& 4294967295) * (y &&& 4294967295)) 32) 32 +
    shr64n ((shr64n x 32 * (y &&& 4294967295) + shr64n ((x &&& 4294967295) * (y &&& 4294967295)) 32 &&& 4294967295) + (x &&& 4294967295) * shr64n y 32) 32
theorem shr_nat (n : UInt64) (k : Nat) (h : k < 64) : (shr64n n k).toNat = n.toNat / 2 ^ k := by
  unfold shr64n
  simp [UInt64.toNat_shiftRight, Nat.shiftRight_eq_div_pow, h, Nat.mod_eq_of_lt h]
theorem low_nat (n : UInt64) : (n &&& 4294967295).toNat = n.toNat % 4294967296 := by
  rw [UInt64.toNat_and]
  exact Nat.and_two_pow_sub_one_eq_mod n.toNat 32
theorem mulhi_nat (x y : UInt64) : (mulhi x y).toNat = x.toNat * y.toNat / 18446744073709551616 := by
  have hx := x.toNat_lt
  have hy := y.toNat_lt
  have s32 : ∀ n : UInt64, (shr64n n 32).toNat = n.toNat / 4294967296 := fun n => shr_nat n 32 (by decide)
  have hx1 : x.toNat / 4294967296 < 4294967296 := by omega
  have hy1 : y.toNat / 4294967296 < 4294967296 := by omega
  have hx0 : x.toNat % 4294967296 < 4294967296 := Nat.mod_lt _ (by decide)
  have hy0 : y.toNat % 4294967296 < 4294967296 := Nat.mod_lt _ (by decide)
  have ex : x.toNat = 4294967296 * (x.toNat / 4294967296) + x.toNat % 4294967296 := (Nat.div_add_mod _ _).symm
  have ey : y.toNat = 4294967296 * (y.toNat / 4294967296) + y.toNat % 4294967296 := (Nat.div_add_mod _ _).symm
  unfold mulhi
  simp only [UInt64.toNat_add, UInt64.toNat_mul, s32, low_nat]
  rw [show x.toNat * y.toNat = (4294967296 * (x.toNat / 4294967296) + x.toNat % 4294967296) * (4294967296 * (y.toNat / 4294967296) + y.toNat % 4294967296) by rw [← ex, ← ey]]
  generalize x.toNat / 4294967296 = a at *
  generalize x.toNat % 4294967296 = b at *
  generalize y.toNat / 4294967296 = c at *
  generalize y.toNat % 4294967296 = d at *
  have m : ∀ u v : Nat, u < 4294967296 → v < 4294967296 → u * v ≤ 4294967295 * 4294967295 := fun u v hu hv => Nat.mul_le_mul (by omega) (by omega)
  have h1 := m a c hx1 hy1
  have h2 := m a d hx1 hy0
  have h3 := m b c hx0 hy1
  have h4 := m b d hx0 hy0
  have e : (4294967296 * a + b) * (4294967296 * c + d) = 18446744073709551616 * (a * c) + 4294967296 * (a * d + b * c) + b * d := by
    simp only [Nat.mul_add, Nat.add_mul]
    have e1 : 4294967296 * a * (4294967296 * c) = 18446744073709551616 * (a * c) := by rw [Nat.mul_mul_mul_comm]
    have e2 : 4294967296 * a * d = 4294967296 * (a * d) := Nat.mul_assoc ..
    have e3 : b * (4294967296 * c) = 4294967296 * (b * c) := by rw [Nat.mul_left_comm]
    omega
  rw [e]
  generalize a * c = p at *
  generalize a * d = q at *
  generalize b * c = r at *
  generalize b * d = s at *
  omega
/-- One place of a product's row: what stands there, what is carried on. -/
theorem row_eq (x y w v : UInt64) : (x * y + w + 0 + v + 0).toNat + 18446744073709551616 * (mulhi x y + addc (x * y) w 0 + addc (x * y + w + 0) v 0).toNat = x.toNat * y.toNat + w.toNat + v.toNat := by
  have hx := x.toNat_lt
  have hy := y.toNat_lt
  have hw := w.toNat_lt
  have hv := v.toNat_lt
  have h1 := addc_eq (x := x * y) (y := w) (c := 0) (by decide)
  have h2 := addc_eq (x := x * y + w + 0) (y := v) (c := 0) (by decide)
  have hm := mulhi_nat x y
  have hxy : (x * y).toNat = x.toNat * y.toNat % 18446744073709551616 := UInt64.toNat_mul ..
  have hb : x.toNat * y.toNat ≤ 18446744073709551615 * 18446744073709551615 := Nat.mul_le_mul (by omega) (by omega)
  have z : UInt64.toNat 0 = 0 := rfl
  rw [z] at h1 h2
  have c1 := addc_le (x * y) w 0
  have c2 := addc_le (x * y + w + 0) v 0
  rw [UInt64.toNat_add (mulhi x y + addc (x * y) w 0), UInt64.toNat_add (mulhi x y)]
  generalize (addc (x * y) w 0).toNat = k1 at *
  generalize (addc (x * y + w + 0) v 0).toNat = k2 at *
  generalize (x * y + w + 0 + v + 0).toNat = t at *
  generalize (x * y + w + 0).toNat = u at *
  rw [hm]
  rw [hxy] at h1
  generalize x.toNat * y.toNat = P at *
  omega
/-! Regions, with the memory told plainly first. -/
section
variable {P : Program} {n N id : Nat} {Q : Exit → St → Prop} {ops : Array Oper} {al : List (Nat × S)} {H H' : Heap}
theorem rln (h : aops P ops.toList (Q .normal) ops.toList ⟨frm N al, H'⟩) (hH : H = H' := by first | (simp only [List.set_cons_zero, List.set_cons_succ, List.cons_append, List.nil_append, List.append_nil]; done) | (simp only [List.set_cons_zero, List.set_cons_succ, List.cons_append, List.nil_append, List.append_nil]; exact rfl) | exact rfl) (hn : Nat.ble n H'.length = true := by exact rfl) : AWp P n (.region id ops false) Q ⟨frm N al, H⟩ := by
  subst hH; exact awp_region (Nat.le_of_ble_eq_true hn) h
theorem rdln (es lo hi : List Nat) (h : Dw P ops.toList lo hi (Q .normal) ops.toList 0 es [H'] [] (frm N al)) (hH : H = H' := by first | (simp only [List.set_cons_zero, List.set_cons_succ, List.cons_append, List.nil_append, List.append_nil]; done) | (simp only [List.set_cons_zero, List.set_cons_succ, List.cons_append, List.nil_append, List.append_nil]; exact rfl) | exact rfl) (hn : Nat.ble n H'.length = true := by exact rfl) (hm : P.follows .mixedOrders = true := by exact rfl) (hB : drawE ops.toList es lo hi = true := by decide +kernel) : AWp P n (.region id ops true) Q ⟨frm N al, H⟩ := by
  subst hH; exact awp_drawE es lo hi hm hB (Nat.le_of_ble_eq_true hn) h
end
/-! In a region that draws its order: a struct or an array inside a block. -/
section
variable {P : Program} {N : Nat} {al : List (Nat × S)} {H : Heap} {ops r : List Oper} {q : St → Prop} {oty : TypeId} {ops_ : String} {oaf : Array Edge} {d j w : Nat} {want : Bool} {oj : Oper}
variable {lo hi : List Nat} {i : Nat} {rem : List Nat} {hist : List Heap} {pend : List (Nat × Heap)} {t : TypeId} {ti : TI} {x : Operand} {p o1 : Nat} {cs xs : List Cell}
end
end Go.Abs

/- The abstract machine: regions that draw their order, whose effects lie in no one chain: one walk for each order of the effects. -/
namespace Go.Abs
open Go

/-! A list of operations, put into another order. -/
def posOf : List Nat → Nat → Nat
  | [], _ => 0
  | x :: r, i => bif Nat.beq x i then 0 else posOf r i + 1
def prevOf : List Nat → Nat → Option Nat
  | x :: y :: r, i => bif Nat.beq y i then some x else prevOf (y :: r) i
  | _, _ => none
def renE (ord : List Nat) (e : Edge) : Edge := ⟨posOf ord e.on, e.ground⟩
def preE (ord es : List Nat) (i : Nat) : Array Edge := match prevOf es i with
  | some x => #[⟨posOf ord x, .data⟩]
  | none => #[]
def renO (ord es : List Nat) (i : Nat) (o : Oper) : Oper :=
  ⟨o.dst, o.op, o.type, o.pos, o.after.map (renE ord) ++ preE ord es i, match o.guard with
    | some (j, b) => some (posOf ord j, b)
    | none => none⟩
def permO (ops : List Oper) (ord es : List Nat) : List Oper := ord.map fun i => renO ord es i ((ops[i]?).getD default)
def permB (n : Nat) (ord : List Nat) : Bool :=
  ord.length == n && (List.range n).all fun i => decide (posOf ord i < n) && ord[posOf ord i]? == some i && (match ord[i]? with
    | some x => decide (x < n) && posOf ord x == i
    | none => false)

theorem wp_ren {P : Program} {ord es : List Nat} {i : Nat} {o : Oper} {a : Act} {w : World} {K : Act → World → Prop} {Q : Exit → Act → World → Prop} : (renO ord es i o).wp P a w K Q = o.wp P a w K Q := rfl
theorem asks_ren {P : Program} {ord es : List Nat} {i : Nat} {o : Oper} {a : Act} {w : World} : (renO ord es i o).asks P a w = o.asks P a w := rfl

structure PermOk (n : Nat) (ord : List Nat) : Prop where
  len : ord.length = n
  lt : ∀ i, i < n → posOf ord i < n
  at_ : ∀ i, i < n → ord[posOf ord i]? = some i
  inv : ∀ (j x : Nat), ord[j]? = some x → x < n ∧ posOf ord x = j
theorem permB_ok {n : Nat} {ord : List Nat} (h : permB n ord = true) : PermOk n ord := by
  simp only [permB, Bool.and_eq_true, beq_iff_eq] at h
  obtain ⟨h1, h2⟩ := h
  have h3 : ∀ i, i < n → (posOf ord i < n ∧ ord[posOf ord i]? = some i) ∧ (match ord[i]? with
    | some x => decide (x < n) && posOf ord x == i
    | none => false) = true := fun i hi => by
    have := List.all_eq_true.1 h2 i (List.mem_range.2 hi)
    simpa only [Bool.and_eq_true, decide_eq_true_eq, beq_iff_eq] using this
  refine ⟨h1, fun i hi => (h3 i hi).1.1, fun i hi => (h3 i hi).1.2, fun j x hx => ?_⟩
  have hj : j < n := by rw [← h1]; exact (List.getElem?_eq_some_iff.1 hx).1
  have := (h3 j hj).2
  rw [hx] at this
  simpa only [Bool.and_eq_true, decide_eq_true_eq, beq_iff_eq] using this
theorem posOf_out : ∀ {ord : List Nat} {i : Nat}, i ∉ ord → posOf ord i = ord.length
  | [], _, _ => rfl
  | x :: r, i, h => by
    have hx : x ≠ i := fun e => h (by simp [e])
    have hr : i ∉ r := fun e => h (by simp [e])
    have : Nat.beq x i = false := by
      cases hb : Nat.beq x i with
      | false => rfl
      | true => exact absurd (Nat.eq_of_beq_eq_true hb) hx
    rw [posOf, this, cond_false, posOf_out hr]; rfl

section
variable {ops : List Oper} {ord es : List Nat}
theorem permO_len : (permO ops ord es).length = ord.length := by simp [permO]
theorem permO_at (ok : PermOk ops.length ord) {i : Nat} {o : Oper} (h : ops[i]? = some o) : (permO ops ord es)[posOf ord i]? = some (renO ord es i o) := by
  have hi := (List.getElem?_eq_some_iff.1 h).1
  simp [permO, List.getElem?_map, ok.at_ i hi, h]
theorem permO_inv (ok : PermOk ops.length ord) {j : Nat} {o' : Oper} (h : (permO ops ord es)[j]? = some o') : ∃ i o, ops[i]? = some o ∧ posOf ord i = j ∧ o' = renO ord es i o := by
  simp only [permO, List.getElem?_map, Option.map_eq_some_iff] at h
  obtain ⟨x, hx, rfl⟩ := h
  obtain ⟨h1, h2⟩ := ok.inv j x hx
  obtain ⟨o, ho⟩ : ∃ o, ops[x]? = some o := ⟨_, List.getElem?_eq_getElem h1⟩
  exact ⟨x, o, ho, h2, by rw [ho]; rfl⟩
theorem yielded_ren (ok : PermOk ops.length ord) (tmps : Array Value) (j : Nat) : yielded (permO ops ord es).toArray tmps (posOf ord j) = yielded ops.toArray tmps j := by
  unfold yielded
  have : ((permO ops ord es).toArray[posOf ord j]?).bind (·.dst) = (ops.toArray[j]?).bind (·.dst) := by
    simp only [List.getElem?_toArray]
    by_cases hj : j < ops.length
    · obtain ⟨o, ho⟩ : ∃ o, ops[j]? = some o := ⟨_, List.getElem?_eq_getElem hj⟩
      rw [permO_at ok ho, ho]; rfl
    · have hn : j ∉ ord := fun hm => by
        obtain ⟨k, hk⟩ := List.mem_iff_getElem?.1 hm
        exact hj (ok.inv k j hk).1
      rw [posOf_out hn, List.getElem?_eq_none (by rw [permO_len]; exact Nat.le_refl _), List.getElem?_eq_none (by omega)]
  rw [this]
theorem wanted_ren (ok : PermOk ops.length ord) (tmps : Array Value) (i : Nat) (o : Oper) : Region.wanted (renO ord es i o) (yielded (permO ops ord es).toArray tmps) = Region.wanted o (yielded ops.toArray tmps) := by
  unfold Region.wanted renO
  cases hg : o.guard with
  | none => rfl
  | some g =>
    obtain ⟨j, b⟩ := g
    simp only [yielded_ren ok]
theorem wpOps_ren (ok : PermOk ops.length ord) {P : Program} {Q : Exit → Act → World → Prop} : ∀ (σ : List Nat) (a : Act) (w : World), (∀ i ∈ σ, i < ops.length) →
    wpOps P (permO ops ord es).toArray Q (σ.map (posOf ord)) a w → wpOps P ops.toArray Q σ a w
  | [], _, _, _, h => h
  | i :: σ, a, w, hi, h => by
    obtain ⟨o, ho⟩ : ∃ o, ops[i]? = some o := ⟨_, List.getElem?_eq_getElem (hi i (by simp))⟩
    rw [List.map_cons, wpOps_cons] at h
    rw [wpOps_cons]
    unfold wpOp at h ⊢
    rw [List.getElem?_toArray] at h ⊢
    rw [permO_at ok ho] at h
    rw [ho]
    simp only at h ⊢
    rw [wanted_ren ok, wp_ren, asks_ren] at h
    have ih := wpOps_ren ok (P := P) (Q := Q) σ
    split
    · rename_i hw
      rw [if_pos hw] at h
      rcases h with h | h
      · exact .inl (Oper.wp_mono (fun a w h => ih a w (fun x hx => hi x (by simp [hx])) h) h)
      · exact .inr h
    · rename_i hw
      rw [if_neg hw] at h
      exact ih _ _ (fun x hx => hi x (by simp [hx])) h
end

/-! Orders that may be drawn. -/
inductive ValidO (ops : Array Oper) : Array Bool → List Nat → Prop
  | nil {l : Array Bool} : Region.ready .any ops l = [] → ValidO ops l []
  | cons {l : Array Bool} {i : Nat} {σ : List Nat} : i ∈ Region.ready .any ops l → ValidO ops (l.setIfInBounds i true) σ → ValidO ops l (i :: σ)

theorem any_valid {P : Program} {ops : Array Oper} {Q : Exit → Act → World → Prop} : ∀ (σ : List Nat) (f : Nat) (l : Array Bool) (a : Act) (w : World), ValidO ops l σ → wpAny P .any ops Q f l a w → wpOps P ops Q σ a w
  | [], 0, _, _, _, _, h => h.2
  | [], f + 1, _, _, _, .nil hr, h => h.1 hr
  | i :: σ, 0, _, _, _, .cons hi _, h => by rw [h.1] at hi; cases hi
  | i :: σ, f + 1, l, a, w, .cons hi hv, h => by
    rw [wpOps_cons]
    exact wpOp_mono (fun a w h => any_valid σ f _ a w hv h) (h.2 i hi)

theorem valid_go {ops : List Oper} : ∀ (f t : Nat) (l : Array Bool), l.size = ops.length → (List.range ops.length).countP (fun j => l.getD j false) + f = ops.length →
    ValidO ops.toArray l (Region.linearise.go .any ops.toArray f t l [])
  | 0, t, l, hs, hc => by
    have hall : ∀ j, j < ops.length → l.getD j false = true := by
      have : (List.range ops.length).countP (fun j => l.getD j false) = (List.range ops.length).length := by rw [List.length_range]; omega
      rw [List.countP_eq_length] at this
      exact fun j hj => this j (List.mem_range.2 hj)
    refine .nil (List.eq_nil_iff_forall_not_mem.2 fun i hi => ?_)
    obtain ⟨h1, o, h2, _⟩ := mem_ready.1 hi
    have hlt : i < ops.length := by simpa using (Array.getElem?_eq_some_iff.1 h2).1
    have h3 := getD_both h1
    rw [hall i hlt] at h3; cases h3
  | f + 1, t, l, hs, hc => by
    simp only [Region.linearise.go]
    change ValidO ops.toArray l (match (Region.ready .any ops.toArray l)[t % (Region.ready .any ops.toArray l).length]? with
      | some i => Region.linearise.go .any ops.toArray f (t / (Region.ready .any ops.toArray l).length) (l.setIfInBounds i true) [i]
      | none => [].reverse)
    cases hi : (Region.ready .any ops.toArray l)[t % (Region.ready .any ops.toArray l).length]? with
    | none =>
      refine .nil ?_
      cases hr : Region.ready .any ops.toArray l with
      | nil => rfl
      | cons x xs =>
        rw [hr] at hi
        have hlt : t % (x :: xs).length < (x :: xs).length := Nat.mod_lt _ (by simp)
        simp at hi
        simp at hlt
        omega
    | some i =>
      simp only []
      rw [linearise_go_acc, List.reverse_singleton, List.singleton_append]
      have hm := List.mem_of_getElem? hi
      obtain ⟨h1, o, h2, _⟩ := mem_ready.1 hm
      have hlt : i < ops.length := by simpa using (Array.getElem?_eq_some_iff.1 h2).1
      refine .cons hm (valid_go f _ _ (by simpa using hs) ?_)
      have := countP_set (p := fun j => l.getD j false) (p' := fun j => (l.setIfInBounds i true).getD j false) (i := i) (List.nodup_range (n := ops.length)) (List.mem_range.2 hlt) (getD_both h1) (fun j => by
        rw [getD_set_i false (by omega)]
        by_cases h : j = i
        · subst h; simp
        · rw [if_neg h]
          have : (j == i) = false := by simpa using h
          rw [this, Bool.or_false])
      omega

theorem valid_lt {ops : List Oper} {l : Array Bool} {σ : List Nat} (h : ValidO ops.toArray l σ) : ∀ i ∈ σ, i < ops.length := by
  induction h with
  | nil => intro i hi; cases hi
  | cons hi _ ih =>
    intro j hj
    rcases List.mem_cons.1 hj with rfl | hj
    · obtain ⟨_, o, h2, _⟩ := mem_ready.1 hi
      simpa using (Array.getElem?_eq_some_iff.1 h2).1
    · exact ih j hj

/-! Which orders the effects come in. -/
def covB (A E : List Nat) (pls : List (List Nat)) : Nat → List Nat → Bool
  | 0, run => (E.all fun e => run.contains e) && pls.contains run
  | f + 1, run => bif (E.all fun e => run.contains e) then pls.contains run else E.all fun i => run.contains i || (E.any fun e => (A.getD i 0).testBit e && !run.contains e) || covB A E pls f (run ++ [i])

theorem cov_sound {ops : List Oper} {A E : List Nat} {pls : List (List Nat)} (hA : ∀ i j, (A.getD i 0).testBit j = true → Anc ops i j) (hE : ∀ e ∈ E, e < ops.length)
    (topo : ∀ (i : Nat) o, ops[i]? = some o → ∀ e ∈ o.after, Region.binds .any e = true → e.on < i) :
    ∀ (σ : List Nat) (l : Array Bool) (f : Nat) (run : List Nat), l.size = ops.length → (∀ (j : Nat) oj, ops[j]? = some oj → l.getD j false = true → ∀ e ∈ oj.after, Region.binds .any e = true → l.getD e.on false = true) →
      (∀ e ∈ E, l.getD e false = true ↔ e ∈ run) → ValidO ops.toArray l σ → covB A E pls f run = true → run ++ σ.filter (fun i => E.contains i) ∈ pls
  | [], l, f, run, hs, hcl, hr, .nil hnil, hc => by
    have hall : ∀ (j : Nat), j < ops.length → l.getD j false = true := by
      intro j
      induction j using Nat.strongRecOn with
      | ind j ih =>
        intro hj
        obtain ⟨o, ho⟩ : ∃ o, ops[j]? = some o := ⟨_, List.getElem?_eq_getElem hj⟩
        apply Classical.byContradiction
        intro hn
        have hn' : l.getD j false = false := by simpa using hn
        have : j ∈ Region.ready .any ops.toArray l := mem_ready.2 ⟨getD_in (by omega) hn', o, by simpa using ho, fun e he hb => ih e.on (topo j o ho e he hb) (by have := topo j o ho e he hb; omega)⟩
        rw [hnil] at this; cases this
    have hE' : (E.all fun e => run.contains e) = true := List.all_eq_true.2 fun e he => by
      have := (hr e he).1 (hall e (hE e he))
      simpa using this
    rw [List.filter_nil, List.append_nil]
    cases f with
    | zero => simp only [covB, hE', Bool.true_and] at hc; simpa using hc
    | succ f => simp only [covB, hE', cond_true] at hc; simpa using hc
  | i :: σ, l, f, run, hs, hcl, hr, .cons hi hv, hc => by
    obtain ⟨h1, o, h2, hd⟩ := mem_ready.1 hi
    have ho : ops[i]? = some o := by simpa using h2
    have hlt := (List.getElem?_eq_some_iff.1 ho).1
    have hcl' : ∀ (j : Nat) oj, ops[j]? = some oj → (l.setIfInBounds i true).getD j false = true → ∀ e ∈ oj.after, Region.binds .any e = true → (l.setIfInBounds i true).getD e.on false = true := by
      intro j oj hj hlj e he hb
      rw [getD_set_i false (by omega)] at hlj ⊢
      by_cases hji : j = i
      · subst hji
        rw [ho] at hj
        obtain rfl := Option.some.inj hj
        rw [hd e he hb]; simp
      · rw [if_neg hji] at hlj
        rw [hcl j oj hj hlj e he hb]; simp
    by_cases hiE : i ∈ E
    · have hnr : i ∉ run := fun h => by
        have := (hr i hiE).2 h
        rw [getD_both h1] at this; cases this
      have hE' : (E.all fun e => run.contains e) = false := by
        apply Bool.eq_false_iff.2
        intro h
        have := List.all_eq_true.1 h i hiE
        exact hnr (by simpa using this)
      rw [List.filter_cons_of_pos (by simpa using hiE)]
      cases f with
      | zero => simp only [covB, hE', Bool.false_and] at hc; cases hc
      | succ f =>
        simp only [covB, hE', cond_false] at hc
        have h3 := List.all_eq_true.1 hc i hiE
        simp only [Bool.or_eq_true, List.any_eq_true, Bool.and_eq_true, Bool.not_eq_true', List.contains_iff_mem] at h3
        rcases h3 with (h3 | ⟨e, h3, h4, h5⟩) | h3
        · exact absurd h3 hnr
        · have := anc_listed (listed := l) hcl (hA i e h4) (fun o' ho' e' he' hb' => by
            rw [ho] at ho'; obtain rfl := Option.some.inj ho'; exact hd e' he' hb')
          have := (hr e h3).1 this
          have h6 : run.contains e = true := by simpa using this
          rw [h6] at h5; cases h5
        · have := cov_sound hA hE topo σ (l.setIfInBounds i true) f (run ++ [i]) (by simpa using hs) hcl' (fun e he => by
            rw [getD_set_i false (by omega)]
            by_cases hei : e = i
            · subst hei; simp
            · rw [if_neg hei, hr e he]; simp [hei]) hv h3
          rw [List.append_assoc] at this
          exact this
    · rw [List.filter_cons_of_neg (by simpa using hiE)]
      refine cov_sound hA hE topo σ (l.setIfInBounds i true) f run (by simpa using hs) hcl' (fun e he => ?_) hv hc
      rw [getD_set_i false (by omega), if_neg (fun h : e = i => hiE (h ▸ he))]
      exact hr e he

theorem prevOf_at : ∀ {es : List Nat} {i x : Nat}, prevOf es i = some x → ∃ l r, es = l ++ x :: i :: r
  | [], _, _, h => by simp [prevOf] at h
  | [_], _, _, h => by simp [prevOf] at h
  | a :: b :: es, i, x, h => by
    simp only [prevOf] at h
    cases hb : Nat.beq b i with
    | true =>
      rw [hb, cond_true] at h
      have := Nat.eq_of_beq_eq_true hb
      subst this
      obtain rfl := Option.some.inj h
      exact ⟨[], es, rfl⟩
    | false =>
      rw [hb, cond_false] at h
      obtain ⟨l, r, e⟩ := prevOf_at h
      exact ⟨a :: l, r, by rw [e]; rfl⟩

/-- An order in which the effects come just so is one of the renamed region. -/
theorem valid_ren {ops : List Oper} {ord es E : List Nat} (ok : PermOk ops.length ord) (topo : ∀ (i : Nat) o, ops[i]? = some o → ∀ e ∈ o.after, Region.binds .any e = true → e.on < i)
    (hnd : es.Nodup) (hsub : ∀ e ∈ es, e ∈ E) : ∀ (σ : List Nat) (l l' : Array Bool) (run : List Nat), l.size = ops.length → l'.size = ops.length → (∀ j, j < ops.length → l'.getD (posOf ord j) false = l.getD j false) →
      (∀ e ∈ E, e ∈ run → l.getD e false = true) → es = run ++ σ.filter (fun i => E.contains i) → ValidO ops.toArray l σ → ValidO (permO ops ord es).toArray l' (σ.map (posOf ord))
  | [], l, l', run, hs, hs', hl, hr, he, .nil hnil => by
    refine .nil (List.eq_nil_iff_forall_not_mem.2 fun j hj => ?_)
    obtain ⟨h1, o', h2, hd⟩ := mem_ready.1 hj
    obtain ⟨i, o, ho, hp, rfl⟩ := permO_inv ok (by simpa using h2)
    have hi := (List.getElem?_eq_some_iff.1 ho).1
    have : i ∈ Region.ready .any ops.toArray l := mem_ready.2 ⟨getD_in (by omega) (by rw [← hl i hi, hp]; exact getD_both h1), o, by simpa using ho, fun e he hb => by
      have h3 := hd (renE ord e) (by simp only [renO, Array.mem_append, Array.mem_map]; exact .inl ⟨e, he, rfl⟩) hb
      have h4 := topo i o ho e he hb
      rw [← hl e.on (by omega)]; exact h3⟩
    rw [hnil] at this; cases this
  | i :: σ, l, l', run, hs, hs', hl, hr, he, .cons hi hv => by
    obtain ⟨h1, o, h2, hd⟩ := mem_ready.1 hi
    have ho : ops[i]? = some o := by simpa using h2
    have hlt := (List.getElem?_eq_some_iff.1 ho).1
    have hpl := ok.lt i hlt
    have hl' : ∀ j, j < ops.length → (l'.setIfInBounds (posOf ord i) true).getD (posOf ord j) false = (l.setIfInBounds i true).getD j false := fun j hj => by
      rw [getD_set_i false (by omega), getD_set_i false (by omega)]
      by_cases hji : j = i
      · subst hji; simp
      · have : posOf ord j ≠ posOf ord i := fun h => hji (by
          have h3 := ok.at_ j hj
          rw [h, ok.at_ i hlt] at h3
          exact (Option.some.inj h3).symm)
        rw [if_neg hji, if_neg this, hl j hj]
    have hready : posOf ord i ∈ Region.ready .any (permO ops ord es).toArray l' := by
      refine mem_ready.2 ⟨getD_in (by omega) (by rw [hl i hlt]; exact getD_both h1), renO ord es i o, by simpa using permO_at ok ho, fun e hm hb => ?_⟩
      simp only [renO, Array.mem_append, Array.mem_map] at hm
      rcases hm with ⟨e0, hm, rfl⟩ | hm
      · have h4 := topo i o ho e0 hm hb
        show l'.getD (posOf ord e0.on) false = true
        rw [hl e0.on (by omega)]; exact hd e0 hm hb
      · unfold preE at hm
        cases hp : prevOf es i with
        | none => rw [hp] at hm; simp at hm
        | some x =>
          rw [hp] at hm
          simp only [List.mem_toArray, List.mem_cons, List.not_mem_nil, or_false] at hm
          subst hm
          show l'.getD (posOf ord x) false = true
          obtain ⟨p, q, hpq⟩ := prevOf_at hp
          have hiE : i ∈ E := hsub i (by rw [hpq]; simp)
          have hxE : x ∈ E := hsub x (by rw [hpq]; simp)
          rw [List.filter_cons_of_pos (by simpa using hiE)] at he
          -- the same list, cut at i twice
          have hnd1 := hnd
          rw [he] at hnd1
          have hnr : i ∉ run := fun h => by
            have := (List.nodup_append.1 hnd1).2.2 i h i (by simp)
            exact this rfl
          have hnp : i ∉ p ++ [x] := fun h => by
            have hnd2 := hnd
            rw [hpq, show p ++ x :: i :: q = (p ++ [x]) ++ i :: q by simp] at hnd2
            exact (List.nodup_append.1 hnd2).2.2 i h i (by simp) rfl
          have hcut : ∀ (a b c d : List Nat), a ++ i :: b = c ++ i :: d → i ∉ a → i ∉ c → a = c := by
            intro a
            induction a with
            | nil =>
              intro b c d h _ hc
              cases c with
              | nil => rfl
              | cons y c => simp at h; exact absurd h.1 (fun e => hc (by simp [← e]))
            | cons z a ih =>
              intro b c d h ha hc
              cases c with
              | nil => simp at h; exact absurd h.1.symm (fun e => ha (by simp [← e]))
              | cons y c =>
                simp only [List.cons_append, List.cons.injEq] at h
                rw [h.1, ih b c d h.2 (fun e => ha (by simp [e])) (fun e => hc (by simp [e]))]
          have hrun : run = p ++ [x] := hcut run _ (p ++ [x]) q (by rw [← he, hpq]; simp) hnr hnp
          have hlx := hr x hxE (by rw [hrun]; simp)
          have hxl : x < ops.length := by
            rcases Nat.lt_or_ge x ops.length with h | h
            · exact h
            · rw [Array.getD_eq_getD_getElem?, Array.getElem?_eq_none (by omega)] at hlx; cases hlx
          rw [hl x hxl]; exact hlx
    rw [List.map_cons]
    by_cases hiE : i ∈ E
    · rw [List.filter_cons_of_pos (by simpa using hiE)] at he
      exact .cons hready (valid_ren ok topo hnd hsub σ _ _ (run ++ [i]) (by simpa using hs) (by simpa using hs') hl' (fun e heE hm => by
        rw [getD_set_i false (by omega)]
        by_cases hei : e = i
        · rw [if_pos hei]
        · rw [if_neg hei]
          refine hr e heE ?_
          rcases List.mem_append.1 hm with h | h
          · exact h
          · simp at h; exact absurd h hei) (by rw [he]; simp) hv)
    · rw [List.filter_cons_of_neg (by simpa using hiE)] at he
      exact .cons hready (valid_ren ok topo hnd hsub σ _ _ run (by simpa using hs) (by simpa using hs') hl' (fun e heE hm => by
        rw [getD_set_i false (by omega)]
        by_cases hei : e = i
        · rw [if_pos hei]
        · rw [if_neg hei]; exact hr e heE hm) he hv)

/-- A region that draws its order: what draw_game comes to. -/
theorem drawE_any {P : Program} {n0 : Nat} {ops : List Oper} {Q : Exit → St → Prop} {fr : List S} {H : Heap} (es lo hi : List Nat) (hB : drawE ops es lo hi = true) (hn : n0 ≤ H.length)
    (h : Dw P ops lo hi (Q .normal) ops 0 es [H] [] fr) {E : Env} {ρ : Nat → Place} {a : Act} {w : World} (hE : E.Ok) (hs : Sim E ρ ⟨fr, H⟩ a w) :
    wpAny P .any ops.toArray (post n0 E ρ Q) ops.length (Array.replicate ops.length false) a { w with drawn := w.drawn + 1 } := by
  have ok := drawE_ok hB
  obtain ⟨vals, hp, Vs, h1, _, h2⟩ := dw_tr (E := es.length) ops 0 es [H] [] fr (by simp) (by simp; omega) h
  have h0 : hp 0 = H := by
    have := h1 0 (by simp)
    simpa using this.symm
  obtain ⟨hst, hend⟩ := tr_each ok (fr0 := fr) ops 0 0 fr (fun j => by rw [Nat.zero_add]) (by simp) (Nat.zero_le _) (fun m e _ => by omega) ⟨rfl, fun _ _ => rfl, fun j o t _ hd => by simp at hd⟩ (by simpa using h2)
  exact draw_game (P := P) (n0 := n0) (Q := Q) ok (fun j o ho => hst j o (Nat.zero_le _) ho) hend hE ops.length 0 ρ (Array.replicate ops.length false) fr a { w with drawn := w.drawn + 1 } (by
      have : (List.range ops.length).countP (fun j => (Array.replicate ops.length false).getD j false) = 0 := by
        rw [List.countP_eq_zero]
        intro j _
        rw [getD_replicate_false]; simp
      rw [this]; simp)
    ⟨by simp, fun j oj _ hl => (by rw [getD_replicate_false] at hl; cases hl), fun t ht ht' => by simp at ht ht'; omega⟩ (Nat.zero_le _)
    (fun m e _ => by rw [getD_replicate_false]; simp)
    ⟨rfl, fun _ _ => rfl, fun j o t _ hd => by rw [getD_replicate_false] at hd; cases hd⟩ (by rw [h0]; exact hn) ⟨by rw [h0]; exact hs.fr, by rw [h0]; exact hs.heap.drew _⟩

/-- One order of the effects: the order of the walk, the effects by their numbers, and by their places in the walk, and what may come between which. -/
structure Plan where
  ord : List Nat
  es : List Nat
  es2 : List Nat
  lo : List Nat
  hi : List Nat
def planB (ops : List Oper) (E : List Nat) (p : Plan) : Bool :=
  permB ops.length p.ord && drawE (permO ops p.ord p.es) p.es2 p.lo p.hi && decide p.es.Nodup && (p.es.all fun e => E.contains e)
def multiB (ops : List Oper) (E : List Nat) (pls : List Plan) : Bool :=
  topoE ops && (E.all fun e => decide (e < ops.length)) && covB (ancs ops []) E (pls.map Plan.es) E.length [] && pls.all (planB ops E)
def plansDw (P : Program) (ops : List Oper) (Q : St → Prop) (H : Heap) (fr : List S) : List Plan → Prop
  | [] => True
  | p :: r => Dw P (permO ops p.ord p.es) p.lo p.hi Q (permO ops p.ord p.es) 0 p.es2 [H] [] fr ∧ plansDw P ops Q H fr r
theorem plans_at {P : Program} {ops : List Oper} {Q : St → Prop} {H : Heap} {fr : List S} : ∀ {pls : List Plan}, plansDw P ops Q H fr pls → ∀ p ∈ pls, Dw P (permO ops p.ord p.es) p.lo p.hi Q (permO ops p.ord p.es) 0 p.es2 [H] [] fr
  | [], _, p, hp => by cases hp
  | q :: r, h, p, hp => by
    rcases List.mem_cons.1 hp with rfl | hp
    · exact h.1
    · exact plans_at h.2 p hp
theorem awp_drawM {P : Program} {n0 id : Nat} {ops : Array Oper} {Q : Exit → St → Prop} {fr : List S} {H : Heap} (E : List Nat) (pls : List Plan) (hm : P.follows .mixedOrders = true) (hB : multiB ops.toList E pls = true) (hn : n0 ≤ H.length)
    (h : plansDw P ops.toList (Q .normal) H fr pls) : AWp P n0 (.region id ops true) Q ⟨fr, H⟩ := by
  intro En ρ a w hE hs
  simp only [multiB, Bool.and_eq_true] at hB
  obtain ⟨⟨⟨hT, hEl⟩, hC⟩, hP⟩ := hB
  obtain ⟨ops⟩ := ops
  simp only at hT hEl hC hP h ⊢
  have topo : ∀ (i : Nat) o, ops[i]? = some o → ∀ e ∈ o.after, Region.binds .any e = true → e.on < i := fun i o ho e he hb => by
    have := List.all_eq_true.1 hT i (List.mem_range.2 (List.getElem?_eq_some_iff.1 ho).1)
    rw [ho] at this
    have := Array.all_eq_true'.1 this e he
    simp only [hb, Bool.not_true, Bool.false_or, decide_eq_true_eq] at this
    exact this
  have hA : ∀ i j, ((ancs ops []).getD i 0).testBit j = true → Anc ops i j := ancs_spec ops [] (fun j => by simp) (fun i j hb => by simp at hb)
  refine wp_region_draw fun t => ?_
  simp only [Region.schedule, hm, Bool.true_or, if_true]
  have hv : ValidO ops.toArray (Array.replicate ops.length false) (Region.linearise .any ops.toArray t) := by
    show ValidO ops.toArray _ (Region.linearise.go .any ops.toArray ops.toArray.size t (Array.replicate ops.toArray.size false) [])
    rw [show ops.toArray.size = ops.length by simp]
    refine valid_go _ _ _ (by simp) ?_
    have : (List.range ops.length).countP (fun j => (Array.replicate ops.length false).getD j false) = 0 := by
      rw [List.countP_eq_zero]
      intro j _
      rw [getD_replicate_false]; simp
    rw [this]; simp
  generalize Region.linearise .any ops.toArray t = σ at hv ⊢
  have hlt := valid_lt hv
  have hcov := cov_sound (pls := pls.map Plan.es) (E := E) hA (fun e he => by simpa using List.all_eq_true.1 hEl e he) topo σ _ E.length [] (by simp) (fun j oj _ hl => (by rw [getD_replicate_false] at hl; cases hl))
    (fun e _ => by rw [getD_replicate_false]; simp) hv hC
  rw [List.nil_append] at hcov
  obtain ⟨p, hp, he⟩ := List.mem_map.1 hcov
  have hpB := List.all_eq_true.1 hP p hp
  simp only [planB, Bool.and_eq_true, decide_eq_true_eq] at hpB
  obtain ⟨⟨⟨h1, h2⟩, h3⟩, h4⟩ := hpB
  have ok := permB_ok h1
  have hany := drawE_any (n0 := n0) (Q := Q) p.es2 p.lo p.hi h2 hn (plans_at h p hp) hE hs
  refine wpOps_ren ok σ _ _ hlt (any_valid _ _ _ _ _ ?_ hany)
  refine valid_ren (E := E) ok topo h3 (fun e he => by simpa using List.all_eq_true.1 h4 e he) σ (Array.replicate ops.length false) _ [] (by simp) (by simp [permO_len, ok.len]) (fun j _ => by rw [getD_replicate_false, getD_replicate_false]) (fun e _ hm => by cases hm) (by rw [List.nil_append]; exact he) hv
/-! Effects in a region, the memory told plainly behind each. -/
section
variable {P : Program} {N : Nat} {al : List (Nat × S)} {H H1 H2 : Heap} {ops r : List Oper} {q : St → Prop} {op : Op} {oty : TypeId} {ops_ : String} {oaf : Array Edge} {d j w : Nat} {want : Bool} {oj : Oper} {s : S}
variable {lo hi : List Nat} {i : Nat} {rem : List Nat} {hist : List Heap} {pend : List (Nat × Heap)}
theorem De2 (h : ∀ K : S → Heap → Prop, K s H1 → ostep P ⟨some d, op, oty, ops_, oaf, none⟩ (frm N al) H K) (k : Dw P ops lo hi q r (i + 1) rem (H2 :: H :: hist) pend (frm N ((d, s) :: al))) (hH : H1 = H2 := by first | (simp only [List.set_cons_zero, List.set_cons_succ, List.cons_append, List.nil_append, List.append_nil, kill, setB]; done) | (simp only [List.set_cons_zero, List.set_cons_succ, List.cons_append, List.nil_append, List.append_nil, kill, setB]; exact rfl) | exact rfl) (hp : pendOk pend (hist.length + 1) H2 := by repeat' (first | exact trivial | exact sub_one rfl | refine And.intro ?_ ?_)) : Dw P ops lo hi q (⟨some d, op, oty, ops_, oaf, none⟩ :: r) i (i :: rem) (H :: hist) pend (frm N al) := by
  subst hH; exact De (h _ ⟨hp, k⟩)
theorem De20 (h : ∀ K : S → Heap → Prop, K s H1 → ostep P ⟨none, op, oty, ops_, oaf, none⟩ (frm N al) H K) (k : Dw P ops lo hi q r (i + 1) rem (H2 :: H :: hist) pend (frm N al)) (hH : H1 = H2 := by first | (simp only [List.set_cons_zero, List.set_cons_succ, List.cons_append, List.nil_append, List.append_nil, kill, setB]; done) | (simp only [List.set_cons_zero, List.set_cons_succ, List.cons_append, List.nil_append, List.append_nil, kill, setB]; exact rfl) | exact rfl) (hp : pendOk pend (hist.length + 1) H2 := by repeat' (first | exact trivial | exact sub_one rfl | refine And.intro ?_ ?_)) : Dw P ops lo hi q (⟨none, op, oty, ops_, oaf, none⟩ :: r) i (i :: rem) (H :: hist) pend (frm N al) := by
  subst hH; exact De0 (h _ ⟨hp, k⟩)
theorem De2g (h : ∀ K : S → Heap → Prop, K s H1 → ostep P ⟨some d, op, oty, ops_, oaf, some (j, want)⟩ (frm N al) H K) (k : Dw P ops lo hi q r (i + 1) rem (H2 :: H :: hist) pend (frm N ((d, s) :: al))) (hH : H1 = H2 := by first | (simp only [List.set_cons_zero, List.set_cons_succ, List.cons_append, List.nil_append, List.append_nil, kill, setB]; done) | (simp only [List.set_cons_zero, List.set_cons_succ, List.cons_append, List.nil_append, List.append_nil, kill, setB]; exact rfl) | exact rfl) (hp : pendOk pend (hist.length + 1) H2 := by repeat' (first | exact trivial | exact sub_one rfl | refine And.intro ?_ ?_)) (hj : ops[j]? = some oj := by exact rfl) (hjd : oj.dst = some w := by exact rfl) (hv : lkpB N al w = .v (.c (.bool want)) := by first | exact rfl | exact congrArg (fun b => S.v (V.c (Cell.bool b))) (by assumption) | exact congrArg (fun b => S.v (V.c (Cell.bool b))) (decide_eq_true (by assumption)) | exact congrArg (fun b => S.v (V.c (Cell.bool b))) (decide_eq_false (by assumption))) : Dw P ops lo hi q (⟨some d, op, oty, ops_, oaf, some (j, want)⟩ :: r) i (i :: rem) (H :: hist) pend (frm N al) := by
  subst hH; exact Deg (h _ ⟨hp, k⟩) hj hjd hv
theorem G2 (h : ∀ K : S → Heap → Prop, K s H1 → ostep P ⟨some d, op, oty, ops_, oaf, none⟩ (frm N al) H K) (k : aops P ops q r ⟨frm N ((d, s) :: al), H2⟩) (hH : H1 = H2 := by first | (simp only [List.set_cons_zero, List.set_cons_succ, List.cons_append, List.nil_append, List.append_nil, kill, setB]; done) | (simp only [List.set_cons_zero, List.set_cons_succ, List.cons_append, List.nil_append, List.append_nil, kill, setB]; exact rfl) | exact rfl) : aops P ops q (⟨some d, op, oty, ops_, oaf, none⟩ :: r) ⟨frm N al, H⟩ := by
  subst hH; exact G (h _ k)
theorem G20 (h : ∀ K : S → Heap → Prop, K s H1 → ostep P ⟨none, op, oty, ops_, oaf, none⟩ (frm N al) H K) (k : aops P ops q r ⟨frm N al, H2⟩) (hH : H1 = H2 := by first | (simp only [List.set_cons_zero, List.set_cons_succ, List.cons_append, List.nil_append, List.append_nil, kill, setB]; done) | (simp only [List.set_cons_zero, List.set_cons_succ, List.cons_append, List.nil_append, List.append_nil, kill, setB]; exact rfl) | exact rfl) : aops P ops q (⟨none, op, oty, ops_, oaf, none⟩ :: r) ⟨frm N al, H⟩ := by
  subst hH; exact G0 (h _ k)
theorem G2g (h : ∀ K : S → Heap → Prop, K s H1 → ostep P ⟨some d, op, oty, ops_, oaf, some (j, want)⟩ (frm N al) H K) (k : aops P ops q r ⟨frm N ((d, s) :: al), H2⟩) (hH : H1 = H2 := by first | (simp only [List.set_cons_zero, List.set_cons_succ, List.cons_append, List.nil_append, List.append_nil, kill, setB]; done) | (simp only [List.set_cons_zero, List.set_cons_succ, List.cons_append, List.nil_append, List.append_nil, kill, setB]; exact rfl) | exact rfl) (hj : ops[j]? = some oj := by exact rfl) (hjd : oj.dst = some w := by exact rfl) (hv : lkpB N al w = .v (.c (.bool want)) := by first | exact rfl | exact congrArg (fun b => S.v (V.c (Cell.bool b))) (by assumption) | exact congrArg (fun b => S.v (V.c (Cell.bool b))) (decide_eq_true (by assumption)) | exact congrArg (fun b => S.v (V.c (Cell.bool b))) (decide_eq_false (by assumption))) : aops P ops q (⟨some d, op, oty, ops_, oaf, some (j, want)⟩ :: r) ⟨frm N al, H⟩ := by
  subst hH; exact Gg (h _ k) hj hjd hv
end
section
variable {P : Program} {n N id : Nat} {Q : Exit → St → Prop} {ops : Array Oper} {al : List (Nat × S)} {H H' : Heap}
theorem rdm (E : List Nat) (pls : List Plan) (h : plansDw P ops.toList (Q .normal) H' (frm N al) pls) (hH : H = H' := by first | (simp only [List.set_cons_zero, List.set_cons_succ, List.cons_append, List.nil_append, List.append_nil]; done) | (simp only [List.set_cons_zero, List.set_cons_succ, List.cons_append, List.nil_append, List.append_nil]; exact rfl) | exact rfl) (hn : Nat.ble n H'.length = true := by exact rfl) (hm : P.follows .mixedOrders = true := by exact rfl) (hB : multiB ops.toList E pls = true := by decide +kernel) : AWp P n (.region id ops true) Q ⟨frm N al, H⟩ := by
  subst hH; exact awp_drawM E pls hm hB (Nat.le_of_ble_eq_true hn) h
end
/-! More operations. -/
section
variable {P : Program} {fr : List S} {H : Heap} {K : S → Heap → Prop} {od : Option Nat} {oty : TypeId} {ops_ : String} {oaf : Array Edge} {ogu : Option (Nat × Bool)} {t u : TypeId} {ti : TI} {a b : Operand}
end
end Go.Abs

/- What functions of the program do, walked over the abstract machine. -/
namespace Go.Proofs.Ytjibmonfmhdbbaa.Fd
open Go Go.Abs Go.Proofs

/-- p, as words. -/
abbrev pl : List UInt64 := [18446744073709551597, 18446744073709551615, 18446744073709551615, 9223372036854775807]
/-- Four words as a number. -/
def V4 (l : List UInt64) : Nat := (l.getD 0 0).toNat + 18446744073709551616 * (l.getD 1 0).toNat + 340282366920938463463374607431768211456 * (l.getD 2 0).toNat + 6277101735386680763835789423207666416102355444464034512896 * (l.getD 3 0).toNat
/-- p is taken away. -/
def lsb (w : List UInt64) : Nat → List UInt64 × UInt64
  | 0 => (List.replicate 4 0, 0)
  | i + 1 => ((lsb w i).1.set i (w.getD i 0 - pl.getD i 0 - (lsb w i).2), subb (w.getD i 0) (pl.getD i 0) (lsb w i).2)
theorem lsb_len (w : List UInt64) : ∀ i, (lsb w i).1.length = 4
  | 0 => by simp [lsb]
  | i + 1 => by rw [lsb, List.length_set, lsb_len]
theorem lsb_le (w : List UInt64) : ∀ i, (lsb w i).2.toNat ≤ 1
  | 0 => by show (0 : UInt64).toNat ≤ 1; decide
  | i + 1 => by rw [lsb]; exact subb_le ..
def lessL (w : List UInt64) : List UInt64 := if (lsb w 4).2 = 0 then (lsb w 4).1 else w
/-- A carry runs on. -/
def crl (l : List UInt64) (c : UInt64) : Nat → List UInt64 × UInt64
  | 0 => (l, c)
  | i + 1 => ((crl l c i).1.set (1 + i) ((crl l c i).1.getD (1 + i) 0 + 0 + (crl l c i).2), addc ((crl l c i).1.getD (1 + i) 0) 0 (crl l c i).2)
theorem crl_len (l : List UInt64) (c : UInt64) : ∀ i, (crl l c i).1.length = l.length
  | 0 => rfl
  | i + 1 => by rw [crl, List.length_set, crl_len]
theorem crl_le (l : List UInt64) (c : UInt64) (h : c.toNat ≤ 1) : ∀ i, (crl l c i).2.toNat ≤ 1
  | 0 => h
  | i + 1 => by rw [crl]; exact addc_le ..
abbrev m63 (l : List UInt64) : List UInt64 := l.set 3 (l.getD 3 0 &&& 9223372036854775807)
abbrev fo1 (w : List UInt64) (u : UInt64) : List UInt64 := (m63 w).set 0 ((m63 w).getD 0 0 + u * 38 + 0)
abbrev fo2 (w : List UInt64) (u : UInt64) : List UInt64 := (fo1 w u).set 1 ((fo1 w u).getD 1 0 + mulhi u 38 + addc ((m63 w).getD 0 0) (u * 38) 0)
abbrev fo3 (w : List UInt64) (u : UInt64) : List UInt64 := (fo2 w u).set 2 ((fo2 w u).getD 2 0 + 0 + addc ((fo1 w u).getD 1 0) (mulhi u 38) (addc ((m63 w).getD 0 0) (u * 38) 0))
abbrev fo4 (w : List UInt64) (u : UInt64) : List UInt64 := (fo3 w u).set 3 ((fo3 w u).getD 3 0 + addc ((fo2 w u).getD 2 0) 0 (addc ((fo1 w u).getD 1 0) (mulhi u 38) (addc ((m63 w).getD 0 0) (u * 38) 0)))
abbrev ad19 (l : List UInt64) (t : UInt64) : List UInt64 := l.set 0 (l.getD 0 0 + 19 * t + 0)
abbrev ca19 (l : List UInt64) (t : UInt64) : UInt64 := addc (l.getD 0 0) (19 * t) 0
def foA (w : List UInt64) (u : UInt64) : List UInt64 := (crl (ad19 (fo4 w u) (shr64n (w.getD 3 0) 63)) (ca19 (fo4 w u) (shr64n (w.getD 3 0) 63)) 3).1
def foB (E : List UInt64) : List UInt64 := (crl (ad19 (m63 E) (shr64n (E.getD 3 0) 63)) (ca19 (m63 E) (shr64n (E.getD 3 0) 63)) 3).1
def foldL (w : List UInt64) (u : UInt64) : List UInt64 := lessL (foB (foA w u))
theorem foA_len (w : List UInt64) (u : UInt64) : (foA w u).length = w.length := by rw [foA, crl_len]; simp only [List.length_set]
theorem foB_len (w : List UInt64) : (foB w).length = w.length := by rw [foB, crl_len]; simp only [List.length_set]
theorem lessL_len (w : List UInt64) (h : w.length = 4) : (lessL w).length = 4 := by
  unfold lessL; split
  · exact lsb_len w 4
  · exact h
/-- Bytes into words. -/
def ofb (b : List UInt8) : Nat → List UInt64
  | 0 => List.replicate 4 0
  | i + 1 => (ofb b i).set (i / 8) ((ofb b i).getD (i / 8) 0 ||| shl64n (b.getD i 0).toUInt64 (8 * (i % 8)))
theorem ofb_len (b : List UInt8) : ∀ i, (ofb b i).length = 4
  | 0 => by simp [ofb]
  | i + 1 => by rw [ofb, List.length_set, ofb_len]
def ofL (b : List UInt8) : List UInt64 := lessL (m63 (ofb b 32))
/-- Words into bytes. -/
def byl (w : List UInt64) : Nat → List UInt8
  | 0 => List.replicate 32 0
  | i + 1 => (byl w i).set i (shr64n (w.getD (i / 8) 0) (8 * (i % 8))).toUInt8
theorem byl_len (w : List UInt64) : ∀ i, (byl w i).length = 32
  | 0 => by simp [byl]
  | i + 1 => by rw [byl, List.length_set, byl_len]
def adl (x y : List UInt64) : Nat → List UInt64 × UInt64
  | 0 => (List.replicate 4 0, 0)
  | i + 1 => ((adl x y i).1.set i (x.getD i 0 + y.getD i 0 + (adl x y i).2), addc (x.getD i 0) (y.getD i 0) (adl x y i).2)
theorem adl_len (x y : List UInt64) : ∀ i, (adl x y i).1.length = 4
  | 0 => by simp [adl]
  | i + 1 => by rw [adl, List.length_set, adl_len]
theorem adl_le (x y : List UInt64) : ∀ i, (adl x y i).2.toNat ≤ 1
  | 0 => by show (0 : UInt64).toNat ≤ 1; decide
  | i + 1 => by rw [adl]; exact addc_le ..
def ngl (x : List UInt64) : Nat → List UInt64 × UInt64
  | 0 => (List.replicate 4 0, 0)
  | i + 1 => ((ngl x i).1.set i (pl.getD i 0 - x.getD i 0 - (ngl x i).2), subb (pl.getD i 0) (x.getD i 0) (ngl x i).2)
theorem ngl_len (x : List UInt64) : ∀ i, (ngl x i).1.length = 4
  | 0 => by simp [ngl]
  | i + 1 => by rw [ngl, List.length_set, ngl_len]
theorem ngl_le (x : List UInt64) : ∀ i, (ngl x i).2.toNat ≤ 1
  | 0 => by show (0 : UInt64).toNat ≤ 1; decide
  | i + 1 => by rw [ngl]; exact subb_le ..
/-- One row of a product: what stands where, and what is carried on. -/
def tstep (a r : List UInt64) (i : Nat) (w : List UInt64) : Nat → List UInt64 × UInt64
  | 0 => (w, 0)
  | j + 1 =>
    ((tstep a r i w j).1.set (i + j) (a.getD i 0 * r.getD j 0 + (tstep a r i w j).1.getD (i + j) 0 + 0 + (tstep a r i w j).2 + 0),
      mulhi (a.getD i 0) (r.getD j 0) + addc (a.getD i 0 * r.getD j 0) ((tstep a r i w j).1.getD (i + j) 0) 0 + addc (a.getD i 0 * r.getD j 0 + (tstep a r i w j).1.getD (i + j) 0 + 0) (tstep a r i w j).2 0)
theorem tstep_len (a r : List UInt64) (i : Nat) (w : List UInt64) : ∀ j, (tstep a r i w j).1.length = w.length
  | 0 => rfl
  | j + 1 => by rw [tstep, List.length_set, tstep_len]
def tout (a r : List UInt64) : Nat → List UInt64
  | 0 => List.replicate 8 0
  | i + 1 => (tstep a r i (tout a r i) 4).1.set (i + 4) (tstep a r i (tout a r i) 4).2
theorem tout_len (a r : List UInt64) : ∀ i, (tout a r i).length = 8
  | 0 => by simp [tout]
  | i + 1 => by rw [tout, List.length_set, tstep_len, tout_len]
/-- The upper half, 38 times. -/
def hst (w : List UInt64) : Nat → List UInt64 × UInt64
  | 0 => (List.replicate 4 0, 0)
  | i + 1 =>
    ((hst w i).1.set i (w.getD (i + 4) 0 * 38 + w.getD i 0 + 0 + (hst w i).2 + 0),
      mulhi (w.getD (i + 4) 0) 38 + addc (w.getD (i + 4) 0 * 38) (w.getD i 0) 0 + addc (w.getD (i + 4) 0 * 38 + w.getD i 0 + 0) (hst w i).2 0)
theorem hst_len (w : List UInt64) : ∀ i, (hst w i).1.length = 4
  | 0 => by simp [hst]
  | i + 1 => by rw [hst, List.length_set, hst_len]
def mulL (a r : List UInt64) : List UInt64 := foldL (hst (tout a r 4) 4).1 (hst (tout a r 4) 4).2

theorem spl4 {α : Type} {k : IntKind} {g : α → Int} {a b : List α} (h : b.length = a.length) : splice (mapc k g a) 0 (mapc k g b) = mapc k g b := by
  simp [splice, mapc, h]
/-- field.prime -/
theorem prime_ : Good Try.prog 47 [] [] (sa (u64s pl)) [] := by
  refine good_frm 2 Try.func47 rfl rfl rfl rfl rfl rfl ?_
  refine awp_seq ?_
  refine rln ?_
  refine G2 (fun _ k_ => q_al k_) ?_
  refine gend ?_
  refine awp_seq ?_
  refine rln ?_
  refine G (q_bla (fkC (out := u64s [18446744073709551597, 18446744073709551615, 18446744073709551615, 9223372036854775807]) ?_))
  refine G20 (fun _ k_ => q_stw k_) ?_
  refine gend ?_
  refine awp_ret ?_
  exact fpc (t := 25) (a := 0)
/-- math/bits.Mul64 -/
theorem mul64 (x y : UInt64) : Good Try.prog 44 [.c (c64 x), .c (c64 y)] [] (.t [.c (c64 (mulhi x y)), .c (c64 (x * y))]) [] := by
  refine good_frm 51 Try.func44 rfl rfl rfl rfl rfl rfl ?_
  refine awp_seq ?_
  refine rln ?_
  refine G (q_as (s := sc (c64 0)) ?_)
  refine G (q_as (s := sc (c64 0)) ?_)
  refine gend ?_
  refine awp_seq ?_
  refine rln ?_
  refine Mv ?_
  refine G (q_and64 (y := 4294967295) ?_)
  refine As ?_
  refine gend ?_
  refine awp_seq ?_
  refine rln ?_
  refine Mv ?_
  refine G (q_shr64_64 (n := 32) ?_)
  refine As ?_
  refine gend ?_
  refine awp_seq ?_
  refine rln ?_
  refine Mv ?_
  refine G (q_and64 (y := 4294967295) ?_)
  refine As ?_
  refine gend ?_
  refine awp_seq ?_
  refine rln ?_
  refine Mv ?_
  refine G (q_shr64_64 (n := 32) ?_)
  refine As ?_
  refine gend ?_
  refine awp_seq ?_
  refine rln ?_
  refine Mv ?_
  refine Mv ?_
  refine G (q_mul64 ?_)
  refine As ?_
  refine gend ?_
  refine awp_seq ?_
  refine rln ?_
  refine Mv ?_
  refine Mv ?_
  refine G (q_mul64 ?_)
  refine Mv ?_
  refine G (q_shr64_64 (n := 32) ?_)
  refine G (q_add64 ?_)
  refine As ?_
  refine gend ?_
  refine awp_seq ?_
  refine rln ?_
  refine Mv ?_
  refine G (q_and64 (y := 4294967295) ?_)
  refine As ?_
  refine gend ?_
  refine awp_seq ?_
  refine rln ?_
  refine Mv ?_
  refine G (q_shr64_64 (n := 32) ?_)
  refine As ?_
  refine gend ?_
  refine awp_seq ?_
  refine rln ?_
  refine Mv ?_
  refine Mv ?_
  refine Mv ?_
  refine G (q_mul64 ?_)
  refine G (q_add64 ?_)
  refine As ?_
  refine gend ?_
  refine awp_seq ?_
  refine rln ?_
  refine Mv ?_
  refine Mv ?_
  refine G (q_mul64 ?_)
  refine Mv ?_
  refine G (q_add64 ?_)
  refine Mv ?_
  refine G (q_shr64_64 (n := 32) ?_)
  refine G (q_add64 ?_)
  refine As ?_
  refine gend ?_
  refine awp_seq ?_
  refine rln ?_
  refine Mv ?_
  refine Mv ?_
  refine G (q_mul64 ?_)
  refine As ?_
  refine gend ?_
  refine awp_ret ?_
  exact fp2
/-- field.less -/
theorem less_ (w : List UInt64) (h : w.length = 4) : Good Try.prog 40 [.a (u64s w)] [] (sa (u64s (lessL w))) [] := by
  refine good_frm 31 Try.func40 rfl rfl rfl rfl rfl rfl ?_
  refine awp_seq ?_
  refine rln ?_
  refine G2 (fun _ k_ => q_boxa k_) ?_
  refine G2 (fun _ k_ => q_al k_) ?_
  refine gend ?_
  refine awp_seq ?_
  refine rln ?_
  refine G2 (fun _ k_ => q_al k_) ?_
  refine gend ?_
  refine awp_seq ?_
  refine rln ?_
  refine G (q_as (s := sc (c64 0)) ?_)
  refine gend ?_
  refine awp_seq ?_
  refine rln ?_
  refine G2 (fun _ k_ => q_callp (prime_/- escutcheon/field.prime -/) k_) ?_
  refine G2 (fun _ k_ => q_al k_) ?_
  refine G20 (fun _ k_ => q_stw k_) ?_
  refine gend ?_
  refine awp_seq ?_
  refine awp_seq ?_
  refine rln ?_
  refine G (q_mv (s := sc (cn 0)) ?_)
  refine gend ?_
  refine awp_block ?_
  refine awp_loop (fun x : {i : Nat // i ≤ 4} => ⟨frm 31 [(1, sc (.ptr 0 0)), (2, sc (.ptr 1 0)), (3, sc (.ptr 2 0)), (4, sc (c64 (lsb w x.1).2)), (5, sc (.ptr 3 0)), (8, sc (cn x.1))], [some (u64s w), some (u64s (List.replicate 4 0)), some (u64s (lsb w x.1).1), some (u64s pl)]⟩) (fun x => 4 - x.1) ⟨0, Nat.zero_le _⟩ (sle_sub ⟨rfl, rfl, rfl, rfl, rfl, rfl, trivial⟩ rfl) fun x => ?_   -- live: [1, 3, 4, 5, 8]
  have hl := lsb_len w x.1
  have hb := lsb_le w x.1
  have hp : pl.length = 4 := rfl
  refine awp_seq ?_
  refine rln ?_
  refine G (q_lssn (y := 4) ?_)
  refine gend ?_
  refine awp_seq ?_
  refine cnd (fun hc1 => ?_) (fun hc1 => ?_); rotate_left
  · refine awp_exit ?_
    rw [show x.1 = 4 from (by have := x.2; omega)]
    have hl := lsb_len w 4
    refine awp_seq ?_
    refine awp_seq ?_
    refine rln ?_
    refine Mv ?_
    refine G (q_eql64 (y := 0) ?_)
    refine gend ?_
    refine cnd (fun hc2 => ?_) (fun hc2 => ?_)
    · refine awp_seq ?_
      refine rln ?_
      refine G (q_ldw ?_)
      refine G  (q_bls (fka rfl (et rfl) ((mapc_length ..).trans hl) (by decide) (fk0 ?_)))
      rw [spl4 (a := List.replicate 4 0) hl]
      refine G20 (fun _ k_ => q_stw k_) ?_
      refine gend ?_
      refine awp_ret ?_
      exact fpc (t := 27) (a := 2) (hn := by exact (mapc_length ..).trans hl) (hv := by rw [lessL, if_pos hc2])
    refine awp_skip ?_
    refine awp_seq ?_
    refine rln ?_
    refine G (q_ldw ?_)
    refine G  (q_bls (fka rfl (et rfl) ((mapc_length ..).trans h) (by decide) (fk0 ?_)))
    rw [spl4 (a := List.replicate 4 0) h]
    refine G20 (fun _ k_ => q_stw k_) ?_
    refine gend ?_
    refine awp_ret ?_
    exact fpc (t := 27) (a := 2) (hn := by exact (mapc_length ..).trans h) (hv := by rw [lessL, if_neg hc2])
  refine awp_skip ?_
  refine awp_seq ?_
  refine awp_block ?_
  refine awp_seq ?_
  refine rln ?_
  refine Mv ?_
  refine As ?_
  refine gend ?_
  refine rdln [13] [0, 0, 0, 0, 0, 0, 0, 0, 0, 0, 0, 0, 0, 0, 1] [0, 0, 0, 0, 0, 0, 0, 0, 0, 0, 0, 1, 0, 1, 1] ?_
  refine Dp (fun _ => q_mv (s := .v (.c _)) ⟨rfl, rfl⟩) ?_
  refine Dp (fun _ => q_mv (s := .v (.c _)) ⟨rfl, rfl⟩) ?_
  refine Dp (fun _ => q_ixp1 ⟨rfl, rfl⟩) ?_
  refine DLp ?_
  refine Dp (fun _ => q_mv (s := .v (.c _)) ⟨rfl, rfl⟩) ?_
  refine Dp (fun _ => q_ixp1 ⟨rfl, rfl⟩) ?_
  refine DLp ?_
  refine Dp (fun _ => q_mv (s := .v (.c _)) ⟨rfl, rfl⟩) ?_
  refine Dp (fun _ => q_subx ⟨rfl, rfl⟩) ?_
  refine Dp (fun _ => q_mv (s := .t _) ⟨rfl, rfl⟩) ?_
  refine Dp (fun _ => q_ext (y := .c _) ⟨rfl, rfl⟩) ?_
  refine Dp (fun _ => q_ext (y := .c _) ⟨rfl, rfl⟩) ?_
  refine Dp (fun _ => q_ixp1 ⟨rfl, rfl⟩) ?_
  refine De20 (fun _ k_ => q_stm k_) ?_
  refine Dp (fun _ => q_as (s := .v (.c _)) ⟨rfl, rfl⟩) ?_
  refine dend ?_
  refine rln ?_
  refine G (q_addn (y := 1) ?_)
  refine Mv ?_
  refine gend ?_
  exact ⟨⟨x.1 + 1, by omega⟩, by show 4 - (x.1 + 1) < 4 - x.1; omega, sle_sub ⟨rfl, rfl, rfl, rfl, rfl, rfl, trivial⟩ rfl⟩   -- endloop 1
set_option maxHeartbeats 1600000 in
/-- field.fold -/
theorem fold_ (w : List UInt64) (u : UInt64) (h : w.length = 4) : Good Try.prog 45 [.a (u64s w), .c (c64 u)] [] (sa (u64s (foldL w u))) [] := by
  have g2 := less_ (foB (foA w u)) ((foB_len _).trans ((foA_len w u).trans h))
  refine good_frm 108 Try.func45 rfl rfl rfl rfl rfl rfl ?_
  refine awp_seq ?_
  refine rln ?_
  refine G2 (fun _ k_ => q_boxa k_) ?_
  refine G2 (fun _ k_ => q_al k_) ?_
  refine gend ?_
  refine awp_seq ?_
  refine rln ?_
  refine Mv ?_
  refine G (q_callp (mul64 _ 38) ?_ (ha := (cac (et rfl) cm_int (cac rfl cm_int ca0))))
  refine G (q_mv (s := .t _) ?_)
  refine G (q_ext (y := .c _) ?_)
  refine G (q_ext (y := .c _) ?_)
  refine As ?_
  refine As ?_
  refine gend ?_
  refine awp_seq ?_
  refine rln ?_
  refine G (q_ixp1 ?_)
  refine G (q_ldp ?_)
  refine G (q_shr64_64 (n := 63) ?_)
  refine As ?_
  refine gend ?_
  refine awp_seq ?_
  refine rln ?_
  refine G (q_ixp1 ?_)
  refine G (q_ldp ?_)
  refine G (q_and64 (y := 9223372036854775807) ?_)
  refine G (q_ixp1 ?_)
  refine G20 (fun _ k_ => q_stm k_) ?_
  refine gend ?_
  refine awp_seq ?_
  refine rln ?_
  refine G (q_as (s := sc (c64 0)) ?_)
  refine gend ?_
  refine awp_seq ?_
  refine rln ?_
  refine G (q_ixp1 ?_)
  refine G (q_ldp ?_)
  refine Mv ?_
  refine G (q_addx (c := 0) ?_)
  refine G (q_mv (s := .t _) ?_)
  refine G (q_ext (y := .c _) ?_)
  refine G (q_ext (y := .c _) ?_)
  refine G (q_ixp1 ?_)
  refine G20 (fun _ k_ => q_stm k_) ?_
  refine As ?_
  refine gend ?_
  refine awp_seq ?_
  refine rln ?_
  refine G (q_ixp1 ?_)
  refine G (q_ldp ?_)
  refine Mv ?_
  refine Mv ?_
  refine G (q_addx ?_)
  refine G (q_mv (s := .t _) ?_)
  refine G (q_ext (y := .c _) ?_)
  refine G (q_ext (y := .c _) ?_)
  refine G (q_ixp1 ?_)
  refine G20 (fun _ k_ => q_stm k_) ?_
  refine As ?_
  refine gend ?_
  refine awp_seq ?_
  refine rln ?_
  refine G (q_ixp1 ?_)
  refine G (q_ldp ?_)
  refine Mv ?_
  refine G (q_addx (y := 0) ?_)
  refine G (q_mv (s := .t _) ?_)
  refine G (q_ext (y := .c _) ?_)
  refine G (q_ext (y := .c _) ?_)
  refine G (q_ixp1 ?_)
  refine G20 (fun _ k_ => q_stm k_) ?_
  refine As ?_
  refine gend ?_
  refine awp_seq ?_
  refine rln ?_
  refine G (q_ixp1 ?_)
  refine G (q_ldp ?_)
  refine Mv ?_
  refine G (q_add64 ?_)
  refine G (q_ixp1 ?_)
  refine G20 (fun _ k_ => q_stm k_) ?_
  refine gend ?_
  refine awp_seq ?_
  refine rln ?_
  refine G (q_ixp1 ?_)
  refine G (q_ldp ?_)
  refine Mv ?_
  refine G (q_mul64 (x := 19) ?_)
  refine G (q_addx (c := 0) ?_)
  refine G (q_mv (s := .t _) ?_)
  refine G (q_ext (y := .c _) ?_)
  refine G (q_ext (y := .c _) ?_)
  refine G (q_ixp1 ?_)
  refine G20 (fun _ k_ => q_stm k_) ?_
  refine As ?_
  refine gend ?_
  refine awp_seq ?_
  refine awp_seq ?_
  refine rln ?_
  refine G (q_as (s := sc (cn 1)) ?_)
  refine gend ?_
  refine awp_block ?_
  refine awp_loop (fun x : {i : Nat // i ≤ 3} => ⟨frm 108 [(2, sc (.ptr 0 0)), (4, sc (.ptr 1 0)), (8, sc (c64 (crl (ad19 (fo4 w u) (shr64n (w.getD 3 0) 63)) (ca19 (fo4 w u) (shr64n (w.getD 3 0) 63)) x.1).2)), (9, sc (cn (1 + x.1)))], [some (u64s (crl (ad19 (fo4 w u) (shr64n (w.getD 3 0) 63)) (ca19 (fo4 w u) (shr64n (w.getD 3 0) 63)) x.1).1), some (u64s (List.replicate 4 0))]⟩) (fun x => 3 - x.1) ⟨0, Nat.zero_le _⟩ (sle_sub ⟨rfl, rfl, rfl, rfl, trivial⟩ rfl) fun x => ?_   -- live: [2, 8, 9]
  have hl := (crl_len (ad19 (fo4 w u) (shr64n (w.getD 3 0) 63)) (ca19 (fo4 w u) (shr64n (w.getD 3 0) 63)) x.1).trans ((by simp only [List.length_set] : _ = w.length).trans h)
  have hb := crl_le (ad19 (fo4 w u) (shr64n (w.getD 3 0) 63)) (ca19 (fo4 w u) (shr64n (w.getD 3 0) 63)) (addc_le ..) x.1
  refine awp_seq ?_
  refine awp_seq ?_
  refine rln ?_
  refine Mv ?_
  refine G (q_lssn (y := 4) ?_)
  refine gend ?_
  refine cnd (fun hc1 => ?_) (fun hc1 => ?_); rotate_left
  · refine awp_exit ?_
    rw [show x.1 = 3 from (by have := x.2; omega)]
    have hl : (foA w u).length = 4 := (foA_len w u).trans h
    rw [show (crl (ad19 (fo4 w u) (shr64n (w.getD 3 0) 63)) (ca19 (fo4 w u) (shr64n (w.getD 3 0) 63)) 3).1 = foA w u from rfl]
    generalize hE : foA w u = E at hl g2 ⊢
    refine awp_seq ?_
    refine rln ?_
    refine G (q_ixp1 ?_)
    refine G (q_ldp ?_)
    refine G (q_shr64_64 (n := 63) ?_)
    refine As ?_
    refine gend ?_
    refine awp_seq ?_
    refine rln ?_
    refine G (q_ixp1 ?_)
    refine G (q_ldp ?_)
    refine G (q_and64 (y := 9223372036854775807) ?_)
    refine G (q_ixp1 ?_)
    refine G20 (fun _ k_ => q_stm k_) ?_
    refine gend ?_
    refine awp_seq ?_
    refine rln ?_
    refine G (q_ixp1 ?_)
    refine G (q_ldp ?_)
    refine Mv ?_
    refine G (q_mul64 (x := 19) ?_)
    refine G (q_addx (c := 0) ?_)
    refine G (q_mv (s := .t _) ?_)
    refine G (q_ext (y := .c _) ?_)
    refine G (q_ext (y := .c _) ?_)
    refine G (q_ixp1 ?_)
    refine G20 (fun _ k_ => q_stm k_) ?_
    refine As ?_
    refine gend ?_
    refine awp_seq ?_
    refine awp_seq ?_
    refine rln ?_
    refine G (q_as (s := sc (cn 1)) ?_)
    refine gend ?_
    refine awp_block ?_
    refine awp_loop (fun y : {i : Nat // i ≤ 3} => ⟨frm 108 [(2, sc (.ptr 0 0)), (4, sc (.ptr 1 0)), (8, sc (c64 (crl (ad19 (m63 E) (shr64n (E.getD 3 0) 63)) (ca19 (m63 E) (shr64n (E.getD 3 0) 63)) y.1).2)), (10, sc (cn (1 + y.1)))], [some (u64s (crl (ad19 (m63 E) (shr64n (E.getD 3 0) 63)) (ca19 (m63 E) (shr64n (E.getD 3 0) 63)) y.1).1), some (u64s (List.replicate 4 0))]⟩) (fun y => 3 - y.1) ⟨0, Nat.zero_le _⟩ (sle_sub ⟨rfl, rfl, rfl, rfl, trivial⟩ rfl) fun y => ?_   -- live: [2, 8, 10]
    have hl2 := (crl_len (ad19 (m63 E) (shr64n (E.getD 3 0) 63)) (ca19 (m63 E) (shr64n (E.getD 3 0) 63)) y.1).trans ((by simp only [List.length_set] : _ = E.length).trans hl)
    have hb := crl_le (ad19 (m63 E) (shr64n (E.getD 3 0) 63)) (ca19 (m63 E) (shr64n (E.getD 3 0) 63)) (addc_le ..) y.1
    refine awp_seq ?_
    refine awp_seq ?_
    refine rln ?_
    refine Mv ?_
    refine G (q_lssn (y := 4) ?_)
    refine gend ?_
    refine cnd (fun hc2 => ?_) (fun hc2 => ?_); rotate_left
    · refine awp_exit ?_
      rw [show y.1 = 3 from (by have := y.2; omega)]
      have hl3 : (foB E).length = 4 := (foB_len E).trans hl
      rw [show (crl (ad19 (m63 E) (shr64n (E.getD 3 0) 63)) (ca19 (m63 E) (shr64n (E.getD 3 0) 63)) 3).1 = foB E from rfl]
      have hl4 := lessL_len _ hl3
      obtain ⟨L, hL⟩ : ∃ L, lessL (foB E) = L := ⟨_, rfl⟩
      rw [hL] at hl4 g2
      generalize hG : foB E = E2 at hl3 g2 hL ⊢
      refine awp_seq ?_
      refine rln ?_
      refine G (q_ldw ?_)
      refine G2 (fun _ k_ => q_callp (g2/- escutcheon/field.less -/) k_) ?_
      refine G20 (fun _ k_ => q_stw k_) ?_
      refine gend ?_
      refine awp_ret ?_
      exact fpc (t := 27) (a := 4) (hn := by exact (mapc_length ..).trans hl4) (hv := by rw [foldL, hE, hG, hL])
    refine awp_skip ?_
    refine awp_seq ?_
    refine awp_block ?_
    refine rln ?_
    refine Mv ?_
    refine Mv ?_
    refine G (q_ixp1 ?_)
    refine G (q_ldp ?_)
    refine Mv ?_
    refine G (q_addx (y := 0) ?_)
    refine G (q_mv (s := .t _) ?_)
    refine G (q_ext (y := .c _) ?_)
    refine G (q_ext (y := .c _) ?_)
    refine G (q_ixp1 ?_)
    refine G20 (fun _ k_ => q_stm k_) ?_
    refine As ?_
    refine gend ?_
    refine rln ?_
    refine Mv ?_
    refine G (q_addn (y := 1) ?_)
    refine As ?_
    refine gend ?_
    exact ⟨⟨y.1 + 1, by omega⟩, by show 3 - (y.1 + 1) < 3 - y.1; omega, sle_sub ⟨rfl, rfl, rfl, rfl, trivial⟩ rfl⟩   -- endloop 2
  refine awp_skip ?_
  refine awp_seq ?_
  refine awp_block ?_
  refine rln ?_
  refine Mv ?_
  refine Mv ?_
  refine G (q_ixp1 ?_)
  refine G (q_ldp ?_)
  refine Mv ?_
  refine G (q_addx (y := 0) ?_)
  refine G (q_mv (s := .t _) ?_)
  refine G (q_ext (y := .c _) ?_)
  refine G (q_ext (y := .c _) ?_)
  refine G (q_ixp1 ?_)
  refine G20 (fun _ k_ => q_stm k_) ?_
  refine As ?_
  refine gend ?_
  refine rln ?_
  refine Mv ?_
  refine G (q_addn (y := 1) ?_)
  refine As ?_
  refine gend ?_
  exact ⟨⟨x.1 + 1, by omega⟩, by show 3 - (x.1 + 1) < 3 - x.1; omega, sle_sub ⟨rfl, rfl, rfl, rfl, trivial⟩ rfl⟩   -- endloop 1
/-- field.Of -/
theorem of_ (b : List UInt8) (h : b.length = 32) : Good Try.prog 10 [.a (u8s b)] [] (sa (u64s (ofL b))) [] := by
  have g2 := less_ (m63 (ofb b 32)) (List.length_set.trans (ofb_len b 32))
  refine good_frm 30 Try.func10 rfl rfl rfl rfl rfl rfl ?_
  refine awp_seq ?_
  refine rln ?_
  refine G2 (fun _ k_ => q_boxa k_) ?_
  refine G2 (fun _ k_ => q_al k_) ?_
  refine gend ?_
  refine awp_seq ?_
  refine rln ?_
  refine G2 (fun _ k_ => q_al k_) ?_
  refine gend ?_
  refine awp_seq ?_
  refine awp_seq ?_
  refine rln ?_
  refine G (q_ldw ?_)
  refine G (q_mv (s := sc (cn 0)) ?_)
  refine gend ?_
  refine awp_block ?_
  refine awp_loop (fun x : {i : Nat // i ≤ 32} => ⟨frm 30 [(2, sc (.ptr 1 0)), (3, sc (.ptr 2 0)), (6, sa (u8s b)), (7, sc (cn x.1))], [some (u8s b), some (u64s (List.replicate 4 0)), some (u64s (ofb b x.1))]⟩) (fun x => 32 - x.1) ⟨0, Nat.zero_le _⟩ (sle_sub ⟨rfl, rfl, rfl, rfl, trivial⟩ rfl) fun x => ?_   -- live: [3, 6, 7]
  have hl := ofb_len b x.1
  refine awp_seq ?_
  refine rln ?_
  refine G (q_lssn (y := 32) ?_)
  refine gend ?_
  refine awp_seq ?_
  refine cnd (fun hc1 => ?_) (fun hc1 => ?_); rotate_left
  · refine awp_exit ?_
    rw [show x.1 = 32 from (by have := x.2; omega)]
    have hl := ofb_len b 32
    have hl2 : (m63 (ofb b 32)).length = 4 := List.length_set.trans hl
    have hl4 := lessL_len _ hl2
    obtain ⟨L, hL⟩ : ∃ L, lessL (m63 (ofb b 32)) = L := ⟨_, rfl⟩
    rw [hL] at hl4 g2
    obtain ⟨W, hW⟩ : ∃ W, ofb b 32 = W := ⟨_, rfl⟩
    rw [hW] at hl hl2 g2 ⊢
    refine awp_seq ?_
    refine rln ?_
    refine G (q_ixp1 ?_)
    refine G (q_ldp ?_)
    refine G (q_and64 (y := 9223372036854775807) ?_)
    refine G (q_ixp1 ?_)
    refine G20 (fun _ k_ => q_stm k_) ?_
    refine gend ?_
    refine awp_seq ?_
    refine rln ?_
    refine G (q_ldw ?_)
    refine G2 (fun _ k_ => q_callp (g2/- escutcheon/field.less -/) k_) ?_
    refine G20 (fun _ k_ => q_stw k_) ?_
    refine gend ?_
    refine awp_ret ?_
    exact fpc (t := 27) (a := 2) (hn := by exact (mapc_length ..).trans hl4) (hv := by rw [ofL, hL])
  refine awp_skip ?_
  refine awp_seq ?_
  refine awp_block ?_
  refine awp_seq ?_
  refine rln ?_
  refine Mv ?_
  refine G (q_inc ?_)
  refine As ?_
  refine As ?_
  refine gend ?_
  refine rdln [12] [] [0, 0, 0, 0, 0, 0, 0, 0, 0, 0, 0, 0, 1] ?_
  refine Dp (fun _ => q_mv (s := .v (.c _)) ⟨rfl, rfl⟩) ?_
  refine Dp (fun _ => q_quon (y := 8) ⟨rfl, rfl⟩) ?_
  refine Dp (fun _ => q_ixp1 ⟨rfl, rfl⟩) ?_
  refine DLp ?_
  refine Dp (fun _ => q_mv (s := .v (.c _)) ⟨rfl, rfl⟩) ?_
  refine Dp (fun _ => q_cv8_64 ⟨rfl, rfl⟩) ?_
  refine Dp (fun _ => q_mv (s := .v (.c _)) ⟨rfl, rfl⟩) ?_
  refine Dp (fun _ => q_remn (y := 8) ⟨rfl, rfl⟩) ?_
  refine Dp (fun _ => q_muln (x := 8) ⟨rfl, rfl⟩) ?_
  refine Dp (fun _ => q_shl64_0 ⟨rfl, rfl⟩) ?_
  refine Dp (fun _ => q_or64 ⟨rfl, rfl⟩) ?_
  refine Dp (fun _ => q_ixp1 ⟨rfl, rfl⟩) ?_
  refine De20 (fun _ k_ => q_stm k_) ?_
  refine dend ?_
  refine rln ?_
  refine G (q_addn (y := 1) ?_)
  refine Mv ?_
  refine gend ?_
  exact ⟨⟨x.1 + 1, by omega⟩, by show 32 - (x.1 + 1) < 32 - x.1; omega, sle_sub ⟨rfl, rfl, rfl, rfl, trivial⟩ rfl⟩   -- endloop 1
/-- field.Small -/
theorem small_ (n : UInt64) : Good Try.prog 27 [.c (c64 n)] [] (sa (u64s [n, 0, 0, 0])) [] := by
  refine good_frm 6 Try.func27 rfl rfl rfl rfl rfl rfl ?_
  refine awp_seq ?_
  refine rln ?_
  refine G2 (fun _ k_ => q_al k_) ?_
  refine gend ?_
  refine awp_seq ?_
  refine rln ?_
  refine Mv ?_
  refine G (q_bla (fkc rfl (et rfl) rfl (Nat.le_of_ble_eq_true rfl) (fk0 ?_)))
  rw [show (u64s (List.replicate 4 0)).set (0 * 1) (c64 n) = u64s [n, 0, 0, 0] from rfl]
  refine G  (q_bls (fka rfl (et rfl) rfl (Nat.le_refl 4) (fk0 ?_)))
  rw [spl4 (a := List.replicate 4 0) (b := [n, 0, 0, 0]) rfl]
  refine G20 (fun _ k_ => q_stw k_) ?_
  refine gend ?_
  refine awp_ret ?_
  exact fpc (t := 27) (a := 2)
/-- (field.Elem).Bytes -/
theorem bytes_ (w : List UInt64) (h : w.length = 4) : Good Try.prog 36 [.a (u64s w)] [] (sa (u8s (byl w 32))) [] := by
  refine good_frm 21 Try.func36 rfl rfl rfl rfl rfl rfl ?_
  refine awp_seq ?_
  refine rln ?_
  refine G2 (fun _ k_ => q_boxa k_) ?_
  refine G2 (fun _ k_ => q_al k_) ?_
  refine gend ?_
  refine awp_seq ?_
  refine awp_seq ?_
  refine rln ?_
  refine G (q_mv (s := sc (cn 0)) ?_)
  refine gend ?_
  refine awp_block ?_
  refine awp_loop (fun x : {i : Nat // i ≤ 32} => ⟨frm 21 [(1, sc (.ptr 0 0)), (2, sc (.ptr 1 0)), (4, sc (cn x.1))], [some (u64s w), some (u8s (byl w x.1))]⟩) (fun x => 32 - x.1) ⟨0, Nat.zero_le _⟩ (sle_sub ⟨rfl, rfl, rfl, trivial⟩ rfl) fun x => ?_   -- live: [1, 2, 4]
  have hl := byl_len w x.1
  refine awp_seq ?_
  refine rln ?_
  refine G (q_lssn (y := 32) ?_)
  refine gend ?_
  refine awp_seq ?_
  refine cnd (fun hc1 => ?_) (fun hc1 => ?_); rotate_left
  · refine awp_exit ?_
    rw [show x.1 = 32 from (by have := x.2; omega)]
    have hl := byl_len w 32
    refine awp_seq ?_
    refine rln ?_
    refine G (q_ldw ?_)
    refine G20 (fun _ k_ => q_stw k_) ?_
    refine gend ?_
    refine awp_ret ?_
    exact fpc (t := 23) (a := 2) (hn := by exact (mapc_length ..).trans hl)
  refine awp_skip ?_
  refine awp_seq ?_
  refine awp_block ?_
  refine awp_seq ?_
  refine rln ?_
  refine Mv ?_
  refine As ?_
  refine gend ?_
  refine rln ?_
  refine Mv ?_
  refine Mv ?_
  refine G (q_quon (y := 8) ?_)
  refine G (q_fap0 ?_)
  refine G (q_ixp1 ?_)
  refine G (q_ldp ?_)
  refine Mv ?_
  refine G (q_remn (y := 8) ?_)
  refine G (q_muln (x := 8) ?_)
  refine G (q_shr64_0 ?_)
  refine G (q_cv64_8 ?_)
  refine G (q_ixp1 ?_)
  refine G20 (fun _ k_ => q_stm k_) ?_
  refine gend ?_
  refine rln ?_
  refine G (q_addn (y := 1) ?_)
  refine Mv ?_
  refine gend ?_
  exact ⟨⟨x.1 + 1, by omega⟩, by show 32 - (x.1 + 1) < 32 - x.1; omega, sle_sub ⟨rfl, rfl, rfl, trivial⟩ rfl⟩   -- endloop 1
/-- (field.Elem).Add -/
theorem add_ (x y : List UInt64) (hx : x.length = 4) (hy : y.length = 4) : Good Try.prog 13 [.a (u64s x), .a (u64s y)] [] (sa (u64s (lessL (adl x y 4).1))) [] := by
  have g2 := less_ (adl x y 4).1 (adl_len x y 4)
  refine good_frm 29 Try.func13 rfl rfl rfl rfl rfl rfl ?_
  refine awp_seq ?_
  refine rln ?_
  refine G2 (fun _ k_ => q_boxa k_) ?_
  refine G2 (fun _ k_ => q_boxa k_) ?_
  refine G2 (fun _ k_ => q_al k_) ?_
  refine gend ?_
  refine awp_seq ?_
  refine rln ?_
  refine G2 (fun _ k_ => q_al k_) ?_
  refine gend ?_
  refine awp_seq ?_
  refine rln ?_
  refine G (q_as (s := sc (c64 0)) ?_)
  refine gend ?_
  refine awp_seq ?_
  refine awp_seq ?_
  refine rln ?_
  refine G (q_mv (s := sc (cn 0)) ?_)
  refine gend ?_
  refine awp_block ?_
  refine awp_loop (fun i : {i : Nat // i ≤ 4} => ⟨frm 29 [(2, sc (.ptr 0 0)), (3, sc (.ptr 1 0)), (4, sc (.ptr 2 0)), (5, sc (.ptr 3 0)), (6, sc (c64 (adl x y i.1).2)), (8, sc (cn i.1))], [some (u64s x), some (u64s y), some (u64s (List.replicate 4 0)), some (u64s (adl x y i.1).1)]⟩) (fun i => 4 - i.1) ⟨0, Nat.zero_le _⟩ (sle_sub ⟨rfl, rfl, rfl, rfl, rfl, rfl, trivial⟩ rfl) fun i => ?_   -- live: [2, 3, 5, 6, 8]
  have hl := adl_len x y i.1
  have hb := adl_le x y i.1
  refine awp_seq ?_
  refine rln ?_
  refine G (q_lssn (y := 4) ?_)
  refine gend ?_
  refine awp_seq ?_
  refine cnd (fun hc1 => ?_) (fun hc1 => ?_); rotate_left
  · refine awp_exit ?_
    rw [show i.1 = 4 from (by have := i.2; omega)]
    have hl := adl_len x y 4
    have hl4 := lessL_len _ hl
    generalize lessL (adl x y 4).1 = L at hl4 g2 ⊢
    refine awp_seq ?_
    refine rln ?_
    refine G (q_ldw ?_)
    refine G2 (fun _ k_ => q_callp (g2/- escutcheon/field.less -/) k_) ?_
    refine G20 (fun _ k_ => q_stw k_) ?_
    refine gend ?_
    refine awp_ret ?_
    exact fpc (t := 27) (a := 4) (hn := by exact (mapc_length ..).trans hl4)
  refine awp_skip ?_
  refine awp_seq ?_
  refine awp_block ?_
  refine awp_seq ?_
  refine rln ?_
  refine Mv ?_
  refine As ?_
  refine gend ?_
  refine rdln [15] [0, 0, 0, 0, 0, 0, 0, 0, 0, 0, 0, 0, 0, 0, 0, 0, 1] [0, 0, 0, 0, 0, 0, 0, 0, 0, 0, 0, 0, 0, 1, 0, 1, 1] ?_
  refine Dp (fun _ => q_mv (s := .v (.c _)) ⟨rfl, rfl⟩) ?_
  refine Dp (fun _ => q_mv (s := .v (.c _)) ⟨rfl, rfl⟩) ?_
  refine Dp (fun _ => q_fap0 ⟨rfl, rfl⟩) ?_
  refine Dp (fun _ => q_ixp1 ⟨rfl, rfl⟩) ?_
  refine DLp ?_
  refine Dp (fun _ => q_mv (s := .v (.c _)) ⟨rfl, rfl⟩) ?_
  refine Dp (fun _ => q_fap0 ⟨rfl, rfl⟩) ?_
  refine Dp (fun _ => q_ixp1 ⟨rfl, rfl⟩) ?_
  refine DLp ?_
  refine Dp (fun _ => q_mv (s := .v (.c _)) ⟨rfl, rfl⟩) ?_
  refine Dp (fun _ => q_addx ⟨rfl, rfl⟩) ?_
  refine Dp (fun _ => q_mv (s := .t _) ⟨rfl, rfl⟩) ?_
  refine Dp (fun _ => q_ext (y := .c _) ⟨rfl, rfl⟩) ?_
  refine Dp (fun _ => q_ext (y := .c _) ⟨rfl, rfl⟩) ?_
  refine Dp (fun _ => q_ixp1 ⟨rfl, rfl⟩) ?_
  refine De20 (fun _ k_ => q_stm k_) ?_
  refine Dp (fun _ => q_as (s := .v (.c _)) ⟨rfl, rfl⟩) ?_
  refine dend ?_
  refine rln ?_
  refine G (q_addn (y := 1) ?_)
  refine Mv ?_
  refine gend ?_
  exact ⟨⟨i.1 + 1, by omega⟩, by show 4 - (i.1 + 1) < 4 - i.1; omega, sle_sub ⟨rfl, rfl, rfl, rfl, rfl, rfl, trivial⟩ rfl⟩   -- endloop 1
/-- (field.Elem).Neg -/
theorem neg_ (x : List UInt64) (hx : x.length = 4) : Good Try.prog 20 [.a (u64s x)] [] (sa (u64s (lessL (ngl x 4).1))) [] := by
  have g2 := less_ (ngl x 4).1 (ngl_len x 4)
  refine good_frm 28 Try.func20 rfl rfl rfl rfl rfl rfl ?_
  refine awp_seq ?_
  refine rln ?_
  refine G2 (fun _ k_ => q_boxa k_) ?_
  refine G2 (fun _ k_ => q_al k_) ?_
  refine gend ?_
  refine awp_seq ?_
  refine rln ?_
  refine G2 (fun _ k_ => q_al k_) ?_
  refine gend ?_
  refine awp_seq ?_
  refine rln ?_
  refine G (q_as (s := sc (c64 0)) ?_)
  refine gend ?_
  refine awp_seq ?_
  refine rln ?_
  refine G2 (fun _ k_ => q_callp (prime_/- escutcheon/field.prime -/) k_) ?_
  refine G2 (fun _ k_ => q_al k_) ?_
  refine G20 (fun _ k_ => q_stw k_) ?_
  refine gend ?_
  refine awp_seq ?_
  refine awp_seq ?_
  refine rln ?_
  refine G (q_mv (s := sc (cn 0)) ?_)
  refine gend ?_
  refine awp_block ?_
  refine awp_loop (fun i : {i : Nat // i ≤ 4} => ⟨frm 28 [(1, sc (.ptr 0 0)), (2, sc (.ptr 1 0)), (3, sc (.ptr 2 0)), (4, sc (c64 (ngl x i.1).2)), (5, sc (.ptr 3 0)), (8, sc (cn i.1))], [some (u64s x), some (u64s (List.replicate 4 0)), some (u64s (ngl x i.1).1), some (u64s pl)]⟩) (fun i => 4 - i.1) ⟨0, Nat.zero_le _⟩ (sle_sub ⟨rfl, rfl, rfl, rfl, rfl, rfl, trivial⟩ rfl) fun i => ?_   -- live: [1, 3, 4, 5, 8]
  have hl := ngl_len x i.1
  have hb := ngl_le x i.1
  have hp : pl.length = 4 := rfl
  refine awp_seq ?_
  refine rln ?_
  refine G (q_lssn (y := 4) ?_)
  refine gend ?_
  refine awp_seq ?_
  refine cnd (fun hc1 => ?_) (fun hc1 => ?_); rotate_left
  · refine awp_exit ?_
    rw [show i.1 = 4 from (by have := i.2; omega)]
    have hl := ngl_len x 4
    have hl4 := lessL_len _ hl
    generalize lessL (ngl x 4).1 = L at hl4 g2 ⊢
    refine awp_seq ?_
    refine rln ?_
    refine G (q_ldw ?_)
    refine G2 (fun _ k_ => q_callp (g2/- escutcheon/field.less -/) k_) ?_
    refine G20 (fun _ k_ => q_stw k_) ?_
    refine gend ?_
    refine awp_ret ?_
    exact fpc (t := 27) (a := 2) (hn := by exact (mapc_length ..).trans hl4)
  refine awp_skip ?_
  refine awp_seq ?_
  refine awp_block ?_
  refine awp_seq ?_
  refine rln ?_
  refine Mv ?_
  refine As ?_
  refine gend ?_
  refine rdln [14] [0, 0, 0, 0, 0, 0, 0, 0, 0, 0, 0, 0, 0, 0, 0, 1] [0, 0, 0, 0, 0, 0, 0, 0, 0, 0, 0, 0, 1, 0, 1, 1] ?_
  refine Dp (fun _ => q_mv (s := .v (.c _)) ⟨rfl, rfl⟩) ?_
  refine Dp (fun _ => q_mv (s := .v (.c _)) ⟨rfl, rfl⟩) ?_
  refine Dp (fun _ => q_ixp1 ⟨rfl, rfl⟩) ?_
  refine DLp ?_
  refine Dp (fun _ => q_mv (s := .v (.c _)) ⟨rfl, rfl⟩) ?_
  refine Dp (fun _ => q_fap0 ⟨rfl, rfl⟩) ?_
  refine Dp (fun _ => q_ixp1 ⟨rfl, rfl⟩) ?_
  refine DLp ?_
  refine Dp (fun _ => q_mv (s := .v (.c _)) ⟨rfl, rfl⟩) ?_
  refine Dp (fun _ => q_subx ⟨rfl, rfl⟩) ?_
  refine Dp (fun _ => q_mv (s := .t _) ⟨rfl, rfl⟩) ?_
  refine Dp (fun _ => q_ext (y := .c _) ⟨rfl, rfl⟩) ?_
  refine Dp (fun _ => q_ext (y := .c _) ⟨rfl, rfl⟩) ?_
  refine Dp (fun _ => q_ixp1 ⟨rfl, rfl⟩) ?_
  refine De20 (fun _ k_ => q_stm k_) ?_
  refine Dp (fun _ => q_as (s := .v (.c _)) ⟨rfl, rfl⟩) ?_
  refine dend ?_
  refine rln ?_
  refine G (q_addn (y := 1) ?_)
  refine Mv ?_
  refine gend ?_
  exact ⟨⟨i.1 + 1, by omega⟩, by show 4 - (i.1 + 1) < 4 - i.1; omega, sle_sub ⟨rfl, rfl, rfl, rfl, rfl, rfl, trivial⟩ rfl⟩   -- endloop 1
set_option maxHeartbeats 1600000 in
/-- (field.Elem).Mul -/
theorem mul_ (x y : List UInt64) (hx : x.length = 4) (hy : y.length = 4) : Good Try.prog 17 [.a (u64s x), .a (u64s y)] [] (sa (u64s (mulL x y))) [] := by
  have g2 := fold_ (hst (tout x y 4) 4).1 (hst (tout x y 4) 4).2 (hst_len _ 4)
  refine good_frm 109 Try.func17 rfl rfl rfl rfl rfl rfl ?_
  refine awp_seq ?_
  refine rln ?_
  refine G2 (fun _ k_ => q_boxa k_) ?_
  refine G2 (fun _ k_ => q_boxa k_) ?_
  refine G2 (fun _ k_ => q_al k_) ?_
  refine gend ?_
  refine awp_seq ?_
  refine rln ?_
  refine G2 (fun _ k_ => q_al k_) ?_
  refine gend ?_
  refine awp_seq ?_
  refine awp_seq ?_
  refine rln ?_
  refine G (q_mv (s := sc (cn 0)) ?_)
  refine gend ?_
  refine awp_block ?_
  refine awp_loop (fun i : {i : Nat // i ≤ 4} => ⟨frm 109 [(2, sc (.ptr 0 0)), (3, sc (.ptr 1 0)), (4, sc (.ptr 2 0)), (5, sc (.ptr 3 0)), (18, sc (cn i.1))], [some (u64s x), some (u64s y), some (u64s (List.replicate 4 0)), some (u64s (tout x y i.1))]⟩) (fun i => 4 - i.1) ⟨0, Nat.zero_le _⟩ (sle_sub ⟨rfl, rfl, rfl, rfl, rfl, trivial⟩ rfl) fun i => ?_   -- live: [2, 3, 5, 18]
  have hT := tout_len x y i.1
  refine awp_seq ?_
  refine rln ?_
  refine G (q_lssn (y := 4) ?_)
  refine gend ?_
  refine awp_seq ?_
  refine cnd (fun hc1 => ?_) (fun hc1 => ?_); rotate_left
  · refine awp_exit ?_
    rw [show i.1 = 4 from (by have := i.2; omega)]
    have hw := tout_len x y 4
    rw [show mulL x y = foldL (hst (tout x y 4) 4).1 (hst (tout x y 4) 4).2 from rfl]
    generalize hW : tout x y 4 = W at hw g2 ⊢
    refine awp_seq ?_
    refine rln ?_
    refine G2 (fun _ k_ => q_al k_) ?_
    refine gend ?_
    refine awp_seq ?_
    refine rln ?_
    refine G (q_as (s := sc (c64 0)) ?_)
    refine gend ?_
    refine awp_seq ?_
    refine awp_seq ?_
    refine rln ?_
    refine G (q_mv (s := sc (cn 0)) ?_)
    refine gend ?_
    refine awp_block ?_
    refine awp_loop (fun k : {i : Nat // i ≤ 4} => ⟨frm 109 [(4, sc (.ptr 2 0)), (5, sc (.ptr 3 0)), (12, sc (.ptr 4 0)), (13, sc (c64 (hst W k.1).2)), (70, sc (cn k.1))], [some (u64s x), some (u64s y), some (u64s (List.replicate 4 0)), some (u64s W), some (u64s (hst W k.1).1)]⟩) (fun k => 4 - k.1) ⟨0, Nat.zero_le _⟩ (sle_sub ⟨rfl, rfl, rfl, rfl, rfl, trivial⟩ rfl) fun k => ?_   -- live: [5, 12, 13, 70]
    have hh := hst_len W k.1
    refine awp_seq ?_
    refine rln ?_
    refine G (q_lssn (y := 4) ?_)
    refine gend ?_
    refine awp_seq ?_
    refine cnd (fun hc2 => ?_) (fun hc2 => ?_); rotate_left
    · refine awp_exit ?_
      rw [show k.1 = 4 from (by have := k.2; omega)]
      have hh := hst_len W 4
      have hl4 : (foldL (hst W 4).1 (hst W 4).2).length = 4 := lessL_len _ ((foB_len _).trans ((foA_len _ _).trans hh))
      generalize foldL (hst W 4).1 (hst W 4).2 = L at hl4 g2 ⊢
      refine awp_seq ?_
      refine rln ?_
      refine G (q_ldw ?_)
      refine Mv ?_
      refine G2 (fun _ k_ => q_callp (g2/- escutcheon/field.fold -/) k_) ?_
      refine G20 (fun _ k_ => q_stw k_) ?_
      refine gend ?_
      refine awp_ret ?_
      exact fpc (t := 27) (a := 4) (hn := by exact (mapc_length ..).trans hl4)
    refine awp_skip ?_
    refine awp_seq ?_
    refine awp_block ?_
    refine awp_seq ?_
    refine rln ?_
    refine Mv ?_
    refine As ?_
    refine gend ?_
    refine awp_seq ?_
    refine rln ?_
    refine Mv ?_
    refine G (q_addn (y := 4) ?_)
    refine G (q_ixp1 ?_)
    refine G (q_ldp ?_)
    refine G (q_callp (mul64 _ 38) ?_ (ha := (cac (et rfl) cm_int (cac rfl cm_int ca0))))
    refine G (q_mv (s := .t _) ?_)
    refine G (q_ext (y := .c _) ?_)
    refine G (q_ext (y := .c _) ?_)
    refine As ?_
    refine As ?_
    refine gend ?_
    refine awp_seq ?_
    refine rln ?_
    refine G (q_as (s := sc (c64 0)) ?_)
    refine gend ?_
    refine awp_seq ?_
    refine rln ?_
    refine Mv ?_
    refine Mv ?_
    refine G (q_ixp1 ?_)
    refine G (q_ldp ?_)
    refine G (q_addx (c := 0) ?_)
    refine G (q_mv (s := .t _) ?_)
    refine G (q_ext (y := .c _) ?_)
    refine G (q_ext (y := .c _) ?_)
    refine As ?_
    refine As ?_
    refine gend ?_
    refine awp_seq ?_
    refine rln ?_
    refine Mv ?_
    refine Mv ?_
    refine G (q_add64 ?_)
    refine As ?_
    refine gend ?_
    refine awp_seq ?_
    refine rln ?_
    refine Mv ?_
    refine Mv ?_
    refine G (q_addx (c := 0) ?_)
    refine G (q_mv (s := .t _) ?_)
    refine G (q_ext (y := .c _) ?_)
    refine G (q_ext (y := .c _) ?_)
    refine As ?_
    refine As ?_
    refine gend ?_
    refine awp_seq ?_
    refine rln ?_
    refine Mv ?_
    refine Mv ?_
    refine G (q_add64 ?_)
    refine As ?_
    refine gend ?_
    refine rln ?_
    refine Mv ?_
    refine Mv ?_
    refine Mv ?_
    refine G (q_ixp1 ?_)
    refine G20 (fun _ k_ => q_stm k_) ?_
    refine As ?_
    refine gend ?_
    refine rln ?_
    refine G (q_addn (y := 1) ?_)
    refine Mv ?_
    refine gend ?_
    exact ⟨⟨k.1 + 1, by omega⟩, by show 4 - (k.1 + 1) < 4 - k.1; omega, sle_sub ⟨rfl, rfl, rfl, rfl, rfl, trivial⟩ rfl⟩   -- endloop 2
  refine awp_skip ?_
  refine awp_seq ?_
  refine awp_block ?_
  refine awp_seq ?_
  refine rln ?_
  refine Mv ?_
  refine As ?_
  refine gend ?_
  refine awp_seq ?_
  refine rln ?_
  refine G (q_as (s := sc (c64 0)) ?_)
  refine gend ?_
  refine awp_seq ?_
  refine awp_seq ?_
  refine rln ?_
  refine G (q_mv (s := sc (cn 0)) ?_)
  refine gend ?_
  refine awp_block ?_
  refine awp_loop (fun j : {i : Nat // i ≤ 4} => ⟨frm 109 [(2, sc (.ptr 0 0)), (3, sc (.ptr 1 0)), (4, sc (.ptr 2 0)), (5, sc (.ptr 3 0)), (6, sc (cn i.1)), (18, sc (cn i.1)), (7, sc (c64 (tstep x y i.1 (tout x y i.1) j.1).2)), (21, sc (cn j.1))], [some (u64s x), some (u64s y), some (u64s (List.replicate 4 0)), some (u64s (tstep x y i.1 (tout x y i.1) j.1).1)]⟩) (fun j => 4 - j.1) ⟨0, Nat.zero_le _⟩ (sle_sub ⟨rfl, rfl, rfl, rfl, rfl, rfl, rfl, rfl, trivial⟩ rfl) fun j => ?_   -- live: [2, 3, 5, 6, 7, 21]
  have ht := (tstep_len x y i.1 (tout x y i.1) j.1).trans hT
  refine awp_seq ?_
  refine rln ?_
  refine G (q_lssn (y := 4) ?_)
  refine gend ?_
  refine awp_seq ?_
  refine cnd (fun hc3 => ?_) (fun hc3 => ?_); rotate_left
  · refine awp_exit ?_
    rw [show j.1 = 4 from (by have := j.2; omega)]
    have ht := (tstep_len x y i.1 (tout x y i.1) 4).trans hT
    refine rln ?_
    refine Mv ?_
    refine G (q_addn (y := 4) ?_)
    refine Mv ?_
    refine G (q_ixp1 ?_)
    refine G20 (fun _ k_ => q_stm k_) ?_
    refine gend ?_
    refine rln ?_
    refine G (q_addn (y := 1) ?_)
    refine Mv ?_
    refine gend ?_
    exact ⟨⟨i.1 + 1, by omega⟩, by show 4 - (i.1 + 1) < 4 - i.1; omega, sle_sub ⟨rfl, rfl, rfl, rfl, rfl, trivial⟩ rfl⟩   -- endloop 1
  refine awp_skip ?_
  refine awp_seq ?_
  refine awp_block ?_
  refine awp_seq ?_
  refine rln ?_
  refine Mv ?_
  refine As ?_
  refine gend ?_
  refine awp_seq ?_
  refine rdln [] [] [] ?_
  refine Dp (fun _ => q_mv (s := .v (.c _)) ⟨rfl, rfl⟩) ?_
  refine Dp (fun _ => q_fap0 ⟨rfl, rfl⟩) ?_
  refine Dp (fun _ => q_ixp1 ⟨rfl, rfl⟩) ?_
  refine DLp ?_
  refine Dp (fun _ => q_mv (s := .v (.c _)) ⟨rfl, rfl⟩) ?_
  refine Dp (fun _ => q_fap0 ⟨rfl, rfl⟩) ?_
  refine Dp (fun _ => q_ixp1 ⟨rfl, rfl⟩) ?_
  refine DLp ?_
  refine Dp (fun _ => q_callp (mul64 _ _/- math/bits.Mul64 -/) ⟨rfl, rfl⟩) ?_
  refine Dp (fun _ => q_mv (s := .t _) ⟨rfl, rfl⟩) ?_
  refine Dp (fun _ => q_ext (y := .c _) ⟨rfl, rfl⟩) ?_
  refine Dp (fun _ => q_ext (y := .c _) ⟨rfl, rfl⟩) ?_
  refine Dp (fun _ => q_as (s := .v (.c _)) ⟨rfl, rfl⟩) ?_
  refine Dp (fun _ => q_as (s := .v (.c _)) ⟨rfl, rfl⟩) ?_
  refine dend ?_
  refine awp_seq ?_
  refine rln ?_
  refine G (q_as (s := sc (c64 0)) ?_)
  refine gend ?_
  refine awp_seq ?_
  refine rln ?_
  refine Mv ?_
  refine Mv ?_
  refine Mv ?_
  refine G (q_addn ?_)
  refine G (q_ixp1 ?_)
  refine G (q_ldp ?_)
  refine G (q_addx (c := 0) ?_)
  refine G (q_mv (s := .t _) ?_)
  refine G (q_ext (y := .c _) ?_)
  refine G (q_ext (y := .c _) ?_)
  refine As ?_
  refine As ?_
  refine gend ?_
  refine awp_seq ?_
  refine rln ?_
  refine Mv ?_
  refine Mv ?_
  refine G (q_add64 ?_)
  refine As ?_
  refine gend ?_
  refine awp_seq ?_
  refine rln ?_
  refine Mv ?_
  refine Mv ?_
  refine G (q_addx (c := 0) ?_)
  refine G (q_mv (s := .t _) ?_)
  refine G (q_ext (y := .c _) ?_)
  refine G (q_ext (y := .c _) ?_)
  refine As ?_
  refine As ?_
  refine gend ?_
  refine awp_seq ?_
  refine rln ?_
  refine Mv ?_
  refine Mv ?_
  refine G (q_add64 ?_)
  refine As ?_
  refine gend ?_
  refine rln ?_
  refine Mv ?_
  refine Mv ?_
  refine G (q_addn ?_)
  refine Mv ?_
  refine Mv ?_
  refine G (q_ixp1 ?_)
  refine G20 (fun _ k_ => q_stm k_) ?_
  refine As ?_
  refine gend ?_
  refine rln ?_
  refine G (q_addn (y := 1) ?_)
  refine Mv ?_
  refine gend ?_
  exact ⟨⟨j.1 + 1, by omega⟩, by show 4 - (j.1 + 1) < 4 - j.1; omega, sle_sub ⟨rfl, rfl, rfl, rfl, rfl, rfl, rfl, rfl, trivial⟩ rfl⟩   -- endloop 3
end Go.Proofs.Ytjibmonfmhdbbaa.Fd

/- Numbers: primes, Fermat's little theorem, and that 2^255 - 19 is prime. -/
namespace Go.Nt

/-- A prime number. -/
def Pr (p : Nat) : Prop := 2 ≤ p ∧ ∀ a, a ∣ p → a = 1 ∨ a = p

theorem Pr.pos {p : Nat} (h : Pr p) : 0 < p := by have := h.1; omega
theorem Pr.coprime {p a : Nat} (h : Pr p) (ha : ¬ p ∣ a) : Nat.gcd p a = 1 := by
  rcases h.2 _ (Nat.gcd_dvd_left p a) with e | e
  · exact e
  · exact absurd (e ▸ Nat.gcd_dvd_right p a) ha
theorem Pr.mul {p a b : Nat} (h : Pr p) (hd : p ∣ a * b) : p ∣ a ∨ p ∣ b := by
  by_cases ha : p ∣ a
  · exact .inl ha
  · exact .inr (Nat.Coprime.dvd_of_dvd_mul_left (h.coprime ha) hd)

/-- Two numbers leave the same rest. -/
def Eqm (n a b : Nat) : Prop := a % n = b % n
theorem Eqm.refl (n a : Nat) : Eqm n a a := rfl
theorem Eqm.symm {n a b : Nat} (h : Eqm n a b) : Eqm n b a := Eq.symm h
theorem Eqm.trans {n a b c : Nat} (h : Eqm n a b) (k : Eqm n b c) : Eqm n a c := Eq.trans h k
theorem Eqm.mul {n a b c d : Nat} (h : Eqm n a b) (k : Eqm n c d) : Eqm n (a * c) (b * d) := by
  unfold Eqm at *; rw [Nat.mul_mod, h, k, ← Nat.mul_mod]
theorem Eqm.add {n a b c d : Nat} (h : Eqm n a b) (k : Eqm n c d) : Eqm n (a + c) (b + d) := by
  unfold Eqm at *; rw [Nat.add_mod, h, k, ← Nat.add_mod]
theorem Eqm.pow {n a b : Nat} (h : Eqm n a b) (e : Nat) : Eqm n (a ^ e) (b ^ e) := by
  unfold Eqm at *; rw [Nat.pow_mod, h, ← Nat.pow_mod]
theorem eqm_mod (n a : Nat) : Eqm n (a % n) a := Nat.mod_mod _ _
theorem eqm_of_dvd {n m a b : Nat} (hd : m ∣ n) (h : Eqm n a b) : Eqm m a b := by
  unfold Eqm at *
  rw [← Nat.mod_mod_of_dvd a hd, h, Nat.mod_mod_of_dvd b hd]
theorem eqm_iff {n a b : Nat} (h : a ≤ b) : Eqm n a b ↔ n ∣ b - a := by
  constructor
  · intro e
    exact ⟨b / n - a / n, by
      unfold Eqm at e
      have h1 := Nat.div_add_mod a n
      have h2 := Nat.div_add_mod b n
      rw [Nat.mul_sub]; omega⟩
  · rintro ⟨k, e⟩
    have : b = a + n * k := by omega
    unfold Eqm; rw [this, Nat.add_mul_mod_self_left]
/-- What is coprime can be left out of a product. -/
theorem Eqm.cancel {n c a b : Nat} (hc : Nat.gcd n c = 1) (h : Eqm n (c * a) (c * b)) : Eqm n a b := by
  rcases Nat.le_total a b with hab | hab
  · have h1 := (eqm_iff (Nat.mul_le_mul_left c hab)).1 h
    rw [← Nat.mul_sub] at h1
    exact (eqm_iff hab).2 (Nat.Coprime.dvd_of_dvd_mul_left hc h1)
  · have h1 := (eqm_iff (Nat.mul_le_mul_left c hab)).1 h.symm
    rw [← Nat.mul_sub] at h1
    exact ((eqm_iff hab).2 (Nat.Coprime.dvd_of_dvd_mul_left hc h1)).symm

/-! Fermat's little theorem. -/
/-- A list without doubles whose members all stand in another one that is not longer: the same members. -/
theorem perm_of_sub : ∀ {l m : List Nat}, l.Nodup → (∀ x ∈ l, x ∈ m) → m.length ≤ l.length → l.Perm m
  | [], m, _, _, hl => by
    have : m = [] := List.length_eq_zero_iff.1 (by simpa using hl)
    subst this; exact List.Perm.refl _
  | x :: l, m, hn, hs, hl => by
    have hx := hs x (by simp)
    have hp := List.perm_cons_erase hx
    have hn' := List.nodup_cons.1 hn
    refine (List.Perm.cons x (perm_of_sub hn'.2 (fun y hy => ?_) ?_)).trans hp.symm
    · have hne : y ≠ x := by rintro rfl; exact hn'.1 hy
      exact (List.mem_erase_of_ne hne).2 (hs y (by simp [hy]))
    · have := hp.length_eq
      simp at this hl; omega
def prodm (l : List Nat) : Nat := l.prod
theorem prod_map_mul (p a : Nat) : ∀ l : List Nat, Eqm p (l.map fun i => a * i % p).prod (a ^ l.length * l.prod)
  | [] => by simp [Eqm]
  | x :: l => by
    simp only [List.map_cons, List.prod_cons, List.length_cons]
    refine (Eqm.mul (eqm_mod p (a * x)) (prod_map_mul p a l)).trans ?_
    rw [Nat.pow_succ, show a ^ l.length * a * (x * l.prod) = a * x * (a ^ l.length * l.prod) by
      simp only [Nat.mul_comm, Nat.mul_left_comm, Nat.mul_assoc]]
    exact Eqm.refl _ _
theorem prod_coprime {p : Nat} (h : Pr p) : ∀ l : List Nat, (∀ x ∈ l, ¬ p ∣ x) → ¬ p ∣ l.prod
  | [], _ => by
    intro hd
    have := Nat.le_of_dvd (by simp) hd
    have := h.1
    simp at *; omega
  | x :: l, hl => by
    intro hd
    rw [List.prod_cons] at hd
    rcases h.mul hd with k | k
    · exact hl x (by simp) k
    · exact prod_coprime h l (fun y hy => hl y (by simp [hy])) k
theorem fermat {p a : Nat} (h : Pr p) (ha : ¬ p ∣ a) : a ^ (p - 1) % p = 1 := by
  have h2 := h.1
  have hL : ∀ x, x ∈ (List.range' 1 (p - 1)) ↔ 1 ≤ x ∧ x < p := by
    intro x; rw [List.mem_range'_1]; omega
  have hnd : ((List.range' 1 (p - 1)).map fun i => a * i % p).Nodup := by
    rw [List.nodup_iff_pairwise_ne, List.pairwise_map]
    refine List.Pairwise.imp_of_mem ?_ (List.nodup_iff_pairwise_ne.1 (List.nodup_range' (s := 1) (n := p - 1) (step := 1)))
    intro x y hx hy hne he
    have hx' := (hL x).1 hx
    have hy' := (hL y).1 hy
    have := Eqm.cancel (h.coprime ha) (show Eqm p (a * x) (a * y) from he)
    unfold Eqm at this
    rw [Nat.mod_eq_of_lt hx'.2, Nat.mod_eq_of_lt hy'.2] at this
    exact hne this
  have hp := perm_of_sub (m := List.range' 1 (p - 1)) hnd (fun x hx => by
    obtain ⟨i, hi, rfl⟩ := List.mem_map.1 hx
    have hi' := (hL i).1 hi
    refine (hL _).2 ⟨?_, Nat.mod_lt _ h.pos⟩
    rcases Nat.eq_zero_or_pos (a * i % p) with e | e
    · exfalso
      rcases h.mul (Nat.dvd_of_mod_eq_zero e) with k | k
      · exact ha k
      · exact absurd (Nat.le_of_dvd (by omega) k) (by omega)
    · exact e) (by simp)
  have h3 := prod_map_mul p a (List.range' 1 (p - 1))
  rw [hp.prod_nat] at h3
  have h4 := prod_coprime h (List.range' 1 (p - 1)) (fun x hx hd => by
    have := (hL x).1 hx
    exact absurd (Nat.le_of_dvd (by omega) hd) (by omega))
  have h5 := Eqm.cancel (h.coprime h4) (a := 1) (b := a ^ (p - 1)) (by
    rw [Nat.mul_one, Nat.mul_comm]; simpa using h3)
  have h6 : 1 % p = 1 := Nat.mod_eq_of_lt (by omega)
  exact (show a ^ (p - 1) % p = 1 % p from h5.symm).trans h6

/-! How a number is shown to be prime. -/
theorem pow_mod_gcd {p b : Nat} : ∀ (x y : Nat), Eqm p (b ^ x) 1 → Eqm p (b ^ y) 1 → Eqm p (b ^ Nat.gcd x y) 1 := by
  intro x y
  induction x, y using Nat.gcd.induction with
  | H0 y => intro _ h; simpa using h
  | H1 x y _ ih =>
    intro hx hy
    rw [Nat.gcd_rec]
    refine ih ?_ hx
    have e : b ^ y = b ^ (y % x) * (b ^ x) ^ (y / x) := by
      rw [← Nat.pow_mul, ← Nat.pow_add, Nat.mod_add_div]
    have h1 : Eqm p ((b ^ x) ^ (y / x)) 1 := by simpa using hx.pow (y / x)
    have h2 : Eqm p (b ^ y) (b ^ (y % x)) := by rw [e]; simpa using (Eqm.refl p (b ^ (y % x))).mul h1
    exact h2.symm.trans hy
/-- A prime factor of a number comes to a multiple of each great prime, and one. -/
theorem pk {n q m a p : Nat} (hq : Pr q) (hn : n = q * m + 1) (h1 : Eqm n (a ^ (q * m)) 1) (h2 : Nat.gcd (a ^ m % n + (n - 1)) n = 1) (hp : Pr p) (hd : p ∣ n) : q ∣ p - 1 := by
  have hn0 : 1 ≤ n := by omega
  by_cases hqp : q ∣ p - 1
  · exact hqp
  exfalso
  have hpa : ¬ p ∣ a := by
    intro ha
    have := eqm_of_dvd hd h1
    rcases Nat.eq_zero_or_pos (q * m) with e | e
    · have hle := Nat.le_of_dvd (by omega) hd
      have := hp.1
      omega
    · have e2 : p ∣ a ^ (q * m) := Nat.dvd_trans ha (by obtain ⟨k, hk⟩ : ∃ k, q * m = k + 1 := ⟨q * m - 1, by omega⟩; rw [hk, Nat.pow_succ]; exact Nat.dvd_mul_left _ _)
      unfold Eqm at this
      rw [Nat.mod_eq_zero_of_dvd e2, Nat.mod_eq_of_lt (by have := hp.1; omega)] at this
      omega
  have hb1 : Eqm p ((a ^ m) ^ q) 1 := by rw [← Nat.pow_mul, Nat.mul_comm]; exact eqm_of_dvd hd h1
  have hb2 : Eqm p ((a ^ m) ^ (p - 1)) 1 := by
    have := fermat hp (a := a) hpa
    rw [← Nat.pow_mul, Nat.mul_comm, Nat.pow_mul]
    have e : Eqm p (a ^ (p - 1)) 1 := by unfold Eqm; rw [this, Nat.mod_eq_of_lt (by have := hp.1; omega)]
    simpa using e.pow m
  have hb := pow_mod_gcd q (p - 1) hb1 hb2
  rw [hq.coprime hqp, Nat.pow_one] at hb
  have h3 : p ∣ a ^ m % n + (n - 1) := by
    refine Nat.dvd_of_mod_eq_zero ?_
    have e : Eqm p (a ^ m % n + (n - 1)) (1 + (n - 1)) := ((eqm_of_dvd hd (eqm_mod n _)).trans hb).add (Eqm.refl _ _)
    have : (a ^ m % n + (n - 1)) % p = (1 + (n - 1)) % p := e
    rw [this, show 1 + (n - 1) = n by omega, Nat.mod_eq_zero_of_dvd hd]
  have := Nat.dvd_gcd h3 hd
  rw [h2] at this
  have := Nat.le_of_dvd (by omega) this
  have := hp.1
  omega
/-- A number has a prime factor; one that is not prime has one whose square is not greater. -/
theorem has_prime : ∀ n, 2 ≤ n → ∃ p, Pr p ∧ p ∣ n := by
  intro n
  induction n using Nat.strongRecOn with
  | ind n ih =>
    intro hn
    by_cases h : Pr n
    · exact ⟨n, h, Nat.dvd_refl _⟩
    · have : ∃ a, a ∣ n ∧ ¬ (a = 1 ∨ a = n) := by
        refine Classical.byContradiction fun hc => h ⟨hn, fun a ha => Classical.byContradiction fun hb => hc ⟨a, ha, hb⟩⟩
      obtain ⟨a, ha, hb⟩ := this
      have hle := Nat.le_of_dvd (by omega) ha
      have h0 : a ≠ 0 := by rintro rfl; rw [Nat.zero_dvd] at ha; omega
      obtain ⟨p, hp, hd⟩ := ih a (by omega) (by omega)
      exact ⟨p, hp, Nat.dvd_trans hd ha⟩
theorem prime_of {n : Nat} (hn : 2 ≤ n) (h : ∀ p, Pr p → p ∣ n → n < p * p) : Pr n := by
  refine ⟨hn, fun a ha => ?_⟩
  obtain ⟨b, rfl⟩ := ha
  have ha0 : a ≠ 0 := by rintro rfl; omega
  have hb0 : b ≠ 0 := by rintro rfl; omega
  by_cases ha1 : a = 1
  · exact .inl ha1
  by_cases hb1 : b = 1
  · exact .inr (by rw [hb1, Nat.mul_one])
  exfalso
  obtain ⟨p, hp, hpa⟩ := has_prime a (by omega)
  obtain ⟨q, hq, hqb⟩ := has_prime b (by omega)
  have h1 := h p hp (Nat.dvd_trans hpa (Nat.dvd_mul_right _ _))
  have h2 := h q hq (Nat.dvd_trans hqb (Nat.dvd_mul_left _ _))
  have h3 := Nat.le_of_dvd (by omega) hpa
  have h4 := Nat.le_of_dvd (by omega) hqb
  have h5 : p * q ≤ a * b := Nat.mul_le_mul h3 h4
  rcases Nat.le_total p q with e | e
  · have := Nat.mul_le_mul_left p e; omega
  · have := Nat.mul_le_mul_right q e; omega
/-- Small primes, by trying. -/
def tr (n : Nat) : Nat → Bool
  | 0 => true
  | k + 1 => (k + 1 < 2 || n % (k + 1) != 0) && tr n k
theorem tr_spec {n : Nat} : ∀ k, tr n k = true → ∀ a, 2 ≤ a → a ≤ k → ¬ a ∣ n
  | 0, _, a, h1, h2 => by omega
  | k + 1, h, a, h1, h2 => by
    simp only [tr, Bool.and_eq_true, Bool.or_eq_true, decide_eq_true_eq, bne_iff_ne] at h
    rcases Nat.lt_or_ge a (k + 1) with h3 | h3
    · exact tr_spec k h.2 a h1 (by omega)
    · have : a = k + 1 := by omega
      subst this
      intro hd
      rcases h.1 with h4 | h4
      · omega
      · exact h4 (Nat.mod_eq_zero_of_dvd hd)
theorem small {n : Nat} (k : Nat) (hn : 2 ≤ n) (hk : n < (k + 1) * (k + 1)) (h : tr n k = true) : Pr n := by
  refine prime_of hn fun p hp hd => ?_
  rcases Nat.lt_or_ge k p with h1 | h1
  · exact Nat.lt_of_lt_of_le hk (Nat.mul_le_mul h1 h1)
  · exact absurd hd (tr_spec k h p hp.1 h1)
/-- A power's rest, quickly. -/
def pwm (n a : Nat) : Nat → Nat → Nat
  | 0, _ => 1
  | f + 1, e => if e = 0 then 1 else if e % 2 = 1 then a * pwm n (a * a % n) f (e / 2) % n else pwm n (a * a % n) f (e / 2)
theorem pwm_spec (n : Nat) : ∀ (f a e : Nat), e < 2 ^ f → Eqm n (pwm n a f e) (a ^ e)
  | 0, a, e, h => by
    have : e = 0 := by simp at h; exact h
    subst this; exact Eqm.refl _ _
  | f + 1, a, e, h => by
    unfold pwm
    split
    · rename_i h0; subst h0; exact Eqm.refl _ _
    · have ih := pwm_spec n f (a * a % n) (e / 2) (by rw [Nat.pow_succ] at h; omega)
      have h2 : Eqm n ((a * a % n) ^ (e / 2)) (a ^ (2 * (e / 2))) := by
        rw [Nat.pow_mul, Nat.pow_two]; exact (eqm_mod n _).pow _
      split
      · rename_i h1
        refine (eqm_mod n _).trans ?_
        have e1 : e = 2 * (e / 2) + 1 := by omega
        have : a ^ e = a * a ^ (2 * (e / 2)) := by
          conv => lhs; rw [e1]
          rw [Nat.pow_succ, Nat.mul_comm]
        rw [this]
        exact (Eqm.refl n a).mul (ih.trans h2)
      · rename_i h1
        have e1 : e = 2 * (e / 2) := by omega
        rw [show a ^ e = a ^ (2 * (e / 2)) by rw [← e1]]
        exact ih.trans h2
/-- What one prime's witness shows. -/
def wit (n q m a : Nat) : Bool := n == q * m + 1 && pwm n a 256 (q * m) % n == 1 && Nat.gcd (pwm n a 256 m % n + (n - 1)) n == 1 && q * m < 2 ^ 256 && 1 < n
theorem wit_spec {n q m a : Nat} (hq : Pr q) (h : wit n q m a = true) : ∀ p, Pr p → p ∣ n → q ∣ p - 1 := by
  intro p hp hd
  simp only [wit, Bool.and_eq_true, beq_iff_eq, decide_eq_true_eq] at h
  obtain ⟨⟨⟨⟨h1, h2⟩, h3⟩, h4⟩, h5⟩ := h
  have hm : m ≤ q * m := Nat.le_mul_of_pos_left _ hq.pos
  refine pk (a := a) hq h1 ?_ ?_ hp hd
  · refine (pwm_spec n 256 a (q * m) (by omega)).symm.trans ?_
    unfold Eqm; rw [h2, Nat.mod_eq_of_lt h5]
  · rw [← show pwm n a 256 m % n = a ^ m % n from pwm_spec n 256 a m (by omega)]; exact h3
theorem pk1 {n q m : Nat} (a : Nat) (hq : Pr q) (h : wit n q m a = true) (hs : decide (n < q * q) = true) (h2 : decide (2 ≤ n) = true) : Pr n := by
  refine prime_of (of_decide_eq_true h2) fun p hp hd => ?_
  have h1 := Nat.le_of_dvd (by have := hp.1; omega) (wit_spec hq h p hp hd)
  have h3 : q ≤ p := by omega
  have := Nat.mul_le_mul h3 h3
  have := of_decide_eq_true hs
  omega
theorem pk2 {n q m q' m' : Nat} (a a' : Nat) (hq : Pr q) (hq' : Pr q') (h : wit n q m a = true) (h' : wit n q' m' a' = true) (hg : (Nat.gcd q q' == 1) = true) (hs : decide (n < q * q' * (q * q')) = true) (h2 : decide (2 ≤ n) = true) : Pr n := by
  refine prime_of (of_decide_eq_true h2) fun p hp hd => ?_
  have h0 : q * q' ∣ p - 1 := Nat.Coprime.mul_dvd_of_dvd_of_dvd (by simpa using hg) (wit_spec hq h p hp hd) (wit_spec hq' h' p hp hd)
  have h1 := Nat.le_of_dvd (by have := hp.1; omega) h0
  have h3 : q * q' ≤ p := by omega
  have := Nat.mul_le_mul h3 h3
  have := of_decide_eq_true hs
  omega

theorem pr_a : Pr 569003 := small 800 (by decide) (by decide) (by decide +kernel)
theorem pr_b : Pr 2773320623 := pk1 (q := 569003) (m := 4874) 2 pr_a (by decide +kernel) (by decide +kernel) (by decide +kernel)
theorem pr_c : Pr 72106336199 := pk1 (q := 2773320623) (m := 26) 2 pr_b (by decide +kernel) (by decide +kernel) (by decide +kernel)
theorem pr_d : Pr 8574133 := small 3000 (by decide) (by decide) (by decide +kernel)
theorem pr_e : Pr 127 := small 12 (by decide) (by decide) (by decide +kernel)
theorem pr_f : Pr 1919519569386763 := pk2 (q := 8574133) (m := 223873314) (q' := 127) (m' := 15114327318006) 2 2 pr_d pr_e (by decide +kernel) (by decide +kernel) (by decide +kernel) (by decide +kernel) (by decide +kernel)
theorem pr_g : Pr 75445702479781427272750846543864801 := pk2 (q := 1919519569386763) (m := 39304471641247389600) (q' := 72106336199) (m' := 1046311689884858398375200) 2 2 pr_f pr_c (by decide +kernel) (by decide +kernel) (by decide +kernel) (by decide +kernel) (by decide +kernel)
theorem pr_h : Pr 430751 := small 700 (by decide) (by decide) (by decide +kernel)
theorem pr_i : Pr 4153 := small 70 (by decide) (by decide) (by decide +kernel)
theorem pr_j : Pr 31757755568855353 := pk2 (q := 430751) (m := 73726481352) (q' := 4153) (m' := 7646943310584) 2 2 pr_h pr_i (by decide +kernel) (by decide +kernel) (by decide +kernel) (by decide +kernel) (by decide +kernel)
theorem pr_k : Pr 74058212732561358302231226437062788676166966415465897661863160754340907 := pk2 (q := 75445702479781427272750846543864801) (m := 981609426360740691344999861639072106) (q' := 31757755568855353) (m' := 2331972502653487852620185443007392165117953542933313402) 2 2 pr_g pr_j (by decide +kernel) (by decide +kernel) (by decide +kernel) (by decide +kernel) (by decide +kernel)
/-- The field's number of elements. -/
def P : Nat := 57896044618658097711785492504343953926634992332820282019728792003956564819949
theorem pr_p : Pr P := pk1 (q := 74058212732561358302231226437062788676166966415465897661863160754340907) (m := 781764) 2 pr_k (by decide +kernel) (by decide +kernel) (by decide +kernel)
end Go.Nt

/- The field of 2^255 - 19 elements. -/
namespace Go.Nt

instance : NeZero P := ⟨by decide⟩
abbrev F := Fin P
theorem P_pos : 0 < P := by decide
/-- A power. -/
def pw (x : F) : Nat → F
  | 0 => 1
  | n + 1 => pw x n * x
theorem pw_val (x : F) : ∀ n, (pw x n).val = x.val ^ n % P
  | 0 => by show 1 % P = _; rw [Nat.pow_zero]
  | n + 1 => by rw [pw, Fin.val_mul, pw_val x n, Nat.pow_succ, Nat.mod_mul_mod]
theorem pw_add (x : F) (a : Nat) : ∀ b, pw x (a + b) = pw x a * pw x b
  | 0 => by simp only [pw, Nat.add_zero]; grind
  | b + 1 => by rw [← Nat.add_assoc, pw, pw_add x a b, pw]; grind
theorem pw_mul (x : F) (a : Nat) : ∀ b, pw x (a * b) = pw (pw x a) b
  | 0 => rfl
  | b + 1 => by rw [Nat.mul_succ, pw_add, pw_mul x a b, pw]
theorem mul_pw (x y : F) : ∀ n, pw (x * y) n = pw x n * pw y n
  | 0 => by simp only [pw]; grind
  | n + 1 => by rw [pw, pw, pw, mul_pw x y n]; grind
theorem zero_pw : ∀ n, 0 < n → pw 0 n = 0
  | 0, h => by omega
  | n + 1, _ => by rw [pw]; grind
theorem pw_two (x : F) : pw x 2 = x * x := by simp only [pw]; grind
theorem ne_val {x : F} (h : x ≠ 0) : ¬ P ∣ x.val := by
  intro hd
  apply h
  have := Nat.eq_zero_of_dvd_of_lt hd x.isLt
  exact Fin.ext this
theorem fer {x : F} (h : x ≠ 0) : pw x (P - 1) = 1 := by
  apply Fin.ext
  rw [pw_val, fermat pr_p (ne_val h)]
  rfl
theorem no_zero {a b : F} (h : a * b = 0) : a = 0 ∨ b = 0 := by
  have h1 : a.val * b.val % P = 0 := by rw [← Fin.val_mul, h]; rfl
  rcases pr_p.mul (Nat.dvd_of_mod_eq_zero h1) with k | k
  · exact .inl (Fin.ext (Nat.eq_zero_of_dvd_of_lt k a.isLt))
  · exact .inr (Fin.ext (Nat.eq_zero_of_dvd_of_lt k b.isLt))
/-- The inverse, 0 of 0. -/
def inv (x : F) : F := pw x (P - 2)
theorem inv_zero : inv 0 = 0 := zero_pw _ (by decide)
theorem mul_inv {x : F} (h : x ≠ 0) : x * inv x = 1 := by
  have := fer h
  rw [show P - 1 = (P - 2) + 1 from rfl, pw] at this
  unfold inv; grind
theorem inv_mul (x y : F) : inv (x * y) = inv x * inv y := mul_pw x y _
theorem inv_inv (x : F) : inv (inv x) = x := by
  by_cases h : x = 0
  · subst h; rw [inv_zero, inv_zero]
  · have h1 := mul_inv h
    have h2 : inv x ≠ 0 := by intro e; rw [e] at h1; have : (1 : F) ≠ 0 := by decide
                              apply this; grind
    have h3 := mul_inv h2
    grind
theorem inv_neg (x : F) : inv (-x) = -inv x := by
  by_cases h : x = 0
  · subst h
    rw [show (-0 : F) = 0 by grind, inv_zero]; grind
  · have h1 := mul_inv h
    have h2 : -x ≠ 0 := by intro e; apply h; grind
    have h3 := mul_inv h2
    have h4 : x * (inv (-x) + inv x) = 0 := by grind
    rcases no_zero h4 with e | e
    · exact absurd e h
    · grind
/-- What 1 is the square of. -/
theorem sq_one {x : F} (h : x * x = 1) : x = 1 ∨ x = -1 := by
  have : (x - 1) * (x + 1) = 0 := by grind
  rcases no_zero this with e | e
  · left; grind
  · right; grind
/-- Half of all: Euler's sign. -/
def eul (x : F) : F := pw x ((P - 1) / 2)
theorem eul_sq {x : F} (h : x ≠ 0) : eul x = 1 ∨ eul x = -1 := by
  apply sq_one
  have := fer h
  rw [show P - 1 = (P - 1) / 2 * 2 from rfl, pw_mul, pw_two] at this
  exact this
theorem eul_mul (x y : F) : eul (x * y) = eul x * eul y := mul_pw x y _
theorem eul_of_sq {x : F} (h : x ≠ 0) : eul (x * x) = 1 := by
  rw [eul_mul]
  rcases eul_sq h with e | e <;> rw [e] <;> grind
theorem one_ne : (1 : F) ≠ 0 := by decide
/-- A power by its rest. -/
theorem pw_num {x : F} {n : Nat} {r : Nat} (hn : n < 2 ^ 256) (h : (pwm P x.val 256 n % P == r % P) = true) : (pw x n).val = r % P := by
  rw [pw_val, ← show pwm P x.val 256 n % P = x.val ^ n % P from pwm_spec P 256 x.val n hn]
  simpa using h
theorem eul_two : eul 2 = -1 := by
  apply Fin.ext
  refine (pw_num (x := 2) (r := P - 1) (by decide) (by decide +kernel)).trans ?_
  decide +kernel
/-- A root of -1. -/
def im : F := pw 2 ((P - 1) / 4)
theorem im_sq : im * im = -1 := by
  have := eul_two
  unfold eul at this
  rw [show (P - 1) / 2 = (P - 1) / 4 * 2 from by decide +kernel, pw_mul, pw_two] at this
  exact this
/-- The candidate for a root. -/
def cand (q : F) : F := pw q ((P + 3) / 8)
theorem cand_sq (q : F) : cand q * cand q = q * pw q ((P - 1) / 4) := by
  unfold cand
  rw [← pw_two, ← pw_mul, show (P + 3) / 8 * 2 = (P - 1) / 4 + 1 from by decide +kernel, pw]
  grind
theorem quart (q : F) : pw q ((P - 1) / 4) * pw q ((P - 1) / 4) = eul q := by
  unfold eul
  rw [show (P - 1) / 2 = (P - 1) / 4 * 2 from by decide +kernel, pw_mul, pw_two]
/-- A number with Euler's sign 1 has a root. -/
theorem root_of {q : F} (h : eul q = 1) : cand q * cand q = q ∨ (cand q * im) * (cand q * im) = q := by
  have h1 := quart q
  rw [h] at h1
  have h2 := cand_sq q
  have h3 := im_sq
  rcases sq_one h1 with e | e
  · left; rw [h2, e]; grind
  · right; rw [e] at h2; grind
theorem no_root {q x : F} (hq : q ≠ 0) (h : x * x = q) : eul q = 1 := by
  subst h
  refine eul_of_sq ?_
  rintro rfl; apply hq; grind
theorem one_ne_neg : (1 : F) ≠ -1 := by decide +kernel
end Go.Nt

/- What functions of the program do, walked over the abstract machine. -/
namespace Go.Proofs.Ytjibmonfmhdbbaa.Fd
open Go Go.Abs Go.Proofs

open Go.Nt

theorem list4 {l : List UInt64} (h : l.length = 4) : ∃ a b c d, l = [a, b, c, d] := by
  match l, h with
  | [a, b, c, d], _ => exact ⟨a, b, c, d, rfl⟩
theorem V4_lt (l : List UInt64) : V4 l < 115792089237316195423570985008687907853269984665640564039457584007913129639936 := by
  have h0 := (l.getD 0 0).toNat_lt
  have h1 := (l.getD 1 0).toNat_lt
  have h2 := (l.getD 2 0).toNat_lt
  have h3 := (l.getD 3 0).toNat_lt
  unfold V4
  omega
theorem V4_mk (a b c d : UInt64) : V4 [a, b, c, d] = a.toNat + 18446744073709551616 * b.toNat + 340282366920938463463374607431768211456 * c.toNat + 6277101735386680763835789423207666416102355444464034512896 * d.toNat := rfl
theorem V4_inj {l m : List UInt64} (hl : l.length = 4) (hm : m.length = 4) (h : V4 l = V4 m) : l = m := by
  obtain ⟨a, b, c, d, rfl⟩ := list4 hl
  obtain ⟨e, f, g, k, rfl⟩ := list4 hm
  rw [V4_mk, V4_mk] at h
  have := a.toNat_lt
  have := b.toNat_lt
  have := c.toNat_lt
  have := d.toNat_lt
  have := e.toNat_lt
  have := f.toNat_lt
  have := g.toNat_lt
  have := k.toNat_lt
  have h1 : a = e := UInt64.toNat_inj.1 (by omega)
  have h2 : b = f := UInt64.toNat_inj.1 (by omega)
  have h3 : c = g := UInt64.toNat_inj.1 (by omega)
  have h4 : d = k := UInt64.toNat_inj.1 (by omega)
  rw [h1, h2, h3, h4]
/-- Words of a number. -/
def w4 (n : Nat) : List UInt64 := [UInt64.ofNat n, UInt64.ofNat (n / 18446744073709551616), UInt64.ofNat (n / 340282366920938463463374607431768211456), UInt64.ofNat (n / 6277101735386680763835789423207666416102355444464034512896)]
theorem V4_w4 (n : Nat) (h : n < 115792089237316195423570985008687907853269984665640564039457584007913129639936) : V4 (w4 n) = n := by
  rw [w4, V4_mk]
  simp only [UInt64.toNat_ofNat']
  omega
theorem P_val : P = 57896044618658097711785492504343953926634992332820282019728792003956564819949 := rfl
/-- The words of an element. -/
abbrev el (x : F) : List UInt64 := w4 x.val
theorem el_len (x : F) : (el x).length = 4 := rfl
theorem F_lt (x : F) : x.val < 57896044618658097711785492504343953926634992332820282019728792003956564819949 := x.isLt
theorem V4_el (x : F) : V4 (el x) = x.val := V4_w4 _ (by have := F_lt x; omega)
theorem el_of {l : List UInt64} {x : F} (hl : l.length = 4) (h : V4 l = x.val) : l = el x := V4_inj hl rfl (by rw [V4_el, h])
theorem el_inj {x y : F} (h : el x = el y) : x = y := Fin.ext (by rw [← V4_el x, ← V4_el y, h])
theorem z64 : UInt64.toNat 0 = 0 := rfl
/-- p is taken away, where there is as much. -/
theorem lessL_V (w : List UInt64) (h : w.length = 4) (hb : V4 w < 2 * 57896044618658097711785492504343953926634992332820282019728792003956564819949) : V4 (lessL w) = V4 w % P := by
  obtain ⟨a, b, c, d, rfl⟩ := list4 h
  have b0 := subb_eq (x := a) (y := 18446744073709551597) (c := 0) (by decide)
  have b1 := subb_eq (x := b) (y := 18446744073709551615) (c := subb a 18446744073709551597 0) (subb_le ..)
  have b2 := subb_eq (x := c) (y := 18446744073709551615) (c := subb b 18446744073709551615 (subb a 18446744073709551597 0)) (subb_le ..)
  have b3 := subb_eq (x := d) (y := 9223372036854775807) (c := subb c 18446744073709551615 (subb b 18446744073709551615 (subb a 18446744073709551597 0))) (subb_le ..)
  have l3 := subb_le d 9223372036854775807 (subb c 18446744073709551615 (subb b 18446744073709551615 (subb a 18446744073709551597 0)))
  have e1 : (lsb [a, b, c, d] 4).1 = [a - 18446744073709551597 - 0, b - 18446744073709551615 - subb a 18446744073709551597 0, c - 18446744073709551615 - subb b 18446744073709551615 (subb a 18446744073709551597 0), d - 9223372036854775807 - subb c 18446744073709551615 (subb b 18446744073709551615 (subb a 18446744073709551597 0))] := rfl
  have e2 : (lsb [a, b, c, d] 4).2 = subb d 9223372036854775807 (subb c 18446744073709551615 (subb b 18446744073709551615 (subb a 18446744073709551597 0))) := rfl
  rw [show UInt64.toNat 18446744073709551597 = 18446744073709551597 from rfl, z64] at b0
  rw [show UInt64.toNat 18446744073709551615 = 18446744073709551615 from rfl] at b1 b2
  rw [show UInt64.toNat 9223372036854775807 = 9223372036854775807 from rfl] at b3
  have hv : V4 (lsb [a, b, c, d] 4).1 + 57896044618658097711785492504343953926634992332820282019728792003956564819949 = V4 [a, b, c, d] + 115792089237316195423570985008687907853269984665640564039457584007913129639936 * ((lsb [a, b, c, d] 4).2).toNat := by
    rw [e1, e2, V4_mk, V4_mk]; omega
  have hlt := V4_lt (lsb [a, b, c, d] 4).1
  rw [← e2] at l3
  unfold lessL
  rw [P_val]
  split
  · rename_i h0
    rw [h0, z64] at hv
    rw [Nat.mod_eq_sub_mod (by omega), Nat.mod_eq_of_lt (by omega)]
    omega
  · rename_i h0
    have : (lsb [a, b, c, d] 4).2.toNat ≠ 0 := fun e => h0 (UInt64.toNat_inj.1 e)
    rw [Nat.mod_eq_of_lt (by omega)]
theorem lessL_el (w : List UInt64) (x : F) (h : w.length = 4) (hb : V4 w < 2 * 57896044618658097711785492504343953926634992332820282019728792003956564819949) (hx : V4 w % P = x.val) : lessL w = el x := el_of (lessL_len w h) ((lessL_V w h hb).trans hx)
theorem adl_V (x y : List UInt64) (hx : x.length = 4) (hy : y.length = 4) : V4 (adl x y 4).1 + 115792089237316195423570985008687907853269984665640564039457584007913129639936 * (adl x y 4).2.toNat = V4 x + V4 y := by
  obtain ⟨a, b, c, d, rfl⟩ := list4 hx
  obtain ⟨e, f, g, k, rfl⟩ := list4 hy
  have b0 := addc_eq (x := a) (y := e) (c := 0) (by decide)
  have b1 := addc_eq (x := b) (y := f) (c := addc a e 0) (addc_le ..)
  have b2 := addc_eq (x := c) (y := g) (c := addc b f (addc a e 0)) (addc_le ..)
  have b3 := addc_eq (x := d) (y := k) (c := addc c g (addc b f (addc a e 0))) (addc_le ..)
  rw [z64] at b0
  rw [show (adl [a, b, c, d] [e, f, g, k] 4).1 = [a + e + 0, b + f + addc a e 0, c + g + addc b f (addc a e 0), d + k + addc c g (addc b f (addc a e 0))] from rfl,
    show (adl [a, b, c, d] [e, f, g, k] 4).2 = addc d k (addc c g (addc b f (addc a e 0))) from rfl, V4_mk, V4_mk, V4_mk]
  omega
theorem add_el (x y : F) : lessL (adl (el x) (el y) 4).1 = el (x + y) := by
  have h := adl_V (el x) (el y) rfl rfl
  have hx := F_lt x
  have hy := F_lt y
  rw [V4_el, V4_el] at h
  have hlt := V4_lt (adl (el x) (el y) 4).1
  have hc := adl_le (el x) (el y) 4
  have : V4 (adl (el x) (el y) 4).1 = x.val + y.val := by omega
  refine lessL_el _ _ (adl_len ..) (by omega) ?_
  rw [this, Fin.val_add]
theorem ngl_V (x : List UInt64) (hx : x.length = 4) : V4 (ngl x 4).1 + V4 x = 57896044618658097711785492504343953926634992332820282019728792003956564819949 + 115792089237316195423570985008687907853269984665640564039457584007913129639936 * (ngl x 4).2.toNat := by
  obtain ⟨a, b, c, d, rfl⟩ := list4 hx
  have b0 := subb_eq (x := 18446744073709551597) (y := a) (c := 0) (by decide)
  have b1 := subb_eq (x := 18446744073709551615) (y := b) (c := subb 18446744073709551597 a 0) (subb_le ..)
  have b2 := subb_eq (x := 18446744073709551615) (y := c) (c := subb 18446744073709551615 b (subb 18446744073709551597 a 0)) (subb_le ..)
  have b3 := subb_eq (x := 9223372036854775807) (y := d) (c := subb 18446744073709551615 c (subb 18446744073709551615 b (subb 18446744073709551597 a 0))) (subb_le ..)
  rw [show UInt64.toNat 18446744073709551597 = 18446744073709551597 from rfl, z64] at b0
  rw [show UInt64.toNat 18446744073709551615 = 18446744073709551615 from rfl] at b1 b2
  rw [show UInt64.toNat 9223372036854775807 = 9223372036854775807 from rfl] at b3
  rw [show (ngl [a, b, c, d] 4).1 = [18446744073709551597 - a - 0, 18446744073709551615 - b - subb 18446744073709551597 a 0, 18446744073709551615 - c - subb 18446744073709551615 b (subb 18446744073709551597 a 0), 9223372036854775807 - d - subb 18446744073709551615 c (subb 18446744073709551615 b (subb 18446744073709551597 a 0))] from rfl,
    show (ngl [a, b, c, d] 4).2 = subb 9223372036854775807 d (subb 18446744073709551615 c (subb 18446744073709551615 b (subb 18446744073709551597 a 0))) from rfl, V4_mk, V4_mk]
  omega
theorem neg_el (x : F) : lessL (ngl (el x) 4).1 = el (-x) := by
  have h := ngl_V (el x) rfl
  have hx := F_lt x
  rw [V4_el] at h
  have hlt := V4_lt (ngl (el x) 4).1
  have hc := ngl_le (el x) 4
  have : V4 (ngl (el x) 4).1 = 57896044618658097711785492504343953926634992332820282019728792003956564819949 - x.val := by omega
  refine lessL_el _ _ (ngl_len ..) (by omega) ?_
  rw [this]; rfl
/-- One row of a product. -/
theorem row4 (x r0 r1 r2 r3 u0 u1 u2 u3 : UInt64) : ∃ t0 t1 t2 t3 h : UInt64, (∀ A R : List UInt64, ∀ i, A.getD i 0 = x → R = [r0, r1, r2, r3] → ∀ w : List UInt64, i + 3 < w.length → w.getD i 0 = u0 → w.getD (i + 1) 0 = u1 → w.getD (i + 2) 0 = u2 → w.getD (i + 3) 0 = u3 →
      tstep A R i w 4 = ((((w.set i t0).set (i + 1) t1).set (i + 2) t2).set (i + 3) t3, h)) ∧
    t0.toNat + 18446744073709551616 * t1.toNat + 340282366920938463463374607431768211456 * t2.toNat + 6277101735386680763835789423207666416102355444464034512896 * t3.toNat + 115792089237316195423570985008687907853269984665640564039457584007913129639936 * h.toNat = x.toNat * (r0.toNat + 18446744073709551616 * r1.toNat + 340282366920938463463374607431768211456 * r2.toNat + 6277101735386680763835789423207666416102355444464034512896 * r3.toNat) + (u0.toNat + 18446744073709551616 * u1.toNat + 340282366920938463463374607431768211456 * u2.toNat + 6277101735386680763835789423207666416102355444464034512896 * u3.toNat) := by
  obtain ⟨h0, e0⟩ : ∃ h, mulhi x r0 + addc (x * r0) u0 0 + addc (x * r0 + u0 + 0) 0 0 = h := ⟨_, rfl⟩
  obtain ⟨h1, e1⟩ : ∃ h, mulhi x r1 + addc (x * r1) u1 0 + addc (x * r1 + u1 + 0) h0 0 = h := ⟨_, rfl⟩
  obtain ⟨h2, e2⟩ : ∃ h, mulhi x r2 + addc (x * r2) u2 0 + addc (x * r2 + u2 + 0) h1 0 = h := ⟨_, rfl⟩
  obtain ⟨h3, e3⟩ : ∃ h, mulhi x r3 + addc (x * r3) u3 0 + addc (x * r3 + u3 + 0) h2 0 = h := ⟨_, rfl⟩
  have q0 := row_eq x r0 u0 0
  have q1 := row_eq x r1 u1 h0
  have q2 := row_eq x r2 u2 h1
  have q3 := row_eq x r3 u3 h2
  rw [e0] at q0; rw [e1] at q1; rw [e2] at q2; rw [e3] at q3
  rw [z64] at q0
  refine ⟨x * r0 + u0 + 0 + 0 + 0, x * r1 + u1 + 0 + h0 + 0, x * r2 + u2 + 0 + h1 + 0, x * r3 + u3 + 0 + h2 + 0, h3, ?_, ?_⟩
  · rintro A R i rfl rfl w hl rfl rfl rfl rfl
    have g1 : ∀ y, (w.set i y).getD (i + 1) 0 = w.getD (i + 1) 0 := fun y => by simp [List.getD_eq_getElem?_getD, List.getElem?_set]
    have g2 : ∀ y z, ((w.set i y).set (i + 1) z).getD (i + 2) 0 = w.getD (i + 2) 0 := fun y z => by simp [List.getD_eq_getElem?_getD, List.getElem?_set]
    have g3 : ∀ y z v, (((w.set i y).set (i + 1) z).set (i + 2) v).getD (i + 3) 0 = w.getD (i + 3) 0 := fun y z v => by simp [List.getD_eq_getElem?_getD, List.getElem?_set]
    have s1 : tstep A [r0, r1, r2, r3] i w 1 = (w.set i (A.getD i 0 * r0 + w.getD i 0 + 0 + 0 + 0), h0) := by rw [← e0]; rfl
    have s2 : tstep A [r0, r1, r2, r3] i w 2 = ((w.set i (A.getD i 0 * r0 + w.getD i 0 + 0 + 0 + 0)).set (i + 1) (A.getD i 0 * r1 + w.getD (i + 1) 0 + 0 + h0 + 0), h1) := by
      rw [tstep, s1]; simp only [g1]; rw [← e1]; rfl
    have s3 : tstep A [r0, r1, r2, r3] i w 3 = (((w.set i (A.getD i 0 * r0 + w.getD i 0 + 0 + 0 + 0)).set (i + 1) (A.getD i 0 * r1 + w.getD (i + 1) 0 + 0 + h0 + 0)).set (i + 2) (A.getD i 0 * r2 + w.getD (i + 2) 0 + 0 + h1 + 0), h2) := by
      rw [tstep, s2]; simp only [g2]; rw [← e2]; rfl
    rw [tstep, s3]; simp only [g3]; rw [← e3]; rfl
  · have e : x.toNat * (r0.toNat + 18446744073709551616 * r1.toNat + 340282366920938463463374607431768211456 * r2.toNat + 6277101735386680763835789423207666416102355444464034512896 * r3.toNat) = x.toNat * r0.toNat + 18446744073709551616 * (x.toNat * r1.toNat) + 340282366920938463463374607431768211456 * (x.toNat * r2.toNat) + 6277101735386680763835789423207666416102355444464034512896 * (x.toNat * r3.toNat) := by
      simp only [Nat.mul_add, Nat.mul_left_comm]
    rw [e]
    omega
theorem tout_V (x y : List UInt64) (hx : x.length = 4) (hy : y.length = 4) : ∃ a b c d e f g h : UInt64, tout x y 4 = [a, b, c, d, e, f, g, h] ∧
    (a.toNat + 18446744073709551616 * b.toNat + 340282366920938463463374607431768211456 * c.toNat + 6277101735386680763835789423207666416102355444464034512896 * d.toNat) + 115792089237316195423570985008687907853269984665640564039457584007913129639936 * (e.toNat + 18446744073709551616 * f.toNat + 340282366920938463463374607431768211456 * g.toNat + 6277101735386680763835789423207666416102355444464034512896 * h.toNat) = V4 x * V4 y := by
  obtain ⟨x0, x1, x2, x3, rfl⟩ := list4 hx
  obtain ⟨y0, y1, y2, y3, rfl⟩ := list4 hy
  obtain ⟨a0, a1, a2, a3, ah, pa, qa⟩ := row4 x0 y0 y1 y2 y3 0 0 0 0
  have ta : tout [x0, x1, x2, x3] [y0, y1, y2, y3] 1 = [a0, a1, a2, a3, ah, 0, 0, 0] := by
    rw [tout, pa [x0, x1, x2, x3] _ 0 rfl rfl (tout [x0, x1, x2, x3] [y0, y1, y2, y3] 0) (by show 0 + 3 < 8; decide) rfl rfl rfl rfl]; rfl
  obtain ⟨b0, b1, b2, b3, bh, pb, qb⟩ := row4 x1 y0 y1 y2 y3 a1 a2 a3 ah
  have tb : tout [x0, x1, x2, x3] [y0, y1, y2, y3] 2 = [a0, b0, b1, b2, b3, bh, 0, 0] := by
    rw [tout, ta, pb [x0, x1, x2, x3] _ 1 rfl rfl _ (by show 1 + 3 < 8; decide) rfl rfl rfl rfl]; rfl
  obtain ⟨c0, c1, c2, c3, ch, pc, qc⟩ := row4 x2 y0 y1 y2 y3 b1 b2 b3 bh
  have tc : tout [x0, x1, x2, x3] [y0, y1, y2, y3] 3 = [a0, b0, c0, c1, c2, c3, ch, 0] := by
    rw [tout, tb, pc [x0, x1, x2, x3] _ 2 rfl rfl _ (by show 2 + 3 < 8; decide) rfl rfl rfl rfl]; rfl
  obtain ⟨d0, d1, d2, d3, dh, pd, qd⟩ := row4 x3 y0 y1 y2 y3 c1 c2 c3 ch
  have td : tout [x0, x1, x2, x3] [y0, y1, y2, y3] 4 = [a0, b0, c0, d0, d1, d2, d3, dh] := by
    rw [tout, tc, pd [x0, x1, x2, x3] _ 3 rfl rfl _ (by show 3 + 3 < 8; decide) rfl rfl rfl rfl]; rfl
  refine ⟨_, _, _, _, _, _, _, _, td, ?_⟩
  rw [V4_mk, V4_mk]
  rw [z64] at qa
  generalize y0.toNat + 18446744073709551616 * y1.toNat + 340282366920938463463374607431768211456 * y2.toNat + 6277101735386680763835789423207666416102355444464034512896 * y3.toNat = Y at *
  rw [Nat.add_mul, Nat.add_mul, Nat.add_mul, Nat.mul_assoc 18446744073709551616, Nat.mul_assoc 340282366920938463463374607431768211456, Nat.mul_assoc 6277101735386680763835789423207666416102355444464034512896]
  generalize x0.toNat * Y = X0 at *
  generalize x1.toNat * Y = X1 at *
  generalize x2.toNat * Y = X2 at *
  generalize x3.toNat * Y = X3 at *
  omega
theorem hst_V (a b c d e f g h : UInt64) : V4 (hst [a, b, c, d, e, f, g, h] 4).1 + 115792089237316195423570985008687907853269984665640564039457584007913129639936 * (hst [a, b, c, d, e, f, g, h] 4).2.toNat = (a.toNat + 18446744073709551616 * b.toNat + 340282366920938463463374607431768211456 * c.toNat + 6277101735386680763835789423207666416102355444464034512896 * d.toNat) + 38 * (e.toNat + 18446744073709551616 * f.toNat + 340282366920938463463374607431768211456 * g.toNat + 6277101735386680763835789423207666416102355444464034512896 * h.toNat) := by
  obtain ⟨h0, e0⟩ : ∃ z, mulhi e 38 + addc (e * 38) a 0 + addc (e * 38 + a + 0) 0 0 = z := ⟨_, rfl⟩
  obtain ⟨h1, e1⟩ : ∃ z, mulhi f 38 + addc (f * 38) b 0 + addc (f * 38 + b + 0) h0 0 = z := ⟨_, rfl⟩
  obtain ⟨h2, e2⟩ : ∃ z, mulhi g 38 + addc (g * 38) c 0 + addc (g * 38 + c + 0) h1 0 = z := ⟨_, rfl⟩
  obtain ⟨h3, e3⟩ : ∃ z, mulhi h 38 + addc (h * 38) d 0 + addc (h * 38 + d + 0) h2 0 = z := ⟨_, rfl⟩
  have q0 := row_eq e 38 a 0
  have q1 := row_eq f 38 b h0
  have q2 := row_eq g 38 c h1
  have q3 := row_eq h 38 d h2
  rw [e0] at q0; rw [e1] at q1; rw [e2] at q2; rw [e3] at q3
  have z38 : UInt64.toNat 38 = 38 := rfl
  rw [z64, z38] at q0
  rw [z38] at q1 q2 q3
  have s1 : hst [a, b, c, d, e, f, g, h] 1 = ([e * 38 + a + 0 + 0 + 0, 0, 0, 0], h0) := by rw [← e0]; rfl
  have s2 : hst [a, b, c, d, e, f, g, h] 2 = ([e * 38 + a + 0 + 0 + 0, f * 38 + b + 0 + h0 + 0, 0, 0], h1) := by rw [hst, s1, ← e1]; rfl
  have s3 : hst [a, b, c, d, e, f, g, h] 3 = ([e * 38 + a + 0 + 0 + 0, f * 38 + b + 0 + h0 + 0, g * 38 + c + 0 + h1 + 0, 0], h2) := by rw [hst, s2, ← e2]; rfl
  have s4 : hst [a, b, c, d, e, f, g, h] 4 = ([e * 38 + a + 0 + 0 + 0, f * 38 + b + 0 + h0 + 0, g * 38 + c + 0 + h1 + 0, h * 38 + d + 0 + h2 + 0], h3) := by rw [hst, s3, ← e3]; rfl
  have s41 := congrArg Prod.fst s4
  have s42 := congrArg Prod.snd s4
  simp only at s41 s42
  rw [s41, s42, V4_mk]
  omega
theorem and63 (x : UInt64) : (x &&& 9223372036854775807).toNat = x.toNat % 9223372036854775808 := by
  rw [UInt64.toNat_and]; exact Nat.and_two_pow_sub_one_eq_mod x.toNat 63
theorem m63_V (l : List UInt64) (h : l.length = 4) : V4 (m63 l) = V4 l % 57896044618658097711785492504343953926634992332820282019728792003956564819968 ∧ V4 l = V4 (m63 l) + 57896044618658097711785492504343953926634992332820282019728792003956564819968 * (shr64n (l.getD 3 0) 63).toNat := by
  obtain ⟨a, b, c, d, rfl⟩ := list4 h
  have := a.toNat_lt
  have := b.toNat_lt
  have := c.toNat_lt
  have := d.toNat_lt
  rw [show m63 [a, b, c, d] = [a, b, c, d &&& 9223372036854775807] from rfl, V4_mk, V4_mk, and63]
  rw [show [a, b, c, d].getD 3 0 = d from rfl, shr_nat d 63 (by decide)]
  omega
theorem top_le (x : UInt64) : (shr64n x 63).toNat ≤ 1 := by
  have := x.toNat_lt
  rw [shr_nat x 63 (by decide)]; omega
theorem crl_V (l : List UInt64) (h : l.length = 4) (t : UInt64) (ht : t.toNat ≤ 1) (hb : V4 l + 19 < 115792089237316195423570985008687907853269984665640564039457584007913129639936) : V4 (crl (ad19 l t) (ca19 l t) 3).1 = V4 l + 19 * t.toNat := by
  obtain ⟨a, b, c, d, rfl⟩ := list4 h
  have e19 : (19 * t).toNat = 19 * t.toNat := by
    rw [UInt64.toNat_mul, show UInt64.toNat 19 = 19 from rfl]; omega
  have b0 := addc_eq (x := a) (y := 19 * t) (c := 0) (by decide)
  have b1 := addc_eq (x := b) (y := 0) (c := addc a (19 * t) 0) (addc_le ..)
  have b2 := addc_eq (x := c) (y := 0) (c := addc b 0 (addc a (19 * t) 0)) (addc_le ..)
  have b3 := addc_eq (x := d) (y := 0) (c := addc c 0 (addc b 0 (addc a (19 * t) 0))) (addc_le ..)
  rw [z64, e19] at b0
  rw [z64] at b1 b2 b3
  have l3 := addc_le d 0 (addc c 0 (addc b 0 (addc a (19 * t) 0)))
  rw [V4_mk] at hb
  rw [show (crl (ad19 [a, b, c, d] t) (ca19 [a, b, c, d] t) 3).1 = [a + 19 * t + 0, b + 0 + addc a (19 * t) 0, c + 0 + addc b 0 (addc a (19 * t) 0), d + 0 + addc c 0 (addc b 0 (addc a (19 * t) 0))] from rfl, V4_mk, V4_mk]
  omega
theorem mulhi_38 (u : UInt64) (h : u.toNat ≤ 38) : (mulhi u 38).toNat = 0 ∧ (u * 38).toNat = u.toNat * 38 := by
  refine ⟨?_, ?_⟩
  · rw [mulhi_nat, show UInt64.toNat 38 = 38 from rfl]; omega
  · rw [UInt64.toNat_mul, show UInt64.toNat 38 = 38 from rfl]; omega
theorem fo4_V (w : List UInt64) (u : UInt64) (h : w.length = 4) (hu : u.toNat ≤ 38) : V4 (fo4 w u) = V4 (m63 w) + 38 * u.toNat := by
  obtain ⟨hm, hl⟩ := mulhi_38 u hu
  obtain ⟨a, b, c, d, rfl⟩ := list4 h
  obtain ⟨k, hk⟩ : ∃ k, d &&& 9223372036854775807 = k := ⟨_, rfl⟩
  have hd : k.toNat < 9223372036854775808 := by rw [← hk, and63]; omega
  have b0 := addc_eq (x := a) (y := u * 38) (c := 0) (by decide)
  have b1 := addc_eq (x := b) (y := mulhi u 38) (c := addc a (u * 38) 0) (addc_le ..)
  have b2 := addc_eq (x := c) (y := 0) (c := addc b (mulhi u 38) (addc a (u * 38) 0)) (addc_le ..)
  have l2 := addc_le c 0 (addc b (mulhi u 38) (addc a (u * 38) 0))
  rw [z64, hl] at b0
  rw [hm] at b1
  rw [z64] at b2
  have e3 : (k + addc c 0 (addc b (mulhi u 38) (addc a (u * 38) 0))).toNat = k.toNat + (addc c 0 (addc b (mulhi u 38) (addc a (u * 38) 0))).toNat := by
    rw [UInt64.toNat_add]; omega
  rw [show m63 [a, b, c, d] = [a, b, c, k] by rw [← hk]; rfl, show fo4 [a, b, c, d] u = [a + u * 38 + 0, b + mulhi u 38 + addc a (u * 38) 0, c + 0 + addc b (mulhi u 38) (addc a (u * 38) 0), k + addc c 0 (addc b (mulhi u 38) (addc a (u * 38) 0))] by rw [← hk]; rfl, V4_mk, V4_mk, e3]
  omega
theorem foA_V (w : List UInt64) (u : UInt64) (h : w.length = 4) (hu : u.toNat ≤ 38) : V4 (foA w u) = V4 (m63 w) + 38 * u.toNat + 19 * (shr64n (w.getD 3 0) 63).toNat := by
  have h1 := fo4_V w u h hu
  have h2 := (m63_V w h).1
  rw [foA, crl_V _ (by simp only [List.length_set]; exact h) _ (top_le _) (by omega), h1]
theorem foB_V (E : List UInt64) (h : E.length = 4) : V4 (foB E) = V4 (m63 E) + 19 * (shr64n (E.getD 3 0) 63).toNat := by
  have h2 := (m63_V E h).1
  rw [foB, crl_V _ (by simp only [List.length_set]; exact h) _ (top_le _) (by omega)]
theorem foldL_V (w : List UInt64) (u : UInt64) (h : w.length = 4) (hu : u.toNat ≤ 38) : V4 (foldL w u) = (V4 w + 115792089237316195423570985008687907853269984665640564039457584007913129639936 * u.toNat) % P := by
  have a1 := foA_V w u h hu
  have hA : (foA w u).length = 4 := (foA_len w u).trans h
  have b1 := foB_V (foA w u) hA
  have m1 := m63_V w h
  have m2 := m63_V (foA w u) hA
  have t1 := top_le (w.getD 3 0)
  have t2 := top_le ((foA w u).getD 3 0)
  rw [foldL, lessL_V _ ((foB_len _).trans hA) (by omega), P_val]
  generalize (shr64n (w.getD 3 0) 63).toNat = s at *
  generalize (shr64n ((foA w u).getD 3 0) 63).toNat = t at *
  have : V4 w + 115792089237316195423570985008687907853269984665640564039457584007913129639936 * u.toNat = V4 (foB (foA w u)) + 57896044618658097711785492504343953926634992332820282019728792003956564819949 * (s + t + 2 * u.toNat) := by omega
  rw [this, Nat.add_mul_mod_self_left]
theorem mul_el (x y : F) : mulL (el x) (el y) = el (x * y) := by
  obtain ⟨a, b, c, d, e, f, g, h, ht, hv⟩ := tout_V (el x) (el y) rfl rfl
  have hh := hst_V a b c d e f g h
  have hx := F_lt x
  have hy := F_lt y
  have h1 := (hst [a, b, c, d, e, f, g, h] 4).2.toNat_lt
  have := a.toNat_lt
  have := b.toNat_lt
  have := c.toNat_lt
  have := d.toNat_lt
  have := e.toNat_lt
  have := f.toNat_lt
  have := g.toNat_lt
  have := h.toNat_lt
  have hle : (hst [a, b, c, d, e, f, g, h] 4).2.toNat ≤ 38 := by omega
  refine el_of (by rw [mulL]; exact lessL_len _ ((foB_len _).trans ((foA_len _ _).trans (hst_len _ 4)))) ?_
  rw [mulL, ht, foldL_V _ _ (hst_len _ 4) hle, Fin.val_mul, hh]
  rw [V4_el, V4_el] at hv
  rw [← hv, P_val]
  generalize e.toNat + 18446744073709551616 * f.toNat + 340282366920938463463374607431768211456 * g.toNat + 6277101735386680763835789423207666416102355444464034512896 * h.toNat = hi
  generalize a.toNat + 18446744073709551616 * b.toNat + 340282366920938463463374607431768211456 * c.toNat + 6277101735386680763835789423207666416102355444464034512896 * d.toNat = lo
  have : lo + 115792089237316195423570985008687907853269984665640564039457584007913129639936 * hi = lo + 38 * hi + 57896044618658097711785492504343953926634992332820282019728792003956564819949 * (2 * hi) := by omega
  rw [this, Nat.add_mul_mod_self_left]
end Go.Proofs.Ytjibmonfmhdbbaa.Fd

/- What functions of the program do, walked over the abstract machine. -/
namespace Go.Proofs.Ytjibmonfmhdbbaa.Fd
open Go Go.Abs Go.Proofs

open Go.Nt

/-- The number of the first bytes, the lowest first. -/
def Fv (f : Nat → UInt8) : Nat → Nat
  | 0 => 0
  | i + 1 => Fv f i + 256 ^ i * (f i).toNat
theorem Fv_lt (f : Nat → UInt8) : ∀ n, Fv f n < 256 ^ n
  | 0 => by simp [Fv]
  | n + 1 => by
    have h1 := Fv_lt f n
    have h2 := (f n).toNat_lt
    have h3 : 256 ^ n * (f n).toNat ≤ 256 ^ n * 255 := Nat.mul_le_mul_left _ (by omega)
    rw [Fv, Nat.pow_succ]; omega
theorem Fv_congr {f h : Nat → UInt8} : ∀ n, (∀ i, i < n → f i = h i) → Fv f n = Fv h n
  | 0, _ => rfl
  | n + 1, e => by rw [Fv, Fv, Fv_congr n fun i hi => e i (by omega), e n (by omega)]
theorem Fv_add (f : Nat → UInt8) (a : Nat) : ∀ b, Fv f (a + b) = Fv f a + 256 ^ a * Fv (fun i => f (a + i)) b
  | 0 => by simp [Fv]
  | b + 1 => by
    rw [← Nat.add_assoc, Fv, Fv_add f a b, Fv, Nat.pow_add, Nat.mul_add, Nat.mul_assoc]
    omega
theorem Fv_digit (f : Nat → UInt8) (n i : Nat) (h : i < n) : Fv f n / 256 ^ i % 256 = (f i).toNat := by
  obtain ⟨b, rfl⟩ : ∃ b, n = i + (1 + b) := ⟨n - i - 1, by omega⟩
  rw [Fv_add, Fv_add (fun j => f (i + j)) 1 b]
  have h1 := Fv_lt f i
  have hp : 0 < 256 ^ i := Nat.pow_pos (by decide)
  have h2 := (f i).toNat_lt
  have e : Fv (fun j => f (i + j)) 1 = (f i).toNat := by simp [Fv]
  rw [e, Nat.add_comm, Nat.mul_add_div hp, Nat.div_eq_of_lt h1]
  omega
/-- 32 bytes as a number. -/
def bv (b : List UInt8) : Nat := Fv (fun i => b.getD i 0) 32
theorem bv_lt (b : List UInt8) : bv b < 115792089237316195423570985008687907853269984665640564039457584007913129639936 := by
  have := Fv_lt (fun i => b.getD i 0) 32
  rwa [show (256 : Nat) ^ 32 = 115792089237316195423570985008687907853269984665640564039457584007913129639936 by decide +kernel] at this
/-- Eight bytes as a word. -/
def hfo (b : List UInt8) (q : Nat) : Nat → UInt64
  | 0 => 0
  | j + 1 => hfo b q j ||| shl64n (b.getD (q + j) 0).toUInt64 (8 * j)
theorem hfo_nat (b : List UInt8) (q : Nat) : ∀ i, i ≤ 8 → (hfo b q i).toNat = Fv (fun i => b.getD (q + i) 0) i
  | 0, _ => rfl
  | i + 1, h => by
    have ih := hfo_nat b q i (by omega)
    have hlt := Fv_lt (fun i => b.getD (q + i) 0) i
    have hb := (b.getD (q + i) 0).toNat_lt
    rw [hfo, UInt64.toNat_or, ih, Fv]
    have e : (shl64n (b.getD (q + i) 0).toUInt64 (8 * i)).toNat = (b.getD (q + i) 0).toNat <<< (8 * i) := by
      rw [shl64n_lt _ _ (by omega), UInt64.toNat_shiftLeft]
      have : (UInt64.ofNat (8 * i)).toNat % 64 = 8 * i := by
        rw [UInt64.toNat_ofNat_of_lt' (by rw [show UInt64.size = 2 ^ 64 from rfl]; omega), Nat.mod_eq_of_lt (by omega)]
      rw [this, UInt8.toNat_toUInt64, Nat.shiftLeft_eq]
      refine Nat.mod_eq_of_lt ?_
      have h1 : 2 ^ (8 * i) ≤ 2 ^ 56 := Nat.pow_le_pow_right (by decide) (by omega)
      calc (b.getD (q + i) 0).toNat * 2 ^ (8 * i) ≤ 255 * 2 ^ 56 := Nat.mul_le_mul (by omega) h1
        _ < 2 ^ 64 := by decide
    rw [e, Nat.or_comm, ← Nat.shiftLeft_add_eq_or_of_lt (by rw [Nat.pow_mul]; exact hlt), Nat.shiftLeft_eq, Nat.pow_mul, Nat.mul_comm (b.getD (q + i) 0).toNat, Nat.add_comm]
theorem ofb_seg (b : List UInt8) (k : Nat) (hk : k < 4) (h0 : (ofb b (8 * k)).getD k 0 = 0) : ∀ j, j ≤ 8 → ofb b (8 * k + j) = (ofb b (8 * k)).set k (hfo b (8 * k) j)
  | 0, _ => by
    have hl := ofb_len b (8 * k)
    rw [Nat.add_zero, hfo]
    refine List.ext_getElem (by simp) fun i h1 h2 => ?_
    rw [List.getElem_set]
    split
    · rename_i e
      subst e
      rw [List.getD_eq_getElem?_getD, List.getElem?_eq_getElem h1] at h0
      simpa using h0
    · rfl
  | j + 1, hj => by
    have hl := ofb_len b (8 * k)
    rw [← Nat.add_assoc, ofb, show (8 * k + j) / 8 = k by omega, show (8 * k + j) % 8 = j by omega, ofb_seg b k hk h0 j (by omega), List.set_set, hfo]
    have : ((ofb b (8 * k)).set k (hfo b (8 * k) j)).getD k 0 = hfo b (8 * k) j := by
      rw [List.getD_eq_getElem?_getD, List.getElem?_set, if_pos rfl, if_pos (by omega)]; rfl
    rw [this]
theorem ofb_V (b : List UInt8) : V4 (ofb b 32) = bv b := by
  have s0 := ofb_seg b 0 (by decide) rfl 8 (by decide)
  have t0 : ofb b 8 = [hfo b 0 8, 0, 0, 0] := s0
  have s1 := ofb_seg b 1 (by decide) (by rw [show 8 * 1 = 8 from rfl, t0]; rfl) 8 (by decide)
  have t1 : ofb b 16 = [hfo b 0 8, hfo b 8 8, 0, 0] := by rw [show 16 = 8 * 1 + 8 from rfl, s1, show 8 * 1 = 8 from rfl, t0]; rfl
  have s2 := ofb_seg b 2 (by decide) (by rw [show 8 * 2 = 16 from rfl, t1]; rfl) 8 (by decide)
  have t2 : ofb b 24 = [hfo b 0 8, hfo b 8 8, hfo b 16 8, 0] := by rw [show 24 = 8 * 2 + 8 from rfl, s2, show 8 * 2 = 16 from rfl, t1]; rfl
  have s3 := ofb_seg b 3 (by decide) (by rw [show 8 * 3 = 24 from rfl, t2]; rfl) 8 (by decide)
  have t3 : ofb b 32 = [hfo b 0 8, hfo b 8 8, hfo b 16 8, hfo b 24 8] := by rw [show 32 = 8 * 3 + 8 from rfl, s3, show 8 * 3 = 24 from rfl, t2]; rfl
  rw [t3, V4_mk, hfo_nat _ _ 8 (by decide), hfo_nat _ _ 8 (by decide), hfo_nat _ _ 8 (by decide), hfo_nat _ _ 8 (by decide)]
  rw [bv, show (32 : Nat) = 8 + (8 + (8 + 8)) from rfl, Fv_add, Fv_add (fun i => b.getD (8 + i) 0), Fv_add (fun i => b.getD (8 + (8 + i)) 0)]
  rw [show (256 : Nat) ^ 8 = 18446744073709551616 by decide]
  have e0 : Fv (fun i => b.getD (0 + i) 0) 8 = Fv (fun i => b.getD i 0) 8 := Fv_congr 8 fun i _ => by rw [Nat.zero_add]
  have e2 : Fv (fun i => b.getD (8 + (8 + i)) 0) 8 = Fv (fun i => b.getD (16 + i) 0) 8 := Fv_congr 8 fun i _ => by rw [← Nat.add_assoc]
  have e3 : Fv (fun i => b.getD (8 + (8 + (8 + i))) 0) 8 = Fv (fun i => b.getD (24 + i) 0) 8 := Fv_congr 8 fun i _ => by rw [← Nat.add_assoc, ← Nat.add_assoc]
  rw [e0, e2, e3]
  omega
/-- The element of bytes. -/
def fb (b : List UInt8) : F := ⟨bv b % 57896044618658097711785492504343953926634992332820282019728792003956564819968 % P, Nat.mod_lt _ P_pos⟩
theorem of_el (b : List UInt8) : ofL b = el (fb b) := by
  have h := m63_V (ofb b 32) (ofb_len b 32)
  have hl : (m63 (ofb b 32)).length = 4 := List.length_set.trans (ofb_len b 32)
  refine lessL_el _ _ hl (by omega) ?_
  rw [h.1, ofb_V]; rfl
/-- A number's 32 bytes. -/
def by32 (n : Nat) : List UInt8 := (List.range 32).map fun i => UInt8.ofNat (n / 256 ^ i)
theorem by32_len (n : Nat) : (by32 n).length = 32 := by simp [by32]
theorem by32_get (n i : Nat) (h : i < 32) : (by32 n).getD i 0 = UInt8.ofNat (n / 256 ^ i) := by
  simp [by32, List.getD_eq_getElem?_getD, List.getElem?_map, List.getElem?_range h]
theorem ext32 {l m : List UInt8} (hl : l.length = 32) (hm : m.length = 32) (h : ∀ i, i < 32 → l.getD i 0 = m.getD i 0) : l = m := by
  refine List.ext_getElem (by omega) fun i h1 h2 => ?_
  have := h i (by omega)
  simpa [List.getD_eq_getElem?_getD, h1, h2] using this
theorem bv_by32 (n : Nat) (h : n < 115792089237316195423570985008687907853269984665640564039457584007913129639936) : bv (by32 n) = n := by
  have key : ∀ k, k ≤ 32 → Fv (fun i => (by32 n).getD i 0) k = n % 256 ^ k := by
    intro k
    induction k with
    | zero => intro _; simp [Fv, Nat.mod_one]
    | succ k ih =>
      intro hk
      rw [Fv, ih (by omega), by32_get n k (by omega), UInt8.toNat_ofNat', Nat.mod_pow_succ (b := 256)]
  rw [bv, key 32 (by decide), show (256 : Nat) ^ 32 = 115792089237316195423570985008687907853269984665640564039457584007913129639936 by decide +kernel, Nat.mod_eq_of_lt h]
theorem byl_get (w : List UInt64) : ∀ n, n ≤ 32 → ∀ i, i < n → (byl w n).getD i 0 = (shr64n (w.getD (i / 8) 0) (8 * (i % 8))).toUInt8
  | 0, _, i, h => by omega
  | n + 1, hn, i, h => by
    have hl := byl_len w n
    rw [byl]
    by_cases e : i = n
    · subst e
      have hi : i < (byl w i).length := by omega
      simp [List.getD_eq_getElem?_getD, List.getElem?_set, hi]
    · rw [List.getD_eq_getElem?_getD, List.getElem?_set, if_neg (by omega), ← List.getD_eq_getElem?_getD]
      exact byl_get w n (by omega) i (by omega)
theorem byl_V (w : List UInt64) (h : w.length = 4) : byl w 32 = by32 (V4 w) := by
  obtain ⟨a, b, c, d, rfl⟩ := list4 h
  refine ext32 (byl_len _ _) (by32_len _) fun i hi => ?_
  rw [byl_get _ 32 (by decide) i hi, by32_get _ _ hi]
  apply UInt8.toNat_inj.1
  rw [UInt8.toNat_ofNat', UInt64.toNat_toUInt8, shr_nat _ _ (by omega), V4_mk]
  have := a.toNat_lt
  have := b.toNat_lt
  have := c.toNat_lt
  have := d.toNat_lt
  have h8 : i / 8 < 4 := by omega
  obtain ⟨k, j, hj, hk, rfl⟩ : ∃ k j, j < 8 ∧ k < 4 ∧ i = 8 * k + j := ⟨i / 8, i % 8, by omega, h8, by omega⟩
  rw [show (8 * k + j) / 8 = k by omega, show (8 * k + j) % 8 = j by omega, Nat.pow_add, Nat.pow_mul, ← Nat.div_div_eq_div_mul, Nat.pow_mul, show (256 : Nat) ^ 8 = 18446744073709551616 by decide, show (2 : Nat) ^ 8 = 256 by decide]
  have e : (18446744073709551616 : Nat) = 256 ^ j * (256 * 256 ^ (7 - j)) := by
    rw [← Nat.pow_succ', ← Nat.pow_add, show j + (7 - j + 1) = 8 by omega]
  have key : ∀ x y : Nat, x < 18446744073709551616 → x / 256 ^ j % 256 = (x + 18446744073709551616 * y) / 256 ^ j % 256 := by
    intro x y _
    rw [e, Nat.mul_assoc, Nat.add_mul_div_left _ _ (Nat.pow_pos (by decide)), Nat.mul_assoc, Nat.add_mul_mod_self_left]
  have hc : k = 0 ∨ k = 1 ∨ k = 2 ∨ k = 3 := by omega
  rcases hc with rfl | rfl | rfl | rfl
  · show a.toNat / 256 ^ j % 256 = _
    rw [key a.toNat (b.toNat + 18446744073709551616 * c.toNat + 340282366920938463463374607431768211456 * d.toNat) (by assumption)]
    congr 2; omega
  · show b.toNat / 256 ^ j % 256 = _
    rw [key b.toNat (c.toNat + 18446744073709551616 * d.toNat) (by assumption)]
    congr 2; omega
  · show c.toNat / 256 ^ j % 256 = _
    rw [key c.toNat d.toNat (by assumption)]
    congr 2; omega
  · show d.toNat / 256 ^ j % 256 = _
    congr 2; omega
/-- The bytes of an element. -/
abbrev bye (x : F) : List UInt8 := by32 x.val
theorem bytes_el (x : F) : byl (el x) 32 = bye x := by rw [byl_V _ rfl, V4_el]
theorem bye_inj {x y : F} (h : bye x = bye y) : x = y := by
  have := congrArg bv h
  rw [bv_by32 _ (by have := F_lt x; omega), bv_by32 _ (by have := F_lt y; omega)] at this
  exact Fin.ext this
/-- A bit of what is said by bytes. -/
theorem shr8_nat (x : UInt8) (k : Nat) (h : k < 8) : (shr8n x k).toNat = x.toNat / 2 ^ k := by
  unfold shr8n
  simp [UInt8.toNat_shiftRight, Nat.shiftRight_eq_div_pow, h, Nat.mod_eq_of_lt h]
theorem bit_nat (e : List UInt8) (k : Nat) (h : k < 256) : (shr8n (e.getD (k / 8) 0) (k % 8) &&& 1).toNat = bv e / 2 ^ k % 2 := by
  rw [UInt8.toNat_and, show UInt8.toNat 1 = 2 ^ 1 - 1 from rfl, Nat.and_two_pow_sub_one_eq_mod, shr8_nat _ _ (by omega), show (2 : Nat) ^ 1 = 2 from rfl]
  rw [← Fv_digit (fun i => e.getD i 0) 32 (k / 8) (by omega)]
  have e1 : (2 : Nat) ^ k = 256 ^ (k / 8) * 2 ^ (k % 8) := by
    rw [show (256 : Nat) = 2 ^ 8 from rfl, ← Nat.pow_mul, ← Nat.pow_add, Nat.div_add_mod]
  rw [e1, ← Nat.div_div_eq_div_mul]
  show bv e / 256 ^ (k / 8) % 256 / 2 ^ (k % 8) % 2 = bv e / 256 ^ (k / 8) / 2 ^ (k % 8) % 2
  generalize bv e / 256 ^ (k / 8) = y
  show y % 256 / 2 ^ (k % 8) % 2 = y / 2 ^ (k % 8) % 2
  have e2 : (256 : Nat) = 2 ^ (k % 8) * (2 * 2 ^ (7 - k % 8)) := by
    rw [← Nat.pow_succ', ← Nat.pow_add, show k % 8 + (7 - k % 8 + 1) = 8 by omega]
  rw [e2, Nat.mod_mul_right_div_self, Nat.mod_mul_right_mod]
theorem bit_one {e : List UInt8} {k : Nat} (h : k < 256) (hb : shr8n (e.getD (k / 8) 0) (k % 8) &&& 1 = 1) : bv e / 2 ^ k % 2 = 1 := by
  rw [← bit_nat e k h, hb]; rfl
theorem bit_zero {e : List UInt8} {k : Nat} (h : k < 256) (hb : ¬ shr8n (e.getD (k / 8) 0) (k % 8) &&& 1 = 1) : bv e / 2 ^ k % 2 = 0 := by
  have := bit_nat e k h
  have hne : (shr8n (e.getD (k / 8) 0) (k % 8) &&& 1).toNat ≠ 1 := fun e => hb (UInt8.toNat_inj.1 (by rw [e]; rfl))
  omega
theorem half_pow (n k : Nat) (h : k < 256) : n / 2 ^ (255 - k) = 2 * (n / 2 ^ (256 - k)) + n / 2 ^ (255 - k) % 2 := by
  rw [show 256 - k = 255 - k + 1 by omega, Nat.pow_succ, ← Nat.div_div_eq_div_mul]
  omega
theorem pw_step1 (x : F) {e : List UInt8} {i : Nat} (hi : i < 256) (hb : shr8n (e.getD (31 - i / 8) 0) (7 - i % 8) &&& 1 = 1) : pw x (bv e / 2 ^ (256 - i)) * pw x (bv e / 2 ^ (256 - i)) * x = pw x (bv e / 2 ^ (256 - (i + 1))) := by
  have h1 := bit_one (e := e) (k := 255 - i) (by omega) (by rw [show (255 - i) / 8 = 31 - i / 8 by omega, show (255 - i) % 8 = 7 - i % 8 by omega]; exact hb)
  have h2 := half_pow (bv e) i hi
  rw [show 256 - (i + 1) = 255 - i by omega, h2, h1, ← pw_add, show ∀ m, pw x (m + 1) = pw x m * x from fun _ => rfl, Nat.two_mul]
theorem pw_step0 (x : F) {e : List UInt8} {i : Nat} (hi : i < 256) (hb : ¬ shr8n (e.getD (31 - i / 8) 0) (7 - i % 8) &&& 1 = 1) : pw x (bv e / 2 ^ (256 - i)) * pw x (bv e / 2 ^ (256 - i)) = pw x (bv e / 2 ^ (256 - (i + 1))) := by
  have h1 := bit_zero (e := e) (k := 255 - i) (by omega) (by rw [show (255 - i) / 8 = 31 - i / 8 by omega, show (255 - i) % 8 = 7 - i % 8 by omega]; exact hb)
  have h2 := half_pow (bv e) i hi
  rw [show 256 - (i + 1) = 255 - i by omega, h2, h1, ← pw_add, Nat.add_zero, Nat.two_mul]
theorem small_el (n : UInt64) : [n, 0, 0, 0] = el (Fin.ofNat P n.toNat) := by
  refine el_of rfl ?_
  have := n.toNat_lt
  rw [V4_mk, z64]
  show _ = n.toNat % P
  rw [P_val, Nat.mod_eq_of_lt (by omega)]; simp
theorem odd_el (x : F) : ((el x).getD 0 0 &&& 1 = 1) = (x.val % 2 = 1) := by
  have h : ((el x).getD 0 0 &&& 1).toNat = x.val % 2 := by
    rw [UInt64.toNat_and, show UInt64.toNat 1 = 2 ^ 1 - 1 from rfl, Nat.and_two_pow_sub_one_eq_mod]
    show (UInt64.ofNat x.val).toNat % 2 = _
    rw [UInt64.toNat_ofNat']; omega
  rw [eq_iff_iff]
  constructor
  · intro e; rw [← h, e]; rfl
  · intro e; exact UInt64.toNat_inj.1 (by rw [h, e]; rfl)
/-- One of two, word by word. -/
def sel (a b : List UInt64) (m : UInt64) : Nat → List UInt64
  | 0 => a
  | i + 1 => (sel a b m i).set i ((sel a b m i).getD i 0 ^^^ (m &&& ((sel a b m i).getD i 0 ^^^ b.getD i 0)))
theorem sel_len (a b : List UInt64) (m : UInt64) : ∀ i, (sel a b m i).length = a.length
  | 0 => rfl
  | i + 1 => by rw [sel, List.length_set, sel_len]
theorem sel_no (x y : F) : sel (el x) (el y) 0 4 = el x := by
  obtain ⟨a, b, c, d, ha⟩ := list4 (el_len x)
  rw [ha]
  have e : ∀ u v : UInt64, u ^^^ (0 &&& v) = u := fun u v => by simp
  show [a ^^^ (0 &&& _), b ^^^ (0 &&& _), c ^^^ (0 &&& _), d ^^^ (0 &&& _)] = _
  simp only [e]
theorem sel_yes (x y : F) : sel (el x) (el y) (~~~0) 4 = el y := by
  obtain ⟨a, b, c, d, ha⟩ := list4 (el_len x)
  obtain ⟨a', b', c', d', hb⟩ := list4 (el_len y)
  rw [ha, hb]
  have e : ∀ u v : UInt64, u ^^^ (~~~0 &&& (u ^^^ v)) = v := fun u v => by rw [show (~~~0 : UInt64) = -1 from rfl, UInt64.neg_one_and, ← UInt64.xor_assoc, UInt64.xor_self, UInt64.zero_xor]
  show [a ^^^ (~~~0 &&& (a ^^^ a')), b ^^^ (~~~0 &&& (b ^^^ b')), c ^^^ (~~~0 &&& (c ^^^ c')), d ^^^ (~~~0 &&& (d ^^^ d'))] = _
  simp only [e]
/-- What is added to p, shifted. -/
def xin (p : List UInt64) : Nat → List UInt64
  | 0 => p
  | i + 1 => if i < 3 then ((xin p i).set i (shr64n ((xin p i).getD i 0) 1)).set i (((xin p i).set i (shr64n ((xin p i).getD i 0) 1)).getD i 0 ||| shl64n (((xin p i).set i (shr64n ((xin p i).getD i 0) 1)).getD (i + 1) 0) 63) else (xin p i).set i (shr64n ((xin p i).getD i 0) 1)
theorem xin_len (p : List UInt64) : ∀ i, (xin p i).length = p.length
  | 0 => rfl
  | i + 1 => by rw [xin]; split <;> simp [xin_len p i]
def xsh (p : List UInt64) : Nat → List UInt64
  | 0 => p
  | k + 1 => xin (xsh p k) 4
theorem xsh_len (p : List UInt64) : ∀ i, (xsh p i).length = p.length
  | 0 => rfl
  | i + 1 => by rw [xsh, xin_len, xsh_len]
def xp (a : Int) : List UInt64 := [18446744073709551597 + UInt64.ofInt a, 18446744073709551615, 18446744073709551615, 9223372036854775807]
theorem deq (x y : F) : decide (el x = el y) = decide (x = y) := decide_eq_decide.2 ⟨el_inj, fun h => h ▸ rfl⟩
theorem xp_len (a : Int) : (xp a).length = 4 := rfl
end Go.Proofs.Ytjibmonfmhdbbaa.Fd

/- What functions of the program do, walked over the abstract machine. -/
namespace Go.Proofs.Ytjibmonfmhdbbaa.Fd
open Go Go.Abs Go.Proofs

open Go.Nt
theorem add_e (x y : F) : Good Try.prog 13 [.a (u64s (el x)), .a (u64s (el y))] [] (sa (u64s (el (x + y)))) [] := by
  have := add_ (el x) (el y) rfl rfl
  rwa [add_el] at this
theorem neg_e (x : F) : Good Try.prog 20 [.a (u64s (el x))] [] (sa (u64s (el (-x)))) [] := by
  have := neg_ (el x) rfl
  rwa [neg_el] at this
theorem mul_e (x y : F) : Good Try.prog 17 [.a (u64s (el x)), .a (u64s (el y))] [] (sa (u64s (el (x * y)))) [] := by
  have := mul_ (el x) (el y) rfl rfl
  rwa [mul_el] at this
theorem of_e (b : List UInt8) (h : b.length = 32) : Good Try.prog 10 [.a (u8s b)] [] (sa (u64s (el (fb b)))) [] := by
  have := of_ b h
  rwa [of_el] at this
theorem bytes_e (x : F) : Good Try.prog 36 [.a (u64s (el x))] [] (sa (u8s (bye x))) [] := by
  have := bytes_ (el x) rfl
  rwa [bytes_el] at this
theorem small_e (n : UInt64) : Good Try.prog 27 [.c (c64 n)] [] (sa (u64s (el (Fin.ofNat P n.toNat)))) [] := by
  have := small_ n
  rwa [small_el] at this
theorem small_1 : Good Try.prog 27 [.c (c64 1)] [] (sa (u64s (el 1))) [] := small_e 1
theorem small_0 : Good Try.prog 27 [.c (c64 0)] [] (sa (u64s (el 0))) [] := small_e 0
theorem small_2 : Good Try.prog 27 [.c (c64 2)] [] (sa (u64s (el 2))) [] := small_e 2
/-- (field.Elem).Square -/
theorem square_e (x : F) : Good Try.prog 19 [.a (u64s (el x))] [] (sa (u64s (el (x * x)))) [] := by
  refine good_frm 6 Try.func19 rfl rfl rfl rfl rfl rfl ?_
  refine awp_seq ?_
  refine rln ?_
  refine G2 (fun _ k_ => q_boxa k_) ?_
  refine G2 (fun _ k_ => q_al k_) ?_
  refine gend ?_
  refine awp_seq ?_
  refine rln ?_
  refine G (q_ldw ?_)
  refine G (q_ldw ?_)
  refine G2 (fun _ k_ => q_callp (mul_e x x) k_) ?_
  refine G20 (fun _ k_ => q_stw k_) ?_
  refine gend ?_
  refine awp_ret ?_
  exact fpc (t := 27) (a := 2)
/-- (field.Elem).Sub -/
theorem sub_e (x y : F) : Good Try.prog 15 [.a (u64s (el x)), .a (u64s (el y))] [] (sa (u64s (el (x - y)))) [] := by
  rw [show x - y = x + -y by grind]
  refine good_frm 9 Try.func15 rfl rfl rfl rfl rfl rfl ?_
  refine awp_seq ?_
  refine rln ?_
  refine G2 (fun _ k_ => q_boxa k_) ?_
  refine G2 (fun _ k_ => q_boxa k_) ?_
  refine G2 (fun _ k_ => q_al k_) ?_
  refine gend ?_
  refine awp_seq ?_
  refine rdln [2, 3, 4] [0, 0, 0, 1, 2] [1, 0, 1, 2, 3] ?_
  refine DLw ?_
  refine DLw ?_
  refine De2 (fun _ k_ => q_callp (neg_e y) k_) ?_
  refine De2 (fun _ k_ => q_callp (add_e x (-y)) k_) ?_
  refine De20 (fun _ k_ => q_stw k_) ?_
  refine dend ?_
  refine awp_ret ?_
  exact fpc (t := 27) (a := 4)
/-- field.Equal -/
theorem equal_e (x y : F) : Good Try.prog 28 [.a (u64s (el x)), .a (u64s (el y))] [] (sc (.bool (decide (x = y)))) [] := by
  refine good_frm 10 Try.func28 rfl rfl rfl rfl rfl rfl ?_
  refine awp_seq ?_
  refine rln ?_
  refine G2 (fun _ k_ => q_boxa k_) ?_
  refine G2 (fun _ k_ => q_boxa k_) ?_
  refine As ?_
  refine gend ?_
  refine awp_seq ?_
  refine rln ?_
  refine G (q_fap0 ?_)
  refine G (q_ldw ?_)
  refine G (q_fap0 ?_)
  refine G (q_ldw ?_)
  refine G (q_eqa64 ?_)
  refine As ?_
  refine gend ?_
  refine awp_ret ?_
  exact fp1 (hv := congrArg (fun b => sc (.bool b)) (deq x y).symm)
/-- (field.Elem).Odd -/
theorem odd_e (x : F) : Good Try.prog 37 [.a (u64s (el x))] [] (sc (.bool (decide (x.val % 2 = 1)))) [] := by
  refine good_frm 8 Try.func37 rfl rfl rfl rfl rfl rfl ?_
  refine awp_seq ?_
  refine rln ?_
  refine G2 (fun _ k_ => q_boxa k_) ?_
  refine As ?_
  refine gend ?_
  refine awp_seq ?_
  refine rln ?_
  refine G (q_fap0 ?_)
  refine G (q_ixp1 ?_)
  refine G (q_ldp ?_)
  refine G (q_and64 (y := 1) ?_)
  refine G (q_eql64 (y := 1) ?_)
  refine As ?_
  refine gend ?_
  refine awp_ret ?_
  exact fp1 (hv := by simp only [odd_el])
/-- field.Select -/
theorem select_y (x y : F) : Good Try.prog 35 [.a (u64s (el x)), .a (u64s (el y)), .c (.bool true)] [] (sa (u64s (el y))) [] := by
  refine good_frm 35 Try.func35 rfl rfl rfl rfl rfl rfl ?_
  refine awp_seq ?_
  refine rln ?_
  refine G2 (fun _ k_ => q_boxa k_) ?_
  refine G2 (fun _ k_ => q_boxa k_) ?_
  refine G2 (fun _ k_ => q_al k_) ?_
  refine gend ?_
  refine awp_seq ?_
  refine rln ?_
  refine G (q_as (s := sc (c64 0)) ?_)
  refine gend ?_
  refine awp_seq ?_
  refine awp_seq ?_
  refine rln ?_
  refine Mv ?_
  refine gend ?_
  refine cndbY (fun hc1 => ?_) ?_; rotate_left
  · exact rfl
  refine rln ?_
  refine Mv ?_
  refine G (q_not64 ?_)
  refine As ?_
  refine gend ?_
  refine awp_seq ?_
  refine awp_seq ?_
  refine rln ?_
  refine G (q_mv (s := sc (cn 0)) ?_)
  refine gend ?_
  refine awp_block ?_
  refine awp_loop (fun i : {i : Nat // i ≤ 4} => ⟨frm 35 [(4, sc (.ptr 1 0)), (6, sc (.ptr 2 0)), (3, sc (.ptr 0 0)), (7, sc (c64 (~~~0))), (12, sc (cn i.1))], [some (u64s (sel (el x) (el y) (~~~0) i.1)), some (u64s (el y)), some (u64s (List.replicate 4 0))]⟩) (fun i => 4 - i.1) ⟨0, Nat.zero_le _⟩ (sle_sub ⟨rfl, rfl, rfl, rfl, rfl, trivial⟩ rfl) fun i => ?_   -- live: [3, 4, 7, 12]
  have hl := (sel_len (el x) (el y) (~~~0) i.1).trans (el_len x)
  refine awp_seq ?_
  refine rln ?_
  refine G (q_lssn (y := 4) ?_)
  refine gend ?_
  refine awp_seq ?_
  refine cnd (fun hc2 => ?_) (fun hc2 => ?_); rotate_left
  · refine awp_exit ?_
    rw [show i.1 = 4 from (by have := i.2; omega)]
    rw [sel_yes]
    refine awp_seq ?_
    refine rln ?_
    refine G (q_ldw ?_)
    refine G20 (fun _ k_ => q_stw k_) ?_
    refine gend ?_
    refine awp_ret ?_
    exact fpc (t := 27) (a := 6)
  refine awp_skip ?_
  refine awp_seq ?_
  refine awp_block ?_
  refine awp_seq ?_
  refine rln ?_
  refine Mv ?_
  refine As ?_
  refine gend ?_
  refine rdln [18] [] [0, 0, 0, 0, 0, 0, 0, 0, 0, 0, 0, 0, 0, 0, 0, 0, 0, 0, 1] ?_
  refine Dp (fun _ => q_mv (s := .v (.c _)) ⟨rfl, rfl⟩) ?_
  refine Dp (fun _ => q_fap0 ⟨rfl, rfl⟩) ?_
  refine Dp (fun _ => q_ixp1 ⟨rfl, rfl⟩) ?_
  refine DLp ?_
  refine Dp (fun _ => q_mv (s := .v (.c _)) ⟨rfl, rfl⟩) ?_
  refine Dp (fun _ => q_mv (s := .v (.c _)) ⟨rfl, rfl⟩) ?_
  refine Dp (fun _ => q_fap0 ⟨rfl, rfl⟩) ?_
  refine Dp (fun _ => q_ixp1 ⟨rfl, rfl⟩) ?_
  refine DLp ?_
  refine Dp (fun _ => q_mv (s := .v (.c _)) ⟨rfl, rfl⟩) ?_
  refine Dp (fun _ => q_fap0 ⟨rfl, rfl⟩) ?_
  refine Dp (fun _ => q_ixp1 ⟨rfl, rfl⟩) ?_
  refine DLp ?_
  refine Dp (fun _ => q_xor64 ⟨rfl, rfl⟩) ?_
  refine Dp (fun _ => q_and64 ⟨rfl, rfl⟩) ?_
  refine Dp (fun _ => q_xor64 ⟨rfl, rfl⟩) ?_
  refine Dp (fun _ => q_fap0 ⟨rfl, rfl⟩) ?_
  refine Dp (fun _ => q_ixp1 ⟨rfl, rfl⟩) ?_
  refine De20 (fun _ k_ => q_stm k_) ?_
  refine dend ?_
  refine rln ?_
  refine G (q_addn (y := 1) ?_)
  refine Mv ?_
  refine gend ?_
  exact ⟨⟨i.1 + 1, by omega⟩, by show 4 - (i.1 + 1) < 4 - i.1; omega, sle_sub ⟨rfl, rfl, rfl, rfl, rfl, trivial⟩ rfl⟩   -- endloop 1
/-- field.Select -/
theorem select_x (x y : F) : Good Try.prog 35 [.a (u64s (el x)), .a (u64s (el y)), .c (.bool false)] [] (sa (u64s (el x))) [] := by
  refine good_frm 35 Try.func35 rfl rfl rfl rfl rfl rfl ?_
  refine awp_seq ?_
  refine rln ?_
  refine G2 (fun _ k_ => q_boxa k_) ?_
  refine G2 (fun _ k_ => q_boxa k_) ?_
  refine G2 (fun _ k_ => q_al k_) ?_
  refine gend ?_
  refine awp_seq ?_
  refine rln ?_
  refine G (q_as (s := sc (c64 0)) ?_)
  refine gend ?_
  refine awp_seq ?_
  refine awp_seq ?_
  refine rln ?_
  refine Mv ?_
  refine gend ?_
  refine cndbN (fun hc1 => ?_) ?_; rotate_left
  · exact rfl
  refine awp_skip ?_
  refine awp_seq ?_
  refine awp_seq ?_
  refine rln ?_
  refine G (q_mv (s := sc (cn 0)) ?_)
  refine gend ?_
  refine awp_block ?_
  refine awp_loop (fun i : {i : Nat // i ≤ 4} => ⟨frm 35 [(4, sc (.ptr 1 0)), (6, sc (.ptr 2 0)), (3, sc (.ptr 0 0)), (7, sc (c64 0)), (12, sc (cn i.1))], [some (u64s (sel (el x) (el y) 0 i.1)), some (u64s (el y)), some (u64s (List.replicate 4 0))]⟩) (fun i => 4 - i.1) ⟨0, Nat.zero_le _⟩ (sle_sub ⟨rfl, rfl, rfl, rfl, rfl, trivial⟩ rfl) fun i => ?_   -- live: [3, 4, 7, 12]
  have hl := (sel_len (el x) (el y) 0 i.1).trans (el_len x)
  refine awp_seq ?_
  refine rln ?_
  refine G (q_lssn (y := 4) ?_)
  refine gend ?_
  refine awp_seq ?_
  refine cnd (fun hc2 => ?_) (fun hc2 => ?_); rotate_left
  · refine awp_exit ?_
    rw [show i.1 = 4 from (by have := i.2; omega)]
    rw [sel_no]
    refine awp_seq ?_
    refine rln ?_
    refine G (q_ldw ?_)
    refine G20 (fun _ k_ => q_stw k_) ?_
    refine gend ?_
    refine awp_ret ?_
    exact fpc (t := 27) (a := 6)
  refine awp_skip ?_
  refine awp_seq ?_
  refine awp_block ?_
  refine awp_seq ?_
  refine rln ?_
  refine Mv ?_
  refine As ?_
  refine gend ?_
  refine rdln [18] [] [0, 0, 0, 0, 0, 0, 0, 0, 0, 0, 0, 0, 0, 0, 0, 0, 0, 0, 1] ?_
  refine Dp (fun _ => q_mv (s := .v (.c _)) ⟨rfl, rfl⟩) ?_
  refine Dp (fun _ => q_fap0 ⟨rfl, rfl⟩) ?_
  refine Dp (fun _ => q_ixp1 ⟨rfl, rfl⟩) ?_
  refine DLp ?_
  refine Dp (fun _ => q_mv (s := .v (.c _)) ⟨rfl, rfl⟩) ?_
  refine Dp (fun _ => q_mv (s := .v (.c _)) ⟨rfl, rfl⟩) ?_
  refine Dp (fun _ => q_fap0 ⟨rfl, rfl⟩) ?_
  refine Dp (fun _ => q_ixp1 ⟨rfl, rfl⟩) ?_
  refine DLp ?_
  refine Dp (fun _ => q_mv (s := .v (.c _)) ⟨rfl, rfl⟩) ?_
  refine Dp (fun _ => q_fap0 ⟨rfl, rfl⟩) ?_
  refine Dp (fun _ => q_ixp1 ⟨rfl, rfl⟩) ?_
  refine DLp ?_
  refine Dp (fun _ => q_xor64 ⟨rfl, rfl⟩) ?_
  refine Dp (fun _ => q_and64 ⟨rfl, rfl⟩) ?_
  refine Dp (fun _ => q_xor64 ⟨rfl, rfl⟩) ?_
  refine Dp (fun _ => q_fap0 ⟨rfl, rfl⟩) ?_
  refine Dp (fun _ => q_ixp1 ⟨rfl, rfl⟩) ?_
  refine De20 (fun _ k_ => q_stm k_) ?_
  refine dend ?_
  refine rln ?_
  refine G (q_addn (y := 1) ?_)
  refine Mv ?_
  refine gend ?_
  exact ⟨⟨i.1 + 1, by omega⟩, by show 4 - (i.1 + 1) < 4 - i.1; omega, sle_sub ⟨rfl, rfl, rfl, rfl, rfl, trivial⟩ rfl⟩   -- endloop 1
theorem select_e (x y : F) (b : Bool) : Good Try.prog 35 [.a (u64s (el x)), .a (u64s (el y)), .c (.bool b)] [] (sa (u64s (el (if b then y else x)))) [] := by
  cases b
  · exact select_x x y
  · exact select_y x y
set_option maxHeartbeats 800000 in
/-- field.exponent -/
theorem exponent_ (a : Int) (k : Nat) (hk : k ≤ 100) : Good Try.prog 51 [.c (ci a), .c (cn k)] [] (sa (u8s (byl (xsh (xp a) k) 32))) [] := by
  have hxl := (xsh_len (xp a) k).trans (xp_len a)
  have gB := bytes_ (xsh (xp a) k) hxl
  have hB := byl_len (xsh (xp a) k) 32
  refine good_frm 42 Try.func51 rfl rfl rfl rfl rfl rfl ?_
  refine awp_seq ?_
  refine rln ?_
  refine G2 (fun _ k_ => q_al k_) ?_
  refine gend ?_
  refine awp_seq ?_
  refine rln ?_
  refine G2 (fun _ k_ => q_callp (prime_/- escutcheon/field.prime -/) k_) ?_
  refine G2 (fun _ k_ => q_al k_) ?_
  refine G20 (fun _ k_ => q_stw k_) ?_
  refine gend ?_
  refine awp_seq ?_
  refine rln ?_
  refine G (q_ixp1 ?_)
  refine G (q_ldp ?_)
  refine Mv ?_
  refine G (q_cvi_64 ?_)
  refine G (q_add64 ?_)
  refine G (q_ixp1 ?_)
  refine G20 (fun _ k_ => q_stm k_) ?_
  refine gend ?_
  refine awp_seq ?_
  refine awp_seq ?_
  refine rln ?_
  refine Mv ?_
  refine G (q_mv (s := sc (cn 0)) ?_)
  refine gend ?_
  refine awp_block ?_
  refine awp_loop (fun x : {i : Nat // i ≤ k} => ⟨frm 42 [(4, sc (.ptr 0 0)), (5, sc (.ptr 1 0)), (14, sc (cn k)), (15, sc (cn x.1))], [some (u8s (List.replicate 32 0)), some (u64s (xsh (xp a) x.1))]⟩) (fun x => k - x.1) ⟨0, Nat.zero_le _⟩ (sle_sub ⟨rfl, rfl, rfl, rfl, trivial⟩ rfl) fun x => ?_   -- live: [5, 14, 15]
  have hl := (xsh_len (xp a) x.1).trans (xp_len a)
  refine awp_seq ?_
  refine rln ?_
  refine G (q_lssn ?_)
  refine gend ?_
  refine awp_seq ?_
  refine cnd (fun hc1 => ?_) (fun hc1 => ?_); rotate_left
  · refine awp_exit ?_
    rw [show x.1 = k from (by have := x.2; omega)]
    have hl := hxl
    generalize byl (xsh (xp a) k) 32 = L at gB hB ⊢
    generalize xsh (xp a) k = W at hl gB ⊢
    refine awp_seq ?_
    refine rln ?_
    refine G (q_ldw ?_)
    refine G  (q_bls (fka rfl (et rfl) ((mapc_length ..).trans hl) (by decide) (fk0 ?_)))
    rw [spl4 (a := List.replicate 4 0) hl]
    refine G2 (fun _ k_ => q_callp (gB) k_) ?_
    refine G20 (fun _ k_ => q_stw k_) ?_
    refine gend ?_
    refine awp_ret ?_
    exact fpc (t := 23) (a := 4) (hn := by exact (mapc_length ..).trans hB)
  refine awp_skip ?_
  refine awp_seq ?_
  refine awp_block ?_
  refine awp_seq ?_
  refine rln ?_
  refine G (q_mv (s := sc (cn 0)) ?_)
  refine gend ?_
  refine awp_block ?_
  refine awp_loop (fun i : {i : Nat // i ≤ 4} => ⟨frm 42 [(4, sc (.ptr 0 0)), (5, sc (.ptr 1 0)), (14, sc (cn k)), (15, sc (cn x.1)), (17, sc (cn i.1))], [some (u8s (List.replicate 32 0)), some (u64s (xin (xsh (xp a) x.1) i.1))]⟩) (fun i => 4 - i.1) ⟨0, Nat.zero_le _⟩ (sle_sub ⟨rfl, rfl, rfl, rfl, rfl, trivial⟩ rfl) fun i => ?_   -- live: [5, 17]
  have hi := (xin_len (xsh (xp a) x.1) i.1).trans hl
  refine awp_seq ?_
  refine rln ?_
  refine G (q_lssn (y := 4) ?_)
  refine gend ?_
  refine awp_seq ?_
  refine cnd (fun hc2 => ?_) (fun hc2 => ?_); rotate_left
  · refine awp_exit ?_
    rw [show i.1 = 4 from (by have := i.2; omega)]
    refine rln ?_
    refine G (q_addn (y := 1) ?_)
    refine Mv ?_
    refine gend ?_
    exact ⟨⟨x.1 + 1, by omega⟩, by show k - (x.1 + 1) < k - x.1; omega, sle_sub ⟨rfl, rfl, rfl, rfl, trivial⟩ rfl⟩   -- endloop 1
  refine awp_skip ?_
  refine awp_seq ?_
  refine awp_block ?_
  refine awp_seq ?_
  refine rln ?_
  refine Mv ?_
  refine As ?_
  refine gend ?_
  refine awp_seq ?_
  refine rln ?_
  refine Mv ?_
  refine G (q_ixp1 ?_)
  refine G (q_ldp ?_)
  refine G (q_shr64_64 (n := 1) ?_)
  refine G (q_ixp1 ?_)
  refine G20 (fun _ k_ => q_stm k_) ?_
  refine gend ?_
  refine awp_seq ?_
  refine rln ?_
  refine Mv ?_
  refine G (q_lssn (y := 3) ?_)
  refine gend ?_
  refine cnd (fun hc3 => ?_) (fun hc3 => ?_)
  · refine rdln [10] [] [0, 0, 0, 0, 0, 0, 0, 0, 0, 0, 1] ?_
    refine Dp (fun _ => q_mv (s := .v (.c _)) ⟨rfl, rfl⟩) ?_
    refine Dp (fun _ => q_ixp1 ⟨rfl, rfl⟩) ?_
    refine DLp ?_
    refine Dp (fun _ => q_mv (s := .v (.c _)) ⟨rfl, rfl⟩) ?_
    refine Dp (fun _ => q_addn (y := 1) ⟨rfl, rfl⟩) ?_
    refine Dp (fun _ => q_ixp1 ⟨rfl, rfl⟩) ?_
    refine DLp ?_
    refine Dp (fun _ => q_shl64_64 (n := 63) ⟨rfl, rfl⟩) ?_
    refine Dp (fun _ => q_or64 ⟨rfl, rfl⟩) ?_
    refine Dp (fun _ => q_ixp1 ⟨rfl, rfl⟩) ?_
    refine De20 (fun _ k_ => q_stm k_) ?_
    refine dend ?_
    refine rln ?_
    refine G (q_addn (y := 1) ?_)
    refine Mv ?_
    refine gend ?_
    exact ⟨⟨i.1 + 1, by omega⟩, by show 4 - (i.1 + 1) < 4 - i.1; omega, sle_sub ⟨rfl, rfl, rfl, rfl, rfl, trivial⟩ (congrArg (fun z => [some (u8s (List.replicate 32 0)), some (u64s z)]) (by rw [xin]; first | exact (if_pos (by assumption)).symm | exact (if_neg (by assumption)).symm))⟩   -- endloop 2
  refine awp_skip ?_
  refine rln ?_
  refine G (q_addn (y := 1) ?_)
  refine Mv ?_
  refine gend ?_
  exact ⟨⟨i.1 + 1, by omega⟩, by show 4 - (i.1 + 1) < 4 - i.1; omega, sle_sub ⟨rfl, rfl, rfl, rfl, rfl, trivial⟩ (congrArg (fun z => [some (u8s (List.replicate 32 0)), some (u64s z)]) (by rw [xin]; first | exact (if_pos (by assumption)).symm | exact (if_neg (by assumption)).symm))⟩   -- endloop 2
theorem exp_inv : Good Try.prog 51 [.c (ci (-2)), .c (cn 0)] [] (sa (u8s (by32 (P - 2)))) [] := by
  have := exponent_ (-2) 0 (by decide)
  rwa [show byl (xsh (xp (-2)) 0) 32 = by32 (P - 2) by decide +kernel] at this
set_option maxHeartbeats 800000 in
/-- (field.Elem).Power -/
theorem power_e (x : F) (e : List UInt8) (he : e.length = 32) : Good Try.prog 25 [.a (u64s (el x)), .a (u8s e)] [] (sa (u64s (el (pw x (bv e))))) [] := by
  have h0 : bv e / 2 ^ 256 = 0 := Nat.div_eq_of_lt (bv_lt e)
  refine good_frm 29 Try.func25 rfl rfl rfl rfl rfl rfl ?_
  refine awp_seq ?_
  refine rln ?_
  refine G2 (fun _ k_ => q_boxa k_) ?_
  refine G2 (fun _ k_ => q_boxa k_) ?_
  refine G2 (fun _ k_ => q_al k_) ?_
  refine gend ?_
  refine awp_seq ?_
  refine rln ?_
  refine G2 (fun _ k_ => q_callp (small_1) k_ (ha := (cac rfl cm_int ca0))) ?_
  refine G2 (fun _ k_ => q_al k_) ?_
  refine G20 (fun _ k_ => q_stw k_) ?_
  refine gend ?_
  refine awp_seq ?_
  refine awp_seq ?_
  refine rln ?_
  refine G (q_mv (s := sc (cn 0)) ?_)
  refine gend ?_
  refine awp_block ?_
  refine awp_loop (fun i : {i : Nat // i ≤ 256} => ⟨frm 29 [(2, sc (.ptr 0 0)), (3, sc (.ptr 1 0)), (4, sc (.ptr 2 0)), (5, sc (.ptr 3 0)), (8, sc (cn i.1))], [some (u64s (el x)), some (u8s e), some (u64s (List.replicate 4 0)), some (u64s (el (pw x (bv e / 2 ^ (256 - i.1)))))]⟩) (fun i => 256 - i.1) ⟨0, Nat.zero_le _⟩ (sle_sub ⟨rfl, rfl, rfl, rfl, rfl, trivial⟩ (by rw [Nat.sub_zero, h0]; rfl)) fun i => ?_   -- live: [2, 3, 5, 8]
  refine awp_seq ?_
  refine rln ?_
  refine G (q_lssn (y := 256) ?_)
  refine gend ?_
  refine awp_seq ?_
  refine cnd (fun hc1 => ?_) (fun hc1 => ?_); rotate_left
  · refine awp_exit ?_
    rw [show i.1 = 256 from (by have := i.2; omega)]
    rw [Nat.sub_self, Nat.pow_zero, Nat.div_one]
    refine awp_seq ?_
    refine rln ?_
    refine G (q_ldw ?_)
    refine G20 (fun _ k_ => q_stw k_) ?_
    refine gend ?_
    refine awp_ret ?_
    exact fpc (t := 27) (a := 4)
  refine awp_skip ?_
  refine awp_seq ?_
  refine awp_block ?_
  refine awp_seq ?_
  refine rln ?_
  refine Mv ?_
  refine As ?_
  refine gend ?_
  refine awp_seq ?_
  refine rln ?_
  refine G (q_ldw ?_)
  refine G2 (fun _ k_ => q_callp (square_e _) k_) ?_
  refine G20 (fun _ k_ => q_stw k_) ?_
  refine gend ?_
  refine awp_seq ?_
  refine rln ?_
  refine Mv ?_
  refine G (q_quon (y := 8) ?_)
  refine G (q_subn (x := 31) ?_)
  refine G (q_ixp1 ?_)
  refine G (q_ldp ?_)
  refine Mv ?_
  refine G (q_remn (y := 8) ?_)
  refine G (q_subn (x := 7) ?_)
  refine G (q_shr8_0 ?_)
  refine G (q_and8 (y := 1) ?_)
  refine G (q_eql8 (y := 1) ?_)
  refine gend ?_
  refine cnd (fun hc2 => ?_) (fun hc2 => ?_)
  · refine rln ?_
    refine G (q_ldw ?_)
    refine G (q_ldw ?_)
    refine G2 (fun _ k_ => q_callp (mul_e _ x) k_) ?_
    refine G20 (fun _ k_ => q_stw k_) ?_
    refine gend ?_
    refine rln ?_
    refine G (q_addn (y := 1) ?_)
    refine Mv ?_
    refine gend ?_
    exact ⟨⟨i.1 + 1, by omega⟩, by show 256 - (i.1 + 1) < 256 - i.1; omega, sle_sub ⟨rfl, rfl, rfl, rfl, rfl, trivial⟩ (congrArg (fun z => [some (u64s (el x)), some (u8s e), some (u64s (List.replicate 4 0)), some (u64s (el z))]) (by first | exact pw_step1 x (by omega) (by assumption) | exact pw_step0 x (by omega) (by assumption)))⟩   -- endloop 1
  refine awp_skip ?_
  refine rln ?_
  refine G (q_addn (y := 1) ?_)
  refine Mv ?_
  refine gend ?_
  exact ⟨⟨i.1 + 1, by omega⟩, by show 256 - (i.1 + 1) < 256 - i.1; omega, sle_sub ⟨rfl, rfl, rfl, rfl, rfl, trivial⟩ (congrArg (fun z => [some (u64s (el x)), some (u8s e), some (u64s (List.replicate 4 0)), some (u64s (el z))]) (by first | exact pw_step1 x (by omega) (by assumption) | exact pw_step0 x (by omega) (by assumption)))⟩   -- endloop 1
/-- (field.Elem).Inv -/
theorem inv_e (x : F) : Good Try.prog 23 [.a (u64s (el x))] [] (sa (u64s (el (inv x)))) [] := by
  have hb : bv (by32 (P - 2)) = P - 2 := bv_by32 _ (by decide +kernel)
  have gE := exp_inv
  have gP := power_e x (by32 (P - 2)) (by32_len _)
  rw [hb] at gP
  have hl := by32_len (P - 2)
  rw [show pw x (P - 2) = inv x from rfl] at gP
  generalize by32 (P - 2) = E at gP gE hl
  refine good_frm 6 Try.func23 rfl rfl rfl rfl rfl rfl ?_
  refine awp_seq ?_
  refine rln ?_
  refine G2 (fun _ k_ => q_boxa k_) ?_
  refine G2 (fun _ k_ => q_al k_) ?_
  refine gend ?_
  refine awp_seq ?_
  refine rdln [1, 2, 3] [0, 0, 1, 2] [1, 1, 2, 3] ?_
  refine DLw ?_
  refine De2 (fun _ k_ => q_callp (gE) k_ (ha := (cac rfl cm_int (cac rfl cm_int ca0)))) ?_
  refine De2 (fun _ k_ => q_callp (gP) k_) ?_
  refine De20 (fun _ k_ => q_stw k_) ?_
  refine dend ?_
  refine awp_ret ?_
  exact fpc (t := 27) (a := 2)
end Go.Proofs.Ytjibmonfmhdbbaa.Fd

/- The abstract machine: a block is told under another number, and no longer under its old one. -/
namespace Go.Abs
open Go

/-- What a slot holds is told as before, or as a slice or a pointer into the new number. -/
def SubM (p q : Nat) (al : List (Nat × S)) : List (Nat × S) → Prop
  | [] => True
  | (t, s) :: r => (lkp al t = s ∨ (∃ o n sz, lkp al t = sc (.slc p o n sz) ∧ s = sc (.slc q o n sz)) ∨ (∃ o, lkp al t = sc (.ptr p o) ∧ s = sc (.ptr q o))) ∧ SubM p q al r

theorem subm_get {p q : Nat} {al : List (Nat × S)} : ∀ {al' : List (Nat × S)}, SubM p q al al' → ∀ t, lkp al' t = ud ∨ lkp al' t = lkp al t ∨ (∃ o n sz, lkp al t = sc (.slc p o n sz) ∧ lkp al' t = sc (.slc q o n sz)) ∨ (∃ o, lkp al t = sc (.ptr p o) ∧ lkp al' t = sc (.ptr q o))
  | [], _, _ => .inl rfl
  | (i, s) :: r, h, t => by
    simp only [SubM] at h
    simp only [lkp]
    cases hb : Nat.beq i t with
    | true =>
      have := Nat.eq_of_beq_eq_true hb
      subst this
      rw [cond_true]
      rcases h.1 with h | h | h
      · exact .inr (.inl h.symm)
      · exact .inr (.inr (.inl h))
      · exact .inr (.inr (.inr h))
    | false => rw [cond_false]; exact subm_get h.2 t

theorem sle_move {n N p : Nat} {al al' : List (Nat × S)} {H : Heap} {cs : List Cell} (hp : H[p]? = some (some cs)) (hn : n ≤ H.length) (hf : SubM p H.length al al') : SLe n ⟨frm N al, H⟩ ⟨frm N al', H.set p none ++ [some cs]⟩ := by
  intro E ρ a w hs
  have hpl : p < H.length := (List.getElem?_eq_some_iff.1 hp).1
  let ρ' : Nat → Place := fun q => if q = H.length then ρ p else ρ q
  have hρ : ∀ q, q < H.length → ρ' q = ρ q := fun q hq => if_neg (by omega)
  have hρl : ρ' H.length = ρ p := if_pos rfl
  have hlen : (H.set p none ++ [some cs]).length = H.length + 1 := by simp
  have hle : (E.rl H.length ρ).Le (E.rl (H.set p none ++ [some cs]).length ρ') := ⟨fun b hb => ⟨hb, rfl⟩, fun q hq => ⟨by
    show q < (H.set p none ++ [some cs]).length
    have hq' : q < H.length := hq
    rw [hlen]; omega, hρ q hq⟩⟩
  have hget : ∀ q ds, (H.set p none ++ [some cs])[q]? = some (some ds) → (q < H.length ∧ q ≠ p ∧ H[q]? = some (some ds)) ∨ (q = H.length ∧ ds = cs) := by
    intro q ds hq
    by_cases hlt : q < H.length
    · rw [List.getElem?_append_left (by simpa using hlt), List.getElem?_set] at hq
      by_cases e : p = q
      · rw [if_pos e] at hq; split at hq <;> simp at hq
      · rw [if_neg e] at hq; exact .inl ⟨hlt, fun h => e h.symm, hq⟩
    · have h1 := (List.getElem?_eq_some_iff.1 hq).1
      rw [hlen] at h1
      have h2 : q = H.length := by omega
      rw [List.getElem?_append_right (by simp; omega)] at hq
      simp [h2] at hq
      exact .inr ⟨h2, hq.symm⟩
  refine ⟨ρ', fun q hq => hρ q (by omega), ⟨hs.fr.1, by rw [frm_length]; have := hs.fr.2.1; rwa [frm_length] at this, fun t s ht => ?_⟩, ?_⟩
  · have hlt : t < N := by
      have := (List.getElem?_eq_some_iff.1 ht).1
      rwa [frm_length] at this
    rw [frm_get hlt] at ht
    obtain rfl := Option.some.inj ht
    obtain ⟨v, k1, k2⟩ := hs.fr.2.2 t _ (frm_get hlt)
    refine ⟨v, k1, ?_⟩
    have hq1 : H.length < (H.set p none ++ [some cs]).length := by rw [hlen]; omega
    rcases subm_get hf t with h | h | ⟨o, m, sz, h, h'⟩ | ⟨o, h, h'⟩
    · rw [h]; simp [ud, SRel, VRel, CRel]
    · rw [h]; exact SRel.mono hle _ _ k2
    · rw [h']
      rw [h] at k2
      simp only [SRel, VRel, CRel] at k2 ⊢
      refine ⟨hq1, ?_⟩
      show ∃ a c, v = .slice a m c ∧ m ≤ c ∧ ((a = some ⟨(ρ' H.length).blk, (ρ' H.length).dl + o, none⟩ ∧ (ρ' H.length).dl + o + c * sz ≤ (ρ' H.length).room) ∨ c = 0)
      rw [hρl]; exact k2.2
    · rw [h']
      rw [h] at k2
      simp only [SRel, VRel, CRel] at k2 ⊢
      refine ⟨hq1, ?_⟩
      show v = .pointer (some ⟨(ρ' H.length).blk, (ρ' H.length).dl + o, none⟩)
      rw [hρl]; exact k2.2
  · have hh := hs.heap
    refine ⟨hh.os, hh.tape, hh.output, hh.size, hh.frame, fun q ds hq hr => ?_, fun q r ds es hq hr' hrq hrr he => ?_, fun q ds hq hr => ?_, fun q ds hq hr => ?_⟩
    · rcases hget q ds hq with ⟨h1, h2, h3⟩ | ⟨rfl, rfl⟩
      · rw [hρ q h1] at hr ⊢; exact hh.fresh q ds h3 hr
      · rw [hρl] at hr ⊢; exact hh.fresh p ds hp hr
    · rcases hget q ds hq with ⟨h1, h2, h3⟩ | ⟨rfl, rfl⟩
      · rw [hρ q h1] at hrq he
        rcases hget r es hr' with ⟨k1, k2, k3⟩ | ⟨rfl, rfl⟩
        · rw [hρ r k1] at hrr he; exact hh.inj q r ds es h3 k3 hrq hrr he
        · rw [hρl] at hrr he
          exact absurd (hh.inj q p ds es h3 hp hrq hrr he) h2
      · rw [hρl] at hrq he
        rcases hget r es hr' with ⟨k1, k2, k3⟩ | ⟨e, _⟩
        · rw [hρ r k1] at hrr he
          exact absurd (hh.inj p r ds es hp k3 hrq hrr he).symm k2
        · exact e.symm
    · rcases hget q ds hq with ⟨h1, h2, h3⟩ | ⟨rfl, rfl⟩
      · rw [hρ q h1] at hr ⊢; exact (hh.blk q ds h3 hr).mono hle rfl
      · rw [hρl] at hr ⊢; exact (hh.blk p ds hp hr).mono hle rfl
    · rcases hget q ds hq with ⟨h1, h2, h3⟩ | ⟨rfl, rfl⟩
      · rw [hρ q h1] at hr; exact hh.emp q ds h3 hr
      · rw [hρl] at hr; exact hh.emp p ds hp hr
theorem sle_mv {n N : Nat} {al al' : List (Nat × S)} {H H' : Heap} {cs : List Cell} (p : Nat) (hp : H[p]? = some (some cs)) (hn : n ≤ H.length) (hf : SubM p H.length al al') (hH : H' = H.set p none ++ [some cs]) : SLe n ⟨frm N al, H⟩ ⟨frm N al', H'⟩ := by
  rw [hH]; exact sle_move hp hn hf
theorem pi1 {r : List Nat} (p : Nat) (h : p < 1) : (0 :: r)[p]? = some p := by
  have : p = 0 := by omega
  subst this; rfl
theorem fxc {P : Program} {st : St} {fn : Func} {v : S} {H' : Heap} {n : Nat} {a t p : Nat} {ti : TI} {ds : List Cell} {y : V} [it : TiOf P t ti] (π : List Nat) (hl : fn.results.toList = [.cell a t] := by exact rfl) (hx : ev st.fr (.tmp a) = sc (.ptr p 0) := by first | exact et rfl | exact rfl) (hp : st.H[p]? = some (some ds) := by exact rfl) (hd : ds.length = ti.size := by first | exact rfl | (simp; done) | omega) (hk : ti.kind.agg = true := by exact rfl) (hz : Nat.blt 0 ti.size = true := by exact rfl) (hm : vm (cm ⟨fun p => idx p π, fun _ => none, true, false⟩ 8) (.a ds) = y := by first | exact vs_m | exact rfl) (hH : π.map (pick st.H (cm ⟨fun p => idx p π, fun _ => none, true, false⟩ 8)) = H' := by first | exact rfl | (repeat' (first | exact pl0 | refine pl1 rfl (by first | exact sees_m | exact rfl) ?_))) (hv : v = .v y := by exact rfl) (hnd : π.Nodup := by decide) (hn : ∀ p, p < n → π[p]? = some p := by first | exact fun p h => absurd h (Nat.not_lt_zero _) | exact pi1 | exact pi01 | exact pi012) : fin P fn n v H' st :=
  fin_g (ys := [y]) π hn hnd hv hl (rva hx hp hd hm rv0 hk hz) hH.symm
theorem fpct {P : Program} {st : St} {fn : Func} {v : S} {a t p t1 : Nat} {ti : TI} {ds : List Cell} {y x1 y1 : V} [it : TiOf P t ti] (hl : fn.results.toList = [.cell a t, .tmp t1] := by exact rfl) (hx : ev st.fr (.tmp a) = sc (.ptr p 0) := by first | exact et rfl | exact rfl) (hp : st.H[p]? = some (some ds) := by exact rfl) (hd : ds.length = ti.size := by first | exact rfl | (simp; done) | omega) (hk : ti.kind.agg = true := by exact rfl) (hz : Nat.blt 0 ti.size = true := by exact rfl) (hm : vm (cm ⟨fun p => idx p [], fun _ => none, true, false⟩ 8) (.a ds) = y := by first | exact vs_m | exact rfl)
    (hx1 : ev st.fr (.tmp t1) = .v x1 := by first | exact et rfl | exact rfl) (hm1 : vm (cm ⟨fun p => idx p [], fun _ => none, true, false⟩ 8) x1 = y1 := by first | exact vs_int | exact vs_bool | exact vs_m | exact vs_str | exact vs_nilp | exact rfl) (hv : v = .t [y, y1] := by exact rfl) : fin P fn 0 v [] st :=
  fin_g (ys := [y, y1]) [] (by simp) List.nodup_nil hv hl (rva hx hp hd hm (rvt hx1 hm1 rv0) hk hz) rfl
end Go.Abs

/- What functions of the program do, walked over the abstract machine. -/
namespace Go.Proofs.Ytjibmonfmhdbbaa.Rn
open Go Go.Abs Go.Proofs

open Go.Nt Fd

/-- The number of the first digits. -/
def Dv (d : List UInt64) : Nat → Nat
  | 0 => 0
  | i + 1 => Dv d i + 65536 ^ i * (d.getD i 0).toNat
theorem getD_set (d : List UInt64) (i j : Nat) (x : UInt64) (h : i < d.length) : (d.set i x).getD j 0 = if i = j then x else d.getD j 0 := by
  simp only [List.getD_eq_getElem?_getD, List.getElem?_set]
  by_cases e : i = j
  · subst e; simp [h]
  · simp [e]
theorem Dv_congr {d e : List UInt64} : ∀ n, (∀ i, i < n → d.getD i 0 = e.getD i 0) → Dv d n = Dv e n
  | 0, _ => rfl
  | n + 1, h => by rw [Dv, Dv, Dv_congr n fun i hi => h i (by omega), h n (by omega)]
theorem Dv_set (d : List UInt64) (i : Nat) (x : UInt64) (h : i < d.length) : ∀ n, i < n → Dv (d.set i x) n + 65536 ^ i * (d.getD i 0).toNat = Dv d n + 65536 ^ i * x.toNat
  | 0, hn => by omega
  | n + 1, hn => by
    rw [Dv, Dv]
    by_cases e : i = n
    · subst e
      rw [getD_set d i i x h, if_pos rfl, Dv_congr (e := d) i fun j hj => by rw [getD_set d i j x h, if_neg (by omega)]]
      omega
    · have := Dv_set d i x h n (by omega)
      rw [getD_set d i n x h, if_neg e]
      omega
theorem Dv_lt (d : List UInt64) : ∀ n, (∀ i, i < n → (d.getD i 0).toNat < 65536) → Dv d n < 65536 ^ n
  | 0, _ => by simp [Dv]
  | n + 1, h => by
    have h1 := Dv_lt d n fun i hi => h i (by omega)
    have h2 := h n (by omega)
    have h3 : 65536 ^ n * (d.getD n 0).toNat ≤ 65536 ^ n * 65535 := Nat.mul_le_mul_left _ (by omega)
    rw [Dv, Nat.pow_succ]; omega
theorem Dv_zero (m : Nat) : ∀ n, Dv (List.replicate m 0) n = 0
  | 0 => rfl
  | n + 1 => by
    rw [Dv, Dv_zero m n]
    have : (List.replicate m (0 : UInt64)).getD n 0 = 0 := by
      rw [List.getD_eq_getElem?_getD, List.getElem?_replicate]; split <;> rfl
    rw [this]; rfl
theorem Dv_add (d : List UInt64) (a : Nat) : ∀ b, Dv d (a + b) = Dv d a + 65536 ^ a * Dv (d.drop a) b
  | 0 => by simp [Dv]
  | b + 1 => by
    have e : (d.drop a).getD b 0 = d.getD (a + b) 0 := by simp [List.getD_eq_getElem?_getD, List.getElem?_drop]
    rw [← Nat.add_assoc, Dv, Dv_add d a b, Dv, Nat.pow_add, Nat.mul_add, Nat.mul_assoc, e]
    omega
theorem rep_get (m n : Nat) : (List.replicate m (0 : UInt64)).getD n 0 = 0 := by
  rw [List.getD_eq_getElem?_getD, List.getElem?_replicate]; split <;> rfl
theorem getD_out (d : List UInt64) (i : Nat) (h : d.length ≤ i) : d.getD i 0 = 0 := by
  rw [List.getD_eq_getElem?_getD, List.getElem?_eq_none h]; rfl
/-- Digits that are no great ones. -/
def Bd (d : List UInt64) (b : Nat) : Prop := ∀ i, (d.getD i 0).toNat ≤ b
theorem Bd.mono {d : List UInt64} {a b : Nat} (h : Bd d a) (hab : a ≤ b) : Bd d b := fun i => Nat.le_trans (h i) hab
theorem Bd.lt {d : List UInt64} (h : Bd d 65535) (n : Nat) : Dv d n < 65536 ^ n := Dv_lt d n fun i _ => by have := h i; omega
theorem Dv_digit (d : List UInt64) (h : Bd d 65535) (n i : Nat) (hi : i < n) : Dv d n / 65536 ^ i % 65536 = (d.getD i 0).toNat := by
  obtain ⟨b, rfl⟩ : ∃ b, n = i + (1 + b) := ⟨n - i - 1, by omega⟩
  have h1 := h.lt i
  have h2 := h i
  have e : (d.drop i).getD 0 0 = d.getD i 0 := by simp [List.getD_eq_getElem?_getD, List.getElem?_drop]
  rw [Dv_add, Dv_add (d.drop i) 1 b, Dv, Dv, e, Nat.pow_zero, Nat.one_mul, Nat.zero_add, Nat.pow_one, Nat.add_comm (Dv d i), Nat.mul_add_div (Nat.pow_pos (by decide)), Nat.div_eq_of_lt h1]
  omega
theorem Dv_inj {d e : List UInt64} {n : Nat} (hd : d.length = n) (he : e.length = n) (h1 : Bd d 65535) (h2 : Bd e 65535) (h : Dv d n = Dv e n) : d = e := by
  refine List.ext_getElem (by omega) fun i g1 g2 => ?_
  have k1 := Dv_digit d h1 n i (by omega)
  have k2 := Dv_digit e h2 n i (by omega)
  rw [h, k2] at k1
  have := UInt64.toNat_inj.1 k1
  simpa [List.getD_eq_getElem?_getD, g1, g2] using this.symm
theorem mod65 (x : UInt64) : (x % 65536).toNat = x.toNat % 65536 := by rw [UInt64.toNat_mod]; rfl
theorem div65 (x : UInt64) : (x / 65536).toNat = x.toNat / 65536 := by rw [UInt64.toNat_div]; rfl
/-- Digits of a number. -/
def dgk : Nat → Nat → List UInt64
  | 0, _ => []
  | k + 1, n => UInt64.ofNat (n % 65536) :: dgk k (n / 65536)
theorem dgk_len : ∀ k n, (dgk k n).length = k
  | 0, _ => rfl
  | k + 1, n => by rw [dgk, List.length_cons, dgk_len]
theorem dgk_get : ∀ k n i, i < k → (dgk k n).getD i 0 = UInt64.ofNat (n / 65536 ^ i % 65536)
  | 0, _, i, h => by omega
  | k + 1, n, 0, _ => by rw [dgk, Nat.pow_zero, Nat.div_one]; rfl
  | k + 1, n, i + 1, h => by
    rw [dgk, Nat.pow_succ', ← Nat.div_div_eq_div_mul]
    exact dgk_get k (n / 65536) i (by omega)
theorem dgk_bd (k n : Nat) : Bd (dgk k n) 65535 := fun i => by
  by_cases h : i < k
  · rw [dgk_get k n i h, UInt64.toNat_ofNat']
    have := Nat.mod_lt (n / 65536 ^ i) (y := 65536) (by decide)
    omega
  · rw [getD_out _ _ (by rw [dgk_len]; omega)]; decide
theorem dgk_v (k n : Nat) : ∀ i, i ≤ k → Dv (dgk k n) i = n % 65536 ^ i
  | 0, _ => by simp [Dv, Nat.mod_one]
  | i + 1, h => by
    have := Nat.mod_lt (n / 65536 ^ i) (y := 65536) (by decide)
    rw [Dv, dgk_v k n i (by omega), dgk_get k n i (by omega), UInt64.toNat_ofNat', Nat.mod_eq_of_lt (b := 2 ^ 64) (by omega), Nat.mod_pow_succ]
abbrev dg (n : Nat) : List UInt64 := dgk 16 n
theorem dg_len (n : Nat) : (dg n).length = 16 := dgk_len 16 n
theorem dg_v (n : Nat) (h : n < 115792089237316195423570985008687907853269984665640564039457584007913129639936) : Dv (dg n) 16 = n := by rw [dgk_v 16 n 16 (by decide)]; exact Nat.mod_eq_of_lt h
theorem dg_of {l : List UInt64} {n : Nat} (hl : l.length = 16) (hb : Bd l 65535) (h : Dv l 16 = n) : l = dg n := by
  have hn : n < 115792089237316195423570985008687907853269984665640564039457584007913129639936 := by rw [← h]; exact hb.lt 16
  exact Dv_inj hl (dg_len n) hb (dgk_bd 16 n) (by rw [dg_v n hn, h])
theorem q16 : (65536 : Nat) ^ 16 = 115792089237316195423570985008687907853269984665640564039457584007913129639936 := by decide
/-- Carries. -/
def nrm (d : List UInt64) : Nat → List UInt64 × UInt64
  | 0 => (d, 0)
  | i + 1 => ((nrm d i).1.set i (((nrm d i).1.getD i 0 + (nrm d i).2) % 65536), ((nrm d i).1.getD i 0 + (nrm d i).2) / 65536)
theorem nrm_len (d : List UInt64) : ∀ i, (nrm d i).1.length = d.length
  | 0 => rfl
  | i + 1 => by rw [nrm, List.length_set, nrm_len]
theorem nrm_spec (d : List UInt64) (hb : Bd d 9223372036854775808) : ∀ i, i ≤ d.length → (∀ j, i ≤ j → (nrm d i).1.getD j 0 = d.getD j 0) ∧ (∀ j, j < i → ((nrm d i).1.getD j 0).toNat < 65536) ∧
    (nrm d i).2.toNat ≤ 281474976710656 ∧ Dv d i = Dv (nrm d i).1 i + 65536 ^ i * (nrm d i).2.toNat
  | 0, _ => ⟨fun _ _ => rfl, fun j h => by omega, by show (0 : UInt64).toNat ≤ _; decide, by simp [Dv, nrm]⟩
  | i + 1, hi => by
    obtain ⟨h1, h2, h3, h4⟩ := nrm_spec d hb i (by omega)
    have hl := nrm_len d i
    have e := h1 i (Nat.le_refl _)
    have hd := hb i
    have hx : ((nrm d i).1.getD i 0 + (nrm d i).2).toNat = (d.getD i 0).toNat + (nrm d i).2.toNat := by
      rw [e, UInt64.toNat_add]; omega
    rw [nrm]
    refine ⟨fun j hj => ?_, fun j hj => ?_, ?_, ?_⟩
    · rw [getD_set _ _ _ _ (by omega), if_neg (by omega)]; exact h1 j (by omega)
    · rw [getD_set _ _ _ _ (by omega)]
      split
      · rw [mod65]; omega
      · exact h2 j (by omega)
    · rw [div65, hx]; omega
    · rw [Dv, h4, Dv, getD_set _ _ _ _ (by omega), if_pos rfl, mod65, div65, hx, Nat.pow_succ, Nat.mul_assoc,
        Dv_congr (d := (nrm d i).1.set i (((nrm d i).1.getD i 0 + (nrm d i).2) % 65536)) (e := (nrm d i).1) i fun j hj => by rw [getD_set _ _ _ _ (by omega), if_neg (by omega)]]
      generalize (nrm d i).2.toNat = c
      generalize (d.getD i 0).toNat = u
      have : 65536 ^ i * ((u + c) % 65536) + 65536 ^ i * (65536 * ((u + c) / 65536)) = 65536 ^ i * (u + c) := by rw [← Nat.mul_add, Nat.mod_add_div]
      rw [Nat.mul_add] at this
      omega
def carL (d : List UInt64) : List UInt64 := if (nrm d d.length).2 = 0 then (nrm d d.length).1 else (nrm d d.length).1 ++ [(nrm d d.length).2]
theorem getD_app (l : List UInt64) (x : UInt64) (j : Nat) : (l ++ [x]).getD j 0 = if j < l.length then l.getD j 0 else if j = l.length then x else 0 := by
  simp only [List.getD_eq_getElem?_getD, List.getElem?_append]
  split
  · rfl
  · split
    · rename_i e; subst e; simp
    · have : j - l.length ≠ 0 := by omega
      rw [List.getElem?_eq_none (by simp; omega)]; rfl
theorem car_c {d : List UInt64} {n : Nat} (hl : d.length = n) (hb : Bd d 9223372036854775808) (hv : Dv d n < 65536 ^ (n + 1)) : (nrm d n).2.toNat < 65536 := by
  obtain ⟨_, _, _, h4⟩ := nrm_spec d hb n (by omega)
  rw [Nat.pow_succ] at hv
  have : 65536 ^ n * (nrm d n).2.toNat < 65536 ^ n * 65536 := by omega
  exact Nat.lt_of_mul_lt_mul_left this
theorem carL_spec {d : List UInt64} {n : Nat} (hl : d.length = n) (hb : Bd d 9223372036854775808) (hv : Dv d n < 65536 ^ (n + 1)) :
    Bd (carL d) 65535 ∧ Dv (carL d) (carL d).length = Dv d n ∧ ((carL d).length = n ∨ (carL d).length = n + 1) ∧ (Dv d n < 65536 ^ n → (carL d).length = n) := by
  have hc := car_c hl hb hv
  obtain ⟨h1, h2, h3, h4⟩ := nrm_spec d hb n (by omega)
  have hN := (nrm_len d n).trans hl
  have hB : Bd (nrm d n).1 65535 := fun i => by
    by_cases h : i < n
    · have := h2 i h; omega
    · rw [getD_out _ _ (by omega)]; decide
  unfold carL
  rw [hl]
  split
  · rename_i h0
    rw [h0, show UInt64.toNat 0 = 0 from rfl, Nat.mul_zero, Nat.add_zero] at h4
    exact ⟨hB, by rw [hN]; exact h4.symm, .inl hN, fun _ => hN⟩
  · rename_i h0
    have hc0 : (nrm d n).2.toNat ≠ 0 := fun e => h0 (UInt64.toNat_inj.1 e)
    have hL : ((nrm d n).1 ++ [(nrm d n).2]).length = n + 1 := by rw [List.length_append, hN]; rfl
    refine ⟨fun i => ?_, ?_, .inr hL, fun h => ?_⟩
    · rw [getD_app]
      split
      · exact hB i
      · split
        · omega
        · decide
    · rw [hL, Dv, getD_app, if_neg (by omega), if_pos hN.symm, h4, Dv_congr (e := (nrm d n).1) n fun j hj => by rw [getD_app, if_pos (by omega)]]
    · exfalso
      have : 65536 ^ n * 1 ≤ 65536 ^ n * (nrm d n).2.toNat := Nat.mul_le_mul_left _ (by omega)
      omega
theorem carL_id {d : List UInt64} (hb : Bd d 65535) : carL d = d := by
  have hv := hb.lt d.length
  obtain ⟨h1, h2, h3, h4⟩ := carL_spec rfl (hb.mono (by decide)) (Nat.lt_of_lt_of_le hv (Nat.pow_le_pow_right (by decide) (by omega)))
  have hl := h4 hv
  rw [hl] at h2
  exact Dv_inj hl rfl h1 hb h2
/-- What stands from 2^256 on comes down. -/
def fl38 (d : List UInt64) : Nat → List UInt64
  | 0 => d.take 16
  | j + 1 => (fl38 d j).set (16 + j - 16) ((fl38 d j).getD (16 + j - 16) 0 + 38 * d.getD (16 + j) 0)
theorem fl38_len (d : List UInt64) (h : 16 ≤ d.length) : ∀ j, (fl38 d j).length = 16
  | 0 => by rw [fl38, List.length_take]; omega
  | j + 1 => by rw [fl38, List.length_set, fl38_len d h]
theorem fl38_spec (d : List UInt64) (h : 16 ≤ d.length) (hb : Bd d 65535) : ∀ j, j ≤ 16 → (∀ k, j ≤ k → (fl38 d j).getD k 0 = (d.take 16).getD k 0) ∧ Bd (fl38 d j) 2555865 ∧ Dv (fl38 d j) 16 = Dv d 16 + 38 * Dv (d.drop 16) j
  | 0, _ => by
    have hg : ∀ i, i < 16 → (d.take 16).getD i 0 = d.getD i 0 := fun i hi => by
      simp only [List.getD_eq_getElem?_getD, List.getElem?_take, hi, if_true]
    refine ⟨fun k _ => rfl, fun i => ?_, by rw [fl38, Dv_congr 16 hg]; simp [Dv]⟩
    rw [fl38]
    by_cases hi : i < 16
    · rw [hg i hi]; have := hb i; omega
    · rw [getD_out _ _ (by rw [List.length_take]; omega)]; decide
  | j + 1, hj => by
    obtain ⟨h1, h2, h3⟩ := fl38_spec d h hb j (by omega)
    have hl := fl38_len d h j
    have e := h1 j (Nat.le_refl _)
    have eg : (d.take 16).getD j 0 = d.getD j 0 := by
      simp only [List.getD_eq_getElem?_getD, List.getElem?_take, show j < 16 by omega, if_true]
    have b1 := hb j
    have b2 := hb (16 + j)
    have e2 : (d.drop 16).getD j 0 = d.getD (16 + j) 0 := by simp [List.getD_eq_getElem?_getD, List.getElem?_drop]
    have hx : ((fl38 d j).getD j 0 + 38 * d.getD (16 + j) 0).toNat = ((fl38 d j).getD j 0).toNat + 38 * (d.getD (16 + j) 0).toNat := by
      have hu := h2 j
      rw [UInt64.toNat_add, UInt64.toNat_mul, show UInt64.toNat 38 = 38 from rfl]; omega
    rw [fl38, show 16 + j - 16 = j by omega]
    refine ⟨fun k hk => ?_, fun k => ?_, ?_⟩
    · rw [getD_set _ _ _ _ (by omega), if_neg (by omega)]; exact h1 k (by omega)
    · rw [getD_set _ _ _ _ (by omega)]
      split
      · rw [hx, e, eg]; omega
      · exact h2 k
    · have s := Dv_set (fl38 d j) j ((fl38 d j).getD j 0 + 38 * d.getD (16 + j) 0) (by omega) 16 (by omega)
      have hD : Dv (d.drop 16) (j + 1) = Dv (d.drop 16) j + 65536 ^ j * ((d.drop 16).getD j 0).toNat := rfl
      generalize (fl38 d j).set j ((fl38 d j).getD j 0 + 38 * d.getD (16 + j) 0) = N at s ⊢
      rw [hx, h3, Nat.mul_add] at s
      rw [hD, e2, Nat.mul_add, Nat.mul_left_comm 38]
      omega
/-- One round: a number of 17 to 32 digits. -/
def rnd (d : List UInt64) : List UInt64 := carL (fl38 d (d.length - 16))
abbrev Mi (d : List UInt64) : Prop := 16 ≤ d.length ∧ d.length ≤ 32 ∧ Bd d 65535
abbrev nv (d : List UInt64) : Nat := Dv d d.length
def mea (d : List UInt64) : Nat := 2 * nv d + if 16 < d.length then 1 else 0
theorem fl38_ok {d : List UInt64} (h : Mi d) (hL : 16 < d.length) : (fl38 d (d.length - 16)).length = 16 ∧ Bd (fl38 d (d.length - 16)) 2555865 ∧ Dv (fl38 d (d.length - 16)) 16 < 65536 ^ 17 ∧
    ∃ hi, nv d = Dv d 16 + 115792089237316195423570985008687907853269984665640564039457584007913129639936 * hi ∧ Dv (fl38 d (d.length - 16)) 16 = Dv d 16 + 38 * hi := by
  obtain ⟨h1, h2, h3⟩ := h
  obtain ⟨_, f2, f3⟩ := fl38_spec d h1 h3 (d.length - 16) (by omega)
  have e := Dv_add d 16 (d.length - 16)
  rw [show 16 + (d.length - 16) = d.length by omega, q16] at e
  have hlo := h3.lt 16
  have hhi : Dv (d.drop 16) (d.length - 16) < 65536 ^ (d.length - 16) := Dv_lt _ _ fun i _ => by
    rw [show (d.drop 16).getD i 0 = d.getD (16 + i) 0 by simp [List.getD_eq_getElem?_getD, List.getElem?_drop]]
    have := h3 (16 + i); omega
  have hp : (65536 : Nat) ^ (d.length - 16) ≤ 65536 ^ 16 := Nat.pow_le_pow_right (by decide) (by omega)
  rw [q16] at hlo hp
  refine ⟨fl38_len d h1 _, f2, ?_, _, e, f3⟩
  rw [f3, show (65536 : Nat) ^ 17 = 65536 * 115792089237316195423570985008687907853269984665640564039457584007913129639936 by decide]
  omega
theorem rnd_spec {d : List UInt64} (h : Mi d) (hL : 16 < d.length) : Mi (rnd d) ∧ nv (rnd d) % P = nv d % P ∧ mea (rnd d) < mea d := by
  obtain ⟨f1, f2, f3, hi, f4, f5⟩ := fl38_ok h hL
  obtain ⟨c1, c2, c3, c4⟩ := carL_spec f1 (f2.mono (by decide)) f3
  have hlo := h.2.2.lt 16
  rw [q16] at hlo c4
  refine ⟨⟨?_, ?_, c1⟩, ?_, ?_⟩
  · unfold rnd; omega
  · unfold rnd; omega
  · show Dv (rnd d) (rnd d).length % P = nv d % P
    unfold rnd
    rw [c2, f5, f4, show Dv d 16 + 115792089237316195423570985008687907853269984665640564039457584007913129639936 * hi = Dv d 16 + 38 * hi + P * (2 * hi) by rw [P_val]; omega, Nat.add_mul_mod_self_left]
  · have e : nv (rnd d) = Dv d 16 + 38 * hi := by show Dv (rnd d) (rnd d).length = _; unfold rnd; rw [c2, f5]
    unfold mea
    rw [if_pos hL, f4, e]
    rcases Nat.eq_zero_or_pos hi with h0 | h0
    · subst h0
      have : (rnd d).length = 16 := by unfold rnd; exact c4 (by rw [f5]; omega)
      rw [if_neg (by omega)]; omega
    · split <;> omega
/-- What stands from 2^255 on comes down. -/
def t3e (l : List UInt64) : List UInt64 := (l.set 15 (l.getD 15 0 % 32768)).set 0 ((l.set 15 (l.getD 15 0 % 32768)).getD 0 0 + 19 * (l.getD 15 0 / 32768))
def t3 (l : List UInt64) : List UInt64 := carL (t3e l)
theorem t3e_spec {l : List UInt64} (hl : l.length = 16) (hb : Bd l 65535) : (t3e l).length = 16 ∧ Bd (t3e l) 65554 ∧ ∃ t, t ≤ 1 ∧ (32767 < l.getD 15 0 → t = 1) ∧ Dv l 16 = Dv (l.set 15 (l.getD 15 0 % 32768)) 16 + 57896044618658097711785492504343953926634992332820282019728792003956564819968 * t ∧ Dv (t3e l) 16 = Dv (l.set 15 (l.getD 15 0 % 32768)) 16 + 19 * t := by
  have b := hb 15
  have b0 := hb 0
  have m1 : (l.getD 15 0 % 32768).toNat = (l.getD 15 0).toNat % 32768 := by rw [UInt64.toNat_mod]; rfl
  have d1 : (l.getD 15 0 / 32768).toNat = (l.getD 15 0).toNat / 32768 := by rw [UInt64.toNat_div]; rfl
  have g0 : (l.set 15 (l.getD 15 0 % 32768)).getD 0 0 = l.getD 0 0 := by rw [getD_set _ _ _ _ (by omega), if_neg (by decide)]
  have hx : ((l.set 15 (l.getD 15 0 % 32768)).getD 0 0 + 19 * (l.getD 15 0 / 32768)).toNat = (l.getD 0 0).toNat + 19 * ((l.getD 15 0).toNat / 32768) := by
    rw [g0, UInt64.toNat_add, UInt64.toNat_mul, d1, show UInt64.toNat 19 = 19 from rfl]; omega
  refine ⟨by simp [t3e, hl], fun i => ?_, (l.getD 15 0).toNat / 32768, by omega, fun h => ?_, ?_, ?_⟩
  · unfold t3e
    rw [getD_set _ _ _ _ (by simp [hl])]
    split
    · rw [hx]; omega
    · rw [getD_set _ _ _ _ (by omega)]
      split
      · rw [m1]; omega
      · have := hb i; omega
  · have h' : 32767 < (l.getD 15 0).toNat := h
    omega
  · have s := Dv_set l 15 (l.getD 15 0 % 32768) (by omega) 16 (by decide)
    rw [m1, show (65536 : Nat) ^ 15 = 1766847064778384329583297500742918515827483896875618958121606201292619776 by decide] at s
    omega
  · have s := Dv_set (l.set 15 (l.getD 15 0 % 32768)) 0 ((l.set 15 (l.getD 15 0 % 32768)).getD 0 0 + 19 * (l.getD 15 0 / 32768)) (by simp [hl]) 16 (by decide)
    show Dv ((l.set 15 (l.getD 15 0 % 32768)).set 0 ((l.set 15 (l.getD 15 0 % 32768)).getD 0 0 + 19 * (l.getD 15 0 / 32768))) 16 = _
    rw [hx, g0, Nat.pow_zero, Nat.one_mul, Nat.one_mul] at s
    rw [g0]
    omega
theorem t3e_lt {l : List UInt64} (hl : l.length = 16) (hb : Bd l 65535) : Dv (t3e l) 16 < 115792089237316195423570985008687907853269984665640564039457584007913129639936 := by
  obtain ⟨_, _, t, h1, h2, h3, h4⟩ := t3e_spec hl hb
  have hv := hb.lt 16
  rw [q16] at hv
  have hs : Dv (l.set 15 (l.getD 15 0 % 32768)) 16 < 57896044618658097711785492504343953926634992332820282019728792003956564819968 := by
    have s := Dv_set l 15 (l.getD 15 0 % 32768) (by omega) 16 (by decide)
    have m1 : (l.getD 15 0 % 32768).toNat = (l.getD 15 0).toNat % 32768 := by rw [UInt64.toNat_mod]; rfl
    have hd : Dv l 16 = Dv l 15 + 65536 ^ 15 * (l.getD 15 0).toNat := rfl
    have hlo := hb.lt 15
    rw [show (65536 : Nat) ^ 15 = 1766847064778384329583297500742918515827483896875618958121606201292619776 by decide] at hd
    rw [m1, show (65536 : Nat) ^ 15 = 1766847064778384329583297500742918515827483896875618958121606201292619776 by decide] at s
    rw [show (65536 : Nat) ^ 15 = 1766847064778384329583297500742918515827483896875618958121606201292619776 by decide] at hlo
    omega
  omega
theorem t3_spec {l : List UInt64} (hl : l.length = 16) (hb : Bd l 65535) (hg : 32767 < l.getD 15 0) : (t3 l).length = 16 ∧ Bd (t3 l) 65535 ∧ Dv (t3 l) 16 % P = Dv l 16 % P ∧ Dv (t3 l) 16 < Dv l 16 := by
  obtain ⟨e1, e2, t, h1, h2, h3, h4⟩ := t3e_spec hl hb
  have hv := t3e_lt hl hb
  have ht := h2 hg
  subst ht
  obtain ⟨c1, c2, c3, c4⟩ := carL_spec e1 (e2.mono (by decide)) (by rw [show (65536 : Nat) ^ (16 + 1) = 65536 * 115792089237316195423570985008687907853269984665640564039457584007913129639936 by decide]; omega)
  have hL : (t3 l).length = 16 := c4 (by rw [q16]; exact hv)
  have c2' : Dv (t3 l) (t3 l).length = Dv (t3e l) 16 := c2
  rw [hL] at c2'
  refine ⟨hL, c1, ?_, ?_⟩
  · have key : ∀ s : Nat, (s + 19 * 1) % P = (s + 57896044618658097711785492504343953926634992332820282019728792003956564819968 * 1) % P := fun s => by
      rw [P_val]; omega
    rw [c2', h4, h3, key]
  · rw [c2', h4, h3]; omega
theorem low255 {l : List UInt64} (hb : Bd l 65535) (hg : ¬ 32767 < l.getD 15 0) : Dv l 16 < 57896044618658097711785492504343953926634992332820282019728792003956564819968 := by
  have hd : Dv l 16 = Dv l 15 + 65536 ^ 15 * (l.getD 15 0).toNat := rfl
  have hlo := hb.lt 15
  have hg' : ¬ 32767 < (l.getD 15 0).toNat := hg
  rw [show (65536 : Nat) ^ 15 = 1766847064778384329583297500742918515827483896875618958121606201292619776 by decide] at hd
  rw [show (65536 : Nat) ^ 15 = 1766847064778384329583297500742918515827483896875618958121606201292619776 by decide] at hlo
  omega
/-- A difference. -/
def mnl (a b : List UInt64) : Nat → List UInt64 × UInt64
  | 0 => (a, 0)
  | i + 1 => ((mnl a b i).1.set i (((mnl a b i).1.getD i 0 + 65536 - b.getD i 0 - (mnl a b i).2) % 65536), 1 - ((mnl a b i).1.getD i 0 + 65536 - b.getD i 0 - (mnl a b i).2) / 65536)
theorem mnl_len (a b : List UInt64) : ∀ i, (mnl a b i).1.length = a.length
  | 0 => rfl
  | i + 1 => by rw [mnl, List.length_set, mnl_len]
theorem mnl_spec (a b : List UInt64) (ha : a.length = 16) (hba : Bd a 65535) (hbb : Bd b 65535) : ∀ i, i ≤ 16 → (∀ j, i ≤ j → (mnl a b i).1.getD j 0 = a.getD j 0) ∧ Bd (mnl a b i).1 65535 ∧
    (mnl a b i).2.toNat ≤ 1 ∧ Dv (mnl a b i).1 16 + Dv b i = Dv a 16 + 65536 ^ i * (mnl a b i).2.toNat
  | 0, _ => ⟨fun _ _ => rfl, hba, by show (0 : UInt64).toNat ≤ 1; decide, by simp [Dv, mnl]⟩
  | i + 1, hi => by
    obtain ⟨h1, h2, h3, h4⟩ := mnl_spec a b ha hba hbb i (by omega)
    have hl := (mnl_len a b i).trans ha
    have e := h1 i (Nat.le_refl _)
    have d1 := hba i
    have d2 := hbb i
    obtain ⟨x, hx⟩ : ∃ x, (mnl a b i).1.getD i 0 + 65536 - b.getD i 0 - (mnl a b i).2 = x := ⟨_, rfl⟩
    have xv : x.toNat + (b.getD i 0).toNat + (mnl a b i).2.toNat = (a.getD i 0).toNat + 65536 := by
      rw [← hx, e, UInt64.toNat_sub, UInt64.toNat_sub, UInt64.toNat_add, show UInt64.toNat 65536 = 65536 from rfl]; omega
    have bw : (1 - x / 65536).toNat + x.toNat / 65536 = 1 := by
      rw [UInt64.toNat_sub, div65, show UInt64.toNat 1 = 1 from rfl]; omega
    rw [mnl, hx]
    refine ⟨fun j hj => ?_, fun j => ?_, by show (1 - x / 65536).toNat ≤ 1; omega, ?_⟩
    · rw [getD_set _ _ _ _ (by omega), if_neg (by omega)]; exact h1 j (by omega)
    · rw [getD_set _ _ _ _ (by omega)]
      split
      · rw [mod65]; omega
      · exact h2 j
    · have s := Dv_set (mnl a b i).1 i (x % 65536) (by omega) 16 (by omega)
      rw [e, mod65] at s
      have hD : Dv b (i + 1) = Dv b i + 65536 ^ i * (b.getD i 0).toNat := rfl
      show Dv ((mnl a b i).1.set i (x % 65536)) 16 + Dv b (i + 1) = Dv a 16 + 65536 ^ (i + 1) * (1 - x / 65536).toNat
      rw [hD, Nat.pow_succ, Nat.mul_assoc]
      have key : 65536 ^ i * (x.toNat % 65536) + 65536 ^ i * (b.getD i 0).toNat + 65536 ^ i * (mnl a b i).2.toNat = 65536 ^ i * (a.getD i 0).toNat + 65536 ^ i * (65536 * (1 - x / 65536).toNat) := by
        rw [← Nat.mul_add, ← Nat.mul_add, ← Nat.mul_add]; congr 1; omega
      omega
theorem mnl_dg {m n : Nat} (hm : m < 115792089237316195423570985008687907853269984665640564039457584007913129639936) (hn : n ≤ m) : (mnl (dg m) (dg n) 16).1 = dg (m - n) := by
  obtain ⟨_, h2, h3, h4⟩ := mnl_spec (dg m) (dg n) (dg_len m) (dgk_bd 16 m) (dgk_bd 16 n) 16 (by decide)
  have hlt := h2.lt 16
  rw [dg_v m hm, dg_v n (by omega), q16] at h4
  rw [q16] at hlt
  exact dg_of ((mnl_len ..).trans (dg_len m)) h2 (by omega)
/-- Which is less: the highest digit that differs tells. -/
theorem less_at {a b : List UInt64} (ha : Bd a 65535) (hb : Bd b 65535) {i : Nat} (hi : i < 16) (he : ∀ j, i < j → j < 16 → a.getD j 0 = b.getD j 0) (hne : a.getD i 0 ≠ b.getD i 0) : (a.getD i 0 < b.getD i 0) = (Dv a 16 < Dv b 16) := by
  have hne' : (a.getD i 0).toNat ≠ (b.getD i 0).toNat := fun e => hne (UInt64.toNat_inj.1 e)
  have hd : Dv (a.drop (i + 1)) (15 - i) = Dv (b.drop (i + 1)) (15 - i) := Dv_congr _ fun k hk => by
    have := he (i + 1 + k) (by omega) (by omega)
    simpa [List.getD_eq_getElem?_getD, List.getElem?_drop] using this
  have e1 := Dv_add a (i + 1) (15 - i)
  have e2 := Dv_add b (i + 1) (15 - i)
  have f1 : Dv a (i + 1) = Dv a i + 65536 ^ i * (a.getD i 0).toNat := rfl
  have f2 : Dv b (i + 1) = Dv b i + 65536 ^ i * (b.getD i 0).toNat := rfl
  rw [show i + 1 + (15 - i) = 16 by omega] at e1 e2
  rw [f1] at e1
  rw [f2] at e2
  have l1 := ha.lt i
  have l2 := hb.lt i
  rw [hd] at e1
  rw [eq_iff_iff]
  have hlt : a.getD i 0 < b.getD i 0 ↔ (a.getD i 0).toNat < (b.getD i 0).toNat := Iff.rfl
  rw [hlt]
  constructor
  · intro h
    have : 65536 ^ i * ((a.getD i 0).toNat + 1) ≤ 65536 ^ i * (b.getD i 0).toNat := Nat.mul_le_mul_left _ h
    rw [Nat.mul_add, Nat.mul_one] at this; omega
  · intro h
    rcases Nat.lt_or_ge (a.getD i 0).toNat (b.getD i 0).toNat with k | k
    · exact k
    · have : 65536 ^ i * ((b.getD i 0).toNat + 1) ≤ 65536 ^ i * (a.getD i 0).toNat := Nat.mul_le_mul_left _ (by omega)
      rw [Nat.mul_add, Nat.mul_one] at this; omega
theorem less_no {a b : List UInt64} (he : ∀ j, j < 16 → a.getD j 0 = b.getD j 0) : ¬ Dv a 16 < Dv b 16 := by rw [Dv_congr 16 he]; omega
/-- Sums of digits. -/
def sml (a b : List UInt64) (k : Nat) : List UInt64 := (List.range k).map fun i => a.getD i 0 + b.getD i 0
theorem sml_len (a b : List UInt64) (k : Nat) : (sml a b k).length = k := by simp [sml]
theorem sml_succ (a b : List UInt64) (k : Nat) : sml a b k ++ [a.getD k 0 + b.getD k 0] = sml a b (k + 1) := by simp [sml, List.range_succ]
theorem sml_get (a b : List UInt64) (k i : Nat) (h : i < k) : (sml a b k).getD i 0 = a.getD i 0 + b.getD i 0 := by
  simp [sml, List.getD_eq_getElem?_getD, List.getElem?_map, List.getElem?_range h]
theorem sml_spec {a b : List UInt64} (ha : Bd a 65535) (hb : Bd b 65535) : Bd (sml a b 16) 131070 ∧ Dv (sml a b 16) 16 = Dv a 16 + Dv b 16 := by
  have hx : ∀ i, i < 16 → ((sml a b 16).getD i 0).toNat = (a.getD i 0).toNat + (b.getD i 0).toNat := fun i hi => by
    have := ha i
    have := hb i
    rw [sml_get _ _ _ _ hi, UInt64.toNat_add]; omega
  have key : ∀ n, n ≤ 16 → Dv (sml a b 16) n = Dv a n + Dv b n := by
    intro n
    induction n with
    | zero => intro _; rfl
    | succ n ih => intro h; rw [Dv, Dv, Dv, ih (by omega), hx n (by omega), Nat.mul_add]; omega
  refine ⟨fun i => ?_, key 16 (by decide)⟩
  by_cases h : i < 16
  · rw [hx i h]; have := ha i; have := hb i; omega
  · rw [getD_out _ _ (by rw [sml_len]; omega)]; decide
/-- A product, digit by digit. -/
def pin (a r : List UInt64) (i : Nat) (d : List UInt64) : Nat → List UInt64
  | 0 => d
  | k + 1 => (pin a r i d k).set (i + k) ((pin a r i d k).getD (i + k) 0 + a.getD i 0 * r.getD k 0)
theorem pin_len (a r : List UInt64) (i : Nat) (d : List UInt64) : ∀ k, (pin a r i d k).length = d.length
  | 0 => rfl
  | k + 1 => by rw [pin, List.length_set, pin_len]
def pout (a r : List UInt64) : Nat → List UInt64
  | 0 => List.replicate 31 0
  | i + 1 => pin a r i (pout a r i) 16
theorem pout_len (a r : List UInt64) : ∀ k, (pout a r k).length = 31
  | 0 => by simp [pout]
  | k + 1 => by rw [pout, pin_len, pout_len]
theorem pin_spec (a r d : List UInt64) (i B : Nat) (hi : i < 16) (hl : d.length = 31) (ha : Bd a 65535) (hr : Bd r 65535) (hd : Bd d B) (hB : B ≤ 4611686018427387904) : ∀ k, k ≤ 16 →
    (∀ j, i + k ≤ j → (pin a r i d k).getD j 0 = d.getD j 0) ∧ Bd (pin a r i d k) (B + 4294836225) ∧ Dv (pin a r i d k) 31 = Dv d 31 + 65536 ^ i * ((a.getD i 0).toNat * Dv r k)
  | 0, _ => ⟨fun _ _ => rfl, hd.mono (by omega), by simp [pin, Dv]⟩
  | k + 1, hk => by
    obtain ⟨h1, h2, h3⟩ := pin_spec a r d i B hi hl ha hr hd hB k (by omega)
    have hl' := (pin_len a r i d k).trans hl
    have e := h1 (i + k) (Nat.le_refl _)
    have b1 := hd (i + k)
    have b2 : (a.getD i 0).toNat * (r.getD k 0).toNat ≤ 65535 * 65535 := Nat.mul_le_mul (ha i) (hr k)
    have hx : ((pin a r i d k).getD (i + k) 0 + a.getD i 0 * r.getD k 0).toNat = (d.getD (i + k) 0).toNat + (a.getD i 0).toNat * (r.getD k 0).toNat := by
      rw [e, UInt64.toNat_add, UInt64.toNat_mul]
      generalize (a.getD i 0).toNat * (r.getD k 0).toNat = m at *
      omega
    rw [pin]
    refine ⟨fun j hj => ?_, fun j => ?_, ?_⟩
    · rw [getD_set _ _ _ _ (by omega), if_neg (by omega)]; exact h1 j (by omega)
    · rw [getD_set _ _ _ _ (by omega)]
      split
      · rw [hx]; generalize (a.getD i 0).toNat * (r.getD k 0).toNat = m at *; omega
      · exact h2 j
    · have s := Dv_set (pin a r i d k) (i + k) ((pin a r i d k).getD (i + k) 0 + a.getD i 0 * r.getD k 0) (by omega) 31 (by omega)
      have hD : Dv r (k + 1) = Dv r k + 65536 ^ k * (r.getD k 0).toNat := rfl
      generalize (pin a r i d k).set (i + k) ((pin a r i d k).getD (i + k) 0 + a.getD i 0 * r.getD k 0) = N at s ⊢
      rw [hx, e, h3, Nat.mul_add] at s
      rw [hD, Nat.mul_add, Nat.mul_add]
      have : 65536 ^ (i + k) * ((a.getD i 0).toNat * (r.getD k 0).toNat) = 65536 ^ i * ((a.getD i 0).toNat * (65536 ^ k * (r.getD k 0).toNat)) := by
        rw [Nat.pow_add, Nat.mul_assoc, Nat.mul_left_comm (65536 ^ k)]
      omega
theorem pout_spec (a r : List UInt64) (ha : Bd a 65535) (hr : Bd r 65535) : ∀ i, i ≤ 16 → Bd (pout a r i) (i * 4294836225) ∧ Dv (pout a r i) 31 = Dv a i * Dv r 16
  | 0, _ => ⟨fun i => by rw [pout, rep_get]; decide, by rw [pout, Dv_zero]; simp [Dv]⟩
  | i + 1, hi => by
    obtain ⟨h1, h2⟩ := pout_spec a r ha hr i (by omega)
    obtain ⟨g1, g2, g3⟩ := pin_spec a r (pout a r i) i (i * 4294836225) (by omega) (pout_len a r i) ha hr h1 (by omega) 16 (by decide)
    rw [pout]
    refine ⟨by rw [Nat.succ_mul]; exact g2, ?_⟩
    have hD : Dv a (i + 1) = Dv a i + 65536 ^ i * (a.getD i 0).toNat := rfl
    rw [g3, h2, hD, Nat.add_mul, Nat.mul_assoc]
/-- The digits of a product. -/
theorem prod_ok {m n : Nat} (hm : m < 115792089237316195423570985008687907853269984665640564039457584007913129639936) (hn : n < 115792089237316195423570985008687907853269984665640564039457584007913129639936) : Bd (pout (dg m) (dg n) 16) 9223372036854775808 ∧ Dv (pout (dg m) (dg n) 16) 31 < 65536 ^ 32 ∧ Mi (carL (pout (dg m) (dg n) 16)) ∧ 16 < (carL (pout (dg m) (dg n) 16)).length ∧ nv (carL (pout (dg m) (dg n) 16)) = m * n := by
  obtain ⟨h1, h2⟩ := pout_spec (dg m) (dg n) (dgk_bd 16 m) (dgk_bd 16 n) 16 (by decide)
  rw [dg_v m hm, dg_v n hn] at h2
  have hb : Bd (pout (dg m) (dg n) 16) 9223372036854775808 := h1.mono (by decide)
  have hv : Dv (pout (dg m) (dg n) 16) 31 < 65536 ^ 32 := by
    rw [h2, show (65536 : Nat) ^ 32 = 115792089237316195423570985008687907853269984665640564039457584007913129639936 * 115792089237316195423570985008687907853269984665640564039457584007913129639936 by decide +kernel]
    exact Nat.mul_lt_mul_of_lt_of_lt hm hn
  obtain ⟨c1, c2, c3, c4⟩ := carL_spec (pout_len (dg m) (dg n) 16) hb hv
  refine ⟨hb, hv, ⟨by omega, by omega, c1⟩, by omega, ?_⟩
  show Dv (carL (pout (dg m) (dg n) 16)) (carL (pout (dg m) (dg n) 16)).length = _
  rw [c2, h2]
end Go.Proofs.Ytjibmonfmhdbbaa.Rn

/- What functions of the program do, walked over the abstract machine. -/
namespace Go.Proofs.Ytjibmonfmhdbbaa.Rn
open Go Go.Abs Go.Proofs

open Go.Nt Fd

theorem rep_set (i : Nat) (h : i < 16) : (List.replicate i (65535 : UInt64) ++ List.replicate (16 - i) 0).set i 65535 = List.replicate (i + 1) 65535 ++ List.replicate (16 - (i + 1)) 0 := by
  have : i = 0 ∨ i = 1 ∨ i = 2 ∨ i = 3 ∨ i = 4 ∨ i = 5 ∨ i = 6 ∨ i = 7 ∨ i = 8 ∨ i = 9 ∨ i = 10 ∨ i = 11 ∨ i = 12 ∨ i = 13 ∨ i = 14 ∨ i = 15 := by omega
  rcases this with rfl | rfl | rfl | rfl | rfl | rfl | rfl | rfl | rfl | rfl | rfl | rfl | rfl | rfl | rfl | rfl <;> rfl
theorem prime_dg : dg P = ((List.replicate 16 (65535 : UInt64) ++ List.replicate (16 - 16) 0).set 0 65517).set 15 32767 := by decide +kernel
open Go.Nt Fd
theorem app1 (l : List UInt64) (x : UInt64) : u64s l ++ [c64 x] = u64s (l ++ [x]) := by simp [mapc]
theorem tk16 {l : List UInt64} : ((u64s l).drop 0).take (16 * 1) = u64s (l.take 16) := by rw [List.drop_zero]; simp [mapc, List.map_take]
theorem cp16 {a b : List UInt64} (ha : a.length = 16) (hb : b.length = 16) : splice (u64s a) 0 ((u64s b).take (min 16 16 * 1)) = u64s b := by
  rw [List.take_of_length_le (by rw [mapc_length, hb]; decide)]
  simp [splice, mapc, ha, hb]
theorem rep31 : rep 31 [c64 0] = u64s (List.replicate 31 0) := rfl
set_option maxHeartbeats 800000 in
/-- escutcheonref02.carried -/
theorem car_ (d : List UInt64) (n : Nat) (hl : d.length = n) (hn : n ≤ 64) (hb : Bd d 9223372036854775808) (hv : Dv d n < 65536 ^ (n + 1)) : Good Try.prog 46 [.c (.slc 0 0 n 1)] [some (u64s d)] (sc (.slc 1 0 (carL d).length 1)) [none, some (u64s (carL d))] := by
  have hc := car_c hl hb hv
  have hE : carL d = if (nrm d n).2 = 0 then (nrm d n).1 else (nrm d n).1 ++ [(nrm d n).2] := by unfold carL; rw [hl]
  have hNl := (nrm_len d n).trans hl
  refine good_frm 35 Try.func46 rfl rfl rfl rfl rfl rfl ?_
  refine awp_seq ?_
  refine rln ?_
  refine As ?_
  refine gend ?_
  refine awp_seq ?_
  refine rln ?_
  refine G (q_as (s := sc (c64 0)) ?_)
  refine gend ?_
  refine awp_seq ?_
  refine awp_seq ?_
  refine rln ?_
  refine G (q_as (s := sc (cn 0)) ?_)
  refine gend ?_
  refine awp_block ?_
  refine awp_loop (fun x : {i : Nat // i ≤ n} => ⟨frm 35 [(0, sc (.slc 0 0 n 1)), (3, sc (c64 (nrm d x.1).2)), (4, sc (cn x.1))], [some (u64s (nrm d x.1).1)]⟩) (fun x => n - x.1) ⟨0, Nat.zero_le _⟩ (sle_sub ⟨rfl, rfl, rfl, trivial⟩ rfl) fun x => ?_   -- live: [0, 3, 4]
  have hl1 := (nrm_len d x.1).trans hl
  refine awp_seq ?_
  refine awp_seq ?_
  refine rln ?_
  refine Mv ?_
  refine Mv ?_
  refine G (q_lenc ?_)
  refine G (q_lssn ?_)
  refine gend ?_
  refine cnd (fun hc1 => ?_) (fun hc1 => ?_); rotate_left
  · refine awp_exit ?_
    rw [show x.1 = n from (by have := x.2; omega)]
    generalize (nrm d n).1 = N at hE hNl ⊢
    generalize (nrm d n).2 = c at hE hc ⊢
    refine awp_seq ?_
    refine awp_block ?_
    refine awp_loop (fun y : {x : List UInt64 × UInt64 // x = (N, c) ∨ (x.2 = 0 ∧ x.1 = N ++ [c] ∧ c ≠ 0)} => ⟨frm 35 [(0, sc (.slc 1 0 y.1.1.length 1)), (3, sc (c64 y.1.2))], [none, some (u64s y.1.1)]⟩) (fun y => y.1.2.toNat) ⟨(N, c), .inl rfl⟩ (sle_mv 0 rfl (Nat.le_refl 1) ⟨.inr (.inl ⟨0, n, 1, rfl, by show sc (.slc 1 0 N.length 1) = sc (.slc 1 0 n 1); rw [hNl]⟩), .inl rfl, trivial⟩ rfl) fun y => ?_
    have hyl : y.1.1.length ≤ 65 := by
      rcases y.2 with h | h
      · rw [h]; show N.length ≤ 65; omega
      · rw [h.2.1, List.length_append, hNl]; show n + 1 ≤ 65; omega
    refine awp_seq ?_
    refine awp_seq ?_
    refine rln ?_
    refine Mv ?_
    refine G (q_gtr64 (y := 0) ?_)
    refine gend ?_
    refine cnd (fun hc2 => ?_) (fun hc2 => ?_); rotate_left
    · refine awp_exit ?_
      have hy0 : y.1.2 = 0 := UInt64.toNat_inj.1 (by have h2 : ¬ 0 < y.1.2.toNat := hc2; show _ = 0; omega)
      have hyE : carL d = y.1.1 := by
        rw [hE]
        rcases y.2 with h | h
        · rw [h] at hy0 ⊢; exact if_pos hy0
        · rw [h.2.1]; exact if_neg h.2.2
      rw [hyE]
      refine awp_seq ?_
      refine rln ?_
      refine Mv ?_
      refine As ?_
      refine gend ?_
      refine awp_ret ?_
      exact fx1 [0, 1] (hm0 := rfl) (hn := pi1) (hH := (vh2 rfl (pick_m rfl)).symm)
    refine awp_skip ?_
    refine awp_block ?_
    refine awp_seq ?_
    refine rln ?_
    refine Mv ?_
    refine Mv ?_
    refine G (q_rem64 (y := 65536) ?_ (hz := by decide))
    refine G2 (fun _ k_ => q_bsl (fkc rfl (et rfl) rfl (Nat.le_of_ble_eq_true rfl) (fk0 k_))) ?_
    refine G2 (fun _ k_ => q_app  k_ (eA := el_slc (xs := u64s y.1.1) rfl (by rw [mapc_length]; omega) (cut_h rfl)) (eB := el_slc (xs := [_]) rfl (Nat.le_refl 1) rfl)) ?_
    refine As ?_
    refine gend ?_
    refine rln ?_
    refine Mv ?_
    refine G (q_quo64 (y := 65536) ?_ (hz := by decide))
    refine As ?_
    refine gend ?_
    have hp0 : y.1.2.toNat ≠ 0 := by have : 0 < y.1.2.toNat := hc2; omega
    have hyc : y.1 = (N, c) := y.2.resolve_right (fun h => hp0 (by rw [h.1]; rfl))
    have hd0 : y.1.2 / 65536 = 0 := UInt64.toNat_inj.1 (by rw [div65, hyc]; show c.toNat / 65536 = 0; omega)
    have hm0 : y.1.2 % 65536 = c := UInt64.toNat_inj.1 (by rw [mod65, hyc]; show c.toNat % 65536 = c.toNat; omega)
    exact ⟨⟨(y.1.1 ++ [y.1.2 % 65536], y.1.2 / 65536), .inr ⟨hd0, by rw [hm0, hyc], by rintro rfl; rw [hyc] at hp0; exact hp0 rfl⟩⟩, by show (y.1.2 / 65536).toNat < y.1.2.toNat; rw [hd0]; show 0 < _; omega, sle_view [0, 3] pi1 (by decide) ⟨congrArg (fun k => sc (.slc 1 0 k 1)) (show y.1.1.length + 1 = (y.1.1 ++ [y.1.2 % 65536]).length by simp), rfl, trivial⟩ (vh2 rfl (pick_m (congrArg (fun z => some (some z)) (app1 _ _))))⟩   -- endloop 2
  refine awp_skip ?_
  refine awp_seq ?_
  refine awp_block ?_
  refine awp_seq ?_
  refine rln ?_
  refine Mv ?_
  refine Mv ?_
  refine G (q_ixs1 ?_)
  refine G (q_ldp ?_)
  refine Mv ?_
  refine G (q_add64 ?_)
  refine As ?_
  refine gend ?_
  refine awp_seq ?_
  refine rln ?_
  refine Mv ?_
  refine Mv ?_
  refine Mv ?_
  refine G (q_rem64 (y := 65536) ?_ (hz := by decide))
  refine G (q_ixs1 ?_)
  refine G20 (fun _ k_ => q_stm k_) ?_
  refine gend ?_
  refine rln ?_
  refine Mv ?_
  refine G (q_quo64 (y := 65536) ?_ (hz := by decide))
  refine As ?_
  refine gend ?_
  refine rln ?_
  refine Mv ?_
  refine G (q_addn (y := 1) ?_)
  refine As ?_
  refine gend ?_
  exact ⟨⟨x.1 + 1, by omega⟩, by show n - (x.1 + 1) < n - x.1; omega, sle_sub ⟨rfl, rfl, rfl, trivial⟩ rfl⟩   -- endloop 1
/-- escutcheonref02.Prime -/
theorem prime_ : Good Try.prog 31 [] [] (sa (u64s (dg P))) [] := by
  refine good_frm 12 Try.func31 rfl rfl rfl rfl rfl rfl ?_
  refine awp_seq ?_
  refine rln ?_
  refine G2 (fun _ k_ => q_al k_) ?_
  refine gend ?_
  refine awp_seq ?_
  refine rln ?_
  refine G2 (fun _ k_ => q_al k_) ?_
  refine gend ?_
  refine awp_seq ?_
  refine awp_seq ?_
  refine rln ?_
  refine G (q_as (s := sc (cn 0)) ?_)
  refine gend ?_
  refine awp_block ?_
  refine awp_loop (fun x : {i : Nat // i ≤ 16} => ⟨frm 12 [(0, sc (.ptr 0 0)), (1, sc (.ptr 1 0)), (2, sc (cn x.1))], [some (u64s (List.replicate 16 0)), some (u64s (List.replicate x.1 65535 ++ List.replicate (16 - x.1) 0))]⟩) (fun x => 16 - x.1) ⟨0, Nat.zero_le _⟩ (sle_sub ⟨rfl, rfl, rfl, trivial⟩ rfl) fun x => ?_   -- live: [1, 2]
  have hl : (List.replicate x.1 (65535 : UInt64) ++ List.replicate (16 - x.1) 0).length = 16 := by simp; omega
  refine awp_seq ?_
  refine awp_seq ?_
  refine rln ?_
  refine Mv ?_
  refine G (q_lssn (y := 16) ?_)
  refine gend ?_
  refine cnd (fun hc1 => ?_) (fun hc1 => ?_); rotate_left
  · refine awp_exit ?_
    rw [show x.1 = 16 from (by have := x.2; omega)]
    refine awp_seq ?_
    refine rln ?_
    refine G (q_ixp1 ?_)
    refine G20 (fun _ k_ => q_stm (x := (65517 : UInt64)) k_) ?_
    refine G (q_ixp1 ?_)
    refine G20 (fun _ k_ => q_stm (x := (32767 : UInt64)) k_) ?_
    refine gend ?_
    refine awp_seq ?_
    refine rln ?_
    refine G (q_ldw ?_)
    refine G20 (fun _ k_ => q_stw k_) ?_
    refine gend ?_
    refine awp_ret ?_
    exact fpc (t := 30) (a := 0) (hv := by rw [prime_dg])
  refine awp_skip ?_
  refine awp_seq ?_
  refine awp_block ?_
  refine rln ?_
  refine Mv ?_
  refine G (q_ixp1 ?_)
  refine G20 (fun _ k_ => q_stm (x := (65535 : UInt64)) k_) ?_
  refine gend ?_
  refine rln ?_
  refine Mv ?_
  refine G (q_addn (y := 1) ?_)
  refine As ?_
  refine gend ?_
  exact ⟨⟨x.1 + 1, by omega⟩, by show 16 - (x.1 + 1) < 16 - x.1; omega, sle_sub ⟨rfl, rfl, rfl, trivial⟩ (congrArg (fun z => [some (u64s (List.replicate 16 0)), some (u64s z)]) (rep_set x.1 (by omega)))⟩   -- endloop 1
set_option maxHeartbeats 800000 in
/-- escutcheonref02.Minus -/
theorem minus_ (m n : Nat) (hm : m < 115792089237316195423570985008687907853269984665640564039457584007913129639936) (hn : n ≤ m) : Good Try.prog 50 [.a (u64s (dg m)), .a (u64s (dg n))] [] (sa (u64s (dg (m - n)))) [] := by
  have hA := dg_len m
  have hB := dg_len n
  rw [← mnl_dg hm hn]
  generalize dg m = A at hA ⊢
  generalize dg n = B at hB ⊢
  refine good_frm 30 Try.func50 rfl rfl rfl rfl rfl rfl ?_
  refine awp_seq ?_
  refine rln ?_
  refine G2 (fun _ k_ => q_boxa k_) ?_
  refine G2 (fun _ k_ => q_boxa k_) ?_
  refine G2 (fun _ k_ => q_al k_) ?_
  refine gend ?_
  refine awp_seq ?_
  refine rln ?_
  refine G (q_as (s := sc (c64 0)) ?_)
  refine gend ?_
  refine awp_seq ?_
  refine awp_seq ?_
  refine rln ?_
  refine G (q_as (s := sc (cn 0)) ?_)
  refine gend ?_
  refine awp_block ?_
  refine awp_loop (fun i : {i : Nat // i ≤ 16} => ⟨frm 30 [(2, sc (.ptr 0 0)), (3, sc (.ptr 1 0)), (4, sc (.ptr 2 0)), (5, sc (c64 (mnl A B i.1).2)), (6, sc (cn i.1))], [some (u64s (mnl A B i.1).1), some (u64s B), some (u64s (List.replicate 16 0))]⟩) (fun i => 16 - i.1) ⟨0, Nat.zero_le _⟩ (sle_sub ⟨rfl, rfl, rfl, rfl, rfl, trivial⟩ rfl) fun i => ?_   -- live: [2, 3, 5, 6]
  have hl := (mnl_len A B i.1).trans hA
  refine awp_seq ?_
  refine awp_seq ?_
  refine rln ?_
  refine Mv ?_
  refine G (q_lssn (y := 16) ?_)
  refine gend ?_
  refine cnd (fun hc1 => ?_) (fun hc1 => ?_); rotate_left
  · refine awp_exit ?_
    rw [show i.1 = 16 from (by have := i.2; omega)]
    have hl := (mnl_len A B 16).trans hA
    refine awp_seq ?_
    refine rln ?_
    refine G (q_ldw ?_)
    refine G20 (fun _ k_ => q_stw k_) ?_
    refine gend ?_
    refine awp_ret ?_
    exact fpc (t := 30) (a := 4) (hn := by exact (mapc_length ..).trans hl)
  refine awp_skip ?_
  refine awp_seq ?_
  refine awp_block ?_
  refine awp_seq ?_
  refine rdln [] [] [] ?_
  refine Dp (fun _ => q_mv (s := .v (.c _)) ⟨rfl, rfl⟩) ?_
  refine Dp (fun _ => q_ixp1 ⟨rfl, rfl⟩) ?_
  refine DLp ?_
  refine Dp (fun _ => q_add64 (y := 65536) ⟨rfl, rfl⟩) ?_
  refine Dp (fun _ => q_mv (s := .v (.c _)) ⟨rfl, rfl⟩) ?_
  refine Dp (fun _ => q_ixp1 ⟨rfl, rfl⟩) ?_
  refine DLp ?_
  refine Dp (fun _ => q_sub64 ⟨rfl, rfl⟩) ?_
  refine Dp (fun _ => q_mv (s := .v (.c _)) ⟨rfl, rfl⟩) ?_
  refine Dp (fun _ => q_sub64 ⟨rfl, rfl⟩) ?_
  refine Dp (fun _ => q_as (s := .v (.c _)) ⟨rfl, rfl⟩) ?_
  refine dend ?_
  refine awp_seq ?_
  refine rln ?_
  refine Mv ?_
  refine Mv ?_
  refine G (q_rem64 (y := 65536) ?_ (hz := by decide))
  refine G (q_ixp1 ?_)
  refine G20 (fun _ k_ => q_stm k_) ?_
  refine gend ?_
  refine rln ?_
  refine Mv ?_
  refine G (q_quo64 (y := 65536) ?_ (hz := by decide))
  refine G (q_sub64 (x := 1) ?_)
  refine As ?_
  refine gend ?_
  refine rln ?_
  refine Mv ?_
  refine G (q_addn (y := 1) ?_)
  refine As ?_
  refine gend ?_
  exact ⟨⟨i.1 + 1, by omega⟩, by show 16 - (i.1 + 1) < 16 - i.1; omega, sle_sub ⟨rfl, rfl, rfl, rfl, rfl, trivial⟩ rfl⟩   -- endloop 1
set_option maxHeartbeats 800000 in
/-- escutcheonref02.Less -/
theorem less_ (m n : Nat) (hm : m < 115792089237316195423570985008687907853269984665640564039457584007913129639936) (hn : n < 115792089237316195423570985008687907853269984665640564039457584007913129639936) : Good Try.prog 29 [.a (u64s (dg m)), .a (u64s (dg n))] [] (sc (.bool (decide (m < n)))) [] := by
  have hA := dg_len m
  have hB := dg_len n
  have bA : Bd (dg m) 65535 := dgk_bd 16 m
  have bB : Bd (dg n) 65535 := dgk_bd 16 n
  have vA := dg_v m hm
  have vB := dg_v n hn
  rw [show decide (m < n) = decide (Dv (dg m) 16 < Dv (dg n) 16) by rw [vA, vB]]
  generalize dg m = A at hA bA vA ⊢
  generalize dg n = B at hB bB vB ⊢
  refine good_frm 24 Try.func29 rfl rfl rfl rfl rfl rfl ?_
  refine awp_seq ?_
  refine rln ?_
  refine G2 (fun _ k_ => q_boxa k_) ?_
  refine G2 (fun _ k_ => q_boxa k_) ?_
  refine As ?_
  refine gend ?_
  refine awp_seq ?_
  refine awp_seq ?_
  refine rln ?_
  refine G (q_as (s := sc (cn 15)) ?_)
  refine gend ?_
  refine awp_block ?_
  refine awp_loop (fun x : {k : Nat // k ≤ 16 ∧ ∀ j, 15 < j + k → j < 16 → A.getD j 0 = B.getD j 0} => ⟨frm 24 [(2, sc (.ptr 0 0)), (3, sc (.ptr 1 0)), (5, sc (ci (15 - (x.1 : Int))))], [some (u64s A), some (u64s B)]⟩) (fun x => 16 - x.1) ⟨0, by omega, fun j h1 h2 => by omega⟩ (sle_sub ⟨rfl, rfl, rfl, trivial⟩ rfl) fun x => ?_   -- live: [2, 3, 5]
  refine awp_seq ?_
  refine awp_seq ?_
  refine rln ?_
  refine Mv ?_
  refine G (q_geqi (y := 0) ?_)
  refine gend ?_
  refine cnd (fun hc1 => ?_) (fun hc1 => ?_); rotate_left
  · refine awp_exit ?_
    have hno := less_no fun j h => x.2.2 j (by omega) h
    refine awp_seq ?_
    refine rln ?_
    refine As ?_
    refine gend ?_
    refine awp_ret ?_
    exact fp1 (hv := congrArg (fun b => sc (.bool b)) (decide_eq_false hno))
  refine awp_skip ?_
  have hx16 : x.1 < 16 := by omega
  refine retell [(2, sc (.ptr 0 0)), (3, sc (.ptr 1 0)), (5, sc (cn (15 - x.1)))] ?_ ⟨rfl, rfl, congrArg (fun z => sc (ci z)) (by omega), trivial⟩
  refine awp_seq ?_
  refine awp_block ?_
  refine awp_seq ?_
  refine rdln [] [] [] ?_
  refine Dp (fun _ => q_mv (s := .v (.c _)) ⟨rfl, rfl⟩) ?_
  refine Dp (fun _ => q_ixp1 ⟨rfl, rfl⟩) ?_
  refine DLp ?_
  refine Dp (fun _ => q_mv (s := .v (.c _)) ⟨rfl, rfl⟩) ?_
  refine Dp (fun _ => q_ixp1 ⟨rfl, rfl⟩) ?_
  refine DLp ?_
  refine Dp (fun _ => q_neq64 ⟨rfl, rfl⟩) ?_
  refine dend ?_
  refine cnd (fun hc2 => ?_) (fun hc2 => ?_)
  · refine awp_seq ?_
    refine rdln [] [] [] ?_
    refine Dp (fun _ => q_mv (s := .v (.c _)) ⟨rfl, rfl⟩) ?_
    refine Dp (fun _ => q_ixp1 ⟨rfl, rfl⟩) ?_
    refine DLp ?_
    refine Dp (fun _ => q_mv (s := .v (.c _)) ⟨rfl, rfl⟩) ?_
    refine Dp (fun _ => q_ixp1 ⟨rfl, rfl⟩) ?_
    refine DLp ?_
    refine Dp (fun _ => q_lss64 ⟨rfl, rfl⟩) ?_
    refine Dp (fun _ => q_as (s := .v (.c _)) ⟨rfl, rfl⟩) ?_
    refine dend ?_
    refine awp_ret ?_
    exact fp1 (hv := congrArg (fun b => sc (.bool b)) (decide_eq_decide.2 (by rw [less_at bA bB (by omega) (fun j h1 h2 => x.2.2 j (by omega) h2) hc2])))
  refine awp_skip ?_
  refine rln ?_
  refine Mv ?_
  refine G (q_subi (x := ((15 - x.1 : Nat) : Int)) (y := 1) ?_)
  refine As ?_
  refine gend ?_
  exact ⟨⟨x.1 + 1, by omega, fun j h1 h2 => by
    have h1' : 15 < j + (x.1 + 1) := h1
    by_cases e : j = 15 - x.1
    · subst e; exact Classical.byContradiction hc2
    · exact x.2.2 j (by omega) h2⟩, by show 16 - (x.1 + 1) < 16 - x.1; omega, sle_sub ⟨rfl, rfl, congrArg (fun z => sc (ci z)) (by show ((15 - x.1 : Nat) : Int) - 1 = 15 - ((x.1 + 1 : Nat) : Int); omega), trivial⟩ rfl⟩   -- endloop 1
end Go.Proofs.Ytjibmonfmhdbbaa.Rn

