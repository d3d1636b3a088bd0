import Derived.Test.YtoempiaimebncaaGh
import Derived.Test.YtoempiaimebncaaProg
import Derived.KernelRfl
/- The types of this seat's program that the proofs ask for. -/
namespace Go.Proofs.Ytoempiaimebncaa
open Go.Av
def ty : TypeId → Option TI
  | 2 => some ⟨1, 8, [.int .i64 0], .int .i64⟩
  | 3 => some ⟨1, 8, [.int .i64 0], .int .i64⟩
  | 4 => some ⟨1, 1, [.bool false], .bool⟩
  | 5 => some ⟨1, 1, [.int .u8 0], .int .u8⟩
  | 6 => some ⟨1, 1, [.int .u8 0], .int .u8⟩
  | 7 => some ⟨4, 24, [.int .i64 0, .int .i64 0, .bool false, .int .u8 0], .struct [(0, 2), (1, 3), (2, 4), (3, 6)]⟩
  | 8 => some ⟨4, 24, [.int .i64 0, .int .i64 0, .bool false, .int .u8 0], .struct [(0, 2), (1, 3), (2, 4), (3, 6)]⟩
  | 9 => some ⟨1, 16, [.str ⟨#[]⟩], .str⟩
  | 10 => some ⟨1, 16, [.str ⟨#[]⟩], .str⟩
  | 11 => some ⟨1, 16, [.str ⟨#[]⟩], .str⟩
  | 12 => some ⟨1, 8, [.int .u64 0], .int .u64⟩
  | 13 => some ⟨2, 24, [.str ⟨#[]⟩, .int .u64 0], .struct [(0, 9), (1, 12)]⟩
  | 14 => some ⟨2, 24, [.str ⟨#[]⟩, .int .u64 0], .struct [(0, 9), (1, 12)]⟩
  | 15 => some ⟨1, 8, [.nilp], .ptr⟩
  | 16 => some ⟨1, 8, [.nilp], .ptr⟩
  | 17 => some ⟨1, 8, [.nilp], .ptr⟩
  | 18 => some ⟨1, 8, [.nilp], .struct [(0, 17)]⟩
  | 19 => some ⟨1, 8, [.nilp], .struct [(0, 17)]⟩
  | 21 => some ⟨1, 4, [.int .i32 0], .int .i32⟩
  | 22 => some ⟨1, 24, [.ls 0 true true []], .slice 44⟩
  | 23 => some ⟨1, 24, [.ls 0 true true []], .slice 5⟩
  | 24 => some ⟨5, 88, [.int .i64 0, .int .i64 0, .ls 0 true true [], .ls 0 true true [], .ls 0 true true []], .struct [(0, 2), (1, 2), (2, 23), (3, 23), (4, 23)]⟩
  | 25 => some ⟨5, 88, [.int .i64 0, .int .i64 0, .ls 0 true true [], .ls 0 true true [], .ls 0 true true []], .struct [(0, 2), (1, 2), (2, 23), (3, 23), (4, 23)]⟩
  | 26 => some ⟨1, 24, [.ls 0 true true []], .slice 75⟩
  | 27 => some ⟨6, 112, [.int .i64 0, .int .i64 0, .ls 0 true true [], .ls 0 true true [], .ls 0 true true [], .ls 0 true true []], .struct [(0, 25), (5, 26)]⟩
  | 28 => some ⟨6, 112, [.int .i64 0, .int .i64 0, .ls 0 true true [], .ls 0 true true [], .ls 0 true true [], .ls 0 true true []], .struct [(0, 25), (5, 26)]⟩
  | 32 => some ⟨1, 24, [.ls 0 true true []], .slice 61⟩
  | 34 => some ⟨5, 88, [.int .i64 0, .int .i64 0, .ls 0 true true [], .ls 0 true true [], .ls 0 true true []], .struct [(0, 2), (1, 2), (2, 23), (3, 23), (4, 23)]⟩
  | 35 => some ⟨1, 24, [.ls 0 true true []], .slice 58⟩
  | 36 => some ⟨6, 112, [.int .i64 0, .int .i64 0, .ls 0 true true [], .ls 0 true true [], .ls 0 true true [], .ls 0 true true []], .struct [(0, 34), (5, 35)]⟩
  | 37 => some ⟨6, 112, [.int .i64 0, .int .i64 0, .ls 0 true true [], .ls 0 true true [], .ls 0 true true [], .ls 0 true true []], .struct [(0, 34), (5, 35)]⟩
  | 43 => some ⟨2, 32, [.ls 0 true true [], .int .i64 0], .struct [(0, 23), (1, 2)]⟩
  | 44 => some ⟨2, 32, [.ls 0 true true [], .int .i64 0], .struct [(0, 23), (1, 2)]⟩
  | 52 => some ⟨1, 24, [.ls 0 true true []], .slice 23⟩
  | 53 => some ⟨3, 40, [.int .i64 0, .int .i64 0, .ls 0 true true []], .struct [(0, 2), (1, 2), (2, 52)]⟩
  | 54 => some ⟨3, 40, [.int .i64 0, .int .i64 0, .ls 0 true true []], .struct [(0, 2), (1, 2), (2, 52)]⟩
  | 55 => some ⟨5, 72, [.int .i64 0, .ls 0 true true [], .int .i64 0, .int .i64 0, .ls 0 true true []], .struct [(0, 2), (1, 52), (2, 54)]⟩
  | 56 => some ⟨5, 72, [.int .i64 0, .ls 0 true true [], .int .i64 0, .int .i64 0, .ls 0 true true []], .struct [(0, 2), (1, 52), (2, 54)]⟩
  | 57 => some ⟨6, 80, [.int .i64 0, .int .i64 0, .ls 0 true true [], .int .i64 0, .int .i64 0, .ls 0 true true []], .struct [(0, 2), (1, 56)]⟩
  | 58 => some ⟨6, 80, [.int .i64 0, .int .i64 0, .ls 0 true true [], .int .i64 0, .int .i64 0, .ls 0 true true []], .struct [(0, 2), (1, 56)]⟩
  | 61 => some ⟨2, 32, [.ls 0 true true [], .int .i64 0], .struct [(0, 23), (1, 2)]⟩
  | 71 => some ⟨3, 40, [.int .i64 0, .int .i64 0, .ls 0 true true []], .struct [(0, 2), (1, 2), (2, 52)]⟩
  | 72 => some ⟨5, 72, [.int .i64 0, .ls 0 true true [], .int .i64 0, .int .i64 0, .ls 0 true true []], .struct [(0, 2), (1, 52), (2, 71)]⟩
  | 73 => some ⟨5, 72, [.int .i64 0, .ls 0 true true [], .int .i64 0, .int .i64 0, .ls 0 true true []], .struct [(0, 2), (1, 52), (2, 71)]⟩
  | 74 => some ⟨6, 80, [.int .i64 0, .int .i64 0, .ls 0 true true [], .int .i64 0, .int .i64 0, .ls 0 true true []], .struct [(0, 2), (1, 73)]⟩
  | 75 => some ⟨6, 80, [.int .i64 0, .int .i64 0, .ls 0 true true [], .int .i64 0, .int .i64 0, .ls 0 true true []], .struct [(0, 2), (1, 73)]⟩
  | 81 => some ⟨1, 24, [.ls 0 true true []], .slice 2⟩
  | 95 => some ⟨1, 8, [.int .u64 0], .int .u64⟩
  | 97 => some ⟨1, 24, [.ls 0 true true []], .slice 4⟩
  | 110 => some ⟨64, 512, List.replicate 64 (.int .i64 0), .arr 64 2⟩
  | 112 => some ⟨8, 64, [.int .i64 0, .int .i64 0, .int .i64 0, .int .i64 0, .int .i64 0, .int .i64 0, .int .i64 0, .int .i64 0], .arr 8 2⟩
  | 117 => some ⟨2, 16, [.int .i64 0, .int .i64 0], .struct [(0, 2), (1, 2)]⟩
  | 118 => some ⟨2, 16, [.int .i64 0, .int .i64 0], .struct [(0, 2), (1, 2)]⟩
  | 124 => some ⟨1, 8, [.int .u64 0], .int .u64⟩
  | 125 => some ⟨1, 4, [.int .u32 0], .int .u32⟩
  | 126 => some ⟨8, 32, [.int .u32 0, .int .u32 0, .int .u32 0, .int .u32 0, .int .u32 0, .int .u32 0, .int .u32 0, .int .u32 0], .arr 8 125⟩
  | 131 => some ⟨64, 256, List.replicate 64 (.int .u32 0), .arr 64 125⟩
  | 136 => some ⟨4, 40, [.nilp, .nilp, .nilp, .str ⟨#[]⟩], .struct [(0, 17), (1, 17), (2, 17), (3, 9)]⟩
  | 137 => some ⟨4, 40, [.nilp, .nilp, .nilp, .str ⟨#[]⟩], .struct [(0, 17), (1, 17), (2, 17), (3, 9)]⟩
  | 138 => some ⟨0, 0, [], .arr 0 16⟩
  | 139 => some ⟨0, 0, [], .struct [(0, 138)]⟩
  | 140 => some ⟨0, 0, [], .struct [(0, 138)]⟩
  | 142 => some ⟨1, 1, [.int .u8 0], .int .u8⟩
  | 143 => some ⟨1, 1, [.int .u8 0], .int .u8⟩
  | 145 => some ⟨1, 8, [.nilp], .ptr⟩
  | 146 => some ⟨1, 4, [.int .i32 0], .int .i32⟩
  | 147 => some ⟨1, 4, [.int .i32 0], .int .i32⟩
  | _ => none

theorem tyAt2 : tiOf Try.prog 2 = some ⟨1, 8, [.int .i64 0], .int .i64⟩ := by kernel_rfl
theorem tyAt3 : tiOf Try.prog 3 = some ⟨1, 8, [.int .i64 0], .int .i64⟩ := by kernel_rfl
theorem tyAt4 : tiOf Try.prog 4 = some ⟨1, 1, [.bool false], .bool⟩ := by kernel_rfl
theorem tyAt5 : tiOf Try.prog 5 = some ⟨1, 1, [.int .u8 0], .int .u8⟩ := by kernel_rfl
theorem tyAt6 : tiOf Try.prog 6 = some ⟨1, 1, [.int .u8 0], .int .u8⟩ := by kernel_rfl
theorem tyAt7 : tiOf Try.prog 7 = some ⟨4, 24, [.int .i64 0, .int .i64 0, .bool false, .int .u8 0], .struct [(0, 2), (1, 3), (2, 4), (3, 6)]⟩ := by kernel_rfl
theorem tyAt8 : tiOf Try.prog 8 = some ⟨4, 24, [.int .i64 0, .int .i64 0, .bool false, .int .u8 0], .struct [(0, 2), (1, 3), (2, 4), (3, 6)]⟩ := by kernel_rfl
theorem tyAt9 : tiOf Try.prog 9 = some ⟨1, 16, [.str ⟨#[]⟩], .str⟩ := by kernel_rfl
theorem tyAt10 : tiOf Try.prog 10 = some ⟨1, 16, [.str ⟨#[]⟩], .str⟩ := by kernel_rfl
theorem tyAt11 : tiOf Try.prog 11 = some ⟨1, 16, [.str ⟨#[]⟩], .str⟩ := by kernel_rfl
theorem tyAt12 : tiOf Try.prog 12 = some ⟨1, 8, [.int .u64 0], .int .u64⟩ := by kernel_rfl
theorem tyAt13 : tiOf Try.prog 13 = some ⟨2, 24, [.str ⟨#[]⟩, .int .u64 0], .struct [(0, 9), (1, 12)]⟩ := by kernel_rfl
theorem tyAt14 : tiOf Try.prog 14 = some ⟨2, 24, [.str ⟨#[]⟩, .int .u64 0], .struct [(0, 9), (1, 12)]⟩ := by kernel_rfl
theorem tyAt15 : tiOf Try.prog 15 = some ⟨1, 8, [.nilp], .ptr⟩ := by kernel_rfl
theorem tyAt16 : tiOf Try.prog 16 = some ⟨1, 8, [.nilp], .ptr⟩ := by kernel_rfl
theorem tyAt17 : tiOf Try.prog 17 = some ⟨1, 8, [.nilp], .ptr⟩ := by kernel_rfl
theorem tyAt18 : tiOf Try.prog 18 = some ⟨1, 8, [.nilp], .struct [(0, 17)]⟩ := by kernel_rfl
theorem tyAt19 : tiOf Try.prog 19 = some ⟨1, 8, [.nilp], .struct [(0, 17)]⟩ := by kernel_rfl
theorem tyAt21 : tiOf Try.prog 21 = some ⟨1, 4, [.int .i32 0], .int .i32⟩ := by kernel_rfl
theorem tyAt22 : tiOf Try.prog 22 = some ⟨1, 24, [.ls 0 true true []], .slice 44⟩ := by kernel_rfl
theorem tyAt23 : tiOf Try.prog 23 = some ⟨1, 24, [.ls 0 true true []], .slice 5⟩ := by kernel_rfl
theorem tyAt24 : tiOf Try.prog 24 = some ⟨5, 88, [.int .i64 0, .int .i64 0, .ls 0 true true [], .ls 0 true true [], .ls 0 true true []], .struct [(0, 2), (1, 2), (2, 23), (3, 23), (4, 23)]⟩ := by kernel_rfl
theorem tyAt25 : tiOf Try.prog 25 = some ⟨5, 88, [.int .i64 0, .int .i64 0, .ls 0 true true [], .ls 0 true true [], .ls 0 true true []], .struct [(0, 2), (1, 2), (2, 23), (3, 23), (4, 23)]⟩ := by kernel_rfl
theorem tyAt26 : tiOf Try.prog 26 = some ⟨1, 24, [.ls 0 true true []], .slice 75⟩ := by kernel_rfl
theorem tyAt27 : tiOf Try.prog 27 = some ⟨6, 112, [.int .i64 0, .int .i64 0, .ls 0 true true [], .ls 0 true true [], .ls 0 true true [], .ls 0 true true []], .struct [(0, 25), (5, 26)]⟩ := by kernel_rfl
theorem tyAt28 : tiOf Try.prog 28 = some ⟨6, 112, [.int .i64 0, .int .i64 0, .ls 0 true true [], .ls 0 true true [], .ls 0 true true [], .ls 0 true true []], .struct [(0, 25), (5, 26)]⟩ := by kernel_rfl
theorem tyAt32 : tiOf Try.prog 32 = some ⟨1, 24, [.ls 0 true true []], .slice 61⟩ := by kernel_rfl
theorem tyAt34 : tiOf Try.prog 34 = some ⟨5, 88, [.int .i64 0, .int .i64 0, .ls 0 true true [], .ls 0 true true [], .ls 0 true true []], .struct [(0, 2), (1, 2), (2, 23), (3, 23), (4, 23)]⟩ := by kernel_rfl
theorem tyAt35 : tiOf Try.prog 35 = some ⟨1, 24, [.ls 0 true true []], .slice 58⟩ := by kernel_rfl
theorem tyAt36 : tiOf Try.prog 36 = some ⟨6, 112, [.int .i64 0, .int .i64 0, .ls 0 true true [], .ls 0 true true [], .ls 0 true true [], .ls 0 true true []], .struct [(0, 34), (5, 35)]⟩ := by kernel_rfl
theorem tyAt37 : tiOf Try.prog 37 = some ⟨6, 112, [.int .i64 0, .int .i64 0, .ls 0 true true [], .ls 0 true true [], .ls 0 true true [], .ls 0 true true []], .struct [(0, 34), (5, 35)]⟩ := by kernel_rfl
theorem tyAt43 : tiOf Try.prog 43 = some ⟨2, 32, [.ls 0 true true [], .int .i64 0], .struct [(0, 23), (1, 2)]⟩ := by kernel_rfl
theorem tyAt44 : tiOf Try.prog 44 = some ⟨2, 32, [.ls 0 true true [], .int .i64 0], .struct [(0, 23), (1, 2)]⟩ := by kernel_rfl
theorem tyAt52 : tiOf Try.prog 52 = some ⟨1, 24, [.ls 0 true true []], .slice 23⟩ := by kernel_rfl
theorem tyAt53 : tiOf Try.prog 53 = some ⟨3, 40, [.int .i64 0, .int .i64 0, .ls 0 true true []], .struct [(0, 2), (1, 2), (2, 52)]⟩ := by kernel_rfl
theorem tyAt54 : tiOf Try.prog 54 = some ⟨3, 40, [.int .i64 0, .int .i64 0, .ls 0 true true []], .struct [(0, 2), (1, 2), (2, 52)]⟩ := by kernel_rfl
theorem tyAt55 : tiOf Try.prog 55 = some ⟨5, 72, [.int .i64 0, .ls 0 true true [], .int .i64 0, .int .i64 0, .ls 0 true true []], .struct [(0, 2), (1, 52), (2, 54)]⟩ := by kernel_rfl
theorem tyAt56 : tiOf Try.prog 56 = some ⟨5, 72, [.int .i64 0, .ls 0 true true [], .int .i64 0, .int .i64 0, .ls 0 true true []], .struct [(0, 2), (1, 52), (2, 54)]⟩ := by kernel_rfl
theorem tyAt57 : tiOf Try.prog 57 = some ⟨6, 80, [.int .i64 0, .int .i64 0, .ls 0 true true [], .int .i64 0, .int .i64 0, .ls 0 true true []], .struct [(0, 2), (1, 56)]⟩ := by kernel_rfl
theorem tyAt58 : tiOf Try.prog 58 = some ⟨6, 80, [.int .i64 0, .int .i64 0, .ls 0 true true [], .int .i64 0, .int .i64 0, .ls 0 true true []], .struct [(0, 2), (1, 56)]⟩ := by kernel_rfl
theorem tyAt61 : tiOf Try.prog 61 = some ⟨2, 32, [.ls 0 true true [], .int .i64 0], .struct [(0, 23), (1, 2)]⟩ := by kernel_rfl
theorem tyAt71 : tiOf Try.prog 71 = some ⟨3, 40, [.int .i64 0, .int .i64 0, .ls 0 true true []], .struct [(0, 2), (1, 2), (2, 52)]⟩ := by kernel_rfl
theorem tyAt72 : tiOf Try.prog 72 = some ⟨5, 72, [.int .i64 0, .ls 0 true true [], .int .i64 0, .int .i64 0, .ls 0 true true []], .struct [(0, 2), (1, 52), (2, 71)]⟩ := by kernel_rfl
theorem tyAt73 : tiOf Try.prog 73 = some ⟨5, 72, [.int .i64 0, .ls 0 true true [], .int .i64 0, .int .i64 0, .ls 0 true true []], .struct [(0, 2), (1, 52), (2, 71)]⟩ := by kernel_rfl
theorem tyAt74 : tiOf Try.prog 74 = some ⟨6, 80, [.int .i64 0, .int .i64 0, .ls 0 true true [], .int .i64 0, .int .i64 0, .ls 0 true true []], .struct [(0, 2), (1, 73)]⟩ := by kernel_rfl
theorem tyAt75 : tiOf Try.prog 75 = some ⟨6, 80, [.int .i64 0, .int .i64 0, .ls 0 true true [], .int .i64 0, .int .i64 0, .ls 0 true true []], .struct [(0, 2), (1, 73)]⟩ := by kernel_rfl
theorem tyAt81 : tiOf Try.prog 81 = some ⟨1, 24, [.ls 0 true true []], .slice 2⟩ := by kernel_rfl
theorem tyAt95 : tiOf Try.prog 95 = some ⟨1, 8, [.int .u64 0], .int .u64⟩ := by kernel_rfl
theorem tyAt97 : tiOf Try.prog 97 = some ⟨1, 24, [.ls 0 true true []], .slice 4⟩ := by kernel_rfl
theorem tyAt110 : tiOf Try.prog 110 = some ⟨64, 512, List.replicate 64 (.int .i64 0), .arr 64 2⟩ := by kernel_rfl
theorem tyAt112 : tiOf Try.prog 112 = some ⟨8, 64, [.int .i64 0, .int .i64 0, .int .i64 0, .int .i64 0, .int .i64 0, .int .i64 0, .int .i64 0, .int .i64 0], .arr 8 2⟩ := by kernel_rfl
theorem tyAt117 : tiOf Try.prog 117 = some ⟨2, 16, [.int .i64 0, .int .i64 0], .struct [(0, 2), (1, 2)]⟩ := by kernel_rfl
theorem tyAt118 : tiOf Try.prog 118 = some ⟨2, 16, [.int .i64 0, .int .i64 0], .struct [(0, 2), (1, 2)]⟩ := by kernel_rfl
theorem tyAt124 : tiOf Try.prog 124 = some ⟨1, 8, [.int .u64 0], .int .u64⟩ := by kernel_rfl
theorem tyAt125 : tiOf Try.prog 125 = some ⟨1, 4, [.int .u32 0], .int .u32⟩ := by kernel_rfl
theorem tyAt126 : tiOf Try.prog 126 = some ⟨8, 32, [.int .u32 0, .int .u32 0, .int .u32 0, .int .u32 0, .int .u32 0, .int .u32 0, .int .u32 0, .int .u32 0], .arr 8 125⟩ := by kernel_rfl
theorem tyAt131 : tiOf Try.prog 131 = some ⟨64, 256, List.replicate 64 (.int .u32 0), .arr 64 125⟩ := by kernel_rfl
theorem tyAt136 : tiOf Try.prog 136 = some ⟨4, 40, [.nilp, .nilp, .nilp, .str ⟨#[]⟩], .struct [(0, 17), (1, 17), (2, 17), (3, 9)]⟩ := by kernel_rfl
theorem tyAt137 : tiOf Try.prog 137 = some ⟨4, 40, [.nilp, .nilp, .nilp, .str ⟨#[]⟩], .struct [(0, 17), (1, 17), (2, 17), (3, 9)]⟩ := by kernel_rfl
theorem tyAt138 : tiOf Try.prog 138 = some ⟨0, 0, [], .arr 0 16⟩ := by kernel_rfl
theorem tyAt139 : tiOf Try.prog 139 = some ⟨0, 0, [], .struct [(0, 138)]⟩ := by kernel_rfl
theorem tyAt140 : tiOf Try.prog 140 = some ⟨0, 0, [], .struct [(0, 138)]⟩ := by kernel_rfl
theorem tyAt142 : tiOf Try.prog 142 = some ⟨1, 1, [.int .u8 0], .int .u8⟩ := by kernel_rfl
theorem tyAt143 : tiOf Try.prog 143 = some ⟨1, 1, [.int .u8 0], .int .u8⟩ := by kernel_rfl
theorem tyAt145 : tiOf Try.prog 145 = some ⟨1, 8, [.nilp], .ptr⟩ := by kernel_rfl
theorem tyAt146 : tiOf Try.prog 146 = some ⟨1, 4, [.int .i32 0], .int .i32⟩ := by kernel_rfl
theorem tyAt147 : tiOf Try.prog 147 = some ⟨1, 4, [.int .i32 0], .int .i32⟩ := by kernel_rfl

theorem tyOk : TyOk Try.prog ty := by
  intro t i h
  unfold ty at h
  split at h
  · obtain rfl := Option.some.inj h; exact tyAt2
  · obtain rfl := Option.some.inj h; exact tyAt3
  · obtain rfl := Option.some.inj h; exact tyAt4
  · obtain rfl := Option.some.inj h; exact tyAt5
  · obtain rfl := Option.some.inj h; exact tyAt6
  · obtain rfl := Option.some.inj h; exact tyAt7
  · obtain rfl := Option.some.inj h; exact tyAt8
  · obtain rfl := Option.some.inj h; exact tyAt9
  · obtain rfl := Option.some.inj h; exact tyAt10
  · obtain rfl := Option.some.inj h; exact tyAt11
  · obtain rfl := Option.some.inj h; exact tyAt12
  · obtain rfl := Option.some.inj h; exact tyAt13
  · obtain rfl := Option.some.inj h; exact tyAt14
  · obtain rfl := Option.some.inj h; exact tyAt15
  · obtain rfl := Option.some.inj h; exact tyAt16
  · obtain rfl := Option.some.inj h; exact tyAt17
  · obtain rfl := Option.some.inj h; exact tyAt18
  · obtain rfl := Option.some.inj h; exact tyAt19
  · obtain rfl := Option.some.inj h; exact tyAt21
  · obtain rfl := Option.some.inj h; exact tyAt22
  · obtain rfl := Option.some.inj h; exact tyAt23
  · obtain rfl := Option.some.inj h; exact tyAt24
  · obtain rfl := Option.some.inj h; exact tyAt25
  · obtain rfl := Option.some.inj h; exact tyAt26
  · obtain rfl := Option.some.inj h; exact tyAt27
  · obtain rfl := Option.some.inj h; exact tyAt28
  · obtain rfl := Option.some.inj h; exact tyAt32
  · obtain rfl := Option.some.inj h; exact tyAt34
  · obtain rfl := Option.some.inj h; exact tyAt35
  · obtain rfl := Option.some.inj h; exact tyAt36
  · obtain rfl := Option.some.inj h; exact tyAt37
  · obtain rfl := Option.some.inj h; exact tyAt43
  · obtain rfl := Option.some.inj h; exact tyAt44
  · obtain rfl := Option.some.inj h; exact tyAt52
  · obtain rfl := Option.some.inj h; exact tyAt53
  · obtain rfl := Option.some.inj h; exact tyAt54
  · obtain rfl := Option.some.inj h; exact tyAt55
  · obtain rfl := Option.some.inj h; exact tyAt56
  · obtain rfl := Option.some.inj h; exact tyAt57
  · obtain rfl := Option.some.inj h; exact tyAt58
  · obtain rfl := Option.some.inj h; exact tyAt61
  · obtain rfl := Option.some.inj h; exact tyAt71
  · obtain rfl := Option.some.inj h; exact tyAt72
  · obtain rfl := Option.some.inj h; exact tyAt73
  · obtain rfl := Option.some.inj h; exact tyAt74
  · obtain rfl := Option.some.inj h; exact tyAt75
  · obtain rfl := Option.some.inj h; exact tyAt81
  · obtain rfl := Option.some.inj h; exact tyAt95
  · obtain rfl := Option.some.inj h; exact tyAt97
  · obtain rfl := Option.some.inj h; exact tyAt110
  · obtain rfl := Option.some.inj h; exact tyAt112
  · obtain rfl := Option.some.inj h; exact tyAt117
  · obtain rfl := Option.some.inj h; exact tyAt118
  · obtain rfl := Option.some.inj h; exact tyAt124
  · obtain rfl := Option.some.inj h; exact tyAt125
  · obtain rfl := Option.some.inj h; exact tyAt126
  · obtain rfl := Option.some.inj h; exact tyAt131
  · obtain rfl := Option.some.inj h; exact tyAt136
  · obtain rfl := Option.some.inj h; exact tyAt137
  · obtain rfl := Option.some.inj h; exact tyAt138
  · obtain rfl := Option.some.inj h; exact tyAt139
  · obtain rfl := Option.some.inj h; exact tyAt140
  · obtain rfl := Option.some.inj h; exact tyAt142
  · obtain rfl := Option.some.inj h; exact tyAt143
  · obtain rfl := Option.some.inj h; exact tyAt145
  · obtain rfl := Option.some.inj h; exact tyAt146
  · obtain rfl := Option.some.inj h; exact tyAt147
  · cases h

end Go.Proofs.Ytoempiaimebncaa
