import Derived.Test.YthfikpgbddpmoaaGh
import Derived.Test.YthfikpgbddpmoaaProg
import Derived.KernelRfl
/- The types of this seat's program that the proofs ask for. -/
namespace Go.Proofs.Ythfikpgbddpmoaa
open Go.Av
def ty : TypeId → Option TI
  | 2 => some ⟨1, 8, [.int .i64 0], .int .i64⟩
  | 3 => some ⟨1, 8, [.int .i64 0], .int .i64⟩
  | 4 => some ⟨1, 1, [.bool false], .bool⟩
  | 5 => some ⟨1, 1, [.int .u8 0], .int .u8⟩
  | 6 => some ⟨1, 1, [.int .u8 0], .int .u8⟩
  | 7 => some ⟨4, 24, [.int .i64 0, .int .i64 0, .bool false, .int .u8 0], .struct [(0, 2), (1, 3), (2, 4), (3, 6)]⟩
  | 8 => some ⟨4, 24, [.int .i64 0, .int .i64 0, .bool false, .int .u8 0], .struct [(0, 2), (1, 3), (2, 4), (3, 6)]⟩
  | 9 => some ⟨1, 16, [.str ⟨#[]⟩], .str⟩
  | 10 => some ⟨1, 16, [.str ⟨#[]⟩], .str⟩
  | 11 => some ⟨1, 16, [.str ⟨#[]⟩], .str⟩
  | 12 => some ⟨1, 8, [.int .u64 0], .int .u64⟩
  | 13 => some ⟨2, 24, [.str ⟨#[]⟩, .int .u64 0], .struct [(0, 9), (1, 12)]⟩
  | 14 => some ⟨2, 24, [.str ⟨#[]⟩, .int .u64 0], .struct [(0, 9), (1, 12)]⟩
  | 15 => some ⟨1, 8, [.nilp], .ptr⟩
  | 16 => some ⟨1, 8, [.nilp], .ptr⟩
  | 17 => some ⟨1, 8, [.nilp], .ptr⟩
  | 18 => some ⟨1, 8, [.nilp], .struct [(0, 17)]⟩
  | 19 => some ⟨1, 8, [.nilp], .struct [(0, 17)]⟩
  | 21 => some ⟨1, 4, [.int .i32 0], .int .i32⟩
  | 22 => some ⟨1, 24, [.ls 0 true true []], .slice 5⟩
  | 24 => some ⟨2, 48, [.ls 0 true true [], .ls 0 true true []], .struct [(0, 22), (1, 22)]⟩
  | 25 => some ⟨2, 48, [.ls 0 true true [], .ls 0 true true []], .struct [(0, 22), (1, 22)]⟩
  | 26 => some ⟨1, 24, [.ls 0 true true []], .slice 22⟩
  | 28 => some ⟨3, 56, [.int .i64 0, .ls 0 true true [], .ls 0 true true []], .struct [(0, 2), (1, 25)]⟩
  | 29 => some ⟨3, 56, [.int .i64 0, .ls 0 true true [], .ls 0 true true []], .struct [(0, 2), (1, 25)]⟩
  | 31 => some ⟨2, 32, [.int .i64 0, .ls 0 true true []], .struct [(0, 2), (1, 22)]⟩
  | 32 => some ⟨2, 32, [.int .i64 0, .ls 0 true true []], .struct [(0, 2), (1, 22)]⟩
  | 36 => some ⟨3, 40, [.int .i64 0, .int .i64 0, .ls 0 true true []], .struct [(0, 2), (1, 2), (2, 26)]⟩
  | 37 => some ⟨3, 40, [.int .i64 0, .int .i64 0, .ls 0 true true []], .struct [(0, 2), (1, 2), (2, 26)]⟩
  | 44 => some ⟨2, 48, [.ls 0 true true [], .ls 0 true true []], .struct [(0, 22), (1, 22)]⟩
  | 54 => some ⟨6, 80, [.ls 0 true true [], .int .i64 0, .int .i64 0, .int .i64 0, .ls 0 true true [], .int .i64 0], .struct [(0, 22), (1, 2), (2, 2), (3, 2), (4, 22), (5, 2)]⟩
  | 55 => some ⟨6, 80, [.ls 0 true true [], .int .i64 0, .int .i64 0, .int .i64 0, .ls 0 true true [], .int .i64 0], .struct [(0, 22), (1, 2), (2, 2), (3, 2), (4, 22), (5, 2)]⟩
  | 57 => some ⟨6, 80, [.ls 0 true true [], .int .i64 0, .int .i64 0, .int .i64 0, .ls 0 true true [], .int .i64 0], .struct [(0, 22), (1, 2), (2, 2), (3, 2), (4, 22), (5, 2)]⟩
  | 58 => some ⟨7, 88, [.int .i64 0, .ls 0 true true [], .int .i64 0, .int .i64 0, .int .i64 0, .ls 0 true true [], .int .i64 0], .struct [(0, 2), (1, 57)]⟩
  | 59 => some ⟨7, 88, [.int .i64 0, .ls 0 true true [], .int .i64 0, .int .i64 0, .int .i64 0, .ls 0 true true [], .int .i64 0], .struct [(0, 2), (1, 57)]⟩
  | 67 => some ⟨3, 40, [.int .i64 0, .int .i64 0, .ls 0 true true []], .struct [(0, 2), (1, 2), (2, 26)]⟩
  | 68 => some ⟨3, 40, [.int .i64 0, .int .i64 0, .ls 0 true true []], .struct [(0, 2), (1, 2), (2, 26)]⟩
  | 69 => some ⟨5, 72, [.int .i64 0, .ls 0 true true [], .int .i64 0, .int .i64 0, .ls 0 true true []], .struct [(0, 2), (1, 26), (2, 68)]⟩
  | 70 => some ⟨5, 72, [.int .i64 0, .ls 0 true true [], .int .i64 0, .int .i64 0, .ls 0 true true []], .struct [(0, 2), (1, 26), (2, 68)]⟩
  | 73 => some ⟨3, 40, [.int .i64 0, .int .i64 0, .ls 0 true true []], .struct [(0, 2), (1, 2), (2, 26)]⟩
  | 74 => some ⟨5, 72, [.int .i64 0, .ls 0 true true [], .int .i64 0, .int .i64 0, .ls 0 true true []], .struct [(0, 2), (1, 26), (2, 73)]⟩
  | 75 => some ⟨5, 72, [.int .i64 0, .ls 0 true true [], .int .i64 0, .int .i64 0, .ls 0 true true []], .struct [(0, 2), (1, 26), (2, 73)]⟩
  | 81 => some ⟨6, 80, [.int .i64 0, .int .i64 0, .ls 0 true true [], .int .i64 0, .int .i64 0, .ls 0 true true []], .struct [(0, 2), (1, 75)]⟩
  | 82 => some ⟨6, 80, [.int .i64 0, .int .i64 0, .ls 0 true true [], .int .i64 0, .int .i64 0, .ls 0 true true []], .struct [(0, 2), (1, 75)]⟩
  | 86 => some ⟨5, 88, [.int .i64 0, .int .i64 0, .ls 0 true true [], .ls 0 true true [], .ls 0 true true []], .struct [(0, 2), (1, 2), (2, 22), (3, 22), (4, 22)]⟩
  | 87 => some ⟨5, 88, [.int .i64 0, .int .i64 0, .ls 0 true true [], .ls 0 true true [], .ls 0 true true []], .struct [(0, 2), (1, 2), (2, 22), (3, 22), (4, 22)]⟩
  | 88 => some ⟨1, 24, [.ls 0 true true []], .slice 201⟩
  | 89 => some ⟨10, 160, [.int .i64 0, .int .i64 0, .ls 0 true true [], .ls 0 true true [], .ls 0 true true [], .ls 0 true true [], .int .i64 0, .bool false, .ls 0 true true [], .int .i64 0], .struct [(0, 87), (5, 88), (6, 2), (7, 4), (8, 26), (9, 2)]⟩
  | 90 => some ⟨10, 160, [.int .i64 0, .int .i64 0, .ls 0 true true [], .ls 0 true true [], .ls 0 true true [], .ls 0 true true [], .int .i64 0, .bool false, .ls 0 true true [], .int .i64 0], .struct [(0, 87), (5, 88), (6, 2), (7, 4), (8, 26), (9, 2)]⟩
  | 93 => some ⟨5, 88, [.int .i64 0, .int .i64 0, .ls 0 true true [], .ls 0 true true [], .ls 0 true true []], .struct [(0, 2), (1, 2), (2, 22), (3, 22), (4, 22)]⟩
  | 94 => some ⟨1, 24, [.ls 0 true true []], .slice 202⟩
  | 95 => some ⟨10, 160, [.int .i64 0, .int .i64 0, .ls 0 true true [], .ls 0 true true [], .ls 0 true true [], .ls 0 true true [], .int .i64 0, .bool false, .ls 0 true true [], .int .i64 0], .struct [(0, 93), (5, 94), (6, 2), (7, 4), (8, 26), (9, 2)]⟩
  | 96 => some ⟨10, 160, [.int .i64 0, .int .i64 0, .ls 0 true true [], .ls 0 true true [], .ls 0 true true [], .ls 0 true true [], .int .i64 0, .bool false, .ls 0 true true [], .int .i64 0], .struct [(0, 93), (5, 94), (6, 2), (7, 4), (8, 26), (9, 2)]⟩
  | 111 => some ⟨1, 8, [.nilp], .ptr⟩
  | 127 => some ⟨2, 16, [.int .i64 0, .int .i64 0], .struct [(0, 2), (1, 2)]⟩
  | 128 => some ⟨2, 16, [.int .i64 0, .int .i64 0], .struct [(0, 2), (1, 2)]⟩
  | 137 => some ⟨1, 24, [.ls 0 true true []], .slice 2⟩
  | 153 => some ⟨3, 40, [.int .i64 0, .int .i64 0, .ls 0 true true []], .struct [(0, 2), (1, 2), (2, 26)]⟩
  | 154 => some ⟨3, 40, [.int .i64 0, .int .i64 0, .ls 0 true true []], .struct [(0, 2), (1, 2), (2, 26)]⟩
  | 167 => some ⟨1, 8, [.nilp], .ptr⟩
  | 174 => some ⟨2, 32, [.ls 0 true true [], .int .i64 0], .struct [(0, 22), (1, 2)]⟩
  | 175 => some ⟨2, 32, [.ls 0 true true [], .int .i64 0], .struct [(0, 22), (1, 2)]⟩
  | 179 => some ⟨1, 8, [.nilp], .ptr⟩
  | 186 => some ⟨1, 8, [.int .u64 0], .int .u64⟩
  | 187 => some ⟨1, 24, [.ls 0 true true []], .slice 4⟩
  | 197 => some ⟨1, 24, [.ls 0 true true []], .slice 26⟩
  | 200 => some ⟨2, 32, [.ls 0 true true [], .int .i64 0], .struct [(0, 22), (1, 2)]⟩
  | 201 => some ⟨2, 32, [.ls 0 true true [], .int .i64 0], .struct [(0, 22), (1, 2)]⟩
  | 202 => some ⟨2, 32, [.ls 0 true true [], .int .i64 0], .struct [(0, 22), (1, 2)]⟩
  | 208 => some ⟨64, 512, List.replicate 64 (.int .i64 0), .arr 64 2⟩
  | 210 => some ⟨8, 64, [.int .i64 0, .int .i64 0, .int .i64 0, .int .i64 0, .int .i64 0, .int .i64 0, .int .i64 0, .int .i64 0], .arr 8 2⟩
  | 218 => some ⟨1, 8, [.int .u64 0], .int .u64⟩
  | 219 => some ⟨1, 4, [.int .u32 0], .int .u32⟩
  | 220 => some ⟨8, 32, [.int .u32 0, .int .u32 0, .int .u32 0, .int .u32 0, .int .u32 0, .int .u32 0, .int .u32 0, .int .u32 0], .arr 8 219⟩
  | 222 => some ⟨64, 256, List.replicate 64 (.int .u32 0), .arr 64 219⟩
  | 227 => some ⟨4, 40, [.nilp, .nilp, .nilp, .str ⟨#[]⟩], .struct [(0, 17), (1, 17), (2, 17), (3, 9)]⟩
  | 228 => some ⟨4, 40, [.nilp, .nilp, .nilp, .str ⟨#[]⟩], .struct [(0, 17), (1, 17), (2, 17), (3, 9)]⟩
  | 229 => some ⟨0, 0, [], .arr 0 16⟩
  | 230 => some ⟨0, 0, [], .struct [(0, 229)]⟩
  | 231 => some ⟨0, 0, [], .struct [(0, 229)]⟩
  | 233 => some ⟨1, 1, [.int .u8 0], .int .u8⟩
  | 234 => some ⟨1, 1, [.int .u8 0], .int .u8⟩
  | 236 => some ⟨1, 8, [.nilp], .ptr⟩
  | 237 => some ⟨1, 4, [.int .i32 0], .int .i32⟩
  | 238 => some ⟨1, 4, [.int .i32 0], .int .i32⟩
  | _ => none

theorem tyAt2 : tiOf Try.prog 2 = some ⟨1, 8, [.int .i64 0], .int .i64⟩ := by kernel_rfl
theorem tyAt3 : tiOf Try.prog 3 = some ⟨1, 8, [.int .i64 0], .int .i64⟩ := by kernel_rfl
theorem tyAt4 : tiOf Try.prog 4 = some ⟨1, 1, [.bool false], .bool⟩ := by kernel_rfl
theorem tyAt5 : tiOf Try.prog 5 = some ⟨1, 1, [.int .u8 0], .int .u8⟩ := by kernel_rfl
theorem tyAt6 : tiOf Try.prog 6 = some ⟨1, 1, [.int .u8 0], .int .u8⟩ := by kernel_rfl
theorem tyAt7 : tiOf Try.prog 7 = some ⟨4, 24, [.int .i64 0, .int .i64 0, .bool false, .int .u8 0], .struct [(0, 2), (1, 3), (2, 4), (3, 6)]⟩ := by kernel_rfl
theorem tyAt8 : tiOf Try.prog 8 = some ⟨4, 24, [.int .i64 0, .int .i64 0, .bool false, .int .u8 0], .struct [(0, 2), (1, 3), (2, 4), (3, 6)]⟩ := by kernel_rfl
theorem tyAt9 : tiOf Try.prog 9 = some ⟨1, 16, [.str ⟨#[]⟩], .str⟩ := by kernel_rfl
theorem tyAt10 : tiOf Try.prog 10 = some ⟨1, 16, [.str ⟨#[]⟩], .str⟩ := by kernel_rfl
theorem tyAt11 : tiOf Try.prog 11 = some ⟨1, 16, [.str ⟨#[]⟩], .str⟩ := by kernel_rfl
theorem tyAt12 : tiOf Try.prog 12 = some ⟨1, 8, [.int .u64 0], .int .u64⟩ := by kernel_rfl
theorem tyAt13 : tiOf Try.prog 13 = some ⟨2, 24, [.str ⟨#[]⟩, .int .u64 0], .struct [(0, 9), (1, 12)]⟩ := by kernel_rfl
theorem tyAt14 : tiOf Try.prog 14 = some ⟨2, 24, [.str ⟨#[]⟩, .int .u64 0], .struct [(0, 9), (1, 12)]⟩ := by kernel_rfl
theorem tyAt15 : tiOf Try.prog 15 = some ⟨1, 8, [.nilp], .ptr⟩ := by kernel_rfl
theorem tyAt16 : tiOf Try.prog 16 = some ⟨1, 8, [.nilp], .ptr⟩ := by kernel_rfl
theorem tyAt17 : tiOf Try.prog 17 = some ⟨1, 8, [.nilp], .ptr⟩ := by kernel_rfl
theorem tyAt18 : tiOf Try.prog 18 = some ⟨1, 8, [.nilp], .struct [(0, 17)]⟩ := by kernel_rfl
theorem tyAt19 : tiOf Try.prog 19 = some ⟨1, 8, [.nilp], .struct [(0, 17)]⟩ := by kernel_rfl
theorem tyAt21 : tiOf Try.prog 21 = some ⟨1, 4, [.int .i32 0], .int .i32⟩ := by kernel_rfl
theorem tyAt22 : tiOf Try.prog 22 = some ⟨1, 24, [.ls 0 true true []], .slice 5⟩ := by kernel_rfl
theorem tyAt24 : tiOf Try.prog 24 = some ⟨2, 48, [.ls 0 true true [], .ls 0 true true []], .struct [(0, 22), (1, 22)]⟩ := by kernel_rfl
theorem tyAt25 : tiOf Try.prog 25 = some ⟨2, 48, [.ls 0 true true [], .ls 0 true true []], .struct [(0, 22), (1, 22)]⟩ := by kernel_rfl
theorem tyAt26 : tiOf Try.prog 26 = some ⟨1, 24, [.ls 0 true true []], .slice 22⟩ := by kernel_rfl
theorem tyAt28 : tiOf Try.prog 28 = some ⟨3, 56, [.int .i64 0, .ls 0 true true [], .ls 0 true true []], .struct [(0, 2), (1, 25)]⟩ := by kernel_rfl
theorem tyAt29 : tiOf Try.prog 29 = some ⟨3, 56, [.int .i64 0, .ls 0 true true [], .ls 0 true true []], .struct [(0, 2), (1, 25)]⟩ := by kernel_rfl
theorem tyAt31 : tiOf Try.prog 31 = some ⟨2, 32, [.int .i64 0, .ls 0 true true []], .struct [(0, 2), (1, 22)]⟩ := by kernel_rfl
theorem tyAt32 : tiOf Try.prog 32 = some ⟨2, 32, [.int .i64 0, .ls 0 true true []], .struct [(0, 2), (1, 22)]⟩ := by kernel_rfl
theorem tyAt36 : tiOf Try.prog 36 = some ⟨3, 40, [.int .i64 0, .int .i64 0, .ls 0 true true []], .struct [(0, 2), (1, 2), (2, 26)]⟩ := by kernel_rfl
theorem tyAt37 : tiOf Try.prog 37 = some ⟨3, 40, [.int .i64 0, .int .i64 0, .ls 0 true true []], .struct [(0, 2), (1, 2), (2, 26)]⟩ := by kernel_rfl
theorem tyAt44 : tiOf Try.prog 44 = some ⟨2, 48, [.ls 0 true true [], .ls 0 true true []], .struct [(0, 22), (1, 22)]⟩ := by kernel_rfl
theorem tyAt54 : tiOf Try.prog 54 = some ⟨6, 80, [.ls 0 true true [], .int .i64 0, .int .i64 0, .int .i64 0, .ls 0 true true [], .int .i64 0], .struct [(0, 22), (1, 2), (2, 2), (3, 2), (4, 22), (5, 2)]⟩ := by kernel_rfl
theorem tyAt55 : tiOf Try.prog 55 = some ⟨6, 80, [.ls 0 true true [], .int .i64 0, .int .i64 0, .int .i64 0, .ls 0 true true [], .int .i64 0], .struct [(0, 22), (1, 2), (2, 2), (3, 2), (4, 22), (5, 2)]⟩ := by kernel_rfl
theorem tyAt57 : tiOf Try.prog 57 = some ⟨6, 80, [.ls 0 true true [], .int .i64 0, .int .i64 0, .int .i64 0, .ls 0 true true [], .int .i64 0], .struct [(0, 22), (1, 2), (2, 2), (3, 2), (4, 22), (5, 2)]⟩ := by kernel_rfl
theorem tyAt58 : tiOf Try.prog 58 = some ⟨7, 88, [.int .i64 0, .ls 0 true true [], .int .i64 0, .int .i64 0, .int .i64 0, .ls 0 true true [], .int .i64 0], .struct [(0, 2), (1, 57)]⟩ := by kernel_rfl
theorem tyAt59 : tiOf Try.prog 59 = some ⟨7, 88, [.int .i64 0, .ls 0 true true [], .int .i64 0, .int .i64 0, .int .i64 0, .ls 0 true true [], .int .i64 0], .struct [(0, 2), (1, 57)]⟩ := by kernel_rfl
theorem tyAt67 : tiOf Try.prog 67 = some ⟨3, 40, [.int .i64 0, .int .i64 0, .ls 0 true true []], .struct [(0, 2), (1, 2), (2, 26)]⟩ := by kernel_rfl
theorem tyAt68 : tiOf Try.prog 68 = some ⟨3, 40, [.int .i64 0, .int .i64 0, .ls 0 true true []], .struct [(0, 2), (1, 2), (2, 26)]⟩ := by kernel_rfl
theorem tyAt69 : tiOf Try.prog 69 = some ⟨5, 72, [.int .i64 0, .ls 0 true true [], .int .i64 0, .int .i64 0, .ls 0 true true []], .struct [(0, 2), (1, 26), (2, 68)]⟩ := by kernel_rfl
theorem tyAt70 : tiOf Try.prog 70 = some ⟨5, 72, [.int .i64 0, .ls 0 true true [], .int .i64 0, .int .i64 0, .ls 0 true true []], .struct [(0, 2), (1, 26), (2, 68)]⟩ := by kernel_rfl
theorem tyAt73 : tiOf Try.prog 73 = some ⟨3, 40, [.int .i64 0, .int .i64 0, .ls 0 true true []], .struct [(0, 2), (1, 2), (2, 26)]⟩ := by kernel_rfl
theorem tyAt74 : tiOf Try.prog 74 = some ⟨5, 72, [.int .i64 0, .ls 0 true true [], .int .i64 0, .int .i64 0, .ls 0 true true []], .struct [(0, 2), (1, 26), (2, 73)]⟩ := by kernel_rfl
theorem tyAt75 : tiOf Try.prog 75 = some ⟨5, 72, [.int .i64 0, .ls 0 true true [], .int .i64 0, .int .i64 0, .ls 0 true true []], .struct [(0, 2), (1, 26), (2, 73)]⟩ := by kernel_rfl
theorem tyAt81 : tiOf Try.prog 81 = some ⟨6, 80, [.int .i64 0, .int .i64 0, .ls 0 true true [], .int .i64 0, .int .i64 0, .ls 0 true true []], .struct [(0, 2), (1, 75)]⟩ := by kernel_rfl
theorem tyAt82 : tiOf Try.prog 82 = some ⟨6, 80, [.int .i64 0, .int .i64 0, .ls 0 true true [], .int .i64 0, .int .i64 0, .ls 0 true true []], .struct [(0, 2), (1, 75)]⟩ := by kernel_rfl
theorem tyAt86 : tiOf Try.prog 86 = some ⟨5, 88, [.int .i64 0, .int .i64 0, .ls 0 true true [], .ls 0 true true [], .ls 0 true true []], .struct [(0, 2), (1, 2), (2, 22), (3, 22), (4, 22)]⟩ := by kernel_rfl
theorem tyAt87 : tiOf Try.prog 87 = some ⟨5, 88, [.int .i64 0, .int .i64 0, .ls 0 true true [], .ls 0 true true [], .ls 0 true true []], .struct [(0, 2), (1, 2), (2, 22), (3, 22), (4, 22)]⟩ := by kernel_rfl
theorem tyAt88 : tiOf Try.prog 88 = some ⟨1, 24, [.ls 0 true true []], .slice 201⟩ := by kernel_rfl
theorem tyAt89 : tiOf Try.prog 89 = some ⟨10, 160, [.int .i64 0, .int .i64 0, .ls 0 true true [], .ls 0 true true [], .ls 0 true true [], .ls 0 true true [], .int .i64 0, .bool false, .ls 0 true true [], .int .i64 0], .struct [(0, 87), (5, 88), (6, 2), (7, 4), (8, 26), (9, 2)]⟩ := by kernel_rfl
theorem tyAt90 : tiOf Try.prog 90 = some ⟨10, 160, [.int .i64 0, .int .i64 0, .ls 0 true true [], .ls 0 true true [], .ls 0 true true [], .ls 0 true true [], .int .i64 0, .bool false, .ls 0 true true [], .int .i64 0], .struct [(0, 87), (5, 88), (6, 2), (7, 4), (8, 26), (9, 2)]⟩ := by kernel_rfl
theorem tyAt93 : tiOf Try.prog 93 = some ⟨5, 88, [.int .i64 0, .int .i64 0, .ls 0 true true [], .ls 0 true true [], .ls 0 true true []], .struct [(0, 2), (1, 2), (2, 22), (3, 22), (4, 22)]⟩ := by kernel_rfl
theorem tyAt94 : tiOf Try.prog 94 = some ⟨1, 24, [.ls 0 true true []], .slice 202⟩ := by kernel_rfl
theorem tyAt95 : tiOf Try.prog 95 = some ⟨10, 160, [.int .i64 0, .int .i64 0, .ls 0 true true [], .ls 0 true true [], .ls 0 true true [], .ls 0 true true [], .int .i64 0, .bool false, .ls 0 true true [], .int .i64 0], .struct [(0, 93), (5, 94), (6, 2), (7, 4), (8, 26), (9, 2)]⟩ := by kernel_rfl
theorem tyAt96 : tiOf Try.prog 96 = some ⟨10, 160, [.int .i64 0, .int .i64 0, .ls 0 true true [], .ls 0 true true [], .ls 0 true true [], .ls 0 true true [], .int .i64 0, .bool false, .ls 0 true true [], .int .i64 0], .struct [(0, 93), (5, 94), (6, 2), (7, 4), (8, 26), (9, 2)]⟩ := by kernel_rfl
theorem tyAt111 : tiOf Try.prog 111 = some ⟨1, 8, [.nilp], .ptr⟩ := by kernel_rfl
theorem tyAt127 : tiOf Try.prog 127 = some ⟨2, 16, [.int .i64 0, .int .i64 0], .struct [(0, 2), (1, 2)]⟩ := by kernel_rfl
theorem tyAt128 : tiOf Try.prog 128 = some ⟨2, 16, [.int .i64 0, .int .i64 0], .struct [(0, 2), (1, 2)]⟩ := by kernel_rfl
theorem tyAt137 : tiOf Try.prog 137 = some ⟨1, 24, [.ls 0 true true []], .slice 2⟩ := by kernel_rfl
theorem tyAt153 : tiOf Try.prog 153 = some ⟨3, 40, [.int .i64 0, .int .i64 0, .ls 0 true true []], .struct [(0, 2), (1, 2), (2, 26)]⟩ := by kernel_rfl
theorem tyAt154 : tiOf Try.prog 154 = some ⟨3, 40, [.int .i64 0, .int .i64 0, .ls 0 true true []], .struct [(0, 2), (1, 2), (2, 26)]⟩ := by kernel_rfl
theorem tyAt167 : tiOf Try.prog 167 = some ⟨1, 8, [.nilp], .ptr⟩ := by kernel_rfl
theorem tyAt174 : tiOf Try.prog 174 = some ⟨2, 32, [.ls 0 true true [], .int .i64 0], .struct [(0, 22), (1, 2)]⟩ := by kernel_rfl
theorem tyAt175 : tiOf Try.prog 175 = some ⟨2, 32, [.ls 0 true true [], .int .i64 0], .struct [(0, 22), (1, 2)]⟩ := by kernel_rfl
theorem tyAt179 : tiOf Try.prog 179 = some ⟨1, 8, [.nilp], .ptr⟩ := by kernel_rfl
theorem tyAt186 : tiOf Try.prog 186 = some ⟨1, 8, [.int .u64 0], .int .u64⟩ := by kernel_rfl
theorem tyAt187 : tiOf Try.prog 187 = some ⟨1, 24, [.ls 0 true true []], .slice 4⟩ := by kernel_rfl
theorem tyAt197 : tiOf Try.prog 197 = some ⟨1, 24, [.ls 0 true true []], .slice 26⟩ := by kernel_rfl
theorem tyAt200 : tiOf Try.prog 200 = some ⟨2, 32, [.ls 0 true true [], .int .i64 0], .struct [(0, 22), (1, 2)]⟩ := by kernel_rfl
theorem tyAt201 : tiOf Try.prog 201 = some ⟨2, 32, [.ls 0 true true [], .int .i64 0], .struct [(0, 22), (1, 2)]⟩ := by kernel_rfl
theorem tyAt202 : tiOf Try.prog 202 = some ⟨2, 32, [.ls 0 true true [], .int .i64 0], .struct [(0, 22), (1, 2)]⟩ := by kernel_rfl
theorem tyAt208 : tiOf Try.prog 208 = some ⟨64, 512, List.replicate 64 (.int .i64 0), .arr 64 2⟩ := by kernel_rfl
theorem tyAt210 : tiOf Try.prog 210 = some ⟨8, 64, [.int .i64 0, .int .i64 0, .int .i64 0, .int .i64 0, .int .i64 0, .int .i64 0, .int .i64 0, .int .i64 0], .arr 8 2⟩ := by kernel_rfl
theorem tyAt218 : tiOf Try.prog 218 = some ⟨1, 8, [.int .u64 0], .int .u64⟩ := by kernel_rfl
theorem tyAt219 : tiOf Try.prog 219 = some ⟨1, 4, [.int .u32 0], .int .u32⟩ := by kernel_rfl
theorem tyAt220 : tiOf Try.prog 220 = some ⟨8, 32, [.int .u32 0, .int .u32 0, .int .u32 0, .int .u32 0, .int .u32 0, .int .u32 0, .int .u32 0, .int .u32 0], .arr 8 219⟩ := by kernel_rfl
theorem tyAt222 : tiOf Try.prog 222 = some ⟨64, 256, List.replicate 64 (.int .u32 0), .arr 64 219⟩ := by kernel_rfl
theorem tyAt227 : tiOf Try.prog 227 = some ⟨4, 40, [.nilp, .nilp, .nilp, .str ⟨#[]⟩], .struct [(0, 17), (1, 17), (2, 17), (3, 9)]⟩ := by kernel_rfl
theorem tyAt228 : tiOf Try.prog 228 = some ⟨4, 40, [.nilp, .nilp, .nilp, .str ⟨#[]⟩], .struct [(0, 17), (1, 17), (2, 17), (3, 9)]⟩ := by kernel_rfl
theorem tyAt229 : tiOf Try.prog 229 = some ⟨0, 0, [], .arr 0 16⟩ := by kernel_rfl
theorem tyAt230 : tiOf Try.prog 230 = some ⟨0, 0, [], .struct [(0, 229)]⟩ := by kernel_rfl
theorem tyAt231 : tiOf Try.prog 231 = some ⟨0, 0, [], .struct [(0, 229)]⟩ := by kernel_rfl
theorem tyAt233 : tiOf Try.prog 233 = some ⟨1, 1, [.int .u8 0], .int .u8⟩ := by kernel_rfl
theorem tyAt234 : tiOf Try.prog 234 = some ⟨1, 1, [.int .u8 0], .int .u8⟩ := by kernel_rfl
theorem tyAt236 : tiOf Try.prog 236 = some ⟨1, 8, [.nilp], .ptr⟩ := by kernel_rfl
theorem tyAt237 : tiOf Try.prog 237 = some ⟨1, 4, [.int .i32 0], .int .i32⟩ := by kernel_rfl
theorem tyAt238 : tiOf Try.prog 238 = some ⟨1, 4, [.int .i32 0], .int .i32⟩ := by kernel_rfl

theorem tyOk : TyOk Try.prog ty := by
  intro t i h
  unfold ty at h
  split at h
  · obtain rfl := Option.some.inj h; exact tyAt2
  · obtain rfl := Option.some.inj h; exact tyAt3
  · obtain rfl := Option.some.inj h; exact tyAt4
  · obtain rfl := Option.some.inj h; exact tyAt5
  · obtain rfl := Option.some.inj h; exact tyAt6
  · obtain rfl := Option.some.inj h; exact tyAt7
  · obtain rfl := Option.some.inj h; exact tyAt8
  · obtain rfl := Option.some.inj h; exact tyAt9
  · obtain rfl := Option.some.inj h; exact tyAt10
  · obtain rfl := Option.some.inj h; exact tyAt11
  · obtain rfl := Option.some.inj h; exact tyAt12
  · obtain rfl := Option.some.inj h; exact tyAt13
  · obtain rfl := Option.some.inj h; exact tyAt14
  · obtain rfl := Option.some.inj h; exact tyAt15
  · obtain rfl := Option.some.inj h; exact tyAt16
  · obtain rfl := Option.some.inj h; exact tyAt17
  · obtain rfl := Option.some.inj h; exact tyAt18
  · obtain rfl := Option.some.inj h; exact tyAt19
  · obtain rfl := Option.some.inj h; exact tyAt21
  · obtain rfl := Option.some.inj h; exact tyAt22
  · obtain rfl := Option.some.inj h; exact tyAt24
  · obtain rfl := Option.some.inj h; exact tyAt25
  · obtain rfl := Option.some.inj h; exact tyAt26
  · obtain rfl := Option.some.inj h; exact tyAt28
  · obtain rfl := Option.some.inj h; exact tyAt29
  · obtain rfl := Option.some.inj h; exact tyAt31
  · obtain rfl := Option.some.inj h; exact tyAt32
  · obtain rfl := Option.some.inj h; exact tyAt36
  · obtain rfl := Option.some.inj h; exact tyAt37
  · obtain rfl := Option.some.inj h; exact tyAt44
  · obtain rfl := Option.some.inj h; exact tyAt54
  · obtain rfl := Option.some.inj h; exact tyAt55
  · obtain rfl := Option.some.inj h; exact tyAt57
  · obtain rfl := Option.some.inj h; exact tyAt58
  · obtain rfl := Option.some.inj h; exact tyAt59
  · obtain rfl := Option.some.inj h; exact tyAt67
  · obtain rfl := Option.some.inj h; exact tyAt68
  · obtain rfl := Option.some.inj h; exact tyAt69
  · obtain rfl := Option.some.inj h; exact tyAt70
  · obtain rfl := Option.some.inj h; exact tyAt73
  · obtain rfl := Option.some.inj h; exact tyAt74
  · obtain rfl := Option.some.inj h; exact tyAt75
  · obtain rfl := Option.some.inj h; exact tyAt81
  · obtain rfl := Option.some.inj h; exact tyAt82
  · obtain rfl := Option.some.inj h; exact tyAt86
  · obtain rfl := Option.some.inj h; exact tyAt87
  · obtain rfl := Option.some.inj h; exact tyAt88
  · obtain rfl := Option.some.inj h; exact tyAt89
  · obtain rfl := Option.some.inj h; exact tyAt90
  · obtain rfl := Option.some.inj h; exact tyAt93
  · obtain rfl := Option.some.inj h; exact tyAt94
  · obtain rfl := Option.some.inj h; exact tyAt95
  · obtain rfl := Option.some.inj h; exact tyAt96
  · obtain rfl := Option.some.inj h; exact tyAt111
  · obtain rfl := Option.some.inj h; exact tyAt127
  · obtain rfl := Option.some.inj h; exact tyAt128
  · obtain rfl := Option.some.inj h; exact tyAt137
  · obtain rfl := Option.some.inj h; exact tyAt153
  · obtain rfl := Option.some.inj h; exact tyAt154
  · obtain rfl := Option.some.inj h; exact tyAt167
  · obtain rfl := Option.some.inj h; exact tyAt174
  · obtain rfl := Option.some.inj h; exact tyAt175
  · obtain rfl := Option.some.inj h; exact tyAt179
  · obtain rfl := Option.some.inj h; exact tyAt186
  · obtain rfl := Option.some.inj h; exact tyAt187
  · obtain rfl := Option.some.inj h; exact tyAt197
  · obtain rfl := Option.some.inj h; exact tyAt200
  · obtain rfl := Option.some.inj h; exact tyAt201
  · obtain rfl := Option.some.inj h; exact tyAt202
  · obtain rfl := Option.some.inj h; exact tyAt208
  · obtain rfl := Option.some.inj h; exact tyAt210
  · obtain rfl := Option.some.inj h; exact tyAt218
  · obtain rfl := Option.some.inj h; exact tyAt219
  · obtain rfl := Option.some.inj h; exact tyAt220
  · obtain rfl := Option.some.inj h; exact tyAt222
  · obtain rfl := Option.some.inj h; exact tyAt227
  · obtain rfl := Option.some.inj h; exact tyAt228
  · obtain rfl := Option.some.inj h; exact tyAt229
  · obtain rfl := Option.some.inj h; exact tyAt230
  · obtain rfl := Option.some.inj h; exact tyAt231
  · obtain rfl := Option.some.inj h; exact tyAt233
  · obtain rfl := Option.some.inj h; exact tyAt234
  · obtain rfl := Option.some.inj h; exact tyAt236
  · obtain rfl := Option.some.inj h; exact tyAt237
  · obtain rfl := Option.some.inj h; exact tyAt238
  · cases h

end Go.Proofs.Ythfikpgbddpmoaa
