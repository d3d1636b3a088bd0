import Derived.Test.YtmaginepopldnaaGh
import Derived.Test.YtmaginepopldnaaProg
import Derived.KernelRfl
/- The types of this seat's program that the proofs ask for. -/
namespace Go.Proofs.Ytmaginepopldnaa
open Go.Av
def ty : TypeId → Option TI
  | 2 => some ⟨1, 8, [.int .i64 0], .int .i64⟩
  | 3 => some ⟨1, 8, [.int .i64 0], .int .i64⟩
  | 4 => some ⟨1, 1, [.bool false], .bool⟩
  | 5 => some ⟨1, 1, [.int .u8 0], .int .u8⟩
  | 6 => some ⟨1, 1, [.int .u8 0], .int .u8⟩
  | 7 => some ⟨4, 24, [.int .i64 0, .int .i64 0, .bool false, .int .u8 0], .struct [(0, 2), (1, 3), (2, 4), (3, 6)]⟩
  | 8 => some ⟨4, 24, [.int .i64 0, .int .i64 0, .bool false, .int .u8 0], .struct [(0, 2), (1, 3), (2, 4), (3, 6)]⟩
  | 9 => some ⟨1, 16, [.str ⟨#[]⟩], .str⟩
  | 10 => some ⟨1, 16, [.str ⟨#[]⟩], .str⟩
  | 11 => some ⟨1, 16, [.str ⟨#[]⟩], .str⟩
  | 12 => some ⟨1, 8, [.int .u64 0], .int .u64⟩
  | 13 => some ⟨2, 24, [.str ⟨#[]⟩, .int .u64 0], .struct [(0, 9), (1, 12)]⟩
  | 14 => some ⟨2, 24, [.str ⟨#[]⟩, .int .u64 0], .struct [(0, 9), (1, 12)]⟩
  | 15 => some ⟨1, 8, [.nilp], .ptr⟩
  | 16 => some ⟨1, 8, [.nilp], .ptr⟩
  | 17 => some ⟨1, 8, [.nilp], .ptr⟩
  | 18 => some ⟨1, 8, [.nilp], .struct [(0, 17)]⟩
  | 19 => some ⟨1, 8, [.nilp], .struct [(0, 17)]⟩
  | 21 => some ⟨1, 4, [.int .i32 0], .int .i32⟩
  | 22 => some ⟨1, 24, [.ls 0 true true []], .slice 2⟩
  | 23 => some ⟨7, 72, [.int .i64 0, .int .i64 0, .int .i64 0, .int .i64 0, .ls 0 true true [], .int .i64 0, .bool false], .struct [(0, 2), (1, 2), (2, 2), (3, 2), (4, 22), (5, 2), (6, 4)]⟩
  | 24 => some ⟨7, 72, [.int .i64 0, .int .i64 0, .int .i64 0, .int .i64 0, .ls 0 true true [], .int .i64 0, .bool false], .struct [(0, 2), (1, 2), (2, 2), (3, 2), (4, 22), (5, 2), (6, 4)]⟩
  | 26 => some ⟨7, 72, [.int .i64 0, .int .i64 0, .int .i64 0, .int .i64 0, .ls 0 true true [], .int .i64 0, .bool false], .struct [(0, 2), (1, 2), (2, 2), (3, 2), (4, 22), (5, 2), (6, 4)]⟩
  | 27 => some ⟨4, 40, [.int .i64 0, .int .i64 0, .int .i64 0, .str ⟨#[]⟩], .struct [(0, 2), (1, 2), (2, 2), (3, 9)]⟩
  | 28 => some ⟨4, 40, [.int .i64 0, .int .i64 0, .int .i64 0, .str ⟨#[]⟩], .struct [(0, 2), (1, 2), (2, 2), (3, 9)]⟩
  | 29 => some ⟨12, 120, [.int .i64 0, .int .i64 0, .int .i64 0, .int .i64 0, .int .i64 0, .ls 0 true true [], .int .i64 0, .bool false, .int .i64 0, .int .i64 0, .int .i64 0, .str ⟨#[]⟩], .struct [(0, 2), (1, 26), (8, 28)]⟩
  | 30 => some ⟨12, 120, [.int .i64 0, .int .i64 0, .int .i64 0, .int .i64 0, .int .i64 0, .ls 0 true true [], .int .i64 0, .bool false, .int .i64 0, .int .i64 0, .int .i64 0, .str ⟨#[]⟩], .struct [(0, 2), (1, 26), (8, 28)]⟩
  | 38 => some ⟨1, 24, [.ls 0 true true []], .slice 135⟩
  | 39 => some ⟨2, 32, [.int .i64 0, .ls 0 true true []], .struct [(0, 2), (1, 38)]⟩
  | 40 => some ⟨2, 32, [.int .i64 0, .ls 0 true true []], .struct [(0, 2), (1, 38)]⟩
  | 42 => some ⟨1, 24, [.ls 0 true true []], .slice 71⟩
  | 43 => some ⟨2, 32, [.int .i64 0, .ls 0 true true []], .struct [(0, 2), (1, 42)]⟩
  | 44 => some ⟨2, 32, [.int .i64 0, .ls 0 true true []], .struct [(0, 2), (1, 42)]⟩
  | 45 => some ⟨3, 40, [.int .i64 0, .int .i64 0, .ls 0 true true []], .struct [(0, 2), (1, 44)]⟩
  | 46 => some ⟨3, 40, [.int .i64 0, .int .i64 0, .ls 0 true true []], .struct [(0, 2), (1, 44)]⟩
  | 54 => some ⟨1, 24, [.ls 0 true true []], .slice 5⟩
  | 55 => some ⟨2, 32, [.int .i64 0, .ls 0 true true []], .struct [(0, 2), (1, 54)]⟩
  | 56 => some ⟨2, 32, [.int .i64 0, .ls 0 true true []], .struct [(0, 2), (1, 54)]⟩
  | 70 => some ⟨3, 24, [.int .i64 0, .int .i64 0, .int .i64 0], .struct [(0, 2), (1, 2), (2, 2)]⟩
  | 71 => some ⟨3, 24, [.int .i64 0, .int .i64 0, .int .i64 0], .struct [(0, 2), (1, 2), (2, 2)]⟩
  | 73 => some ⟨1, 24, [.ls 0 true true []], .slice 54⟩
  | 74 => some ⟨3, 40, [.int .i64 0, .int .i64 0, .ls 0 true true []], .struct [(0, 2), (1, 2), (2, 73)]⟩
  | 75 => some ⟨3, 40, [.int .i64 0, .int .i64 0, .ls 0 true true []], .struct [(0, 2), (1, 2), (2, 73)]⟩
  | 79 => some ⟨2, 48, [.ls 0 true true [], .ls 0 true true []], .struct [(0, 54), (1, 54)]⟩
  | 80 => some ⟨2, 48, [.ls 0 true true [], .ls 0 true true []], .struct [(0, 54), (1, 54)]⟩
  | 82 => some ⟨2, 48, [.ls 0 true true [], .ls 0 true true []], .struct [(0, 54), (1, 54)]⟩
  | 83 => some ⟨3, 56, [.int .i64 0, .ls 0 true true [], .ls 0 true true []], .struct [(0, 2), (1, 82)]⟩
  | 84 => some ⟨3, 56, [.int .i64 0, .ls 0 true true [], .ls 0 true true []], .struct [(0, 2), (1, 82)]⟩
  | 102 => some ⟨1, 8, [.nilp], .ptr⟩
  | 111 => some ⟨1, 8, [.nilp], .ptr⟩
  | 128 => some ⟨1, 8, [.nilp], .ptr⟩
  | 132 => some ⟨1, 8, [.nilp], .ptr⟩
  | 135 => some ⟨3, 24, [.int .i64 0, .int .i64 0, .int .i64 0], .struct [(0, 2), (1, 2), (2, 2)]⟩
  | 143 => some ⟨1, 8, [.int .u64 0], .int .u64⟩
  | 144 => some ⟨1, 8, [.nilp], .ptr⟩
  | 145 => some ⟨2, 32, [.ls 0 true true [], .int .i64 0], .struct [(0, 54), (1, 2)]⟩
  | 146 => some ⟨2, 32, [.ls 0 true true [], .int .i64 0], .struct [(0, 54), (1, 2)]⟩
  | 153 => some ⟨2, 16, [.int .i64 0, .int .i64 0], .struct [(0, 2), (1, 2)]⟩
  | 154 => some ⟨2, 16, [.int .i64 0, .int .i64 0], .struct [(0, 2), (1, 2)]⟩
  | 157 => some ⟨64, 512, List.replicate 64 (.int .i64 0), .arr 64 2⟩
  | 159 => some ⟨8, 64, [.int .i64 0, .int .i64 0, .int .i64 0, .int .i64 0, .int .i64 0, .int .i64 0, .int .i64 0, .int .i64 0], .arr 8 2⟩
  | 163 => some ⟨1, 8, [.int .u64 0], .int .u64⟩
  | 164 => some ⟨1, 4, [.int .u32 0], .int .u32⟩
  | 165 => some ⟨8, 32, [.int .u32 0, .int .u32 0, .int .u32 0, .int .u32 0, .int .u32 0, .int .u32 0, .int .u32 0, .int .u32 0], .arr 8 164⟩
  | 167 => some ⟨64, 256, List.replicate 64 (.int .u32 0), .arr 64 164⟩
  | 172 => some ⟨4, 40, [.nilp, .nilp, .nilp, .str ⟨#[]⟩], .struct [(0, 17), (1, 17), (2, 17), (3, 9)]⟩
  | 173 => some ⟨4, 40, [.nilp, .nilp, .nilp, .str ⟨#[]⟩], .struct [(0, 17), (1, 17), (2, 17), (3, 9)]⟩
  | 174 => some ⟨0, 0, [], .arr 0 16⟩
  | 175 => some ⟨0, 0, [], .struct [(0, 174)]⟩
  | 176 => some ⟨0, 0, [], .struct [(0, 174)]⟩
  | 178 => some ⟨1, 1, [.int .u8 0], .int .u8⟩
  | 179 => some ⟨1, 1, [.int .u8 0], .int .u8⟩
  | 181 => some ⟨1, 8, [.nilp], .ptr⟩
  | 182 => some ⟨1, 4, [.int .i32 0], .int .i32⟩
  | 183 => some ⟨1, 4, [.int .i32 0], .int .i32⟩
  | _ => none

theorem tyAt2 : tiOf Try.prog 2 = some ⟨1, 8, [.int .i64 0], .int .i64⟩ := by kernel_rfl
theorem tyAt3 : tiOf Try.prog 3 = some ⟨1, 8, [.int .i64 0], .int .i64⟩ := by kernel_rfl
theorem tyAt4 : tiOf Try.prog 4 = some ⟨1, 1, [.bool false], .bool⟩ := by kernel_rfl
theorem tyAt5 : tiOf Try.prog 5 = some ⟨1, 1, [.int .u8 0], .int .u8⟩ := by kernel_rfl
theorem tyAt6 : tiOf Try.prog 6 = some ⟨1, 1, [.int .u8 0], .int .u8⟩ := by kernel_rfl
theorem tyAt7 : tiOf Try.prog 7 = some ⟨4, 24, [.int .i64 0, .int .i64 0, .bool false, .int .u8 0], .struct [(0, 2), (1, 3), (2, 4), (3, 6)]⟩ := by kernel_rfl
theorem tyAt8 : tiOf Try.prog 8 = some ⟨4, 24, [.int .i64 0, .int .i64 0, .bool false, .int .u8 0], .struct [(0, 2), (1, 3), (2, 4), (3, 6)]⟩ := by kernel_rfl
theorem tyAt9 : tiOf Try.prog 9 = some ⟨1, 16, [.str ⟨#[]⟩], .str⟩ := by kernel_rfl
theorem tyAt10 : tiOf Try.prog 10 = some ⟨1, 16, [.str ⟨#[]⟩], .str⟩ := by kernel_rfl
theorem tyAt11 : tiOf Try.prog 11 = some ⟨1, 16, [.str ⟨#[]⟩], .str⟩ := by kernel_rfl
theorem tyAt12 : tiOf Try.prog 12 = some ⟨1, 8, [.int .u64 0], .int .u64⟩ := by kernel_rfl
theorem tyAt13 : tiOf Try.prog 13 = some ⟨2, 24, [.str ⟨#[]⟩, .int .u64 0], .struct [(0, 9), (1, 12)]⟩ := by kernel_rfl
theorem tyAt14 : tiOf Try.prog 14 = some ⟨2, 24, [.str ⟨#[]⟩, .int .u64 0], .struct [(0, 9), (1, 12)]⟩ := by kernel_rfl
theorem tyAt15 : tiOf Try.prog 15 = some ⟨1, 8, [.nilp], .ptr⟩ := by kernel_rfl
theorem tyAt16 : tiOf Try.prog 16 = some ⟨1, 8, [.nilp], .ptr⟩ := by kernel_rfl
theorem tyAt17 : tiOf Try.prog 17 = some ⟨1, 8, [.nilp], .ptr⟩ := by kernel_rfl
theorem tyAt18 : tiOf Try.prog 18 = some ⟨1, 8, [.nilp], .struct [(0, 17)]⟩ := by kernel_rfl
theorem tyAt19 : tiOf Try.prog 19 = some ⟨1, 8, [.nilp], .struct [(0, 17)]⟩ := by kernel_rfl
theorem tyAt21 : tiOf Try.prog 21 = some ⟨1, 4, [.int .i32 0], .int .i32⟩ := by kernel_rfl
theorem tyAt22 : tiOf Try.prog 22 = some ⟨1, 24, [.ls 0 true true []], .slice 2⟩ := by kernel_rfl
theorem tyAt23 : tiOf Try.prog 23 = some ⟨7, 72, [.int .i64 0, .int .i64 0, .int .i64 0, .int .i64 0, .ls 0 true true [], .int .i64 0, .bool false], .struct [(0, 2), (1, 2), (2, 2), (3, 2), (4, 22), (5, 2), (6, 4)]⟩ := by kernel_rfl
theorem tyAt24 : tiOf Try.prog 24 = some ⟨7, 72, [.int .i64 0, .int .i64 0, .int .i64 0, .int .i64 0, .ls 0 true true [], .int .i64 0, .bool false], .struct [(0, 2), (1, 2), (2, 2), (3, 2), (4, 22), (5, 2), (6, 4)]⟩ := by kernel_rfl
theorem tyAt26 : tiOf Try.prog 26 = some ⟨7, 72, [.int .i64 0, .int .i64 0, .int .i64 0, .int .i64 0, .ls 0 true true [], .int .i64 0, .bool false], .struct [(0, 2), (1, 2), (2, 2), (3, 2), (4, 22), (5, 2), (6, 4)]⟩ := by kernel_rfl
theorem tyAt27 : tiOf Try.prog 27 = some ⟨4, 40, [.int .i64 0, .int .i64 0, .int .i64 0, .str ⟨#[]⟩], .struct [(0, 2), (1, 2), (2, 2), (3, 9)]⟩ := by kernel_rfl
theorem tyAt28 : tiOf Try.prog 28 = some ⟨4, 40, [.int .i64 0, .int .i64 0, .int .i64 0, .str ⟨#[]⟩], .struct [(0, 2), (1, 2), (2, 2), (3, 9)]⟩ := by kernel_rfl
theorem tyAt29 : tiOf Try.prog 29 = some ⟨12, 120, [.int .i64 0, .int .i64 0, .int .i64 0, .int .i64 0, .int .i64 0, .ls 0 true true [], .int .i64 0, .bool false, .int .i64 0, .int .i64 0, .int .i64 0, .str ⟨#[]⟩], .struct [(0, 2), (1, 26), (8, 28)]⟩ := by kernel_rfl
theorem tyAt30 : tiOf Try.prog 30 = some ⟨12, 120, [.int .i64 0, .int .i64 0, .int .i64 0, .int .i64 0, .int .i64 0, .ls 0 true true [], .int .i64 0, .bool false, .int .i64 0, .int .i64 0, .int .i64 0, .str ⟨#[]⟩], .struct [(0, 2), (1, 26), (8, 28)]⟩ := by kernel_rfl
theorem tyAt38 : tiOf Try.prog 38 = some ⟨1, 24, [.ls 0 true true []], .slice 135⟩ := by kernel_rfl
theorem tyAt39 : tiOf Try.prog 39 = some ⟨2, 32, [.int .i64 0, .ls 0 true true []], .struct [(0, 2), (1, 38)]⟩ := by kernel_rfl
theorem tyAt40 : tiOf Try.prog 40 = some ⟨2, 32, [.int .i64 0, .ls 0 true true []], .struct [(0, 2), (1, 38)]⟩ := by kernel_rfl
theorem tyAt42 : tiOf Try.prog 42 = some ⟨1, 24, [.ls 0 true true []], .slice 71⟩ := by kernel_rfl
theorem tyAt43 : tiOf Try.prog 43 = some ⟨2, 32, [.int .i64 0, .ls 0 true true []], .struct [(0, 2), (1, 42)]⟩ := by kernel_rfl
theorem tyAt44 : tiOf Try.prog 44 = some ⟨2, 32, [.int .i64 0, .ls 0 true true []], .struct [(0, 2), (1, 42)]⟩ := by kernel_rfl
theorem tyAt45 : tiOf Try.prog 45 = some ⟨3, 40, [.int .i64 0, .int .i64 0, .ls 0 true true []], .struct [(0, 2), (1, 44)]⟩ := by kernel_rfl
theorem tyAt46 : tiOf Try.prog 46 = some ⟨3, 40, [.int .i64 0, .int .i64 0, .ls 0 true true []], .struct [(0, 2), (1, 44)]⟩ := by kernel_rfl
theorem tyAt54 : tiOf Try.prog 54 = some ⟨1, 24, [.ls 0 true true []], .slice 5⟩ := by kernel_rfl
theorem tyAt55 : tiOf Try.prog 55 = some ⟨2, 32, [.int .i64 0, .ls 0 true true []], .struct [(0, 2), (1, 54)]⟩ := by kernel_rfl
theorem tyAt56 : tiOf Try.prog 56 = some ⟨2, 32, [.int .i64 0, .ls 0 true true []], .struct [(0, 2), (1, 54)]⟩ := by kernel_rfl
theorem tyAt70 : tiOf Try.prog 70 = some ⟨3, 24, [.int .i64 0, .int .i64 0, .int .i64 0], .struct [(0, 2), (1, 2), (2, 2)]⟩ := by kernel_rfl
theorem tyAt71 : tiOf Try.prog 71 = some ⟨3, 24, [.int .i64 0, .int .i64 0, .int .i64 0], .struct [(0, 2), (1, 2), (2, 2)]⟩ := by kernel_rfl
theorem tyAt73 : tiOf Try.prog 73 = some ⟨1, 24, [.ls 0 true true []], .slice 54⟩ := by kernel_rfl
theorem tyAt74 : tiOf Try.prog 74 = some ⟨3, 40, [.int .i64 0, .int .i64 0, .ls 0 true true []], .struct [(0, 2), (1, 2), (2, 73)]⟩ := by kernel_rfl
theorem tyAt75 : tiOf Try.prog 75 = some ⟨3, 40, [.int .i64 0, .int .i64 0, .ls 0 true true []], .struct [(0, 2), (1, 2), (2, 73)]⟩ := by kernel_rfl
theorem tyAt79 : tiOf Try.prog 79 = some ⟨2, 48, [.ls 0 true true [], .ls 0 true true []], .struct [(0, 54), (1, 54)]⟩ := by kernel_rfl
theorem tyAt80 : tiOf Try.prog 80 = some ⟨2, 48, [.ls 0 true true [], .ls 0 true true []], .struct [(0, 54), (1, 54)]⟩ := by kernel_rfl
theorem tyAt82 : tiOf Try.prog 82 = some ⟨2, 48, [.ls 0 true true [], .ls 0 true true []], .struct [(0, 54), (1, 54)]⟩ := by kernel_rfl
theorem tyAt83 : tiOf Try.prog 83 = some ⟨3, 56, [.int .i64 0, .ls 0 true true [], .ls 0 true true []], .struct [(0, 2), (1, 82)]⟩ := by kernel_rfl
theorem tyAt84 : tiOf Try.prog 84 = some ⟨3, 56, [.int .i64 0, .ls 0 true true [], .ls 0 true true []], .struct [(0, 2), (1, 82)]⟩ := by kernel_rfl
theorem tyAt102 : tiOf Try.prog 102 = some ⟨1, 8, [.nilp], .ptr⟩ := by kernel_rfl
theorem tyAt111 : tiOf Try.prog 111 = some ⟨1, 8, [.nilp], .ptr⟩ := by kernel_rfl
theorem tyAt128 : tiOf Try.prog 128 = some ⟨1, 8, [.nilp], .ptr⟩ := by kernel_rfl
theorem tyAt132 : tiOf Try.prog 132 = some ⟨1, 8, [.nilp], .ptr⟩ := by kernel_rfl
theorem tyAt135 : tiOf Try.prog 135 = some ⟨3, 24, [.int .i64 0, .int .i64 0, .int .i64 0], .struct [(0, 2), (1, 2), (2, 2)]⟩ := by kernel_rfl
theorem tyAt143 : tiOf Try.prog 143 = some ⟨1, 8, [.int .u64 0], .int .u64⟩ := by kernel_rfl
theorem tyAt144 : tiOf Try.prog 144 = some ⟨1, 8, [.nilp], .ptr⟩ := by kernel_rfl
theorem tyAt145 : tiOf Try.prog 145 = some ⟨2, 32, [.ls 0 true true [], .int .i64 0], .struct [(0, 54), (1, 2)]⟩ := by kernel_rfl
theorem tyAt146 : tiOf Try.prog 146 = some ⟨2, 32, [.ls 0 true true [], .int .i64 0], .struct [(0, 54), (1, 2)]⟩ := by kernel_rfl
theorem tyAt153 : tiOf Try.prog 153 = some ⟨2, 16, [.int .i64 0, .int .i64 0], .struct [(0, 2), (1, 2)]⟩ := by kernel_rfl
theorem tyAt154 : tiOf Try.prog 154 = some ⟨2, 16, [.int .i64 0, .int .i64 0], .struct [(0, 2), (1, 2)]⟩ := by kernel_rfl
theorem tyAt157 : tiOf Try.prog 157 = some ⟨64, 512, List.replicate 64 (.int .i64 0), .arr 64 2⟩ := by kernel_rfl
theorem tyAt159 : tiOf Try.prog 159 = some ⟨8, 64, [.int .i64 0, .int .i64 0, .int .i64 0, .int .i64 0, .int .i64 0, .int .i64 0, .int .i64 0, .int .i64 0], .arr 8 2⟩ := by kernel_rfl
theorem tyAt163 : tiOf Try.prog 163 = some ⟨1, 8, [.int .u64 0], .int .u64⟩ := by kernel_rfl
theorem tyAt164 : tiOf Try.prog 164 = some ⟨1, 4, [.int .u32 0], .int .u32⟩ := by kernel_rfl
theorem tyAt165 : tiOf Try.prog 165 = some ⟨8, 32, [.int .u32 0, .int .u32 0, .int .u32 0, .int .u32 0, .int .u32 0, .int .u32 0, .int .u32 0, .int .u32 0], .arr 8 164⟩ := by kernel_rfl
theorem tyAt167 : tiOf Try.prog 167 = some ⟨64, 256, List.replicate 64 (.int .u32 0), .arr 64 164⟩ := by kernel_rfl
theorem tyAt172 : tiOf Try.prog 172 = some ⟨4, 40, [.nilp, .nilp, .nilp, .str ⟨#[]⟩], .struct [(0, 17), (1, 17), (2, 17), (3, 9)]⟩ := by kernel_rfl
theorem tyAt173 : tiOf Try.prog 173 = some ⟨4, 40, [.nilp, .nilp, .nilp, .str ⟨#[]⟩], .struct [(0, 17), (1, 17), (2, 17), (3, 9)]⟩ := by kernel_rfl
theorem tyAt174 : tiOf Try.prog 174 = some ⟨0, 0, [], .arr 0 16⟩ := by kernel_rfl
theorem tyAt175 : tiOf Try.prog 175 = some ⟨0, 0, [], .struct [(0, 174)]⟩ := by kernel_rfl
theorem tyAt176 : tiOf Try.prog 176 = some ⟨0, 0, [], .struct [(0, 174)]⟩ := by kernel_rfl
theorem tyAt178 : tiOf Try.prog 178 = some ⟨1, 1, [.int .u8 0], .int .u8⟩ := by kernel_rfl
theorem tyAt179 : tiOf Try.prog 179 = some ⟨1, 1, [.int .u8 0], .int .u8⟩ := by kernel_rfl
theorem tyAt181 : tiOf Try.prog 181 = some ⟨1, 8, [.nilp], .ptr⟩ := by kernel_rfl
theorem tyAt182 : tiOf Try.prog 182 = some ⟨1, 4, [.int .i32 0], .int .i32⟩ := by kernel_rfl
theorem tyAt183 : tiOf Try.prog 183 = some ⟨1, 4, [.int .i32 0], .int .i32⟩ := by kernel_rfl

theorem tyOk : TyOk Try.prog ty := by
  intro t i h
  unfold ty at h
  split at h
  · obtain rfl := Option.some.inj h; exact tyAt2
  · obtain rfl := Option.some.inj h; exact tyAt3
  · obtain rfl := Option.some.inj h; exact tyAt4
  · obtain rfl := Option.some.inj h; exact tyAt5
  · obtain rfl := Option.some.inj h; exact tyAt6
  · obtain rfl := Option.some.inj h; exact tyAt7
  · obtain rfl := Option.some.inj h; exact tyAt8
  · obtain rfl := Option.some.inj h; exact tyAt9
  · obtain rfl := Option.some.inj h; exact tyAt10
  · obtain rfl := Option.some.inj h; exact tyAt11
  · obtain rfl := Option.some.inj h; exact tyAt12
  · obtain rfl := Option.some.inj h; exact tyAt13
  · obtain rfl := Option.some.inj h; exact tyAt14
  · obtain rfl := Option.some.inj h; exact tyAt15
  · obtain rfl := Option.some.inj h; exact tyAt16
  · obtain rfl := Option.some.inj h; exact tyAt17
  · obtain rfl := Option.some.inj h; exact tyAt18
  · obtain rfl := Option.some.inj h; exact tyAt19
  · obtain rfl := Option.some.inj h; exact tyAt21
  · obtain rfl := Option.some.inj h; exact tyAt22
  · obtain rfl := Option.some.inj h; exact tyAt23
  · obtain rfl := Option.some.inj h; exact tyAt24
  · obtain rfl := Option.some.inj h; exact tyAt26
  · obtain rfl := Option.some.inj h; exact tyAt27
  · obtain rfl := Option.some.inj h; exact tyAt28
  · obtain rfl := Option.some.inj h; exact tyAt29
  · obtain rfl := Option.some.inj h; exact tyAt30
  · obtain rfl := Option.some.inj h; exact tyAt38
  · obtain rfl := Option.some.inj h; exact tyAt39
  · obtain rfl := Option.some.inj h; exact tyAt40
  · obtain rfl := Option.some.inj h; exact tyAt42
  · obtain rfl := Option.some.inj h; exact tyAt43
  · obtain rfl := Option.some.inj h; exact tyAt44
  · obtain rfl := Option.some.inj h; exact tyAt45
  · obtain rfl := Option.some.inj h; exact tyAt46
  · obtain rfl := Option.some.inj h; exact tyAt54
  · obtain rfl := Option.some.inj h; exact tyAt55
  · obtain rfl := Option.some.inj h; exact tyAt56
  · obtain rfl := Option.some.inj h; exact tyAt70
  · obtain rfl := Option.some.inj h; exact tyAt71
  · obtain rfl := Option.some.inj h; exact tyAt73
  · obtain rfl := Option.some.inj h; exact tyAt74
  · obtain rfl := Option.some.inj h; exact tyAt75
  · obtain rfl := Option.some.inj h; exact tyAt79
  · obtain rfl := Option.some.inj h; exact tyAt80
  · obtain rfl := Option.some.inj h; exact tyAt82
  · obtain rfl := Option.some.inj h; exact tyAt83
  · obtain rfl := Option.some.inj h; exact tyAt84
  · obtain rfl := Option.some.inj h; exact tyAt102
  · obtain rfl := Option.some.inj h; exact tyAt111
  · obtain rfl := Option.some.inj h; exact tyAt128
  · obtain rfl := Option.some.inj h; exact tyAt132
  · obtain rfl := Option.some.inj h; exact tyAt135
  · obtain rfl := Option.some.inj h; exact tyAt143
  · obtain rfl := Option.some.inj h; exact tyAt144
  · obtain rfl := Option.some.inj h; exact tyAt145
  · obtain rfl := Option.some.inj h; exact tyAt146
  · obtain rfl := Option.some.inj h; exact tyAt153
  · obtain rfl := Option.some.inj h; exact tyAt154
  · obtain rfl := Option.some.inj h; exact tyAt157
  · obtain rfl := Option.some.inj h; exact tyAt159
  · obtain rfl := Option.some.inj h; exact tyAt163
  · obtain rfl := Option.some.inj h; exact tyAt164
  · obtain rfl := Option.some.inj h; exact tyAt165
  · obtain rfl := Option.some.inj h; exact tyAt167
  · obtain rfl := Option.some.inj h; exact tyAt172
  · obtain rfl := Option.some.inj h; exact tyAt173
  · obtain rfl := Option.some.inj h; exact tyAt174
  · obtain rfl := Option.some.inj h; exact tyAt175
  · obtain rfl := Option.some.inj h; exact tyAt176
  · obtain rfl := Option.some.inj h; exact tyAt178
  · obtain rfl := Option.some.inj h; exact tyAt179
  · obtain rfl := Option.some.inj h; exact tyAt181
  · obtain rfl := Option.some.inj h; exact tyAt182
  · obtain rfl := Option.some.inj h; exact tyAt183
  · cases h

end Go.Proofs.Ytmaginepopldnaa
