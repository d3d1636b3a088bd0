import Derived.Test.YtoempiaimebncaaGreatGh
import Derived.Test.YtoempiaimebncaaGreatProg
import Derived.KernelRfl
/- The types of this seat's program that the proofs ask for. -/
namespace Go.Proofs.YtoempiaimebncaaGreat
open Go.Av
def ty : TypeId → Option TI
  | 2 => some ⟨1, 8, [.int .i64 0], .int .i64⟩
  | 3 => some ⟨1, 8, [.int .i64 0], .int .i64⟩
  | 4 => some ⟨1, 1, [.bool false], .bool⟩
  | 5 => some ⟨1, 1, [.int .u8 0], .int .u8⟩
  | 6 => some ⟨1, 1, [.int .u8 0], .int .u8⟩
  | 7 => some ⟨4, 24, [.int .i64 0, .int .i64 0, .bool false, .int .u8 0], .struct [(0, 2), (1, 3), (2, 4), (3, 6)]⟩
  | 8 => some ⟨4, 24, [.int .i64 0, .int .i64 0, .bool false, .int .u8 0], .struct [(0, 2), (1, 3), (2, 4), (3, 6)]⟩
  | 9 => some ⟨1, 16, [.str ⟨#[]⟩], .str⟩
  | 10 => some ⟨1, 16, [.str ⟨#[]⟩], .str⟩
  | 11 => some ⟨1, 16, [.str ⟨#[]⟩], .str⟩
  | 12 => some ⟨1, 8, [.int .u64 0], .int .u64⟩
  | 13 => some ⟨2, 24, [.str ⟨#[]⟩, .int .u64 0], .struct [(0, 9), (1, 12)]⟩
  | 14 => some ⟨2, 24, [.str ⟨#[]⟩, .int .u64 0], .struct [(0, 9), (1, 12)]⟩
  | 15 => some ⟨1, 8, [.nilp], .ptr⟩
  | 16 => some ⟨1, 8, [.nilp], .ptr⟩
  | 17 => some ⟨1, 8, [.nilp], .ptr⟩
  | 18 => some ⟨1, 8, [.nilp], .struct [(0, 17)]⟩
  | 19 => some ⟨1, 8, [.nilp], .struct [(0, 17)]⟩
  | 21 => some ⟨1, 4, [.int .i32 0], .int .i32⟩
  | 22 => some ⟨1, 24, [.ls 0 true true []], .slice 63⟩
  | 23 => some ⟨1, 24, [.ls 0 true true []], .slice 5⟩
  | 24 => some ⟨5, 88, [.int .i64 0, .int .i64 0, .ls 0 true true [], .ls 0 true true [], .ls 0 true true []], .struct [(0, 2), (1, 2), (2, 23), (3, 23), (4, 23)]⟩
  | 25 => some ⟨5, 88, [.int .i64 0, .int .i64 0, .ls 0 true true [], .ls 0 true true [], .ls 0 true true []], .struct [(0, 2), (1, 2), (2, 23), (3, 23), (4, 23)]⟩
  | 26 => some ⟨1, 24, [.ls 0 true true []], .slice 84⟩
  | 27 => some ⟨6, 112, [.int .i64 0, .int .i64 0, .ls 0 true true [], .ls 0 true true [], .ls 0 true true [], .ls 0 true true []], .struct [(0, 25), (5, 26)]⟩
  | 28 => some ⟨6, 112, [.int .i64 0, .int .i64 0, .ls 0 true true [], .ls 0 true true [], .ls 0 true true [], .ls 0 true true []], .struct [(0, 25), (5, 26)]⟩
  | 31 => some ⟨2, 16, [.int .i64 0, .int .i64 0], .struct [(0, 2), (1, 2)]⟩
  | 32 => some ⟨2, 16, [.int .i64 0, .int .i64 0], .struct [(0, 2), (1, 2)]⟩
  | 34 => some ⟨1, 24, [.ls 0 true true []], .slice 52⟩
  | 36 => some ⟨5, 88, [.int .i64 0, .int .i64 0, .ls 0 true true [], .ls 0 true true [], .ls 0 true true []], .struct [(0, 2), (1, 2), (2, 23), (3, 23), (4, 23)]⟩
  | 37 => some ⟨1, 24, [.ls 0 true true []], .slice 59⟩
  | 38 => some ⟨6, 112, [.int .i64 0, .int .i64 0, .ls 0 true true [], .ls 0 true true [], .ls 0 true true [], .ls 0 true true []], .struct [(0, 36), (5, 37)]⟩
  | 39 => some ⟨6, 112, [.int .i64 0, .int .i64 0, .ls 0 true true [], .ls 0 true true [], .ls 0 true true [], .ls 0 true true []], .struct [(0, 36), (5, 37)]⟩
  | 51 => some ⟨2, 32, [.ls 0 true true [], .int .i64 0], .struct [(0, 23), (1, 2)]⟩
  | 52 => some ⟨2, 32, [.ls 0 true true [], .int .i64 0], .struct [(0, 23), (1, 2)]⟩
  | 53 => some ⟨1, 24, [.ls 0 true true []], .slice 23⟩
  | 54 => some ⟨3, 40, [.int .i64 0, .int .i64 0, .ls 0 true true []], .struct [(0, 2), (1, 2), (2, 53)]⟩
  | 55 => some ⟨3, 40, [.int .i64 0, .int .i64 0, .ls 0 true true []], .struct [(0, 2), (1, 2), (2, 53)]⟩
  | 56 => some ⟨5, 72, [.int .i64 0, .ls 0 true true [], .int .i64 0, .int .i64 0, .ls 0 true true []], .struct [(0, 2), (1, 53), (2, 55)]⟩
  | 57 => some ⟨5, 72, [.int .i64 0, .ls 0 true true [], .int .i64 0, .int .i64 0, .ls 0 true true []], .struct [(0, 2), (1, 53), (2, 55)]⟩
  | 58 => some ⟨6, 80, [.int .i64 0, .int .i64 0, .ls 0 true true [], .int .i64 0, .int .i64 0, .ls 0 true true []], .struct [(0, 2), (1, 57)]⟩
  | 59 => some ⟨6, 80, [.int .i64 0, .int .i64 0, .ls 0 true true [], .int .i64 0, .int .i64 0, .ls 0 true true []], .struct [(0, 2), (1, 57)]⟩
  | 63 => some ⟨2, 32, [.ls 0 true true [], .int .i64 0], .struct [(0, 23), (1, 2)]⟩
  | 76 => some ⟨1, 8, [.nilp], .ptr⟩
  | 80 => some ⟨3, 40, [.int .i64 0, .int .i64 0, .ls 0 true true []], .struct [(0, 2), (1, 2), (2, 53)]⟩
  | 81 => some ⟨5, 72, [.int .i64 0, .ls 0 true true [], .int .i64 0, .int .i64 0, .ls 0 true true []], .struct [(0, 2), (1, 53), (2, 80)]⟩
  | 82 => some ⟨5, 72, [.int .i64 0, .ls 0 true true [], .int .i64 0, .int .i64 0, .ls 0 true true []], .struct [(0, 2), (1, 53), (2, 80)]⟩
  | 83 => some ⟨6, 80, [.int .i64 0, .int .i64 0, .ls 0 true true [], .int .i64 0, .int .i64 0, .ls 0 true true []], .struct [(0, 2), (1, 82)]⟩
  | 84 => some ⟨6, 80, [.int .i64 0, .int .i64 0, .ls 0 true true [], .int .i64 0, .int .i64 0, .ls 0 true true []], .struct [(0, 2), (1, 82)]⟩
  | 101 => some ⟨1, 24, [.ls 0 true true []], .slice 2⟩
  | 106 => some ⟨2, 32, [.ls 0 true true [], .int .i64 0], .struct [(0, 23), (1, 2)]⟩
  | 107 => some ⟨2, 32, [.ls 0 true true [], .int .i64 0], .struct [(0, 23), (1, 2)]⟩
  | 132 => some ⟨1, 8, [.int .u64 0], .int .u64⟩
  | 134 => some ⟨1, 24, [.ls 0 true true []], .slice 4⟩
  | 148 => some ⟨64, 512, List.replicate 64 (.int .i64 0), .arr 64 2⟩
  | 150 => some ⟨8, 64, [.int .i64 0, .int .i64 0, .int .i64 0, .int .i64 0, .int .i64 0, .int .i64 0, .int .i64 0, .int .i64 0], .arr 8 2⟩
  | 157 => some ⟨1, 8, [.int .u64 0], .int .u64⟩
  | 158 => some ⟨1, 4, [.int .u32 0], .int .u32⟩
  | 159 => some ⟨8, 32, [.int .u32 0, .int .u32 0, .int .u32 0, .int .u32 0, .int .u32 0, .int .u32 0, .int .u32 0, .int .u32 0], .arr 8 158⟩
  | 163 => some ⟨64, 256, List.replicate 64 (.int .u32 0), .arr 64 158⟩
  | 168 => some ⟨4, 40, [.nilp, .nilp, .nilp, .str ⟨#[]⟩], .struct [(0, 17), (1, 17), (2, 17), (3, 9)]⟩
  | 169 => some ⟨4, 40, [.nilp, .nilp, .nilp, .str ⟨#[]⟩], .struct [(0, 17), (1, 17), (2, 17), (3, 9)]⟩
  | 170 => some ⟨0, 0, [], .arr 0 16⟩
  | 171 => some ⟨0, 0, [], .struct [(0, 170)]⟩
  | 172 => some ⟨0, 0, [], .struct [(0, 170)]⟩
  | 174 => some ⟨1, 1, [.int .u8 0], .int .u8⟩
  | 175 => some ⟨1, 1, [.int .u8 0], .int .u8⟩
  | 177 => some ⟨1, 8, [.nilp], .ptr⟩
  | 178 => some ⟨1, 4, [.int .i32 0], .int .i32⟩
  | 179 => some ⟨1, 4, [.int .i32 0], .int .i32⟩
  | _ => none

theorem tyAt2 : tiOf Tryz.prog 2 = some ⟨1, 8, [.int .i64 0], .int .i64⟩ := by kernel_rfl
theorem tyAt3 : tiOf Tryz.prog 3 = some ⟨1, 8, [.int .i64 0], .int .i64⟩ := by kernel_rfl
theorem tyAt4 : tiOf Tryz.prog 4 = some ⟨1, 1, [.bool false], .bool⟩ := by kernel_rfl
theorem tyAt5 : tiOf Tryz.prog 5 = some ⟨1, 1, [.int .u8 0], .int .u8⟩ := by kernel_rfl
theorem tyAt6 : tiOf Tryz.prog 6 = some ⟨1, 1, [.int .u8 0], .int .u8⟩ := by kernel_rfl
theorem tyAt7 : tiOf Tryz.prog 7 = some ⟨4, 24, [.int .i64 0, .int .i64 0, .bool false, .int .u8 0], .struct [(0, 2), (1, 3), (2, 4), (3, 6)]⟩ := by kernel_rfl
theorem tyAt8 : tiOf Tryz.prog 8 = some ⟨4, 24, [.int .i64 0, .int .i64 0, .bool false, .int .u8 0], .struct [(0, 2), (1, 3), (2, 4), (3, 6)]⟩ := by kernel_rfl
theorem tyAt9 : tiOf Tryz.prog 9 = some ⟨1, 16, [.str ⟨#[]⟩], .str⟩ := by kernel_rfl
theorem tyAt10 : tiOf Tryz.prog 10 = some ⟨1, 16, [.str ⟨#[]⟩], .str⟩ := by kernel_rfl
theorem tyAt11 : tiOf Tryz.prog 11 = some ⟨1, 16, [.str ⟨#[]⟩], .str⟩ := by kernel_rfl
theorem tyAt12 : tiOf Tryz.prog 12 = some ⟨1, 8, [.int .u64 0], .int .u64⟩ := by kernel_rfl
theorem tyAt13 : tiOf Tryz.prog 13 = some ⟨2, 24, [.str ⟨#[]⟩, .int .u64 0], .struct [(0, 9), (1, 12)]⟩ := by kernel_rfl
theorem tyAt14 : tiOf Tryz.prog 14 = some ⟨2, 24, [.str ⟨#[]⟩, .int .u64 0], .struct [(0, 9), (1, 12)]⟩ := by kernel_rfl
theorem tyAt15 : tiOf Tryz.prog 15 = some ⟨1, 8, [.nilp], .ptr⟩ := by kernel_rfl
theorem tyAt16 : tiOf Tryz.prog 16 = some ⟨1, 8, [.nilp], .ptr⟩ := by kernel_rfl
theorem tyAt17 : tiOf Tryz.prog 17 = some ⟨1, 8, [.nilp], .ptr⟩ := by kernel_rfl
theorem tyAt18 : tiOf Tryz.prog 18 = some ⟨1, 8, [.nilp], .struct [(0, 17)]⟩ := by kernel_rfl
theorem tyAt19 : tiOf Tryz.prog 19 = some ⟨1, 8, [.nilp], .struct [(0, 17)]⟩ := by kernel_rfl
theorem tyAt21 : tiOf Tryz.prog 21 = some ⟨1, 4, [.int .i32 0], .int .i32⟩ := by kernel_rfl
theorem tyAt22 : tiOf Tryz.prog 22 = some ⟨1, 24, [.ls 0 true true []], .slice 63⟩ := by kernel_rfl
theorem tyAt23 : tiOf Tryz.prog 23 = some ⟨1, 24, [.ls 0 true true []], .slice 5⟩ := by kernel_rfl
theorem tyAt24 : tiOf Tryz.prog 24 = some ⟨5, 88, [.int .i64 0, .int .i64 0, .ls 0 true true [], .ls 0 true true [], .ls 0 true true []], .struct [(0, 2), (1, 2), (2, 23), (3, 23), (4, 23)]⟩ := by kernel_rfl
theorem tyAt25 : tiOf Tryz.prog 25 = some ⟨5, 88, [.int .i64 0, .int .i64 0, .ls 0 true true [], .ls 0 true true [], .ls 0 true true []], .struct [(0, 2), (1, 2), (2, 23), (3, 23), (4, 23)]⟩ := by kernel_rfl
theorem tyAt26 : tiOf Tryz.prog 26 = some ⟨1, 24, [.ls 0 true true []], .slice 84⟩ := by kernel_rfl
theorem tyAt27 : tiOf Tryz.prog 27 = some ⟨6, 112, [.int .i64 0, .int .i64 0, .ls 0 true true [], .ls 0 true true [], .ls 0 true true [], .ls 0 true true []], .struct [(0, 25), (5, 26)]⟩ := by kernel_rfl
theorem tyAt28 : tiOf Tryz.prog 28 = some ⟨6, 112, [.int .i64 0, .int .i64 0, .ls 0 true true [], .ls 0 true true [], .ls 0 true true [], .ls 0 true true []], .struct [(0, 25), (5, 26)]⟩ := by kernel_rfl
theorem tyAt31 : tiOf Tryz.prog 31 = some ⟨2, 16, [.int .i64 0, .int .i64 0], .struct [(0, 2), (1, 2)]⟩ := by kernel_rfl
theorem tyAt32 : tiOf Tryz.prog 32 = some ⟨2, 16, [.int .i64 0, .int .i64 0], .struct [(0, 2), (1, 2)]⟩ := by kernel_rfl
theorem tyAt34 : tiOf Tryz.prog 34 = some ⟨1, 24, [.ls 0 true true []], .slice 52⟩ := by kernel_rfl
theorem tyAt36 : tiOf Tryz.prog 36 = some ⟨5, 88, [.int .i64 0, .int .i64 0, .ls 0 true true [], .ls 0 true true [], .ls 0 true true []], .struct [(0, 2), (1, 2), (2, 23), (3, 23), (4, 23)]⟩ := by kernel_rfl
theorem tyAt37 : tiOf Tryz.prog 37 = some ⟨1, 24, [.ls 0 true true []], .slice 59⟩ := by kernel_rfl
theorem tyAt38 : tiOf Tryz.prog 38 = some ⟨6, 112, [.int .i64 0, .int .i64 0, .ls 0 true true [], .ls 0 true true [], .ls 0 true true [], .ls 0 true true []], .struct [(0, 36), (5, 37)]⟩ := by kernel_rfl
theorem tyAt39 : tiOf Tryz.prog 39 = some ⟨6, 112, [.int .i64 0, .int .i64 0, .ls 0 true true [], .ls 0 true true [], .ls 0 true true [], .ls 0 true true []], .struct [(0, 36), (5, 37)]⟩ := by kernel_rfl
theorem tyAt51 : tiOf Tryz.prog 51 = some ⟨2, 32, [.ls 0 true true [], .int .i64 0], .struct [(0, 23), (1, 2)]⟩ := by kernel_rfl
theorem tyAt52 : tiOf Tryz.prog 52 = some ⟨2, 32, [.ls 0 true true [], .int .i64 0], .struct [(0, 23), (1, 2)]⟩ := by kernel_rfl
theorem tyAt53 : tiOf Tryz.prog 53 = some ⟨1, 24, [.ls 0 true true []], .slice 23⟩ := by kernel_rfl
theorem tyAt54 : tiOf Tryz.prog 54 = some ⟨3, 40, [.int .i64 0, .int .i64 0, .ls 0 true true []], .struct [(0, 2), (1, 2), (2, 53)]⟩ := by kernel_rfl
theorem tyAt55 : tiOf Tryz.prog 55 = some ⟨3, 40, [.int .i64 0, .int .i64 0, .ls 0 true true []], .struct [(0, 2), (1, 2), (2, 53)]⟩ := by kernel_rfl
theorem tyAt56 : tiOf Tryz.prog 56 = some ⟨5, 72, [.int .i64 0, .ls 0 true true [], .int .i64 0, .int .i64 0, .ls 0 true true []], .struct [(0, 2), (1, 53), (2, 55)]⟩ := by kernel_rfl
theorem tyAt57 : tiOf Tryz.prog 57 = some ⟨5, 72, [.int .i64 0, .ls 0 true true [], .int .i64 0, .int .i64 0, .ls 0 true true []], .struct [(0, 2), (1, 53), (2, 55)]⟩ := by kernel_rfl
theorem tyAt58 : tiOf Tryz.prog 58 = some ⟨6, 80, [.int .i64 0, .int .i64 0, .ls 0 true true [], .int .i64 0, .int .i64 0, .ls 0 true true []], .struct [(0, 2), (1, 57)]⟩ := by kernel_rfl
theorem tyAt59 : tiOf Tryz.prog 59 = some ⟨6, 80, [.int .i64 0, .int .i64 0, .ls 0 true true [], .int .i64 0, .int .i64 0, .ls 0 true true []], .struct [(0, 2), (1, 57)]⟩ := by kernel_rfl
theorem tyAt63 : tiOf Tryz.prog 63 = some ⟨2, 32, [.ls 0 true true [], .int .i64 0], .struct [(0, 23), (1, 2)]⟩ := by kernel_rfl
theorem tyAt76 : tiOf Tryz.prog 76 = some ⟨1, 8, [.nilp], .ptr⟩ := by kernel_rfl
theorem tyAt80 : tiOf Tryz.prog 80 = some ⟨3, 40, [.int .i64 0, .int .i64 0, .ls 0 true true []], .struct [(0, 2), (1, 2), (2, 53)]⟩ := by kernel_rfl
theorem tyAt81 : tiOf Tryz.prog 81 = some ⟨5, 72, [.int .i64 0, .ls 0 true true [], .int .i64 0, .int .i64 0, .ls 0 true true []], .struct [(0, 2), (1, 53), (2, 80)]⟩ := by kernel_rfl
theorem tyAt82 : tiOf Tryz.prog 82 = some ⟨5, 72, [.int .i64 0, .ls 0 true true [], .int .i64 0, .int .i64 0, .ls 0 true true []], .struct [(0, 2), (1, 53), (2, 80)]⟩ := by kernel_rfl
theorem tyAt83 : tiOf Tryz.prog 83 = some ⟨6, 80, [.int .i64 0, .int .i64 0, .ls 0 true true [], .int .i64 0, .int .i64 0, .ls 0 true true []], .struct [(0, 2), (1, 82)]⟩ := by kernel_rfl
theorem tyAt84 : tiOf Tryz.prog 84 = some ⟨6, 80, [.int .i64 0, .int .i64 0, .ls 0 true true [], .int .i64 0, .int .i64 0, .ls 0 true true []], .struct [(0, 2), (1, 82)]⟩ := by kernel_rfl
theorem tyAt101 : tiOf Tryz.prog 101 = some ⟨1, 24, [.ls 0 true true []], .slice 2⟩ := by kernel_rfl
theorem tyAt106 : tiOf Tryz.prog 106 = some ⟨2, 32, [.ls 0 true true [], .int .i64 0], .struct [(0, 23), (1, 2)]⟩ := by kernel_rfl
theorem tyAt107 : tiOf Tryz.prog 107 = some ⟨2, 32, [.ls 0 true true [], .int .i64 0], .struct [(0, 23), (1, 2)]⟩ := by kernel_rfl
theorem tyAt132 : tiOf Tryz.prog 132 = some ⟨1, 8, [.int .u64 0], .int .u64⟩ := by kernel_rfl
theorem tyAt134 : tiOf Tryz.prog 134 = some ⟨1, 24, [.ls 0 true true []], .slice 4⟩ := by kernel_rfl
theorem tyAt148 : tiOf Tryz.prog 148 = some ⟨64, 512, List.replicate 64 (.int .i64 0), .arr 64 2⟩ := by kernel_rfl
theorem tyAt150 : tiOf Tryz.prog 150 = some ⟨8, 64, [.int .i64 0, .int .i64 0, .int .i64 0, .int .i64 0, .int .i64 0, .int .i64 0, .int .i64 0, .int .i64 0], .arr 8 2⟩ := by kernel_rfl
theorem tyAt157 : tiOf Tryz.prog 157 = some ⟨1, 8, [.int .u64 0], .int .u64⟩ := by kernel_rfl
theorem tyAt158 : tiOf Tryz.prog 158 = some ⟨1, 4, [.int .u32 0], .int .u32⟩ := by kernel_rfl
theorem tyAt159 : tiOf Tryz.prog 159 = some ⟨8, 32, [.int .u32 0, .int .u32 0, .int .u32 0, .int .u32 0, .int .u32 0, .int .u32 0, .int .u32 0, .int .u32 0], .arr 8 158⟩ := by kernel_rfl
theorem tyAt163 : tiOf Tryz.prog 163 = some ⟨64, 256, List.replicate 64 (.int .u32 0), .arr 64 158⟩ := by kernel_rfl
theorem tyAt168 : tiOf Tryz.prog 168 = some ⟨4, 40, [.nilp, .nilp, .nilp, .str ⟨#[]⟩], .struct [(0, 17), (1, 17), (2, 17), (3, 9)]⟩ := by kernel_rfl
theorem tyAt169 : tiOf Tryz.prog 169 = some ⟨4, 40, [.nilp, .nilp, .nilp, .str ⟨#[]⟩], .struct [(0, 17), (1, 17), (2, 17), (3, 9)]⟩ := by kernel_rfl
theorem tyAt170 : tiOf Tryz.prog 170 = some ⟨0, 0, [], .arr 0 16⟩ := by kernel_rfl
theorem tyAt171 : tiOf Tryz.prog 171 = some ⟨0, 0, [], .struct [(0, 170)]⟩ := by kernel_rfl
theorem tyAt172 : tiOf Tryz.prog 172 = some ⟨0, 0, [], .struct [(0, 170)]⟩ := by kernel_rfl
theorem tyAt174 : tiOf Tryz.prog 174 = some ⟨1, 1, [.int .u8 0], .int .u8⟩ := by kernel_rfl
theorem tyAt175 : tiOf Tryz.prog 175 = some ⟨1, 1, [.int .u8 0], .int .u8⟩ := by kernel_rfl
theorem tyAt177 : tiOf Tryz.prog 177 = some ⟨1, 8, [.nilp], .ptr⟩ := by kernel_rfl
theorem tyAt178 : tiOf Tryz.prog 178 = some ⟨1, 4, [.int .i32 0], .int .i32⟩ := by kernel_rfl
theorem tyAt179 : tiOf Tryz.prog 179 = some ⟨1, 4, [.int .i32 0], .int .i32⟩ := by kernel_rfl

theorem tyOk : TyOk Tryz.prog ty := by
  intro t i h
  unfold ty at h
  split at h
  · obtain rfl := Option.some.inj h; exact tyAt2
  · obtain rfl := Option.some.inj h; exact tyAt3
  · obtain rfl := Option.some.inj h; exact tyAt4
  · obtain rfl := Option.some.inj h; exact tyAt5
  · obtain rfl := Option.some.inj h; exact tyAt6
  · obtain rfl := Option.some.inj h; exact tyAt7
  · obtain rfl := Option.some.inj h; exact tyAt8
  · obtain rfl := Option.some.inj h; exact tyAt9
  · obtain rfl := Option.some.inj h; exact tyAt10
  · obtain rfl := Option.some.inj h; exact tyAt11
  · obtain rfl := Option.some.inj h; exact tyAt12
  · obtain rfl := Option.some.inj h; exact tyAt13
  · obtain rfl := Option.some.inj h; exact tyAt14
  · obtain rfl := Option.some.inj h; exact tyAt15
  · obtain rfl := Option.some.inj h; exact tyAt16
  · obtain rfl := Option.some.inj h; exact tyAt17
  · obtain rfl := Option.some.inj h; exact tyAt18
  · obtain rfl := Option.some.inj h; exact tyAt19
  · obtain rfl := Option.some.inj h; exact tyAt21
  · obtain rfl := Option.some.inj h; exact tyAt22
  · obtain rfl := Option.some.inj h; exact tyAt23
  · obtain rfl := Option.some.inj h; exact tyAt24
  · obtain rfl := Option.some.inj h; exact tyAt25
  · obtain rfl := Option.some.inj h; exact tyAt26
  · obtain rfl := Option.some.inj h; exact tyAt27
  · obtain rfl := Option.some.inj h; exact tyAt28
  · obtain rfl := Option.some.inj h; exact tyAt31
  · obtain rfl := Option.some.inj h; exact tyAt32
  · obtain rfl := Option.some.inj h; exact tyAt34
  · obtain rfl := Option.some.inj h; exact tyAt36
  · obtain rfl := Option.some.inj h; exact tyAt37
  · obtain rfl := Option.some.inj h; exact tyAt38
  · obtain rfl := Option.some.inj h; exact tyAt39
  · obtain rfl := Option.some.inj h; exact tyAt51
  · obtain rfl := Option.some.inj h; exact tyAt52
  · obtain rfl := Option.some.inj h; exact tyAt53
  · obtain rfl := Option.some.inj h; exact tyAt54
  · obtain rfl := Option.some.inj h; exact tyAt55
  · obtain rfl := Option.some.inj h; exact tyAt56
  · obtain rfl := Option.some.inj h; exact tyAt57
  · obtain rfl := Option.some.inj h; exact tyAt58
  · obtain rfl := Option.some.inj h; exact tyAt59
  · obtain rfl := Option.some.inj h; exact tyAt63
  · obtain rfl := Option.some.inj h; exact tyAt76
  · obtain rfl := Option.some.inj h; exact tyAt80
  · obtain rfl := Option.some.inj h; exact tyAt81
  · obtain rfl := Option.some.inj h; exact tyAt82
  · obtain rfl := Option.some.inj h; exact tyAt83
  · obtain rfl := Option.some.inj h; exact tyAt84
  · obtain rfl := Option.some.inj h; exact tyAt101
  · obtain rfl := Option.some.inj h; exact tyAt106
  · obtain rfl := Option.some.inj h; exact tyAt107
  · obtain rfl := Option.some.inj h; exact tyAt132
  · obtain rfl := Option.some.inj h; exact tyAt134
  · obtain rfl := Option.some.inj h; exact tyAt148
  · obtain rfl := Option.some.inj h; exact tyAt150
  · obtain rfl := Option.some.inj h; exact tyAt157
  · obtain rfl := Option.some.inj h; exact tyAt158
  · obtain rfl := Option.some.inj h; exact tyAt159
  · obtain rfl := Option.some.inj h; exact tyAt163
  · obtain rfl := Option.some.inj h; exact tyAt168
  · obtain rfl := Option.some.inj h; exact tyAt169
  · obtain rfl := Option.some.inj h; exact tyAt170
  · obtain rfl := Option.some.inj h; exact tyAt171
  · obtain rfl := Option.some.inj h; exact tyAt172
  · obtain rfl := Option.some.inj h; exact tyAt174
  · obtain rfl := Option.some.inj h; exact tyAt175
  · obtain rfl := Option.some.inj h; exact tyAt177
  · obtain rfl := Option.some.inj h; exact tyAt178
  · obtain rfl := Option.some.inj h; exact tyAt179
  · cases h

end Go.Proofs.YtoempiaimebncaaGreat
