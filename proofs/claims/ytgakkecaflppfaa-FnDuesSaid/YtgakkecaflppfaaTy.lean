import Derived.Test.YtgakkecaflppfaaGh
import Derived.Test.YtgakkecaflppfaaProg
import Derived.KernelRfl
/- The types of this seat's program that the proofs ask for. -/
namespace Go.Proofs.Ytgakkecaflppfaa
open Go.Av
def ty : TypeId → Option TI
  | 2 => some ⟨1, 8, [.int .i64 0], .int .i64⟩
  | 3 => some ⟨1, 8, [.int .i64 0], .int .i64⟩
  | 4 => some ⟨1, 1, [.bool false], .bool⟩
  | 5 => some ⟨1, 1, [.int .u8 0], .int .u8⟩
  | 6 => some ⟨1, 1, [.int .u8 0], .int .u8⟩
  | 7 => some ⟨4, 24, [.int .i64 0, .int .i64 0, .bool false, .int .u8 0], .struct [(0, 2), (1, 3), (2, 4), (3, 6)]⟩
  | 8 => some ⟨4, 24, [.int .i64 0, .int .i64 0, .bool false, .int .u8 0], .struct [(0, 2), (1, 3), (2, 4), (3, 6)]⟩
  | 9 => some ⟨1, 16, [.str ⟨#[]⟩], .str⟩
  | 10 => some ⟨1, 16, [.str ⟨#[]⟩], .str⟩
  | 11 => some ⟨1, 16, [.str ⟨#[]⟩], .str⟩
  | 12 => some ⟨1, 8, [.int .u64 0], .int .u64⟩
  | 13 => some ⟨2, 24, [.str ⟨#[]⟩, .int .u64 0], .struct [(0, 9), (1, 12)]⟩
  | 14 => some ⟨2, 24, [.str ⟨#[]⟩, .int .u64 0], .struct [(0, 9), (1, 12)]⟩
  | 15 => some ⟨1, 8, [.nilp], .ptr⟩
  | 16 => some ⟨1, 8, [.nilp], .ptr⟩
  | 17 => some ⟨1, 8, [.nilp], .ptr⟩
  | 18 => some ⟨1, 8, [.nilp], .struct [(0, 17)]⟩
  | 19 => some ⟨1, 8, [.nilp], .struct [(0, 17)]⟩
  | 21 => some ⟨1, 4, [.int .i32 0], .int .i32⟩
  | 22 => some ⟨2, 16, [.int .i64 0, .int .i64 0], .struct [(0, 2), (1, 2)]⟩
  | 23 => some ⟨2, 16, [.int .i64 0, .int .i64 0], .struct [(0, 2), (1, 2)]⟩
  | 27 => some ⟨1, 24, [.ls 0 true true []], .slice 5⟩
  | 28 => some ⟨2, 48, [.ls 0 true true [], .ls 0 true true []], .struct [(0, 27), (1, 27)]⟩
  | 29 => some ⟨2, 48, [.ls 0 true true [], .ls 0 true true []], .struct [(0, 27), (1, 27)]⟩
  | 32 => some ⟨2, 48, [.ls 0 true true [], .ls 0 true true []], .struct [(0, 27), (1, 27)]⟩
  | 36 => some ⟨2, 32, [.int .i64 0, .ls 0 true true []], .struct [(0, 2), (1, 27)]⟩
  | 37 => some ⟨2, 32, [.int .i64 0, .ls 0 true true []], .struct [(0, 2), (1, 27)]⟩
  | 42 => some ⟨1, 24, [.ls 0 true true []], .slice 126⟩
  | 43 => some ⟨2, 32, [.int .i64 0, .ls 0 true true []], .struct [(0, 2), (1, 42)]⟩
  | 44 => some ⟨2, 32, [.int .i64 0, .ls 0 true true []], .struct [(0, 2), (1, 42)]⟩
  | 47 => some ⟨1, 24, [.ls 0 true true []], .slice 77⟩
  | 48 => some ⟨2, 32, [.int .i64 0, .ls 0 true true []], .struct [(0, 2), (1, 47)]⟩
  | 49 => some ⟨2, 32, [.int .i64 0, .ls 0 true true []], .struct [(0, 2), (1, 47)]⟩
  | 53 => some ⟨1, 24, [.ls 0 true true []], .slice 2⟩
  | 54 => some ⟨7, 72, [.int .i64 0, .int .i64 0, .int .i64 0, .int .i64 0, .ls 0 true true [], .int .i64 0, .bool false], .struct [(0, 2), (1, 2), (2, 2), (3, 2), (4, 53), (5, 2), (6, 4)]⟩
  | 55 => some ⟨7, 72, [.int .i64 0, .int .i64 0, .int .i64 0, .int .i64 0, .ls 0 true true [], .int .i64 0, .bool false], .struct [(0, 2), (1, 2), (2, 2), (3, 2), (4, 53), (5, 2), (6, 4)]⟩
  | 56 => some ⟨4, 40, [.int .i64 0, .int .i64 0, .int .i64 0, .str ⟨#[]⟩], .struct [(0, 2), (1, 2), (2, 2), (3, 9)]⟩
  | 57 => some ⟨4, 40, [.int .i64 0, .int .i64 0, .int .i64 0, .str ⟨#[]⟩], .struct [(0, 2), (1, 2), (2, 2), (3, 9)]⟩
  | 58 => some ⟨12, 120, [.int .i64 0, .int .i64 0, .int .i64 0, .int .i64 0, .int .i64 0, .ls 0 true true [], .int .i64 0, .bool false, .int .i64 0, .int .i64 0, .int .i64 0, .str ⟨#[]⟩], .struct [(0, 2), (1, 55), (8, 57)]⟩
  | 59 => some ⟨12, 120, [.int .i64 0, .int .i64 0, .int .i64 0, .int .i64 0, .int .i64 0, .ls 0 true true [], .int .i64 0, .bool false, .int .i64 0, .int .i64 0, .int .i64 0, .str ⟨#[]⟩], .struct [(0, 2), (1, 55), (8, 57)]⟩
  | 63 => some ⟨7, 72, [.int .i64 0, .int .i64 0, .int .i64 0, .int .i64 0, .ls 0 true true [], .int .i64 0, .bool false], .struct [(0, 2), (1, 2), (2, 2), (3, 2), (4, 53), (5, 2), (6, 4)]⟩
  | 72 => some ⟨3, 40, [.int .i64 0, .int .i64 0, .ls 0 true true []], .struct [(0, 2), (1, 49)]⟩
  | 73 => some ⟨3, 40, [.int .i64 0, .int .i64 0, .ls 0 true true []], .struct [(0, 2), (1, 49)]⟩
  | 76 => some ⟨3, 24, [.int .i64 0, .int .i64 0, .int .i64 0], .struct [(0, 2), (1, 2), (2, 2)]⟩
  | 77 => some ⟨3, 24, [.int .i64 0, .int .i64 0, .int .i64 0], .struct [(0, 2), (1, 2), (2, 2)]⟩
  | 81 => some ⟨3, 56, [.int .i64 0, .ls 0 true true [], .ls 0 true true []], .struct [(0, 2), (1, 32)]⟩
  | 82 => some ⟨3, 56, [.int .i64 0, .ls 0 true true [], .ls 0 true true []], .struct [(0, 2), (1, 32)]⟩
  | 91 => some ⟨1, 8, [.int .u64 0], .int .u64⟩
  | 106 => some ⟨1, 8, [.nilp], .ptr⟩
  | 110 => some ⟨1, 8, [.nilp], .ptr⟩
  | 115 => some ⟨1, 8, [.nilp], .ptr⟩
  | 126 => some ⟨3, 24, [.int .i64 0, .int .i64 0, .int .i64 0], .struct [(0, 2), (1, 2), (2, 2)]⟩
  | 128 => some ⟨2, 32, [.ls 0 true true [], .int .i64 0], .struct [(0, 27), (1, 2)]⟩
  | 129 => some ⟨2, 32, [.ls 0 true true [], .int .i64 0], .struct [(0, 27), (1, 2)]⟩
  | 132 => some ⟨1, 8, [.nilp], .ptr⟩
  | 133 => some ⟨1, 24, [.ls 0 true true []], .slice 27⟩
  | 141 => some ⟨4, 40, [.nilp, .nilp, .nilp, .str ⟨#[]⟩], .struct [(0, 17), (1, 17), (2, 17), (3, 9)]⟩
  | 142 => some ⟨4, 40, [.nilp, .nilp, .nilp, .str ⟨#[]⟩], .struct [(0, 17), (1, 17), (2, 17), (3, 9)]⟩
  | 143 => some ⟨0, 0, [], .arr 0 16⟩
  | 144 => some ⟨0, 0, [], .struct [(0, 143)]⟩
  | 145 => some ⟨0, 0, [], .struct [(0, 143)]⟩
  | 147 => some ⟨1, 4, [.int .u32 0], .int .u32⟩
  | 148 => some ⟨1, 1, [.int .u8 0], .int .u8⟩
  | 149 => some ⟨1, 1, [.int .u8 0], .int .u8⟩
  | 151 => some ⟨1, 8, [.nilp], .ptr⟩
  | 152 => some ⟨1, 4, [.int .i32 0], .int .i32⟩
  | 153 => some ⟨1, 4, [.int .i32 0], .int .i32⟩
  | _ => none

theorem tyAt2 : tiOf Try.prog 2 = some ⟨1, 8, [.int .i64 0], .int .i64⟩ := by kernel_rfl
theorem tyAt3 : tiOf Try.prog 3 = some ⟨1, 8, [.int .i64 0], .int .i64⟩ := by kernel_rfl
theorem tyAt4 : tiOf Try.prog 4 = some ⟨1, 1, [.bool false], .bool⟩ := by kernel_rfl
theorem tyAt5 : tiOf Try.prog 5 = some ⟨1, 1, [.int .u8 0], .int .u8⟩ := by kernel_rfl
theorem tyAt6 : tiOf Try.prog 6 = some ⟨1, 1, [.int .u8 0], .int .u8⟩ := by kernel_rfl
theorem tyAt7 : tiOf Try.prog 7 = some ⟨4, 24, [.int .i64 0, .int .i64 0, .bool false, .int .u8 0], .struct [(0, 2), (1, 3), (2, 4), (3, 6)]⟩ := by kernel_rfl
theorem tyAt8 : tiOf Try.prog 8 = some ⟨4, 24, [.int .i64 0, .int .i64 0, .bool false, .int .u8 0], .struct [(0, 2), (1, 3), (2, 4), (3, 6)]⟩ := by kernel_rfl
theorem tyAt9 : tiOf Try.prog 9 = some ⟨1, 16, [.str ⟨#[]⟩], .str⟩ := by kernel_rfl
theorem tyAt10 : tiOf Try.prog 10 = some ⟨1, 16, [.str ⟨#[]⟩], .str⟩ := by kernel_rfl
theorem tyAt11 : tiOf Try.prog 11 = some ⟨1, 16, [.str ⟨#[]⟩], .str⟩ := by kernel_rfl
theorem tyAt12 : tiOf Try.prog 12 = some ⟨1, 8, [.int .u64 0], .int .u64⟩ := by kernel_rfl
theorem tyAt13 : tiOf Try.prog 13 = some ⟨2, 24, [.str ⟨#[]⟩, .int .u64 0], .struct [(0, 9), (1, 12)]⟩ := by kernel_rfl
theorem tyAt14 : tiOf Try.prog 14 = some ⟨2, 24, [.str ⟨#[]⟩, .int .u64 0], .struct [(0, 9), (1, 12)]⟩ := by kernel_rfl
theorem tyAt15 : tiOf Try.prog 15 = some ⟨1, 8, [.nilp], .ptr⟩ := by kernel_rfl
theorem tyAt16 : tiOf Try.prog 16 = some ⟨1, 8, [.nilp], .ptr⟩ := by kernel_rfl
theorem tyAt17 : tiOf Try.prog 17 = some ⟨1, 8, [.nilp], .ptr⟩ := by kernel_rfl
theorem tyAt18 : tiOf Try.prog 18 = some ⟨1, 8, [.nilp], .struct [(0, 17)]⟩ := by kernel_rfl
theorem tyAt19 : tiOf Try.prog 19 = some ⟨1, 8, [.nilp], .struct [(0, 17)]⟩ := by kernel_rfl
theorem tyAt21 : tiOf Try.prog 21 = some ⟨1, 4, [.int .i32 0], .int .i32⟩ := by kernel_rfl
theorem tyAt22 : tiOf Try.prog 22 = some ⟨2, 16, [.int .i64 0, .int .i64 0], .struct [(0, 2), (1, 2)]⟩ := by kernel_rfl
theorem tyAt23 : tiOf Try.prog 23 = some ⟨2, 16, [.int .i64 0, .int .i64 0], .struct [(0, 2), (1, 2)]⟩ := by kernel_rfl
theorem tyAt27 : tiOf Try.prog 27 = some ⟨1, 24, [.ls 0 true true []], .slice 5⟩ := by kernel_rfl
theorem tyAt28 : tiOf Try.prog 28 = some ⟨2, 48, [.ls 0 true true [], .ls 0 true true []], .struct [(0, 27), (1, 27)]⟩ := by kernel_rfl
theorem tyAt29 : tiOf Try.prog 29 = some ⟨2, 48, [.ls 0 true true [], .ls 0 true true []], .struct [(0, 27), (1, 27)]⟩ := by kernel_rfl
theorem tyAt32 : tiOf Try.prog 32 = some ⟨2, 48, [.ls 0 true true [], .ls 0 true true []], .struct [(0, 27), (1, 27)]⟩ := by kernel_rfl
theorem tyAt36 : tiOf Try.prog 36 = some ⟨2, 32, [.int .i64 0, .ls 0 true true []], .struct [(0, 2), (1, 27)]⟩ := by kernel_rfl
theorem tyAt37 : tiOf Try.prog 37 = some ⟨2, 32, [.int .i64 0, .ls 0 true true []], .struct [(0, 2), (1, 27)]⟩ := by kernel_rfl
theorem tyAt42 : tiOf Try.prog 42 = some ⟨1, 24, [.ls 0 true true []], .slice 126⟩ := by kernel_rfl
theorem tyAt43 : tiOf Try.prog 43 = some ⟨2, 32, [.int .i64 0, .ls 0 true true []], .struct [(0, 2), (1, 42)]⟩ := by kernel_rfl
theorem tyAt44 : tiOf Try.prog 44 = some ⟨2, 32, [.int .i64 0, .ls 0 true true []], .struct [(0, 2), (1, 42)]⟩ := by kernel_rfl
theorem tyAt47 : tiOf Try.prog 47 = some ⟨1, 24, [.ls 0 true true []], .slice 77⟩ := by kernel_rfl
theorem tyAt48 : tiOf Try.prog 48 = some ⟨2, 32, [.int .i64 0, .ls 0 true true []], .struct [(0, 2), (1, 47)]⟩ := by kernel_rfl
theorem tyAt49 : tiOf Try.prog 49 = some ⟨2, 32, [.int .i64 0, .ls 0 true true []], .struct [(0, 2), (1, 47)]⟩ := by kernel_rfl
theorem tyAt53 : tiOf Try.prog 53 = some ⟨1, 24, [.ls 0 true true []], .slice 2⟩ := by kernel_rfl
theorem tyAt54 : tiOf Try.prog 54 = some ⟨7, 72, [.int .i64 0, .int .i64 0, .int .i64 0, .int .i64 0, .ls 0 true true [], .int .i64 0, .bool false], .struct [(0, 2), (1, 2), (2, 2), (3, 2), (4, 53), (5, 2), (6, 4)]⟩ := by kernel_rfl
theorem tyAt55 : tiOf Try.prog 55 = some ⟨7, 72, [.int .i64 0, .int .i64 0, .int .i64 0, .int .i64 0, .ls 0 true true [], .int .i64 0, .bool false], .struct [(0, 2), (1, 2), (2, 2), (3, 2), (4, 53), (5, 2), (6, 4)]⟩ := by kernel_rfl
theorem tyAt56 : tiOf Try.prog 56 = some ⟨4, 40, [.int .i64 0, .int .i64 0, .int .i64 0, .str ⟨#[]⟩], .struct [(0, 2), (1, 2), (2, 2), (3, 9)]⟩ := by kernel_rfl
theorem tyAt57 : tiOf Try.prog 57 = some ⟨4, 40, [.int .i64 0, .int .i64 0, .int .i64 0, .str ⟨#[]⟩], .struct [(0, 2), (1, 2), (2, 2), (3, 9)]⟩ := by kernel_rfl
theorem tyAt58 : tiOf Try.prog 58 = some ⟨12, 120, [.int .i64 0, .int .i64 0, .int .i64 0, .int .i64 0, .int .i64 0, .ls 0 true true [], .int .i64 0, .bool false, .int .i64 0, .int .i64 0, .int .i64 0, .str ⟨#[]⟩], .struct [(0, 2), (1, 55), (8, 57)]⟩ := by kernel_rfl
theorem tyAt59 : tiOf Try.prog 59 = some ⟨12, 120, [.int .i64 0, .int .i64 0, .int .i64 0, .int .i64 0, .int .i64 0, .ls 0 true true [], .int .i64 0, .bool false, .int .i64 0, .int .i64 0, .int .i64 0, .str ⟨#[]⟩], .struct [(0, 2), (1, 55), (8, 57)]⟩ := by kernel_rfl
theorem tyAt63 : tiOf Try.prog 63 = some ⟨7, 72, [.int .i64 0, .int .i64 0, .int .i64 0, .int .i64 0, .ls 0 true true [], .int .i64 0, .bool false], .struct [(0, 2), (1, 2), (2, 2), (3, 2), (4, 53), (5, 2), (6, 4)]⟩ := by kernel_rfl
theorem tyAt72 : tiOf Try.prog 72 = some ⟨3, 40, [.int .i64 0, .int .i64 0, .ls 0 true true []], .struct [(0, 2), (1, 49)]⟩ := by kernel_rfl
theorem tyAt73 : tiOf Try.prog 73 = some ⟨3, 40, [.int .i64 0, .int .i64 0, .ls 0 true true []], .struct [(0, 2), (1, 49)]⟩ := by kernel_rfl
theorem tyAt76 : tiOf Try.prog 76 = some ⟨3, 24, [.int .i64 0, .int .i64 0, .int .i64 0], .struct [(0, 2), (1, 2), (2, 2)]⟩ := by kernel_rfl
theorem tyAt77 : tiOf Try.prog 77 = some ⟨3, 24, [.int .i64 0, .int .i64 0, .int .i64 0], .struct [(0, 2), (1, 2), (2, 2)]⟩ := by kernel_rfl
theorem tyAt81 : tiOf Try.prog 81 = some ⟨3, 56, [.int .i64 0, .ls 0 true true [], .ls 0 true true []], .struct [(0, 2), (1, 32)]⟩ := by kernel_rfl
theorem tyAt82 : tiOf Try.prog 82 = some ⟨3, 56, [.int .i64 0, .ls 0 true true [], .ls 0 true true []], .struct [(0, 2), (1, 32)]⟩ := by kernel_rfl
theorem tyAt91 : tiOf Try.prog 91 = some ⟨1, 8, [.int .u64 0], .int .u64⟩ := by kernel_rfl
theorem tyAt106 : tiOf Try.prog 106 = some ⟨1, 8, [.nilp], .ptr⟩ := by kernel_rfl
theorem tyAt110 : tiOf Try.prog 110 = some ⟨1, 8, [.nilp], .ptr⟩ := by kernel_rfl
theorem tyAt115 : tiOf Try.prog 115 = some ⟨1, 8, [.nilp], .ptr⟩ := by kernel_rfl
theorem tyAt126 : tiOf Try.prog 126 = some ⟨3, 24, [.int .i64 0, .int .i64 0, .int .i64 0], .struct [(0, 2), (1, 2), (2, 2)]⟩ := by kernel_rfl
theorem tyAt128 : tiOf Try.prog 128 = some ⟨2, 32, [.ls 0 true true [], .int .i64 0], .struct [(0, 27), (1, 2)]⟩ := by kernel_rfl
theorem tyAt129 : tiOf Try.prog 129 = some ⟨2, 32, [.ls 0 true true [], .int .i64 0], .struct [(0, 27), (1, 2)]⟩ := by kernel_rfl
theorem tyAt132 : tiOf Try.prog 132 = some ⟨1, 8, [.nilp], .ptr⟩ := by kernel_rfl
theorem tyAt133 : tiOf Try.prog 133 = some ⟨1, 24, [.ls 0 true true []], .slice 27⟩ := by kernel_rfl
theorem tyAt141 : tiOf Try.prog 141 = some ⟨4, 40, [.nilp, .nilp, .nilp, .str ⟨#[]⟩], .struct [(0, 17), (1, 17), (2, 17), (3, 9)]⟩ := by kernel_rfl
theorem tyAt142 : tiOf Try.prog 142 = some ⟨4, 40, [.nilp, .nilp, .nilp, .str ⟨#[]⟩], .struct [(0, 17), (1, 17), (2, 17), (3, 9)]⟩ := by kernel_rfl
theorem tyAt143 : tiOf Try.prog 143 = some ⟨0, 0, [], .arr 0 16⟩ := by kernel_rfl
theorem tyAt144 : tiOf Try.prog 144 = some ⟨0, 0, [], .struct [(0, 143)]⟩ := by kernel_rfl
theorem tyAt145 : tiOf Try.prog 145 = some ⟨0, 0, [], .struct [(0, 143)]⟩ := by kernel_rfl
theorem tyAt147 : tiOf Try.prog 147 = some ⟨1, 4, [.int .u32 0], .int .u32⟩ := by kernel_rfl
theorem tyAt148 : tiOf Try.prog 148 = some ⟨1, 1, [.int .u8 0], .int .u8⟩ := by kernel_rfl
theorem tyAt149 : tiOf Try.prog 149 = some ⟨1, 1, [.int .u8 0], .int .u8⟩ := by kernel_rfl
theorem tyAt151 : tiOf Try.prog 151 = some ⟨1, 8, [.nilp], .ptr⟩ := by kernel_rfl
theorem tyAt152 : tiOf Try.prog 152 = some ⟨1, 4, [.int .i32 0], .int .i32⟩ := by kernel_rfl
theorem tyAt153 : tiOf Try.prog 153 = some ⟨1, 4, [.int .i32 0], .int .i32⟩ := by kernel_rfl

theorem tyOk : TyOk Try.prog ty := by
  intro t i h
  unfold ty at h
  split at h
  · obtain rfl := Option.some.inj h; exact tyAt2
  · obtain rfl := Option.some.inj h; exact tyAt3
  · obtain rfl := Option.some.inj h; exact tyAt4
  · obtain rfl := Option.some.inj h; exact tyAt5
  · obtain rfl := Option.some.inj h; exact tyAt6
  · obtain rfl := Option.some.inj h; exact tyAt7
  · obtain rfl := Option.some.inj h; exact tyAt8
  · obtain rfl := Option.some.inj h; exact tyAt9
  · obtain rfl := Option.some.inj h; exact tyAt10
  · obtain rfl := Option.some.inj h; exact tyAt11
  · obtain rfl := Option.some.inj h; exact tyAt12
  · obtain rfl := Option.some.inj h; exact tyAt13
  · obtain rfl := Option.some.inj h; exact tyAt14
  · obtain rfl := Option.some.inj h; exact tyAt15
  · obtain rfl := Option.some.inj h; exact tyAt16
  · obtain rfl := Option.some.inj h; exact tyAt17
  · obtain rfl := Option.some.inj h; exact tyAt18
  · obtain rfl := Option.some.inj h; exact tyAt19
  · obtain rfl := Option.some.inj h; exact tyAt21
  · obtain rfl := Option.some.inj h; exact tyAt22
  · obtain rfl := Option.some.inj h; exact tyAt23
  · obtain rfl := Option.some.inj h; exact tyAt27
  · obtain rfl := Option.some.inj h; exact tyAt28
  · obtain rfl := Option.some.inj h; exact tyAt29
  · obtain rfl := Option.some.inj h; exact tyAt32
  · obtain rfl := Option.some.inj h; exact tyAt36
  · obtain rfl := Option.some.inj h; exact tyAt37
  · obtain rfl := Option.some.inj h; exact tyAt42
  · obtain rfl := Option.some.inj h; exact tyAt43
  · obtain rfl := Option.some.inj h; exact tyAt44
  · obtain rfl := Option.some.inj h; exact tyAt47
  · obtain rfl := Option.some.inj h; exact tyAt48
  · obtain rfl := Option.some.inj h; exact tyAt49
  · obtain rfl := Option.some.inj h; exact tyAt53
  · obtain rfl := Option.some.inj h; exact tyAt54
  · obtain rfl := Option.some.inj h; exact tyAt55
  · obtain rfl := Option.some.inj h; exact tyAt56
  · obtain rfl := Option.some.inj h; exact tyAt57
  · obtain rfl := Option.some.inj h; exact tyAt58
  · obtain rfl := Option.some.inj h; exact tyAt59
  · obtain rfl := Option.some.inj h; exact tyAt63
  · obtain rfl := Option.some.inj h; exact tyAt72
  · obtain rfl := Option.some.inj h; exact tyAt73
  · obtain rfl := Option.some.inj h; exact tyAt76
  · obtain rfl := Option.some.inj h; exact tyAt77
  · obtain rfl := Option.some.inj h; exact tyAt81
  · obtain rfl := Option.some.inj h; exact tyAt82
  · obtain rfl := Option.some.inj h; exact tyAt91
  · obtain rfl := Option.some.inj h; exact tyAt106
  · obtain rfl := Option.some.inj h; exact tyAt110
  · obtain rfl := Option.some.inj h; exact tyAt115
  · obtain rfl := Option.some.inj h; exact tyAt126
  · obtain rfl := Option.some.inj h; exact tyAt128
  · obtain rfl := Option.some.inj h; exact tyAt129
  · obtain rfl := Option.some.inj h; exact tyAt132
  · obtain rfl := Option.some.inj h; exact tyAt133
  · obtain rfl := Option.some.inj h; exact tyAt141
  · obtain rfl := Option.some.inj h; exact tyAt142
  · obtain rfl := Option.some.inj h; exact tyAt143
  · obtain rfl := Option.some.inj h; exact tyAt144
  · obtain rfl := Option.some.inj h; exact tyAt145
  · obtain rfl := Option.some.inj h; exact tyAt147
  · obtain rfl := Option.some.inj h; exact tyAt148
  · obtain rfl := Option.some.inj h; exact tyAt149
  · obtain rfl := Option.some.inj h; exact tyAt151
  · obtain rfl := Option.some.inj h; exact tyAt152
  · obtain rfl := Option.some.inj h; exact tyAt153
  · cases h

end Go.Proofs.Ytgakkecaflppfaa
