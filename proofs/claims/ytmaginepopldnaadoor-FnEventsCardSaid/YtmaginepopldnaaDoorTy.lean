import Derived.Test.YtmaginepopldnaaDoorGh
import Derived.Test.YtmaginepopldnaaDoorProg
import Derived.KernelRfl
/- The types of this seat's program that the proofs ask for. -/
namespace Go.Proofs.YtmaginepopldnaaDoor
open Go.Av
def ty : TypeId → Option TI
  | 2 => some ⟨1, 8, [.int .i64 0], .int .i64⟩
  | 3 => some ⟨1, 8, [.int .i64 0], .int .i64⟩
  | 4 => some ⟨1, 1, [.bool false], .bool⟩
  | 5 => some ⟨1, 1, [.int .u8 0], .int .u8⟩
  | 6 => some ⟨1, 1, [.int .u8 0], .int .u8⟩
  | 7 => some ⟨4, 24, [.int .i64 0, .int .i64 0, .bool false, .int .u8 0], .struct [(0, 2), (1, 3), (2, 4), (3, 6)]⟩
  | 8 => some ⟨4, 24, [.int .i64 0, .int .i64 0, .bool false, .int .u8 0], .struct [(0, 2), (1, 3), (2, 4), (3, 6)]⟩
  | 9 => some ⟨1, 16, [.str ⟨#[]⟩], .str⟩
  | 10 => some ⟨1, 16, [.str ⟨#[]⟩], .str⟩
  | 11 => some ⟨1, 16, [.str ⟨#[]⟩], .str⟩
  | 12 => some ⟨1, 8, [.int .u64 0], .int .u64⟩
  | 13 => some ⟨2, 24, [.str ⟨#[]⟩, .int .u64 0], .struct [(0, 9), (1, 12)]⟩
  | 14 => some ⟨2, 24, [.str ⟨#[]⟩, .int .u64 0], .struct [(0, 9), (1, 12)]⟩
  | 15 => some ⟨1, 8, [.nilp], .ptr⟩
  | 16 => some ⟨1, 8, [.nilp], .ptr⟩
  | 17 => some ⟨1, 8, [.nilp], .ptr⟩
  | 18 => some ⟨1, 8, [.nilp], .struct [(0, 17)]⟩
  | 19 => some ⟨1, 8, [.nilp], .struct [(0, 17)]⟩
  | 21 => some ⟨1, 4, [.int .i32 0], .int .i32⟩
  | 22 => some ⟨4, 40, [.int .i64 0, .int .i64 0, .int .i64 0, .str ⟨#[]⟩], .struct [(0, 2), (1, 2), (2, 2), (3, 9)]⟩
  | 23 => some ⟨4, 40, [.int .i64 0, .int .i64 0, .int .i64 0, .str ⟨#[]⟩], .struct [(0, 2), (1, 2), (2, 2), (3, 9)]⟩
  | 26 => some ⟨4, 40, [.int .i64 0, .int .i64 0, .int .i64 0, .str ⟨#[]⟩], .struct [(0, 2), (1, 2), (2, 2), (3, 9)]⟩
  | 29 => some ⟨1, 24, [.ls 0 true true []], .slice 5⟩
  | 30 => some ⟨2, 32, [.int .i64 0, .ls 0 true true []], .struct [(0, 2), (1, 29)]⟩
  | 31 => some ⟨2, 32, [.int .i64 0, .ls 0 true true []], .struct [(0, 2), (1, 29)]⟩
  | 35 => some ⟨5, 48, [.int .i64 0, .int .i64 0, .int .i64 0, .int .i64 0, .str ⟨#[]⟩], .struct [(0, 2), (1, 26)]⟩
  | 36 => some ⟨5, 48, [.int .i64 0, .int .i64 0, .int .i64 0, .int .i64 0, .str ⟨#[]⟩], .struct [(0, 2), (1, 26)]⟩
  | 48 => some ⟨1, 24, [.ls 0 true true []], .slice 29⟩
  | 49 => some ⟨3, 40, [.int .i64 0, .int .i64 0, .ls 0 true true []], .struct [(0, 2), (1, 2), (2, 48)]⟩
  | 50 => some ⟨3, 40, [.int .i64 0, .int .i64 0, .ls 0 true true []], .struct [(0, 2), (1, 2), (2, 48)]⟩
  | 53 => some ⟨2, 16, [.int .i64 0, .int .i64 0], .struct [(0, 2), (1, 2)]⟩
  | 54 => some ⟨2, 16, [.int .i64 0, .int .i64 0], .struct [(0, 2), (1, 2)]⟩
  | 58 => some ⟨1, 8, [.nilp], .ptr⟩
  | 63 => some ⟨256, 256, List.replicate 256 (.bool false), .arr 256 4⟩
  | 64 => some ⟨256, 256, List.replicate 256 (.bool false), .arr 256 4⟩
  | 68 => some ⟨1, 8, [.nilp], .ptr⟩
  | 72 => some ⟨1, 8, [.int .u64 0], .int .u64⟩
  | 75 => some ⟨1, 24, [.ls 0 true true []], .slice 9⟩
  | 76 => some ⟨2, 32, [.ls 0 true true [], .int .i64 0], .struct [(0, 29), (1, 2)]⟩
  | 77 => some ⟨2, 32, [.ls 0 true true [], .int .i64 0], .struct [(0, 29), (1, 2)]⟩
  | 84 => some ⟨1, 24, [.ls 0 true true []], .slice 2⟩
  | 86 => some ⟨256, 256, List.replicate 256 (.int .u8 0), .arr 256 5⟩
  | 87 => some ⟨2, 2, [.int .u8 0, .int .u8 0], .struct [(0, 5), (1, 5)]⟩
  | 88 => some ⟨2, 2, [.int .u8 0, .int .u8 0], .struct [(0, 5), (1, 5)]⟩
  | 89 => some ⟨32, 32, List.replicate 32 (.int .u8 0), .arr 16 88⟩
  | 95 => some ⟨4, 40, [.nilp, .nilp, .nilp, .str ⟨#[]⟩], .struct [(0, 17), (1, 17), (2, 17), (3, 9)]⟩
  | 96 => some ⟨4, 40, [.nilp, .nilp, .nilp, .str ⟨#[]⟩], .struct [(0, 17), (1, 17), (2, 17), (3, 9)]⟩
  | 97 => some ⟨0, 0, [], .arr 0 16⟩
  | 98 => some ⟨0, 0, [], .struct [(0, 97)]⟩
  | 99 => some ⟨0, 0, [], .struct [(0, 97)]⟩
  | 101 => some ⟨1, 4, [.int .u32 0], .int .u32⟩
  | 102 => some ⟨1, 1, [.int .u8 0], .int .u8⟩
  | 103 => some ⟨1, 1, [.int .u8 0], .int .u8⟩
  | 105 => some ⟨1, 8, [.nilp], .ptr⟩
  | 106 => some ⟨1, 4, [.int .i32 0], .int .i32⟩
  | 107 => some ⟨1, 4, [.int .i32 0], .int .i32⟩
  | _ => none

theorem tyAt2 : tiOf Tryd.prog 2 = some ⟨1, 8, [.int .i64 0], .int .i64⟩ := by kernel_rfl
theorem tyAt3 : tiOf Tryd.prog 3 = some ⟨1, 8, [.int .i64 0], .int .i64⟩ := by kernel_rfl
theorem tyAt4 : tiOf Tryd.prog 4 = some ⟨1, 1, [.bool false], .bool⟩ := by kernel_rfl
theorem tyAt5 : tiOf Tryd.prog 5 = some ⟨1, 1, [.int .u8 0], .int .u8⟩ := by kernel_rfl
theorem tyAt6 : tiOf Tryd.prog 6 = some ⟨1, 1, [.int .u8 0], .int .u8⟩ := by kernel_rfl
theorem tyAt7 : tiOf Tryd.prog 7 = some ⟨4, 24, [.int .i64 0, .int .i64 0, .bool false, .int .u8 0], .struct [(0, 2), (1, 3), (2, 4), (3, 6)]⟩ := by kernel_rfl
theorem tyAt8 : tiOf Tryd.prog 8 = some ⟨4, 24, [.int .i64 0, .int .i64 0, .bool false, .int .u8 0], .struct [(0, 2), (1, 3), (2, 4), (3, 6)]⟩ := by kernel_rfl
theorem tyAt9 : tiOf Tryd.prog 9 = some ⟨1, 16, [.str ⟨#[]⟩], .str⟩ := by kernel_rfl
theorem tyAt10 : tiOf Tryd.prog 10 = some ⟨1, 16, [.str ⟨#[]⟩], .str⟩ := by kernel_rfl
theorem tyAt11 : tiOf Tryd.prog 11 = some ⟨1, 16, [.str ⟨#[]⟩], .str⟩ := by kernel_rfl
theorem tyAt12 : tiOf Tryd.prog 12 = some ⟨1, 8, [.int .u64 0], .int .u64⟩ := by kernel_rfl
theorem tyAt13 : tiOf Tryd.prog 13 = some ⟨2, 24, [.str ⟨#[]⟩, .int .u64 0], .struct [(0, 9), (1, 12)]⟩ := by kernel_rfl
theorem tyAt14 : tiOf Tryd.prog 14 = some ⟨2, 24, [.str ⟨#[]⟩, .int .u64 0], .struct [(0, 9), (1, 12)]⟩ := by kernel_rfl
theorem tyAt15 : tiOf Tryd.prog 15 = some ⟨1, 8, [.nilp], .ptr⟩ := by kernel_rfl
theorem tyAt16 : tiOf Tryd.prog 16 = some ⟨1, 8, [.nilp], .ptr⟩ := by kernel_rfl
theorem tyAt17 : tiOf Tryd.prog 17 = some ⟨1, 8, [.nilp], .ptr⟩ := by kernel_rfl
theorem tyAt18 : tiOf Tryd.prog 18 = some ⟨1, 8, [.nilp], .struct [(0, 17)]⟩ := by kernel_rfl
theorem tyAt19 : tiOf Tryd.prog 19 = some ⟨1, 8, [.nilp], .struct [(0, 17)]⟩ := by kernel_rfl
theorem tyAt21 : tiOf Tryd.prog 21 = some ⟨1, 4, [.int .i32 0], .int .i32⟩ := by kernel_rfl
theorem tyAt22 : tiOf Tryd.prog 22 = some ⟨4, 40, [.int .i64 0, .int .i64 0, .int .i64 0, .str ⟨#[]⟩], .struct [(0, 2), (1, 2), (2, 2), (3, 9)]⟩ := by kernel_rfl
theorem tyAt23 : tiOf Tryd.prog 23 = some ⟨4, 40, [.int .i64 0, .int .i64 0, .int .i64 0, .str ⟨#[]⟩], .struct [(0, 2), (1, 2), (2, 2), (3, 9)]⟩ := by kernel_rfl
theorem tyAt26 : tiOf Tryd.prog 26 = some ⟨4, 40, [.int .i64 0, .int .i64 0, .int .i64 0, .str ⟨#[]⟩], .struct [(0, 2), (1, 2), (2, 2), (3, 9)]⟩ := by kernel_rfl
theorem tyAt29 : tiOf Tryd.prog 29 = some ⟨1, 24, [.ls 0 true true []], .slice 5⟩ := by kernel_rfl
theorem tyAt30 : tiOf Tryd.prog 30 = some ⟨2, 32, [.int .i64 0, .ls 0 true true []], .struct [(0, 2), (1, 29)]⟩ := by kernel_rfl
theorem tyAt31 : tiOf Tryd.prog 31 = some ⟨2, 32, [.int .i64 0, .ls 0 true true []], .struct [(0, 2), (1, 29)]⟩ := by kernel_rfl
theorem tyAt35 : tiOf Tryd.prog 35 = some ⟨5, 48, [.int .i64 0, .int .i64 0, .int .i64 0, .int .i64 0, .str ⟨#[]⟩], .struct [(0, 2), (1, 26)]⟩ := by kernel_rfl
theorem tyAt36 : tiOf Tryd.prog 36 = some ⟨5, 48, [.int .i64 0, .int .i64 0, .int .i64 0, .int .i64 0, .str ⟨#[]⟩], .struct [(0, 2), (1, 26)]⟩ := by kernel_rfl
theorem tyAt48 : tiOf Tryd.prog 48 = some ⟨1, 24, [.ls 0 true true []], .slice 29⟩ := by kernel_rfl
theorem tyAt49 : tiOf Tryd.prog 49 = some ⟨3, 40, [.int .i64 0, .int .i64 0, .ls 0 true true []], .struct [(0, 2), (1, 2), (2, 48)]⟩ := by kernel_rfl
theorem tyAt50 : tiOf Tryd.prog 50 = some ⟨3, 40, [.int .i64 0, .int .i64 0, .ls 0 true true []], .struct [(0, 2), (1, 2), (2, 48)]⟩ := by kernel_rfl
theorem tyAt53 : tiOf Tryd.prog 53 = some ⟨2, 16, [.int .i64 0, .int .i64 0], .struct [(0, 2), (1, 2)]⟩ := by kernel_rfl
theorem tyAt54 : tiOf Tryd.prog 54 = some ⟨2, 16, [.int .i64 0, .int .i64 0], .struct [(0, 2), (1, 2)]⟩ := by kernel_rfl
theorem tyAt58 : tiOf Tryd.prog 58 = some ⟨1, 8, [.nilp], .ptr⟩ := by kernel_rfl
theorem tyAt63 : tiOf Tryd.prog 63 = some ⟨256, 256, List.replicate 256 (.bool false), .arr 256 4⟩ := by kernel_rfl
theorem tyAt64 : tiOf Tryd.prog 64 = some ⟨256, 256, List.replicate 256 (.bool false), .arr 256 4⟩ := by kernel_rfl
theorem tyAt68 : tiOf Tryd.prog 68 = some ⟨1, 8, [.nilp], .ptr⟩ := by kernel_rfl
theorem tyAt72 : tiOf Tryd.prog 72 = some ⟨1, 8, [.int .u64 0], .int .u64⟩ := by kernel_rfl
theorem tyAt75 : tiOf Tryd.prog 75 = some ⟨1, 24, [.ls 0 true true []], .slice 9⟩ := by kernel_rfl
theorem tyAt76 : tiOf Tryd.prog 76 = some ⟨2, 32, [.ls 0 true true [], .int .i64 0], .struct [(0, 29), (1, 2)]⟩ := by kernel_rfl
theorem tyAt77 : tiOf Tryd.prog 77 = some ⟨2, 32, [.ls 0 true true [], .int .i64 0], .struct [(0, 29), (1, 2)]⟩ := by kernel_rfl
theorem tyAt84 : tiOf Tryd.prog 84 = some ⟨1, 24, [.ls 0 true true []], .slice 2⟩ := by kernel_rfl
theorem tyAt86 : tiOf Tryd.prog 86 = some ⟨256, 256, List.replicate 256 (.int .u8 0), .arr 256 5⟩ := by kernel_rfl
theorem tyAt87 : tiOf Tryd.prog 87 = some ⟨2, 2, [.int .u8 0, .int .u8 0], .struct [(0, 5), (1, 5)]⟩ := by kernel_rfl
theorem tyAt88 : tiOf Tryd.prog 88 = some ⟨2, 2, [.int .u8 0, .int .u8 0], .struct [(0, 5), (1, 5)]⟩ := by kernel_rfl
theorem tyAt89 : tiOf Tryd.prog 89 = some ⟨32, 32, List.replicate 32 (.int .u8 0), .arr 16 88⟩ := by kernel_rfl
theorem tyAt95 : tiOf Tryd.prog 95 = some ⟨4, 40, [.nilp, .nilp, .nilp, .str ⟨#[]⟩], .struct [(0, 17), (1, 17), (2, 17), (3, 9)]⟩ := by kernel_rfl
theorem tyAt96 : tiOf Tryd.prog 96 = some ⟨4, 40, [.nilp, .nilp, .nilp, .str ⟨#[]⟩], .struct [(0, 17), (1, 17), (2, 17), (3, 9)]⟩ := by kernel_rfl
theorem tyAt97 : tiOf Tryd.prog 97 = some ⟨0, 0, [], .arr 0 16⟩ := by kernel_rfl
theorem tyAt98 : tiOf Tryd.prog 98 = some ⟨0, 0, [], .struct [(0, 97)]⟩ := by kernel_rfl
theorem tyAt99 : tiOf Tryd.prog 99 = some ⟨0, 0, [], .struct [(0, 97)]⟩ := by kernel_rfl
theorem tyAt101 : tiOf Tryd.prog 101 = some ⟨1, 4, [.int .u32 0], .int .u32⟩ := by kernel_rfl
theorem tyAt102 : tiOf Tryd.prog 102 = some ⟨1, 1, [.int .u8 0], .int .u8⟩ := by kernel_rfl
theorem tyAt103 : tiOf Tryd.prog 103 = some ⟨1, 1, [.int .u8 0], .int .u8⟩ := by kernel_rfl
theorem tyAt105 : tiOf Tryd.prog 105 = some ⟨1, 8, [.nilp], .ptr⟩ := by kernel_rfl
theorem tyAt106 : tiOf Tryd.prog 106 = some ⟨1, 4, [.int .i32 0], .int .i32⟩ := by kernel_rfl
theorem tyAt107 : tiOf Tryd.prog 107 = some ⟨1, 4, [.int .i32 0], .int .i32⟩ := by kernel_rfl

theorem tyOk : TyOk Tryd.prog ty := by
  intro t i h
  unfold ty at h
  split at h
  · obtain rfl := Option.some.inj h; exact tyAt2
  · obtain rfl := Option.some.inj h; exact tyAt3
  · obtain rfl := Option.some.inj h; exact tyAt4
  · obtain rfl := Option.some.inj h; exact tyAt5
  · obtain rfl := Option.some.inj h; exact tyAt6
  · obtain rfl := Option.some.inj h; exact tyAt7
  · obtain rfl := Option.some.inj h; exact tyAt8
  · obtain rfl := Option.some.inj h; exact tyAt9
  · obtain rfl := Option.some.inj h; exact tyAt10
  · obtain rfl := Option.some.inj h; exact tyAt11
  · obtain rfl := Option.some.inj h; exact tyAt12
  · obtain rfl := Option.some.inj h; exact tyAt13
  · obtain rfl := Option.some.inj h; exact tyAt14
  · obtain rfl := Option.some.inj h; exact tyAt15
  · obtain rfl := Option.some.inj h; exact tyAt16
  · obtain rfl := Option.some.inj h; exact tyAt17
  · obtain rfl := Option.some.inj h; exact tyAt18
  · obtain rfl := Option.some.inj h; exact tyAt19
  · obtain rfl := Option.some.inj h; exact tyAt21
  · obtain rfl := Option.some.inj h; exact tyAt22
  · obtain rfl := Option.some.inj h; exact tyAt23
  · obtain rfl := Option.some.inj h; exact tyAt26
  · obtain rfl := Option.some.inj h; exact tyAt29
  · obtain rfl := Option.some.inj h; exact tyAt30
  · obtain rfl := Option.some.inj h; exact tyAt31
  · obtain rfl := Option.some.inj h; exact tyAt35
  · obtain rfl := Option.some.inj h; exact tyAt36
  · obtain rfl := Option.some.inj h; exact tyAt48
  · obtain rfl := Option.some.inj h; exact tyAt49
  · obtain rfl := Option.some.inj h; exact tyAt50
  · obtain rfl := Option.some.inj h; exact tyAt53
  · obtain rfl := Option.some.inj h; exact tyAt54
  · obtain rfl := Option.some.inj h; exact tyAt58
  · obtain rfl := Option.some.inj h; exact tyAt63
  · obtain rfl := Option.some.inj h; exact tyAt64
  · obtain rfl := Option.some.inj h; exact tyAt68
  · obtain rfl := Option.some.inj h; exact tyAt72
  · obtain rfl := Option.some.inj h; exact tyAt75
  · obtain rfl := Option.some.inj h; exact tyAt76
  · obtain rfl := Option.some.inj h; exact tyAt77
  · obtain rfl := Option.some.inj h; exact tyAt84
  · obtain rfl := Option.some.inj h; exact tyAt86
  · obtain rfl := Option.some.inj h; exact tyAt87
  · obtain rfl := Option.some.inj h; exact tyAt88
  · obtain rfl := Option.some.inj h; exact tyAt89
  · obtain rfl := Option.some.inj h; exact tyAt95
  · obtain rfl := Option.some.inj h; exact tyAt96
  · obtain rfl := Option.some.inj h; exact tyAt97
  · obtain rfl := Option.some.inj h; exact tyAt98
  · obtain rfl := Option.some.inj h; exact tyAt99
  · obtain rfl := Option.some.inj h; exact tyAt101
  · obtain rfl := Option.some.inj h; exact tyAt102
  · obtain rfl := Option.some.inj h; exact tyAt103
  · obtain rfl := Option.some.inj h; exact tyAt105
  · obtain rfl := Option.some.inj h; exact tyAt106
  · obtain rfl := Option.some.inj h; exact tyAt107
  · cases h

end Go.Proofs.YtmaginepopldnaaDoor
