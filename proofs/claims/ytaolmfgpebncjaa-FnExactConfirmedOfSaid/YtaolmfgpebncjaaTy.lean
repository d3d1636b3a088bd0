import Derived.Test.YtaolmfgpebncjaaGh
import Derived.Test.YtaolmfgpebncjaaProg
import Derived.KernelRfl
/- The types of this seat's program that the proofs ask for. -/
namespace Go.Proofs.Ytaolmfgpebncjaa
open Go.Av
def ty : TypeId → Option TI
  | 2 => some ⟨1, 8, [.int .i64 0], .int .i64⟩
  | 3 => some ⟨1, 8, [.int .i64 0], .int .i64⟩
  | 4 => some ⟨1, 1, [.bool false], .bool⟩
  | 5 => some ⟨1, 1, [.int .u8 0], .int .u8⟩
  | 6 => some ⟨1, 1, [.int .u8 0], .int .u8⟩
  | 7 => some ⟨4, 24, [.int .i64 0, .int .i64 0, .bool false, .int .u8 0], .struct [(0, 2), (1, 3), (2, 4), (3, 6)]⟩
  | 8 => some ⟨4, 24, [.int .i64 0, .int .i64 0, .bool false, .int .u8 0], .struct [(0, 2), (1, 3), (2, 4), (3, 6)]⟩
  | 9 => some ⟨1, 16, [.str ⟨#[]⟩], .str⟩
  | 10 => some ⟨1, 16, [.str ⟨#[]⟩], .str⟩
  | 11 => some ⟨1, 16, [.str ⟨#[]⟩], .str⟩
  | 12 => some ⟨1, 8, [.int .u64 0], .int .u64⟩
  | 13 => some ⟨2, 24, [.str ⟨#[]⟩, .int .u64 0], .struct [(0, 9), (1, 12)]⟩
  | 14 => some ⟨2, 24, [.str ⟨#[]⟩, .int .u64 0], .struct [(0, 9), (1, 12)]⟩
  | 15 => some ⟨1, 8, [.nilp], .ptr⟩
  | 16 => some ⟨1, 8, [.nilp], .ptr⟩
  | 17 => some ⟨1, 8, [.nilp], .ptr⟩
  | 18 => some ⟨1, 8, [.nilp], .struct [(0, 17)]⟩
  | 19 => some ⟨1, 8, [.nilp], .struct [(0, 17)]⟩
  | 21 => some ⟨1, 4, [.int .i32 0], .int .i32⟩
  | 22 => some ⟨1, 24, [.ls 0 true true []], .slice 75⟩
  | 23 => some ⟨2, 32, [.ls 0 true true [], .int .i64 0], .struct [(0, 22), (1, 2)]⟩
  | 24 => some ⟨2, 32, [.ls 0 true true [], .int .i64 0], .struct [(0, 22), (1, 2)]⟩
  | 27 => some ⟨1, 24, [.ls 0 true true []], .slice 64⟩
  | 28 => some ⟨2, 32, [.ls 0 true true [], .int .i64 0], .struct [(0, 27), (1, 2)]⟩
  | 29 => some ⟨2, 32, [.ls 0 true true [], .int .i64 0], .struct [(0, 27), (1, 2)]⟩
  | 33 => some ⟨2, 16, [.int .i64 0, .int .i64 0], .struct [(0, 2), (1, 2)]⟩
  | 34 => some ⟨2, 16, [.int .i64 0, .int .i64 0], .struct [(0, 2), (1, 2)]⟩
  | 37 => some ⟨1, 24, [.ls 0 true true []], .slice 77⟩
  | 40 => some ⟨1, 24, [.ls 0 true true []], .slice 81⟩
  | 44 => some ⟨1, 24, [.ls 0 true true []], .slice 5⟩
  | 51 => some ⟨1, 24, [.ls 0 true true []], .slice 2⟩
  | 52 => some ⟨2, 32, [.int .i64 0, .ls 0 true true []], .struct [(0, 2), (1, 51)]⟩
  | 53 => some ⟨2, 32, [.int .i64 0, .ls 0 true true []], .struct [(0, 2), (1, 51)]⟩
  | 60 => some ⟨1, 24, [.ls 0 true true []], .slice 44⟩
  | 63 => some ⟨6, 80, [.ls 0 true true [], .int .i64 0, .int .i64 0, .int .i64 0, .ls 0 true true [], .int .i64 0], .struct [(0, 44), (1, 2), (2, 2), (3, 2), (4, 44), (5, 2)]⟩
  | 64 => some ⟨6, 80, [.ls 0 true true [], .int .i64 0, .int .i64 0, .int .i64 0, .ls 0 true true [], .int .i64 0], .struct [(0, 44), (1, 2), (2, 2), (3, 2), (4, 44), (5, 2)]⟩
  | 72 => some ⟨1, 8, [.nilp], .ptr⟩
  | 75 => some ⟨6, 80, [.ls 0 true true [], .int .i64 0, .int .i64 0, .int .i64 0, .ls 0 true true [], .int .i64 0], .struct [(0, 44), (1, 2), (2, 2), (3, 2), (4, 44), (5, 2)]⟩
  | 76 => some ⟨7, 104, [.ls 0 true true [], .int .i64 0, .int .i64 0, .int .i64 0, .ls 0 true true [], .int .i64 0, .ls 0 true true []], .struct [(0, 75), (6, 60)]⟩
  | 77 => some ⟨7, 104, [.ls 0 true true [], .int .i64 0, .int .i64 0, .int .i64 0, .ls 0 true true [], .int .i64 0, .ls 0 true true []], .struct [(0, 75), (6, 60)]⟩
  | 80 => some ⟨7, 104, [.ls 0 true true [], .int .i64 0, .int .i64 0, .int .i64 0, .ls 0 true true [], .int .i64 0, .ls 0 true true []], .struct [(0, 64), (6, 60)]⟩
  | 81 => some ⟨7, 104, [.ls 0 true true [], .int .i64 0, .int .i64 0, .int .i64 0, .ls 0 true true [], .int .i64 0, .ls 0 true true []], .struct [(0, 64), (6, 60)]⟩
  | 131 => some ⟨1, 8, [.int .u64 0], .int .u64⟩
  | 134 => some ⟨1, 8, [.int .u64 0], .int .u64⟩
  | 135 => some ⟨1, 4, [.int .u32 0], .int .u32⟩
  | 136 => some ⟨8, 32, [.int .u32 0, .int .u32 0, .int .u32 0, .int .u32 0, .int .u32 0, .int .u32 0, .int .u32 0, .int .u32 0], .arr 8 135⟩
  | 140 => some ⟨64, 512, List.replicate 64 (.int .i64 0), .arr 64 2⟩
  | 142 => some ⟨8, 64, [.int .i64 0, .int .i64 0, .int .i64 0, .int .i64 0, .int .i64 0, .int .i64 0, .int .i64 0, .int .i64 0], .arr 8 2⟩
  | 146 => some ⟨64, 256, List.replicate 64 (.int .u32 0), .arr 64 135⟩
  | 152 => some ⟨4, 40, [.nilp, .nilp, .nilp, .str ⟨#[]⟩], .struct [(0, 17), (1, 17), (2, 17), (3, 9)]⟩
  | 153 => some ⟨4, 40, [.nilp, .nilp, .nilp, .str ⟨#[]⟩], .struct [(0, 17), (1, 17), (2, 17), (3, 9)]⟩
  | 154 => some ⟨0, 0, [], .arr 0 16⟩
  | 155 => some ⟨0, 0, [], .struct [(0, 154)]⟩
  | 156 => some ⟨0, 0, [], .struct [(0, 154)]⟩
  | 158 => some ⟨1, 1, [.int .u8 0], .int .u8⟩
  | 159 => some ⟨1, 1, [.int .u8 0], .int .u8⟩
  | 161 => some ⟨1, 8, [.nilp], .ptr⟩
  | 162 => some ⟨1, 4, [.int .i32 0], .int .i32⟩
  | 163 => some ⟨1, 4, [.int .i32 0], .int .i32⟩
  | _ => none

theorem tyAt2 : tiOf Try.prog 2 = some ⟨1, 8, [.int .i64 0], .int .i64⟩ := by kernel_rfl
theorem tyAt3 : tiOf Try.prog 3 = some ⟨1, 8, [.int .i64 0], .int .i64⟩ := by kernel_rfl
theorem tyAt4 : tiOf Try.prog 4 = some ⟨1, 1, [.bool false], .bool⟩ := by kernel_rfl
theorem tyAt5 : tiOf Try.prog 5 = some ⟨1, 1, [.int .u8 0], .int .u8⟩ := by kernel_rfl
theorem tyAt6 : tiOf Try.prog 6 = some ⟨1, 1, [.int .u8 0], .int .u8⟩ := by kernel_rfl
theorem tyAt7 : tiOf Try.prog 7 = some ⟨4, 24, [.int .i64 0, .int .i64 0, .bool false, .int .u8 0], .struct [(0, 2), (1, 3), (2, 4), (3, 6)]⟩ := by kernel_rfl
theorem tyAt8 : tiOf Try.prog 8 = some ⟨4, 24, [.int .i64 0, .int .i64 0, .bool false, .int .u8 0], .struct [(0, 2), (1, 3), (2, 4), (3, 6)]⟩ := by kernel_rfl
theorem tyAt9 : tiOf Try.prog 9 = some ⟨1, 16, [.str ⟨#[]⟩], .str⟩ := by kernel_rfl
theorem tyAt10 : tiOf Try.prog 10 = some ⟨1, 16, [.str ⟨#[]⟩], .str⟩ := by kernel_rfl
theorem tyAt11 : tiOf Try.prog 11 = some ⟨1, 16, [.str ⟨#[]⟩], .str⟩ := by kernel_rfl
theorem tyAt12 : tiOf Try.prog 12 = some ⟨1, 8, [.int .u64 0], .int .u64⟩ := by kernel_rfl
theorem tyAt13 : tiOf Try.prog 13 = some ⟨2, 24, [.str ⟨#[]⟩, .int .u64 0], .struct [(0, 9), (1, 12)]⟩ := by kernel_rfl
theorem tyAt14 : tiOf Try.prog 14 = some ⟨2, 24, [.str ⟨#[]⟩, .int .u64 0], .struct [(0, 9), (1, 12)]⟩ := by kernel_rfl
theorem tyAt15 : tiOf Try.prog 15 = some ⟨1, 8, [.nilp], .ptr⟩ := by kernel_rfl
theorem tyAt16 : tiOf Try.prog 16 = some ⟨1, 8, [.nilp], .ptr⟩ := by kernel_rfl
theorem tyAt17 : tiOf Try.prog 17 = some ⟨1, 8, [.nilp], .ptr⟩ := by kernel_rfl
theorem tyAt18 : tiOf Try.prog 18 = some ⟨1, 8, [.nilp], .struct [(0, 17)]⟩ := by kernel_rfl
theorem tyAt19 : tiOf Try.prog 19 = some ⟨1, 8, [.nilp], .struct [(0, 17)]⟩ := by kernel_rfl
theorem tyAt21 : tiOf Try.prog 21 = some ⟨1, 4, [.int .i32 0], .int .i32⟩ := by kernel_rfl
theorem tyAt22 : tiOf Try.prog 22 = some ⟨1, 24, [.ls 0 true true []], .slice 75⟩ := by kernel_rfl
theorem tyAt23 : tiOf Try.prog 23 = some ⟨2, 32, [.ls 0 true true [], .int .i64 0], .struct [(0, 22), (1, 2)]⟩ := by kernel_rfl
theorem tyAt24 : tiOf Try.prog 24 = some ⟨2, 32, [.ls 0 true true [], .int .i64 0], .struct [(0, 22), (1, 2)]⟩ := by kernel_rfl
theorem tyAt27 : tiOf Try.prog 27 = some ⟨1, 24, [.ls 0 true true []], .slice 64⟩ := by kernel_rfl
theorem tyAt28 : tiOf Try.prog 28 = some ⟨2, 32, [.ls 0 true true [], .int .i64 0], .struct [(0, 27), (1, 2)]⟩ := by kernel_rfl
theorem tyAt29 : tiOf Try.prog 29 = some ⟨2, 32, [.ls 0 true true [], .int .i64 0], .struct [(0, 27), (1, 2)]⟩ := by kernel_rfl
theorem tyAt33 : tiOf Try.prog 33 = some ⟨2, 16, [.int .i64 0, .int .i64 0], .struct [(0, 2), (1, 2)]⟩ := by kernel_rfl
theorem tyAt34 : tiOf Try.prog 34 = some ⟨2, 16, [.int .i64 0, .int .i64 0], .struct [(0, 2), (1, 2)]⟩ := by kernel_rfl
theorem tyAt37 : tiOf Try.prog 37 = some ⟨1, 24, [.ls 0 true true []], .slice 77⟩ := by kernel_rfl
theorem tyAt40 : tiOf Try.prog 40 = some ⟨1, 24, [.ls 0 true true []], .slice 81⟩ := by kernel_rfl
theorem tyAt44 : tiOf Try.prog 44 = some ⟨1, 24, [.ls 0 true true []], .slice 5⟩ := by kernel_rfl
theorem tyAt51 : tiOf Try.prog 51 = some ⟨1, 24, [.ls 0 true true []], .slice 2⟩ := by kernel_rfl
theorem tyAt52 : tiOf Try.prog 52 = some ⟨2, 32, [.int .i64 0, .ls 0 true true []], .struct [(0, 2), (1, 51)]⟩ := by kernel_rfl
theorem tyAt53 : tiOf Try.prog 53 = some ⟨2, 32, [.int .i64 0, .ls 0 true true []], .struct [(0, 2), (1, 51)]⟩ := by kernel_rfl
theorem tyAt60 : tiOf Try.prog 60 = some ⟨1, 24, [.ls 0 true true []], .slice 44⟩ := by kernel_rfl
theorem tyAt63 : tiOf Try.prog 63 = some ⟨6, 80, [.ls 0 true true [], .int .i64 0, .int .i64 0, .int .i64 0, .ls 0 true true [], .int .i64 0], .struct [(0, 44), (1, 2), (2, 2), (3, 2), (4, 44), (5, 2)]⟩ := by kernel_rfl
theorem tyAt64 : tiOf Try.prog 64 = some ⟨6, 80, [.ls 0 true true [], .int .i64 0, .int .i64 0, .int .i64 0, .ls 0 true true [], .int .i64 0], .struct [(0, 44), (1, 2), (2, 2), (3, 2), (4, 44), (5, 2)]⟩ := by kernel_rfl
theorem tyAt72 : tiOf Try.prog 72 = some ⟨1, 8, [.nilp], .ptr⟩ := by kernel_rfl
theorem tyAt75 : tiOf Try.prog 75 = some ⟨6, 80, [.ls 0 true true [], .int .i64 0, .int .i64 0, .int .i64 0, .ls 0 true true [], .int .i64 0], .struct [(0, 44), (1, 2), (2, 2), (3, 2), (4, 44), (5, 2)]⟩ := by kernel_rfl
theorem tyAt76 : tiOf Try.prog 76 = some ⟨7, 104, [.ls 0 true true [], .int .i64 0, .int .i64 0, .int .i64 0, .ls 0 true true [], .int .i64 0, .ls 0 true true []], .struct [(0, 75), (6, 60)]⟩ := by kernel_rfl
theorem tyAt77 : tiOf Try.prog 77 = some ⟨7, 104, [.ls 0 true true [], .int .i64 0, .int .i64 0, .int .i64 0, .ls 0 true true [], .int .i64 0, .ls 0 true true []], .struct [(0, 75), (6, 60)]⟩ := by kernel_rfl
theorem tyAt80 : tiOf Try.prog 80 = some ⟨7, 104, [.ls 0 true true [], .int .i64 0, .int .i64 0, .int .i64 0, .ls 0 true true [], .int .i64 0, .ls 0 true true []], .struct [(0, 64), (6, 60)]⟩ := by kernel_rfl
theorem tyAt81 : tiOf Try.prog 81 = some ⟨7, 104, [.ls 0 true true [], .int .i64 0, .int .i64 0, .int .i64 0, .ls 0 true true [], .int .i64 0, .ls 0 true true []], .struct [(0, 64), (6, 60)]⟩ := by kernel_rfl
theorem tyAt131 : tiOf Try.prog 131 = some ⟨1, 8, [.int .u64 0], .int .u64⟩ := by kernel_rfl
theorem tyAt134 : tiOf Try.prog 134 = some ⟨1, 8, [.int .u64 0], .int .u64⟩ := by kernel_rfl
theorem tyAt135 : tiOf Try.prog 135 = some ⟨1, 4, [.int .u32 0], .int .u32⟩ := by kernel_rfl
theorem tyAt136 : tiOf Try.prog 136 = some ⟨8, 32, [.int .u32 0, .int .u32 0, .int .u32 0, .int .u32 0, .int .u32 0, .int .u32 0, .int .u32 0, .int .u32 0], .arr 8 135⟩ := by kernel_rfl
theorem tyAt140 : tiOf Try.prog 140 = some ⟨64, 512, List.replicate 64 (.int .i64 0), .arr 64 2⟩ := by kernel_rfl
theorem tyAt142 : tiOf Try.prog 142 = some ⟨8, 64, [.int .i64 0, .int .i64 0, .int .i64 0, .int .i64 0, .int .i64 0, .int .i64 0, .int .i64 0, .int .i64 0], .arr 8 2⟩ := by kernel_rfl
theorem tyAt146 : tiOf Try.prog 146 = some ⟨64, 256, List.replicate 64 (.int .u32 0), .arr 64 135⟩ := by kernel_rfl
theorem tyAt152 : tiOf Try.prog 152 = some ⟨4, 40, [.nilp, .nilp, .nilp, .str ⟨#[]⟩], .struct [(0, 17), (1, 17), (2, 17), (3, 9)]⟩ := by kernel_rfl
theorem tyAt153 : tiOf Try.prog 153 = some ⟨4, 40, [.nilp, .nilp, .nilp, .str ⟨#[]⟩], .struct [(0, 17), (1, 17), (2, 17), (3, 9)]⟩ := by kernel_rfl
theorem tyAt154 : tiOf Try.prog 154 = some ⟨0, 0, [], .arr 0 16⟩ := by kernel_rfl
theorem tyAt155 : tiOf Try.prog 155 = some ⟨0, 0, [], .struct [(0, 154)]⟩ := by kernel_rfl
theorem tyAt156 : tiOf Try.prog 156 = some ⟨0, 0, [], .struct [(0, 154)]⟩ := by kernel_rfl
theorem tyAt158 : tiOf Try.prog 158 = some ⟨1, 1, [.int .u8 0], .int .u8⟩ := by kernel_rfl
theorem tyAt159 : tiOf Try.prog 159 = some ⟨1, 1, [.int .u8 0], .int .u8⟩ := by kernel_rfl
theorem tyAt161 : tiOf Try.prog 161 = some ⟨1, 8, [.nilp], .ptr⟩ := by kernel_rfl
theorem tyAt162 : tiOf Try.prog 162 = some ⟨1, 4, [.int .i32 0], .int .i32⟩ := by kernel_rfl
theorem tyAt163 : tiOf Try.prog 163 = some ⟨1, 4, [.int .i32 0], .int .i32⟩ := by kernel_rfl

theorem tyOk : TyOk Try.prog ty := by
  intro t i h
  unfold ty at h
  split at h
  · obtain rfl := Option.some.inj h; exact tyAt2
  · obtain rfl := Option.some.inj h; exact tyAt3
  · obtain rfl := Option.some.inj h; exact tyAt4
  · obtain rfl := Option.some.inj h; exact tyAt5
  · obtain rfl := Option.some.inj h; exact tyAt6
  · obtain rfl := Option.some.inj h; exact tyAt7
  · obtain rfl := Option.some.inj h; exact tyAt8
  · obtain rfl := Option.some.inj h; exact tyAt9
  · obtain rfl := Option.some.inj h; exact tyAt10
  · obtain rfl := Option.some.inj h; exact tyAt11
  · obtain rfl := Option.some.inj h; exact tyAt12
  · obtain rfl := Option.some.inj h; exact tyAt13
  · obtain rfl := Option.some.inj h; exact tyAt14
  · obtain rfl := Option.some.inj h; exact tyAt15
  · obtain rfl := Option.some.inj h; exact tyAt16
  · obtain rfl := Option.some.inj h; exact tyAt17
  · obtain rfl := Option.some.inj h; exact tyAt18
  · obtain rfl := Option.some.inj h; exact tyAt19
  · obtain rfl := Option.some.inj h; exact tyAt21
  · obtain rfl := Option.some.inj h; exact tyAt22
  · obtain rfl := Option.some.inj h; exact tyAt23
  · obtain rfl := Option.some.inj h; exact tyAt24
  · obtain rfl := Option.some.inj h; exact tyAt27
  · obtain rfl := Option.some.inj h; exact tyAt28
  · obtain rfl := Option.some.inj h; exact tyAt29
  · obtain rfl := Option.some.inj h; exact tyAt33
  · obtain rfl := Option.some.inj h; exact tyAt34
  · obtain rfl := Option.some.inj h; exact tyAt37
  · obtain rfl := Option.some.inj h; exact tyAt40
  · obtain rfl := Option.some.inj h; exact tyAt44
  · obtain rfl := Option.some.inj h; exact tyAt51
  · obtain rfl := Option.some.inj h; exact tyAt52
  · obtain rfl := Option.some.inj h; exact tyAt53
  · obtain rfl := Option.some.inj h; exact tyAt60
  · obtain rfl := Option.some.inj h; exact tyAt63
  · obtain rfl := Option.some.inj h; exact tyAt64
  · obtain rfl := Option.some.inj h; exact tyAt72
  · obtain rfl := Option.some.inj h; exact tyAt75
  · obtain rfl := Option.some.inj h; exact tyAt76
  · obtain rfl := Option.some.inj h; exact tyAt77
  · obtain rfl := Option.some.inj h; exact tyAt80
  · obtain rfl := Option.some.inj h; exact tyAt81
  · obtain rfl := Option.some.inj h; exact tyAt131
  · obtain rfl := Option.some.inj h; exact tyAt134
  · obtain rfl := Option.some.inj h; exact tyAt135
  · obtain rfl := Option.some.inj h; exact tyAt136
  · obtain rfl := Option.some.inj h; exact tyAt140
  · obtain rfl := Option.some.inj h; exact tyAt142
  · obtain rfl := Option.some.inj h; exact tyAt146
  · obtain rfl := Option.some.inj h; exact tyAt152
  · obtain rfl := Option.some.inj h; exact tyAt153
  · obtain rfl := Option.some.inj h; exact tyAt154
  · obtain rfl := Option.some.inj h; exact tyAt155
  · obtain rfl := Option.some.inj h; exact tyAt156
  · obtain rfl := Option.some.inj h; exact tyAt158
  · obtain rfl := Option.some.inj h; exact tyAt159
  · obtain rfl := Option.some.inj h; exact tyAt161
  · obtain rfl := Option.some.inj h; exact tyAt162
  · obtain rfl := Option.some.inj h; exact tyAt163
  · cases h

end Go.Proofs.Ytaolmfgpebncjaa
