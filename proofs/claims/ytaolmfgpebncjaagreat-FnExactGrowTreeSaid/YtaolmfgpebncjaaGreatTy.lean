import Derived.Test.YtaolmfgpebncjaaGreatGh
import Derived.Test.YtaolmfgpebncjaaGreatProg
import Derived.KernelRfl
/- The types of this seat's program that the proofs ask for. -/
namespace Go.Proofs.YtaolmfgpebncjaaGreat
open Go.Av
def ty:TypeId->Option TI
 | 2=>some ⟨1,8,[.int .i64 0],.int .i64⟩
 | 3=>some ⟨1,8,[.int .i64 0],.int .i64⟩
 | 4=>some ⟨1,1,[.bool false],.bool⟩
 | 5=>some ⟨1,1,[.int .u8 0],.int .u8⟩
 | 6=>some ⟨1,1,[.int .u8 0],.int .u8⟩
 | 7=>some ⟨4,24,[.int .i64 0,.int .i64 0,.bool false,.int .u8 0],.struct [(0,2),(1,3),(2,4),(3,6)]⟩
 | 8=>some ⟨4,24,[.int .i64 0,.int .i64 0,.bool false,.int .u8 0],.struct [(0,2),(1,3),(2,4),(3,6)]⟩
 | 9=>some ⟨1,16,[.str ⟨#[]⟩],.str⟩
 | 10=>some ⟨1,16,[.str ⟨#[]⟩],.str⟩
 | 11=>some ⟨1,16,[.str ⟨#[]⟩],.str⟩
 | 12=>some ⟨1,8,[.int .u64 0],.int .u64⟩
 | 13=>some ⟨2,24,[.str ⟨#[]⟩,.int .u64 0],.struct [(0,9),(1,12)]⟩
 | 14=>some ⟨2,24,[.str ⟨#[]⟩,.int .u64 0],.struct [(0,9),(1,12)]⟩
 | 15=>some ⟨1,8,[.nilp],.ptr⟩
 | 16=>some ⟨1,8,[.nilp],.ptr⟩
 | 17=>some ⟨1,8,[.nilp],.ptr⟩
 | 18=>some ⟨1,8,[.nilp],.struct [(0,17)]⟩
 | 19=>some ⟨1,8,[.nilp],.struct [(0,17)]⟩
 | 21=>some ⟨1,4,[.int .i32 0],.int .i32⟩
 | 22=>some ⟨1,24,[.ls 0 true true []],.slice 87⟩
 | 24=>some ⟨1,24,[.ls 0 true true []],.slice 2⟩
 | 25=>some ⟨2,32,[.int .i64 0,.ls 0 true true []],.struct [(0,2),(1,24)]⟩
 | 26=>some ⟨2,32,[.int .i64 0,.ls 0 true true []],.struct [(0,2),(1,24)]⟩
 | 28=>some ⟨1,24,[.ls 0 true true []],.slice 41⟩
 | 35=>some ⟨1,24,[.ls 0 true true []],.slice 37⟩
 | 37=>some ⟨1,24,[.ls 0 true true []],.slice 5⟩
 | 38=>some ⟨6,80,[.ls 0 true true [],.int .i64 0,.int .i64 0,.int .i64 0,.ls 0 true true [],.int .i64 0],.struct [(0,37),(1,2),(2,2),(3,2),(4,37),(5,2)]⟩
 | 39=>some ⟨6,80,[.ls 0 true true [],.int .i64 0,.int .i64 0,.int .i64 0,.ls 0 true true [],.int .i64 0],.struct [(0,37),(1,2),(2,2),(3,2),(4,37),(5,2)]⟩
 | 40=>some ⟨7,104,[.ls 0 true true [],.int .i64 0,.int .i64 0,.int .i64 0,.ls 0 true true [],.int .i64 0,.ls 0 true true []],.struct [(0,39),(6,35)]⟩
 | 41=>some ⟨7,104,[.ls 0 true true [],.int .i64 0,.int .i64 0,.int .i64 0,.ls 0 true true [],.int .i64 0,.ls 0 true true []],.struct [(0,39),(6,35)]⟩
 | 42=>some ⟨8,112,[.int .i64 0,.ls 0 true true [],.int .i64 0,.int .i64 0,.int .i64 0,.ls 0 true true [],.int .i64 0,.ls 0 true true []],.struct [(0,2),(1,41)]⟩
 | 43=>some ⟨8,112,[.int .i64 0,.ls 0 true true [],.int .i64 0,.int .i64 0,.int .i64 0,.ls 0 true true [],.int .i64 0,.ls 0 true true []],.struct [(0,2),(1,41)]⟩
 | 50=>some ⟨1,24,[.ls 0 true true []],.slice 85⟩
 | 51=>some ⟨2,32,[.ls 0 true true [],.int .i64 0],.struct [(0,50),(1,2)]⟩
 | 52=>some ⟨2,32,[.ls 0 true true [],.int .i64 0],.struct [(0,50),(1,2)]⟩
 | 53=>some ⟨3,40,[.int .i64 0,.int .i64 0,.ls 0 true true []],.struct [(0,2),(1,2),(2,35)]⟩
 | 54=>some ⟨3,40,[.int .i64 0,.int .i64 0,.ls 0 true true []],.struct [(0,2),(1,2),(2,35)]⟩
 | 58=>some ⟨1,24,[.ls 0 true true []],.slice 39⟩
 | 59=>some ⟨2,32,[.ls 0 true true [],.int .i64 0],.struct [(0,58),(1,2)]⟩
 | 60=>some ⟨2,32,[.ls 0 true true [],.int .i64 0],.struct [(0,58),(1,2)]⟩
 | 63=>some ⟨3,40,[.int .i64 0,.int .i64 0,.ls 0 true true []],.struct [(0,2),(1,2),(2,35)]⟩
 | 72=>some ⟨2,16,[.int .i64 0,.int .i64 0],.struct [(0,2),(1,2)]⟩
 | 73=>some ⟨2,16,[.int .i64 0,.int .i64 0],.struct [(0,2),(1,2)]⟩
 | 85=>some ⟨6,80,[.ls 0 true true [],.int .i64 0,.int .i64 0,.int .i64 0,.ls 0 true true [],.int .i64 0],.struct [(0,37),(1,2),(2,2),(3,2),(4,37),(5,2)]⟩
 | 86=>some ⟨7,104,[.ls 0 true true [],.int .i64 0,.int .i64 0,.int .i64 0,.ls 0 true true [],.int .i64 0,.ls 0 true true []],.struct [(0,85),(6,35)]⟩
 | 87=>some ⟨7,104,[.ls 0 true true [],.int .i64 0,.int .i64 0,.int .i64 0,.ls 0 true true [],.int .i64 0,.ls 0 true true []],.struct [(0,85),(6,35)]⟩
 | 110=>some ⟨1,8,[.nilp],.ptr⟩
 | 114=>some ⟨1,8,[.nilp],.ptr⟩
 | 142=>some ⟨7,88,[.int .i64 0,.ls 0 true true [],.int .i64 0,.int .i64 0,.int .i64 0,.ls 0 true true [],.int .i64 0],.struct [(0,2),(1,39)]⟩
 | 143=>some ⟨7,88,[.int .i64 0,.ls 0 true true [],.int .i64 0,.int .i64 0,.int .i64 0,.ls 0 true true [],.int .i64 0],.struct [(0,2),(1,39)]⟩
 | 157=>some ⟨2,32,[.ls 0 true true [],.int .i64 0],.struct [(0,37),(1,2)]⟩
 | 158=>some ⟨2,32,[.ls 0 true true [],.int .i64 0],.struct [(0,37),(1,2)]⟩
 | 173=>some ⟨1,8,[.int .u64 0],.int .u64⟩
 | 174=>some ⟨1,4,[.int .u32 0],.int .u32⟩
 | 175=>some ⟨8,32,[.int .u32 0,.int .u32 0,.int .u32 0,.int .u32 0,.int .u32 0,.int .u32 0,.int .u32 0,.int .u32 0],.arr 8 174⟩
 | 177=>some ⟨1,8,[.int .u64 0],.int .u64⟩
 | 181=>some ⟨1,24,[.ls 0 true true []],.slice 4⟩
 | 185=>some ⟨64,512,List.replicate 64 (.int .i64 0),.arr 64 2⟩
 | 187=>some ⟨8,64,[.int .i64 0,.int .i64 0,.int .i64 0,.int .i64 0,.int .i64 0,.int .i64 0,.int .i64 0,.int .i64 0],.arr 8 2⟩
 | 191=>some ⟨64,256,List.replicate 64 (.int .u32 0),.arr 64 174⟩
 | 198=>some ⟨4,40,[.nilp,.nilp,.nilp,.str ⟨#[]⟩],.struct [(0,17),(1,17),(2,17),(3,9)]⟩
 | 199=>some ⟨4,40,[.nilp,.nilp,.nilp,.str ⟨#[]⟩],.struct [(0,17),(1,17),(2,17),(3,9)]⟩
 | 200=>some ⟨0,0,[],.arr 0 16⟩
 | 201=>some ⟨0,0,[],.struct [(0,200)]⟩
 | 202=>some ⟨0,0,[],.struct [(0,200)]⟩
 | 204=>some ⟨1,1,[.int .u8 0],.int .u8⟩
 | 205=>some ⟨1,1,[.int .u8 0],.int .u8⟩
 | 207=>some ⟨1,8,[.nilp],.ptr⟩
 | 208=>some ⟨1,4,[.int .i32 0],.int .i32⟩
 | 209=>some ⟨1,4,[.int .i32 0],.int .i32⟩
 | _=>none
theorem tyAt2:tiOf Tryz.prog 2 = some ⟨1,8,[.int .i64 0],.int .i64⟩:=by kernel_rfl
theorem tyAt3:tiOf Tryz.prog 3 = some ⟨1,8,[.int .i64 0],.int .i64⟩:=by kernel_rfl
theorem tyAt4:tiOf Tryz.prog 4 = some ⟨1,1,[.bool false],.bool⟩:=by kernel_rfl
theorem tyAt5:tiOf Tryz.prog 5 = some ⟨1,1,[.int .u8 0],.int .u8⟩:=by kernel_rfl
theorem tyAt6:tiOf Tryz.prog 6 = some ⟨1,1,[.int .u8 0],.int .u8⟩:=by kernel_rfl
theorem tyAt7:tiOf Tryz.prog 7 = some ⟨4,24,[.int .i64 0,.int .i64 0,.bool false,.int .u8 0],.struct [(0,2),(1,3),(2,4),(3,6)]⟩:=by kernel_rfl
theorem tyAt8:tiOf Tryz.prog 8 = some ⟨4,24,[.int .i64 0,.int .i64 0,.bool false,.int .u8 0],.struct [(0,2),(1,3),(2,4),(3,6)]⟩:=by kernel_rfl
theorem tyAt9:tiOf Tryz.prog 9 = some ⟨1,16,[.str ⟨#[]⟩],.str⟩:=by kernel_rfl
theorem tyAt10:tiOf Tryz.prog 10 = some ⟨1,16,[.str ⟨#[]⟩],.str⟩:=by kernel_rfl
theorem tyAt11:tiOf Tryz.prog 11 = some ⟨1,16,[.str ⟨#[]⟩],.str⟩:=by kernel_rfl
theorem tyAt12:tiOf Tryz.prog 12 = some ⟨1,8,[.int .u64 0],.int .u64⟩:=by kernel_rfl
theorem tyAt13:tiOf Tryz.prog 13 = some ⟨2,24,[.str ⟨#[]⟩,.int .u64 0],.struct [(0,9),(1,12)]⟩:=by kernel_rfl
theorem tyAt14:tiOf Tryz.prog 14 = some ⟨2,24,[.str ⟨#[]⟩,.int .u64 0],.struct [(0,9),(1,12)]⟩:=by kernel_rfl
theorem tyAt15:tiOf Tryz.prog 15 = some ⟨1,8,[.nilp],.ptr⟩:=by kernel_rfl
theorem tyAt16:tiOf Tryz.prog 16 = some ⟨1,8,[.nilp],.ptr⟩:=by kernel_rfl
theorem tyAt17:tiOf Tryz.prog 17 = some ⟨1,8,[.nilp],.ptr⟩:=by kernel_rfl
theorem tyAt18:tiOf Tryz.prog 18 = some ⟨1,8,[.nilp],.struct [(0,17)]⟩:=by kernel_rfl
theorem tyAt19:tiOf Tryz.prog 19 = some ⟨1,8,[.nilp],.struct [(0,17)]⟩:=by kernel_rfl
theorem tyAt21:tiOf Tryz.prog 21 = some ⟨1,4,[.int .i32 0],.int .i32⟩:=by kernel_rfl
theorem tyAt22:tiOf Tryz.prog 22 = some ⟨1,24,[.ls 0 true true []],.slice 87⟩:=by kernel_rfl
theorem tyAt24:tiOf Tryz.prog 24 = some ⟨1,24,[.ls 0 true true []],.slice 2⟩:=by kernel_rfl
theorem tyAt25:tiOf Tryz.prog 25 = some ⟨2,32,[.int .i64 0,.ls 0 true true []],.struct [(0,2),(1,24)]⟩:=by kernel_rfl
theorem tyAt26:tiOf Tryz.prog 26 = some ⟨2,32,[.int .i64 0,.ls 0 true true []],.struct [(0,2),(1,24)]⟩:=by kernel_rfl
theorem tyAt28:tiOf Tryz.prog 28 = some ⟨1,24,[.ls 0 true true []],.slice 41⟩:=by kernel_rfl
theorem tyAt35:tiOf Tryz.prog 35 = some ⟨1,24,[.ls 0 true true []],.slice 37⟩:=by kernel_rfl
theorem tyAt37:tiOf Tryz.prog 37 = some ⟨1,24,[.ls 0 true true []],.slice 5⟩:=by kernel_rfl
theorem tyAt38:tiOf Tryz.prog 38 = some ⟨6,80,[.ls 0 true true [],.int .i64 0,.int .i64 0,.int .i64 0,.ls 0 true true [],.int .i64 0],.struct [(0,37),(1,2),(2,2),(3,2),(4,37),(5,2)]⟩:=by kernel_rfl
theorem tyAt39:tiOf Tryz.prog 39 = some ⟨6,80,[.ls 0 true true [],.int .i64 0,.int .i64 0,.int .i64 0,.ls 0 true true [],.int .i64 0],.struct [(0,37),(1,2),(2,2),(3,2),(4,37),(5,2)]⟩:=by kernel_rfl
theorem tyAt40:tiOf Tryz.prog 40 = some ⟨7,104,[.ls 0 true true [],.int .i64 0,.int .i64 0,.int .i64 0,.ls 0 true true [],.int .i64 0,.ls 0 true true []],.struct [(0,39),(6,35)]⟩:=by kernel_rfl
theorem tyAt41:tiOf Tryz.prog 41 = some ⟨7,104,[.ls 0 true true [],.int .i64 0,.int .i64 0,.int .i64 0,.ls 0 true true [],.int .i64 0,.ls 0 true true []],.struct [(0,39),(6,35)]⟩:=by kernel_rfl
theorem tyAt42:tiOf Tryz.prog 42 = some ⟨8,112,[.int .i64 0,.ls 0 true true [],.int .i64 0,.int .i64 0,.int .i64 0,.ls 0 true true [],.int .i64 0,.ls 0 true true []],.struct [(0,2),(1,41)]⟩:=by kernel_rfl
theorem tyAt43:tiOf Tryz.prog 43 = some ⟨8,112,[.int .i64 0,.ls 0 true true [],.int .i64 0,.int .i64 0,.int .i64 0,.ls 0 true true [],.int .i64 0,.ls 0 true true []],.struct [(0,2),(1,41)]⟩:=by kernel_rfl
theorem tyAt50:tiOf Tryz.prog 50 = some ⟨1,24,[.ls 0 true true []],.slice 85⟩:=by kernel_rfl
theorem tyAt51:tiOf Tryz.prog 51 = some ⟨2,32,[.ls 0 true true [],.int .i64 0],.struct [(0,50),(1,2)]⟩:=by kernel_rfl
theorem tyAt52:tiOf Tryz.prog 52 = some ⟨2,32,[.ls 0 true true [],.int .i64 0],.struct [(0,50),(1,2)]⟩:=by kernel_rfl
theorem tyAt53:tiOf Tryz.prog 53 = some ⟨3,40,[.int .i64 0,.int .i64 0,.ls 0 true true []],.struct [(0,2),(1,2),(2,35)]⟩:=by kernel_rfl
theorem tyAt54:tiOf Tryz.prog 54 = some ⟨3,40,[.int .i64 0,.int .i64 0,.ls 0 true true []],.struct [(0,2),(1,2),(2,35)]⟩:=by kernel_rfl
theorem tyAt58:tiOf Tryz.prog 58 = some ⟨1,24,[.ls 0 true true []],.slice 39⟩:=by kernel_rfl
theorem tyAt59:tiOf Tryz.prog 59 = some ⟨2,32,[.ls 0 true true [],.int .i64 0],.struct [(0,58),(1,2)]⟩:=by kernel_rfl
theorem tyAt60:tiOf Tryz.prog 60 = some ⟨2,32,[.ls 0 true true [],.int .i64 0],.struct [(0,58),(1,2)]⟩:=by kernel_rfl
theorem tyAt63:tiOf Tryz.prog 63 = some ⟨3,40,[.int .i64 0,.int .i64 0,.ls 0 true true []],.struct [(0,2),(1,2),(2,35)]⟩:=by kernel_rfl
theorem tyAt72:tiOf Tryz.prog 72 = some ⟨2,16,[.int .i64 0,.int .i64 0],.struct [(0,2),(1,2)]⟩:=by kernel_rfl
theorem tyAt73:tiOf Tryz.prog 73 = some ⟨2,16,[.int .i64 0,.int .i64 0],.struct [(0,2),(1,2)]⟩:=by kernel_rfl
theorem tyAt85:tiOf Tryz.prog 85 = some ⟨6,80,[.ls 0 true true [],.int .i64 0,.int .i64 0,.int .i64 0,.ls 0 true true [],.int .i64 0],.struct [(0,37),(1,2),(2,2),(3,2),(4,37),(5,2)]⟩:=by kernel_rfl
theorem tyAt86:tiOf Tryz.prog 86 = some ⟨7,104,[.ls 0 true true [],.int .i64 0,.int .i64 0,.int .i64 0,.ls 0 true true [],.int .i64 0,.ls 0 true true []],.struct [(0,85),(6,35)]⟩:=by kernel_rfl
theorem tyAt87:tiOf Tryz.prog 87 = some ⟨7,104,[.ls 0 true true [],.int .i64 0,.int .i64 0,.int .i64 0,.ls 0 true true [],.int .i64 0,.ls 0 true true []],.struct [(0,85),(6,35)]⟩:=by kernel_rfl
theorem tyAt110:tiOf Tryz.prog 110 = some ⟨1,8,[.nilp],.ptr⟩:=by kernel_rfl
theorem tyAt114:tiOf Tryz.prog 114 = some ⟨1,8,[.nilp],.ptr⟩:=by kernel_rfl
theorem tyAt142:tiOf Tryz.prog 142 = some ⟨7,88,[.int .i64 0,.ls 0 true true [],.int .i64 0,.int .i64 0,.int .i64 0,.ls 0 true true [],.int .i64 0],.struct [(0,2),(1,39)]⟩:=by kernel_rfl
theorem tyAt143:tiOf Tryz.prog 143 = some ⟨7,88,[.int .i64 0,.ls 0 true true [],.int .i64 0,.int .i64 0,.int .i64 0,.ls 0 true true [],.int .i64 0],.struct [(0,2),(1,39)]⟩:=by kernel_rfl
theorem tyAt157:tiOf Tryz.prog 157 = some ⟨2,32,[.ls 0 true true [],.int .i64 0],.struct [(0,37),(1,2)]⟩:=by kernel_rfl
theorem tyAt158:tiOf Tryz.prog 158 = some ⟨2,32,[.ls 0 true true [],.int .i64 0],.struct [(0,37),(1,2)]⟩:=by kernel_rfl
theorem tyAt173:tiOf Tryz.prog 173 = some ⟨1,8,[.int .u64 0],.int .u64⟩:=by kernel_rfl
theorem tyAt174:tiOf Tryz.prog 174 = some ⟨1,4,[.int .u32 0],.int .u32⟩:=by kernel_rfl
theorem tyAt175:tiOf Tryz.prog 175 = some ⟨8,32,[.int .u32 0,.int .u32 0,.int .u32 0,.int .u32 0,.int .u32 0,.int .u32 0,.int .u32 0,.int .u32 0],.arr 8 174⟩:=by kernel_rfl
theorem tyAt177:tiOf Tryz.prog 177 = some ⟨1,8,[.int .u64 0],.int .u64⟩:=by kernel_rfl
theorem tyAt181:tiOf Tryz.prog 181 = some ⟨1,24,[.ls 0 true true []],.slice 4⟩:=by kernel_rfl
theorem tyAt185:tiOf Tryz.prog 185 = some ⟨64,512,List.replicate 64 (.int .i64 0),.arr 64 2⟩:=by kernel_rfl
theorem tyAt187:tiOf Tryz.prog 187 = some ⟨8,64,[.int .i64 0,.int .i64 0,.int .i64 0,.int .i64 0,.int .i64 0,.int .i64 0,.int .i64 0,.int .i64 0],.arr 8 2⟩:=by kernel_rfl
theorem tyAt191:tiOf Tryz.prog 191 = some ⟨64,256,List.replicate 64 (.int .u32 0),.arr 64 174⟩:=by kernel_rfl
theorem tyAt198:tiOf Tryz.prog 198 = some ⟨4,40,[.nilp,.nilp,.nilp,.str ⟨#[]⟩],.struct [(0,17),(1,17),(2,17),(3,9)]⟩:=by kernel_rfl
theorem tyAt199:tiOf Tryz.prog 199 = some ⟨4,40,[.nilp,.nilp,.nilp,.str ⟨#[]⟩],.struct [(0,17),(1,17),(2,17),(3,9)]⟩:=by kernel_rfl
theorem tyAt200:tiOf Tryz.prog 200 = some ⟨0,0,[],.arr 0 16⟩:=by kernel_rfl
theorem tyAt201:tiOf Tryz.prog 201 = some ⟨0,0,[],.struct [(0,200)]⟩:=by kernel_rfl
theorem tyAt202:tiOf Tryz.prog 202 = some ⟨0,0,[],.struct [(0,200)]⟩:=by kernel_rfl
theorem tyAt204:tiOf Tryz.prog 204 = some ⟨1,1,[.int .u8 0],.int .u8⟩:=by kernel_rfl
theorem tyAt205:tiOf Tryz.prog 205 = some ⟨1,1,[.int .u8 0],.int .u8⟩:=by kernel_rfl
theorem tyAt207:tiOf Tryz.prog 207 = some ⟨1,8,[.nilp],.ptr⟩:=by kernel_rfl
theorem tyAt208:tiOf Tryz.prog 208 = some ⟨1,4,[.int .i32 0],.int .i32⟩:=by kernel_rfl
theorem tyAt209:tiOf Tryz.prog 209 = some ⟨1,4,[.int .i32 0],.int .i32⟩:=by kernel_rfl
theorem Qc:TyOk Tryz.prog ty:=by
 intro t i h
 unfold ty at h
 split at h
 ·obtain rfl:=Option.some.inj h;exact tyAt2
 ·obtain rfl:=Option.some.inj h;exact tyAt3
 ·obtain rfl:=Option.some.inj h;exact tyAt4
 ·obtain rfl:=Option.some.inj h;exact tyAt5
 ·obtain rfl:=Option.some.inj h;exact tyAt6
 ·obtain rfl:=Option.some.inj h;exact tyAt7
 ·obtain rfl:=Option.some.inj h;exact tyAt8
 ·obtain rfl:=Option.some.inj h;exact tyAt9
 ·obtain rfl:=Option.some.inj h;exact tyAt10
 ·obtain rfl:=Option.some.inj h;exact tyAt11
 ·obtain rfl:=Option.some.inj h;exact tyAt12
 ·obtain rfl:=Option.some.inj h;exact tyAt13
 ·obtain rfl:=Option.some.inj h;exact tyAt14
 ·obtain rfl:=Option.some.inj h;exact tyAt15
 ·obtain rfl:=Option.some.inj h;exact tyAt16
 ·obtain rfl:=Option.some.inj h;exact tyAt17
 ·obtain rfl:=Option.some.inj h;exact tyAt18
 ·obtain rfl:=Option.some.inj h;exact tyAt19
 ·obtain rfl:=Option.some.inj h;exact tyAt21
 ·obtain rfl:=Option.some.inj h;exact tyAt22
 ·obtain rfl:=Option.some.inj h;exact tyAt24
 ·obtain rfl:=Option.some.inj h;exact tyAt25
 ·obtain rfl:=Option.some.inj h;exact tyAt26
 ·obtain rfl:=Option.some.inj h;exact tyAt28
 ·obtain rfl:=Option.some.inj h;exact tyAt35
 ·obtain rfl:=Option.some.inj h;exact tyAt37
 ·obtain rfl:=Option.some.inj h;exact tyAt38
 ·obtain rfl:=Option.some.inj h;exact tyAt39
 ·obtain rfl:=Option.some.inj h;exact tyAt40
 ·obtain rfl:=Option.some.inj h;exact tyAt41
 ·obtain rfl:=Option.some.inj h;exact tyAt42
 ·obtain rfl:=Option.some.inj h;exact tyAt43
 ·obtain rfl:=Option.some.inj h;exact tyAt50
 ·obtain rfl:=Option.some.inj h;exact tyAt51
 ·obtain rfl:=Option.some.inj h;exact tyAt52
 ·obtain rfl:=Option.some.inj h;exact tyAt53
 ·obtain rfl:=Option.some.inj h;exact tyAt54
 ·obtain rfl:=Option.some.inj h;exact tyAt58
 ·obtain rfl:=Option.some.inj h;exact tyAt59
 ·obtain rfl:=Option.some.inj h;exact tyAt60
 ·obtain rfl:=Option.some.inj h;exact tyAt63
 ·obtain rfl:=Option.some.inj h;exact tyAt72
 ·obtain rfl:=Option.some.inj h;exact tyAt73
 ·obtain rfl:=Option.some.inj h;exact tyAt85
 ·obtain rfl:=Option.some.inj h;exact tyAt86
 ·obtain rfl:=Option.some.inj h;exact tyAt87
 ·obtain rfl:=Option.some.inj h;exact tyAt110
 ·obtain rfl:=Option.some.inj h;exact tyAt114
 ·obtain rfl:=Option.some.inj h;exact tyAt142
 ·obtain rfl:=Option.some.inj h;exact tyAt143
 ·obtain rfl:=Option.some.inj h;exact tyAt157
 ·obtain rfl:=Option.some.inj h;exact tyAt158
 ·obtain rfl:=Option.some.inj h;exact tyAt173
 ·obtain rfl:=Option.some.inj h;exact tyAt174
 ·obtain rfl:=Option.some.inj h;exact tyAt175
 ·obtain rfl:=Option.some.inj h;exact tyAt177
 ·obtain rfl:=Option.some.inj h;exact tyAt181
 ·obtain rfl:=Option.some.inj h;exact tyAt185
 ·obtain rfl:=Option.some.inj h;exact tyAt187
 ·obtain rfl:=Option.some.inj h;exact tyAt191
 ·obtain rfl:=Option.some.inj h;exact tyAt198
 ·obtain rfl:=Option.some.inj h;exact tyAt199
 ·obtain rfl:=Option.some.inj h;exact tyAt200
 ·obtain rfl:=Option.some.inj h;exact tyAt201
 ·obtain rfl:=Option.some.inj h;exact tyAt202
 ·obtain rfl:=Option.some.inj h;exact tyAt204
 ·obtain rfl:=Option.some.inj h;exact tyAt205
 ·obtain rfl:=Option.some.inj h;exact tyAt207
 ·obtain rfl:=Option.some.inj h;exact tyAt208
 ·obtain rfl:=Option.some.inj h;exact tyAt209
 ·cases h
end Go.Proofs.YtaolmfgpebncjaaGreat
