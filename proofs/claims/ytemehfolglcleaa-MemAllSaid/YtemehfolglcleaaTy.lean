/-
  The rows of this seat's types: what each is, how many cells and bytes it has, its zero value.
-/
import Derived.Test.YtemehfolglcleaaProg
import Derived.Test.YtemehfolglcleaaSymB
namespace Go.Proofs.Ytemehfolglcleaa

@[reducible] def ty0 := Ty.mk Try.underlying0
attribute [instance] ty0
@[reducible] def ty1 := Ty.mk Try.underlying1
attribute [instance] ty1
instance tz1 : Tz Try.prog 1 1 8 (.nilFunc) := ⟨by kernel_rfl⟩
@[reducible] def ty2 := Ty.mk Try.underlying2
attribute [instance] ty2
instance tz2 : Tz Try.prog 2 1 8 (.int .i64 0) := ⟨by kernel_rfl⟩
@[reducible] def ty3 := Ty.mk Try.underlying3
attribute [instance] ty3
instance tz3 : Tz Try.prog 3 1 8 (.int .i64 0) := ⟨by kernel_rfl⟩
@[reducible] def ty4 := Ty.mk Try.underlying4
attribute [instance] ty4
instance tz4 : Tz Try.prog 4 1 1 (.bool false) := ⟨by kernel_rfl⟩
@[reducible] def ty5 := Ty.mk Try.underlying5
attribute [instance] ty5
instance tz5 : Tz Try.prog 5 1 1 (.int .u8 0) := ⟨by kernel_rfl⟩
@[reducible] def ty6 := Ty.mk Try.underlying6
attribute [instance] ty6
instance tz6 : Tz Try.prog 6 1 1 (.int .u8 0) := ⟨by kernel_rfl⟩
@[reducible] def ty7 := Ty.mk Try.underlying7
attribute [instance] ty7
instance tz7 : Tz Try.prog 7 4 24 (.agg #[.int .i64 0, .int .i64 0, .bool false, .int .u8 0]) := ⟨by kernel_rfl⟩
instance tf7 : Tf Try.prog 7 [(0, 1), (1, 1), (2, 1), (3, 1)] := ⟨by kernel_rfl⟩
@[reducible] def ty8 := Ty.mk Try.underlying8
attribute [instance] ty8
instance tz8 : Tz Try.prog 8 4 24 (.agg #[.int .i64 0, .int .i64 0, .bool false, .int .u8 0]) := ⟨by kernel_rfl⟩
instance tf8 : Tf Try.prog 8 [(0, 1), (1, 1), (2, 1), (3, 1)] := ⟨by kernel_rfl⟩
@[reducible] def ty9 := Ty.mk Try.underlying9
attribute [instance] ty9
instance tz9 : Tz Try.prog 9 1 16 (.string .empty) := ⟨by kernel_rfl⟩
@[reducible] def ty10 := Ty.mk Try.underlying10
attribute [instance] ty10
instance tz10 : Tz Try.prog 10 1 16 (.string .empty) := ⟨by kernel_rfl⟩
@[reducible] def ty11 := Ty.mk Try.underlying11
attribute [instance] ty11
instance tz11 : Tz Try.prog 11 1 16 (.string .empty) := ⟨by kernel_rfl⟩
@[reducible] def ty12 := Ty.mk Try.underlying12
attribute [instance] ty12
instance tz12 : Tz Try.prog 12 1 8 (.int .u64 0) := ⟨by kernel_rfl⟩
@[reducible] def ty13 := Ty.mk Try.underlying13
attribute [instance] ty13
instance tz13 : Tz Try.prog 13 2 24 (.agg #[.string .empty, .int .u64 0]) := ⟨by kernel_rfl⟩
instance tf13 : Tf Try.prog 13 [(0, 1), (1, 1)] := ⟨by kernel_rfl⟩
@[reducible] def ty14 := Ty.mk Try.underlying14
attribute [instance] ty14
instance tz14 : Tz Try.prog 14 2 24 (.agg #[.string .empty, .int .u64 0]) := ⟨by kernel_rfl⟩
instance tf14 : Tf Try.prog 14 [(0, 1), (1, 1)] := ⟨by kernel_rfl⟩
@[reducible] def ty15 := Ty.mk Try.underlying15
attribute [instance] ty15
instance tz15 : Tz Try.prog 15 1 8 (.pointer none) := ⟨by kernel_rfl⟩
@[reducible] def ty16 := Ty.mk Try.underlying16
attribute [instance] ty16
instance tz16 : Tz Try.prog 16 1 8 (.pointer none) := ⟨by kernel_rfl⟩
@[reducible] def ty17 := Ty.mk Try.underlying17
attribute [instance] ty17
instance tz17 : Tz Try.prog 17 1 8 (.pointer none) := ⟨by kernel_rfl⟩
@[reducible] def ty18 := Ty.mk Try.underlying18
attribute [instance] ty18
instance tz18 : Tz Try.prog 18 1 8 (.agg #[.pointer none]) := ⟨by kernel_rfl⟩
instance tf18 : Tf Try.prog 18 [(0, 1)] := ⟨by kernel_rfl⟩
@[reducible] def ty19 := Ty.mk Try.underlying19
attribute [instance] ty19
instance tz19 : Tz Try.prog 19 1 8 (.agg #[.pointer none]) := ⟨by kernel_rfl⟩
instance tf19 : Tf Try.prog 19 [(0, 1)] := ⟨by kernel_rfl⟩
@[reducible] def ty20 := Ty.mk Try.underlying20
attribute [instance] ty20
@[reducible] def ty21 := Ty.mk Try.underlying21
attribute [instance] ty21
instance tz21 : Tz Try.prog 21 1 4 (.int .i32 0) := ⟨by kernel_rfl⟩
@[reducible] def ty22 := Ty.mk Try.underlying22
attribute [instance] ty22
instance tz22 : Tz Try.prog 22 1 8 (.int .u64 0) := ⟨by kernel_rfl⟩
@[reducible] def ty23 := Ty.mk Try.underlying23
attribute [instance] ty23
instance tz23 : Tz Try.prog 23 1 8 (.nilFunc) := ⟨by kernel_rfl⟩
@[reducible] def ty24 := Ty.mk Try.underlying24
attribute [instance] ty24
instance tz24 : Tz Try.prog 24 1 8 (.pointer none) := ⟨by kernel_rfl⟩
@[reducible] def ty25 := Ty.mk Try.underlying25
attribute [instance] ty25
instance tz25 : Tz Try.prog 25 1 8 (.nilFunc) := ⟨by kernel_rfl⟩
@[reducible] def ty26 := Ty.mk Try.underlying26
attribute [instance] ty26
instance tz26 : Tz Try.prog 26 3 24 (.agg #[.bool false, .int .i64 0, .int .i64 0]) := ⟨by kernel_rfl⟩
instance tf26 : Tf Try.prog 26 [(0, 1), (1, 1), (2, 1)] := ⟨by kernel_rfl⟩
@[reducible] def ty27 := Ty.mk Try.underlying27
attribute [instance] ty27
instance tz27 : Tz Try.prog 27 3 24 (.agg #[.bool false, .int .i64 0, .int .i64 0]) := ⟨by kernel_rfl⟩
instance tf27 : Tf Try.prog 27 [(0, 1), (1, 1), (2, 1)] := ⟨by kernel_rfl⟩
@[reducible] def ty28 := Ty.mk Try.underlying28
attribute [instance] ty28
instance tz28 : Tz Try.prog 28 1 24 (.slice none 0 0) := ⟨by kernel_rfl⟩
@[reducible] def ty29 := Ty.mk Try.underlying29
attribute [instance] ty29
instance tz29 : Tz Try.prog 29 1 8 (.nilFunc) := ⟨by kernel_rfl⟩
@[reducible] def ty30 := Ty.mk Try.underlying30
attribute [instance] ty30
@[reducible] def ty31 := Ty.mk Try.underlying31
attribute [instance] ty31
instance tz31 : Tz Try.prog 31 1 8 (.nilFunc) := ⟨by kernel_rfl⟩
@[reducible] def ty32 := Ty.mk Try.underlying32
attribute [instance] ty32
instance tz32 : Tz Try.prog 32 1 8 (.nilFunc) := ⟨by kernel_rfl⟩
@[reducible] def ty33 := Ty.mk Try.underlying33
attribute [instance] ty33
instance tz33 : Tz Try.prog 33 1 8 (.nilFunc) := ⟨by kernel_rfl⟩
@[reducible] def ty34 := Ty.mk Try.underlying34
attribute [instance] ty34
instance tz34 : Tz Try.prog 34 1 8 (.nilFunc) := ⟨by kernel_rfl⟩
@[reducible] def ty35 := Ty.mk Try.underlying35
attribute [instance] ty35
instance tz35 : Tz Try.prog 35 1 8 (.nilFunc) := ⟨by kernel_rfl⟩
@[reducible] def ty36 := Ty.mk Try.underlying36
attribute [instance] ty36
instance tz36 : Tz Try.prog 36 1 8 (.int .u64 0) := ⟨by kernel_rfl⟩
@[reducible] def ty37 := Ty.mk Try.underlying37
attribute [instance] ty37
instance tz37 : Tz Try.prog 37 1 8 (.nilFunc) := ⟨by kernel_rfl⟩
@[reducible] def ty38 := Ty.mk Try.underlying38
attribute [instance] ty38
instance tz38 : Tz Try.prog 38 1 24 (.slice none 0 0) := ⟨by kernel_rfl⟩
@[reducible] def ty39 := Ty.mk Try.underlying39
attribute [instance] ty39
@[reducible] def ty40 := Ty.mk Try.underlying40
attribute [instance] ty40
instance tz40 : Tz Try.prog 40 4 4 (.agg #[.bool false, .bool false, .bool false, .bool false]) := ⟨by kernel_rfl⟩
@[reducible] def ty41 := Ty.mk Try.underlying41
attribute [instance] ty41
instance tz41 : Tz Try.prog 41 1 8 (.nilFunc) := ⟨by kernel_rfl⟩
@[reducible] def ty42 := Ty.mk Try.underlying42
attribute [instance] ty42
instance tz42 : Tz Try.prog 42 1 8 (.nilFunc) := ⟨by kernel_rfl⟩
@[reducible] def ty43 := Ty.mk Try.underlying43
attribute [instance] ty43
instance tz43 : Tz Try.prog 43 1 8 (.nilFunc) := ⟨by kernel_rfl⟩
@[reducible] def ty44 := Ty.mk Try.underlying44
attribute [instance] ty44
instance tz44 : Tz Try.prog 44 1 24 (.slice none 0 0) := ⟨by kernel_rfl⟩
@[reducible] def ty45 := Ty.mk Try.underlying45
attribute [instance] ty45
instance tz45 : Tz Try.prog 45 16 16 (.agg #[.bool false, .bool false, .bool false, .bool false, .bool false, .bool false, .bool false, .bool false, .bool false, .bool false, .bool false, .bool false, .bool false, .bool false, .bool false, .bool false]) := ⟨by kernel_rfl⟩
@[reducible] def ty46 := Ty.mk Try.underlying46
attribute [instance] ty46
instance tz46 : Tz Try.prog 46 5 40 (.agg #[.int .i64 0, .int .i64 0, .int .i64 0, .int .i64 0, .int .u64 0]) := ⟨by kernel_rfl⟩
instance tf46 : Tf Try.prog 46 [(0, 1), (1, 1), (2, 1), (3, 1), (4, 1)] := ⟨by kernel_rfl⟩
@[reducible] def ty47 := Ty.mk Try.underlying47
attribute [instance] ty47
instance tz47 : Tz Try.prog 47 5 40 (.agg #[.int .i64 0, .int .i64 0, .int .i64 0, .int .i64 0, .int .u64 0]) := ⟨by kernel_rfl⟩
instance tf47 : Tf Try.prog 47 [(0, 1), (1, 1), (2, 1), (3, 1), (4, 1)] := ⟨by kernel_rfl⟩
@[reducible] def ty48 := Ty.mk Try.underlying48
attribute [instance] ty48
instance tz48 : Tz Try.prog 48 1 8 (.nilFunc) := ⟨by kernel_rfl⟩
@[reducible] def ty49 := Ty.mk Try.underlying49
attribute [instance] ty49
instance tz49 : Tz Try.prog 49 1 8 (.nilFunc) := ⟨by kernel_rfl⟩
@[reducible] def ty50 := Ty.mk Try.underlying50
attribute [instance] ty50
instance tz50 : Tz Try.prog 50 1 8 (.nilFunc) := ⟨by kernel_rfl⟩
@[reducible] def ty51 := Ty.mk Try.underlying51
attribute [instance] ty51
instance tz51 : Tz Try.prog 51 1 8 (.nilFunc) := ⟨by kernel_rfl⟩
@[reducible] def ty52 := Ty.mk Try.underlying52
attribute [instance] ty52
instance tz52 : Tz Try.prog 52 1 8 (.nilFunc) := ⟨by kernel_rfl⟩
@[reducible] def ty53 := Ty.mk Try.underlying53
attribute [instance] ty53
instance tz53 : Tz Try.prog 53 3 56 (.agg #[.slice none 0 0, .int .i64 0, .slice none 0 0]) := ⟨by kernel_rfl⟩
instance tf53 : Tf Try.prog 53 [(0, 1), (1, 1), (2, 1)] := ⟨by kernel_rfl⟩
@[reducible] def ty54 := Ty.mk Try.underlying54
attribute [instance] ty54
instance tz54 : Tz Try.prog 54 3 56 (.agg #[.slice none 0 0, .int .i64 0, .slice none 0 0]) := ⟨by kernel_rfl⟩
instance tf54 : Tf Try.prog 54 [(0, 1), (1, 1), (2, 1)] := ⟨by kernel_rfl⟩
@[reducible] def ty55 := Ty.mk Try.underlying55
attribute [instance] ty55
instance tz55 : Tz Try.prog 55 1 8 (.nilFunc) := ⟨by kernel_rfl⟩
@[reducible] def ty56 := Ty.mk Try.underlying56
attribute [instance] ty56
instance tz56 : Tz Try.prog 56 1 8 (.nilFunc) := ⟨by kernel_rfl⟩
@[reducible] def ty57 := Ty.mk Try.underlying57
attribute [instance] ty57
instance tz57 : Tz Try.prog 57 1 8 (.nilFunc) := ⟨by kernel_rfl⟩
@[reducible] def ty58 := Ty.mk Try.underlying58
attribute [instance] ty58
instance tz58 : Tz Try.prog 58 1 8 (.nilFunc) := ⟨by kernel_rfl⟩
@[reducible] def ty59 := Ty.mk Try.underlying59
attribute [instance] ty59
@[reducible] def ty60 := Ty.mk Try.underlying60
attribute [instance] ty60
instance tz60 : Tz Try.prog 60 1 8 (.nilFunc) := ⟨by kernel_rfl⟩
@[reducible] def ty61 := Ty.mk Try.underlying61
attribute [instance] ty61
instance tz61 : Tz Try.prog 61 1 8 (.nilFunc) := ⟨by kernel_rfl⟩
@[reducible] def ty62 := Ty.mk Try.underlying62
attribute [instance] ty62
instance tz62 : Tz Try.prog 62 1 8 (.nilFunc) := ⟨by kernel_rfl⟩
@[reducible] def ty63 := Ty.mk Try.underlying63
attribute [instance] ty63
instance tz63 : Tz Try.prog 63 1 8 (.nilFunc) := ⟨by kernel_rfl⟩
@[reducible] def ty64 := Ty.mk Try.underlying64
attribute [instance] ty64
instance tz64 : Tz Try.prog 64 1 8 (.nilFunc) := ⟨by kernel_rfl⟩
@[reducible] def ty65 := Ty.mk Try.underlying65
attribute [instance] ty65
instance tz65 : Tz Try.prog 65 1 8 (.nilFunc) := ⟨by kernel_rfl⟩
@[reducible] def ty66 := Ty.mk Try.underlying66
attribute [instance] ty66
instance tz66 : Tz Try.prog 66 1 8 (.nilFunc) := ⟨by kernel_rfl⟩
@[reducible] def ty67 := Ty.mk Try.underlying67
attribute [instance] ty67
instance tz67 : Tz Try.prog 67 1 8 (.nilFunc) := ⟨by kernel_rfl⟩
@[reducible] def ty68 := Ty.mk Try.underlying68
attribute [instance] ty68
instance tz68 : Tz Try.prog 68 4 40 (.agg #[.pointer none, .pointer none, .pointer none, .string .empty]) := ⟨by kernel_rfl⟩
instance tf68 : Tf Try.prog 68 [(0, 1), (1, 1), (2, 1), (3, 1)] := ⟨by kernel_rfl⟩
@[reducible] def ty69 := Ty.mk Try.underlying69
attribute [instance] ty69
instance tz69 : Tz Try.prog 69 4 40 (.agg #[.pointer none, .pointer none, .pointer none, .string .empty]) := ⟨by kernel_rfl⟩
instance tf69 : Tf Try.prog 69 [(0, 1), (1, 1), (2, 1), (3, 1)] := ⟨by kernel_rfl⟩
@[reducible] def ty70 := Ty.mk Try.underlying70
attribute [instance] ty70
@[reducible] def ty71 := Ty.mk Try.underlying71
attribute [instance] ty71
@[reducible] def ty72 := Ty.mk Try.underlying72
attribute [instance] ty72
@[reducible] def ty73 := Ty.mk Try.underlying73
attribute [instance] ty73
instance tz73 : Tz Try.prog 73 1 4 (.int .u32 0) := ⟨by kernel_rfl⟩
@[reducible] def ty74 := Ty.mk Try.underlying74
attribute [instance] ty74
instance tz74 : Tz Try.prog 74 1 1 (.int .u8 0) := ⟨by kernel_rfl⟩
@[reducible] def ty75 := Ty.mk Try.underlying75
attribute [instance] ty75
instance tz75 : Tz Try.prog 75 1 1 (.int .u8 0) := ⟨by kernel_rfl⟩
@[reducible] def ty76 := Ty.mk Try.underlying76
attribute [instance] ty76
instance tz76 : Tz Try.prog 76 1 8 (.nilFunc) := ⟨by kernel_rfl⟩
@[reducible] def ty77 := Ty.mk Try.underlying77
attribute [instance] ty77
instance tz77 : Tz Try.prog 77 1 8 (.pointer none) := ⟨by kernel_rfl⟩
@[reducible] def ty78 := Ty.mk Try.underlying78
attribute [instance] ty78
instance tz78 : Tz Try.prog 78 1 4 (.int .i32 0) := ⟨by kernel_rfl⟩
@[reducible] def ty79 := Ty.mk Try.underlying79
attribute [instance] ty79
instance tz79 : Tz Try.prog 79 1 4 (.int .i32 0) := ⟨by kernel_rfl⟩
@[reducible] def ty80 := Ty.mk Try.underlying80
attribute [instance] ty80
instance tz80 : Tz Try.prog 80 11 48 (.agg #[.int .u64 0, .int .u64 0, .int .u32 0, .int .u8 0, .int .u8 0, .int .u8 0, .int .u8 0, .nilFunc, .pointer none, .int .i32 0, .int .i32 0]) := ⟨by kernel_rfl⟩
instance tf80 : Tf Try.prog 80 [(0, 1), (1, 1), (2, 1), (3, 1), (4, 1), (5, 1), (6, 1), (7, 1), (8, 1), (9, 1), (10, 1)] := ⟨by kernel_rfl⟩
@[reducible] def ty81 := Ty.mk Try.underlying81
attribute [instance] ty81
instance tz81 : Tz Try.prog 81 11 48 (.agg #[.int .u64 0, .int .u64 0, .int .u32 0, .int .u8 0, .int .u8 0, .int .u8 0, .int .u8 0, .nilFunc, .pointer none, .int .i32 0, .int .i32 0]) := ⟨by kernel_rfl⟩
instance tf81 : Tf Try.prog 81 [(0, 1), (1, 1), (2, 1), (3, 1), (4, 1), (5, 1), (6, 1), (7, 1), (8, 1), (9, 1), (10, 1)] := ⟨by kernel_rfl⟩
@[reducible] def ty82 := Ty.mk Try.underlying82
attribute [instance] ty82

theorem mixed : Try.prog.follows .mixedOrders = true := by kernel_rfl
end Go.Proofs.Ytemehfolglcleaa
