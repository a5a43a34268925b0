/-
  The rows of this seat's types: what each is, how many cells and bytes it has, its zero value.
-/
import Derived.Test.YtkjfflabapeidaaProg
import Derived.Test.YtkjfflabapeidaaM1
namespace Go.Proofs.Ytkjfflabapeidaa

@[reducible] def ty0 := Ty.mk Try.underlying0
attribute [instance] ty0
@[reducible] def ty1 := Ty.mk Try.underlying1
attribute [instance] ty1
instance tz1 : Tz Try.prog 1 1 8 (.nilFunc) := ⟨by kernel_rfl⟩
@[reducible] def ty2 := Ty.mk Try.underlying2
attribute [instance] ty2
instance tz2 : Tz Try.prog 2 1 8 (.int .i64 0) := ⟨by kernel_rfl⟩
@[reducible] def ty3 := Ty.mk Try.underlying3
attribute [instance] ty3
instance tz3 : Tz Try.prog 3 1 8 (.int .i64 0) := ⟨by kernel_rfl⟩
@[reducible] def ty4 := Ty.mk Try.underlying4
attribute [instance] ty4
instance tz4 : Tz Try.prog 4 1 1 (.bool false) := ⟨by kernel_rfl⟩
@[reducible] def ty5 := Ty.mk Try.underlying5
attribute [instance] ty5
instance tz5 : Tz Try.prog 5 1 1 (.int .u8 0) := ⟨by kernel_rfl⟩
@[reducible] def ty6 := Ty.mk Try.underlying6
attribute [instance] ty6
instance tz6 : Tz Try.prog 6 1 1 (.int .u8 0) := ⟨by kernel_rfl⟩
@[reducible] def ty7 := Ty.mk Try.underlying7
attribute [instance] ty7
instance tz7 : Tz Try.prog 7 4 24 (.agg #[.int .i64 0, .int .i64 0, .bool false, .int .u8 0]) := ⟨by kernel_rfl⟩
instance tf7 : Tf Try.prog 7 [(0, 1), (1, 1), (2, 1), (3, 1)] := ⟨by kernel_rfl⟩
@[reducible] def ty8 := Ty.mk Try.underlying8
attribute [instance] ty8
instance tz8 : Tz Try.prog 8 4 24 (.agg #[.int .i64 0, .int .i64 0, .bool false, .int .u8 0]) := ⟨by kernel_rfl⟩
instance tf8 : Tf Try.prog 8 [(0, 1), (1, 1), (2, 1), (3, 1)] := ⟨by kernel_rfl⟩
@[reducible] def ty9 := Ty.mk Try.underlying9
attribute [instance] ty9
instance tz9 : Tz Try.prog 9 1 16 (.string .empty) := ⟨by kernel_rfl⟩
@[reducible] def ty10 := Ty.mk Try.underlying10
attribute [instance] ty10
instance tz10 : Tz Try.prog 10 1 16 (.string .empty) := ⟨by kernel_rfl⟩
@[reducible] def ty11 := Ty.mk Try.underlying11
attribute [instance] ty11
instance tz11 : Tz Try.prog 11 1 16 (.string .empty) := ⟨by kernel_rfl⟩
@[reducible] def ty12 := Ty.mk Try.underlying12
attribute [instance] ty12
instance tz12 : Tz Try.prog 12 1 8 (.int .u64 0) := ⟨by kernel_rfl⟩
@[reducible] def ty13 := Ty.mk Try.underlying13
attribute [instance] ty13
instance tz13 : Tz Try.prog 13 2 24 (.agg #[.string .empty, .int .u64 0]) := ⟨by kernel_rfl⟩
instance tf13 : Tf Try.prog 13 [(0, 1), (1, 1)] := ⟨by kernel_rfl⟩
@[reducible] def ty14 := Ty.mk Try.underlying14
attribute [instance] ty14
instance tz14 : Tz Try.prog 14 2 24 (.agg #[.string .empty, .int .u64 0]) := ⟨by kernel_rfl⟩
instance tf14 : Tf Try.prog 14 [(0, 1), (1, 1)] := ⟨by kernel_rfl⟩
@[reducible] def ty15 := Ty.mk Try.underlying15
attribute [instance] ty15
instance tz15 : Tz Try.prog 15 1 8 (.pointer none) := ⟨by kernel_rfl⟩
@[reducible] def ty16 := Ty.mk Try.underlying16
attribute [instance] ty16
instance tz16 : Tz Try.prog 16 1 8 (.pointer none) := ⟨by kernel_rfl⟩
@[reducible] def ty17 := Ty.mk Try.underlying17
attribute [instance] ty17
instance tz17 : Tz Try.prog 17 1 8 (.pointer none) := ⟨by kernel_rfl⟩
@[reducible] def ty18 := Ty.mk Try.underlying18
attribute [instance] ty18
instance tz18 : Tz Try.prog 18 1 8 (.agg #[.pointer none]) := ⟨by kernel_rfl⟩
instance tf18 : Tf Try.prog 18 [(0, 1)] := ⟨by kernel_rfl⟩
@[reducible] def ty19 := Ty.mk Try.underlying19
attribute [instance] ty19
instance tz19 : Tz Try.prog 19 1 8 (.agg #[.pointer none]) := ⟨by kernel_rfl⟩
instance tf19 : Tf Try.prog 19 [(0, 1)] := ⟨by kernel_rfl⟩
@[reducible] def ty20 := Ty.mk Try.underlying20
attribute [instance] ty20
@[reducible] def ty21 := Ty.mk Try.underlying21
attribute [instance] ty21
instance tz21 : Tz Try.prog 21 1 4 (.int .i32 0) := ⟨by kernel_rfl⟩
@[reducible] def ty22 := Ty.mk Try.underlying22
attribute [instance] ty22
instance tz22 : Tz Try.prog 22 1 24 (.slice none 0 0) := ⟨by kernel_rfl⟩
@[reducible] def ty23 := Ty.mk Try.underlying23
attribute [instance] ty23
instance tz23 : Tz Try.prog 23 4 48 (.agg #[.int .i64 0, .int .i64 0, .int .i64 0, .slice none 0 0]) := ⟨by kernel_rfl⟩
instance tf23 : Tf Try.prog 23 [(0, 1), (1, 1), (2, 1), (3, 1)] := ⟨by kernel_rfl⟩
@[reducible] def ty24 := Ty.mk Try.underlying24
attribute [instance] ty24
instance tz24 : Tz Try.prog 24 4 48 (.agg #[.int .i64 0, .int .i64 0, .int .i64 0, .slice none 0 0]) := ⟨by kernel_rfl⟩
instance tf24 : Tf Try.prog 24 [(0, 1), (1, 1), (2, 1), (3, 1)] := ⟨by kernel_rfl⟩
@[reducible] def ty25 := Ty.mk Try.underlying25
attribute [instance] ty25
instance tz25 : Tz Try.prog 25 1 24 (.slice none 0 0) := ⟨by kernel_rfl⟩
@[reducible] def ty26 := Ty.mk Try.underlying26
attribute [instance] ty26
instance tz26 : Tz Try.prog 26 1 8 (.nilFunc) := ⟨by kernel_rfl⟩
@[reducible] def ty27 := Ty.mk Try.underlying27
attribute [instance] ty27
instance tz27 : Tz Try.prog 27 1 8 (.nilFunc) := ⟨by kernel_rfl⟩
@[reducible] def ty28 := Ty.mk Try.underlying28
attribute [instance] ty28
instance tz28 : Tz Try.prog 28 1 8 (.nilFunc) := ⟨by kernel_rfl⟩
@[reducible] def ty29 := Ty.mk Try.underlying29
attribute [instance] ty29
instance tz29 : Tz Try.prog 29 1 8 (.nilFunc) := ⟨by kernel_rfl⟩
@[reducible] def ty30 := Ty.mk Try.underlying30
attribute [instance] ty30
instance tz30 : Tz Try.prog 30 1 8 (.nilFunc) := ⟨by kernel_rfl⟩
@[reducible] def ty31 := Ty.mk Try.underlying31
attribute [instance] ty31
instance tz31 : Tz Try.prog 31 1 8 (.nilFunc) := ⟨by kernel_rfl⟩
@[reducible] def ty32 := Ty.mk Try.underlying32
attribute [instance] ty32
instance tz32 : Tz Try.prog 32 1 8 (.nilFunc) := ⟨by kernel_rfl⟩
@[reducible] def ty33 := Ty.mk Try.underlying33
attribute [instance] ty33
instance tz33 : Tz Try.prog 33 1 8 (.int .i64 0) := ⟨by kernel_rfl⟩
@[reducible] def ty34 := Ty.mk Try.underlying34
attribute [instance] ty34
@[reducible] def ty35 := Ty.mk Try.underlying35
attribute [instance] ty35
instance tz35 : Tz Try.prog 35 1 8 (.nilFunc) := ⟨by kernel_rfl⟩
@[reducible] def ty36 := Ty.mk Try.underlying36
attribute [instance] ty36
instance tz36 : Tz Try.prog 36 1 8 (.nilFunc) := ⟨by kernel_rfl⟩
@[reducible] def ty37 := Ty.mk Try.underlying37
attribute [instance] ty37
instance tz37 : Tz Try.prog 37 1 8 (.nilFunc) := ⟨by kernel_rfl⟩
@[reducible] def ty38 := Ty.mk Try.underlying38
attribute [instance] ty38
instance tz38 : Tz Try.prog 38 1 8 (.nilFunc) := ⟨by kernel_rfl⟩
@[reducible] def ty39 := Ty.mk Try.underlying39
attribute [instance] ty39
instance tz39 : Tz Try.prog 39 1 8 (.nilFunc) := ⟨by kernel_rfl⟩
@[reducible] def ty40 := Ty.mk Try.underlying40
attribute [instance] ty40
instance tz40 : Tz Try.prog 40 1 8 (.nilFunc) := ⟨by kernel_rfl⟩
@[reducible] def ty41 := Ty.mk Try.underlying41
attribute [instance] ty41
instance tz41 : Tz Try.prog 41 1 24 (.slice none 0 0) := ⟨by kernel_rfl⟩
@[reducible] def ty42 := Ty.mk Try.underlying42
attribute [instance] ty42
instance tz42 : Tz Try.prog 42 1 8 (.nilFunc) := ⟨by kernel_rfl⟩
@[reducible] def ty43 := Ty.mk Try.underlying43
attribute [instance] ty43
instance tz43 : Tz Try.prog 43 1 8 (.nilFunc) := ⟨by kernel_rfl⟩
@[reducible] def ty44 := Ty.mk Try.underlying44
attribute [instance] ty44
instance tz44 : Tz Try.prog 44 1 8 (.nilFunc) := ⟨by kernel_rfl⟩
@[reducible] def ty45 := Ty.mk Try.underlying45
attribute [instance] ty45
instance tz45 : Tz Try.prog 45 1 24 (.slice none 0 0) := ⟨by kernel_rfl⟩
@[reducible] def ty46 := Ty.mk Try.underlying46
attribute [instance] ty46
@[reducible] def ty47 := Ty.mk Try.underlying47
attribute [instance] ty47
instance tz47 : Tz Try.prog 47 1 8 (.nilFunc) := ⟨by kernel_rfl⟩
@[reducible] def ty48 := Ty.mk Try.underlying48
attribute [instance] ty48
instance tz48 : Tz Try.prog 48 1 24 (.slice none 0 0) := ⟨by kernel_rfl⟩
@[reducible] def ty49 := Ty.mk Try.underlying49
attribute [instance] ty49
@[reducible] def ty50 := Ty.mk Try.underlying50
attribute [instance] ty50
instance tz50 : Tz Try.prog 50 1 8 (.nilFunc) := ⟨by kernel_rfl⟩
@[reducible] def ty51 := Ty.mk Try.underlying51
attribute [instance] ty51
instance tz51 : Tz Try.prog 51 3 24 (.agg #[.int .i64 0, .int .i64 0, .int .i64 0]) := ⟨by kernel_rfl⟩
instance tf51 : Tf Try.prog 51 [(0, 1), (1, 1), (2, 1)] := ⟨by kernel_rfl⟩
@[reducible] def ty52 := Ty.mk Try.underlying52
attribute [instance] ty52
instance tz52 : Tz Try.prog 52 3 24 (.agg #[.int .i64 0, .int .i64 0, .int .i64 0]) := ⟨by kernel_rfl⟩
instance tf52 : Tf Try.prog 52 [(0, 1), (1, 1), (2, 1)] := ⟨by kernel_rfl⟩
@[reducible] def ty53 := Ty.mk Try.underlying53
attribute [instance] ty53
instance tz53 : Tz Try.prog 53 3 24 (.agg #[.int .i64 0, .int .i64 0, .int .i64 0]) := ⟨by kernel_rfl⟩
instance tf53 : Tf Try.prog 53 [(0, 1), (1, 1), (2, 1)] := ⟨by kernel_rfl⟩
@[reducible] def ty54 := Ty.mk Try.underlying54
attribute [instance] ty54
instance tz54 : Tz Try.prog 54 1 8 (.nilFunc) := ⟨by kernel_rfl⟩
@[reducible] def ty55 := Ty.mk Try.underlying55
attribute [instance] ty55
instance tz55 : Tz Try.prog 55 1 8 (.nilFunc) := ⟨by kernel_rfl⟩
@[reducible] def ty56 := Ty.mk Try.underlying56
attribute [instance] ty56
instance tz56 : Tz Try.prog 56 1 8 (.nilFunc) := ⟨by kernel_rfl⟩
@[reducible] def ty57 := Ty.mk Try.underlying57
attribute [instance] ty57
instance tz57 : Tz Try.prog 57 1 8 (.nilFunc) := ⟨by kernel_rfl⟩
@[reducible] def ty58 := Ty.mk Try.underlying58
attribute [instance] ty58
instance tz58 : Tz Try.prog 58 1 8 (.nilFunc) := ⟨by kernel_rfl⟩
@[reducible] def ty59 := Ty.mk Try.underlying59
attribute [instance] ty59
@[reducible] def ty60 := Ty.mk Try.underlying60
attribute [instance] ty60
instance tz60 : Tz Try.prog 60 1 8 (.nilFunc) := ⟨by kernel_rfl⟩
@[reducible] def ty61 := Ty.mk Try.underlying61
attribute [instance] ty61
instance tz61 : Tz Try.prog 61 1 8 (.nilFunc) := ⟨by kernel_rfl⟩
@[reducible] def ty62 := Ty.mk Try.underlying62
attribute [instance] ty62
instance tz62 : Tz Try.prog 62 1 8 (.nilFunc) := ⟨by kernel_rfl⟩
@[reducible] def ty63 := Ty.mk Try.underlying63
attribute [instance] ty63
instance tz63 : Tz Try.prog 63 1 8 (.nilFunc) := ⟨by kernel_rfl⟩
@[reducible] def ty64 := Ty.mk Try.underlying64
attribute [instance] ty64
instance tz64 : Tz Try.prog 64 1 24 (.slice none 0 0) := ⟨by kernel_rfl⟩
@[reducible] def ty65 := Ty.mk Try.underlying65
attribute [instance] ty65
instance tz65 : Tz Try.prog 65 1 8 (.nilFunc) := ⟨by kernel_rfl⟩
@[reducible] def ty66 := Ty.mk Try.underlying66
attribute [instance] ty66
instance tz66 : Tz Try.prog 66 1 8 (.nilFunc) := ⟨by kernel_rfl⟩
@[reducible] def ty67 := Ty.mk Try.underlying67
attribute [instance] ty67
instance tz67 : Tz Try.prog 67 1 8 (.map none) := ⟨by kernel_rfl⟩
@[reducible] def ty68 := Ty.mk Try.underlying68
attribute [instance] ty68
instance tz68 : Tz Try.prog 68 1 8 (.nilFunc) := ⟨by kernel_rfl⟩
@[reducible] def ty69 := Ty.mk Try.underlying69
attribute [instance] ty69
instance tz69 : Tz Try.prog 69 1 8 (.nilFunc) := ⟨by kernel_rfl⟩
@[reducible] def ty70 := Ty.mk Try.underlying70
attribute [instance] ty70
instance tz70 : Tz Try.prog 70 1 8 (.nilFunc) := ⟨by kernel_rfl⟩
@[reducible] def ty71 := Ty.mk Try.underlying71
attribute [instance] ty71
instance tz71 : Tz Try.prog 71 1 8 (.nilFunc) := ⟨by kernel_rfl⟩
@[reducible] def ty72 := Ty.mk Try.underlying72
attribute [instance] ty72
instance tz72 : Tz Try.prog 72 1 8 (.nilFunc) := ⟨by kernel_rfl⟩
@[reducible] def ty73 := Ty.mk Try.underlying73
attribute [instance] ty73
instance tz73 : Tz Try.prog 73 3 3 (.agg #[.int .u8 0, .int .u8 0, .int .u8 0]) := ⟨by kernel_rfl⟩
@[reducible] def ty74 := Ty.mk Try.underlying74
attribute [instance] ty74
instance tz74 : Tz Try.prog 74 1 8 (.nilFunc) := ⟨by kernel_rfl⟩
@[reducible] def ty75 := Ty.mk Try.underlying75
attribute [instance] ty75
instance tz75 : Tz Try.prog 75 1 8 (.int .u64 0) := ⟨by kernel_rfl⟩
@[reducible] def ty76 := Ty.mk Try.underlying76
attribute [instance] ty76
instance tz76 : Tz Try.prog 76 1 8 (.nilFunc) := ⟨by kernel_rfl⟩
@[reducible] def ty77 := Ty.mk Try.underlying77
attribute [instance] ty77
instance tz77 : Tz Try.prog 77 1 8 (.nilFunc) := ⟨by kernel_rfl⟩
@[reducible] def ty78 := Ty.mk Try.underlying78
attribute [instance] ty78
instance tz78 : Tz Try.prog 78 1 8 (.nilFunc) := ⟨by kernel_rfl⟩
@[reducible] def ty79 := Ty.mk Try.underlying79
attribute [instance] ty79
instance tz79 : Tz Try.prog 79 1 8 (.pointer none) := ⟨by kernel_rfl⟩
@[reducible] def ty80 := Ty.mk Try.underlying80
attribute [instance] ty80
instance tz80 : Tz Try.prog 80 3 40 (.agg #[.slice none 0 0, .int .i64 0, .int .i64 0]) := ⟨by kernel_rfl⟩
instance tf80 : Tf Try.prog 80 [(0, 1), (1, 1), (2, 1)] := ⟨by kernel_rfl⟩
@[reducible] def ty81 := Ty.mk Try.underlying81
attribute [instance] ty81
instance tz81 : Tz Try.prog 81 3 40 (.agg #[.slice none 0 0, .int .i64 0, .int .i64 0]) := ⟨by kernel_rfl⟩
instance tf81 : Tf Try.prog 81 [(0, 1), (1, 1), (2, 1)] := ⟨by kernel_rfl⟩
@[reducible] def ty82 := Ty.mk Try.underlying82
attribute [instance] ty82
instance tz82 : Tz Try.prog 82 1 8 (.nilFunc) := ⟨by kernel_rfl⟩
@[reducible] def ty83 := Ty.mk Try.underlying83
attribute [instance] ty83
instance tz83 : Tz Try.prog 83 1 8 (.nilFunc) := ⟨by kernel_rfl⟩
@[reducible] def ty84 := Ty.mk Try.underlying84
attribute [instance] ty84
instance tz84 : Tz Try.prog 84 1 8 (.nilFunc) := ⟨by kernel_rfl⟩
@[reducible] def ty85 := Ty.mk Try.underlying85
attribute [instance] ty85
instance tz85 : Tz Try.prog 85 1 8 (.nilFunc) := ⟨by kernel_rfl⟩
@[reducible] def ty86 := Ty.mk Try.underlying86
attribute [instance] ty86
@[reducible] def ty87 := Ty.mk Try.underlying87
attribute [instance] ty87
instance tz87 : Tz Try.prog 87 1 8 (.nilFunc) := ⟨by kernel_rfl⟩
@[reducible] def ty88 := Ty.mk Try.underlying88
attribute [instance] ty88
instance tz88 : Tz Try.prog 88 1 8 (.nilFunc) := ⟨by kernel_rfl⟩
@[reducible] def ty89 := Ty.mk Try.underlying89
attribute [instance] ty89
@[reducible] def ty90 := Ty.mk Try.underlying90
attribute [instance] ty90
instance tz90 : Tz Try.prog 90 1 8 (.nilFunc) := ⟨by kernel_rfl⟩
@[reducible] def ty91 := Ty.mk Try.underlying91
attribute [instance] ty91
instance tz91 : Tz Try.prog 91 1 8 (.nilFunc) := ⟨by kernel_rfl⟩
@[reducible] def ty92 := Ty.mk Try.underlying92
attribute [instance] ty92
instance tz92 : Tz Try.prog 92 1 8 (.int .u64 0) := ⟨by kernel_rfl⟩
@[reducible] def ty93 := Ty.mk Try.underlying93
attribute [instance] ty93
instance tz93 : Tz Try.prog 93 1 8 (.nilFunc) := ⟨by kernel_rfl⟩
@[reducible] def ty94 := Ty.mk Try.underlying94
attribute [instance] ty94
@[reducible] def ty95 := Ty.mk Try.underlying95
attribute [instance] ty95
instance tz95 : Tz Try.prog 95 1 8 (.nilFunc) := ⟨by kernel_rfl⟩
@[reducible] def ty96 := Ty.mk Try.underlying96
attribute [instance] ty96
@[reducible] def ty97 := Ty.mk Try.underlying97
attribute [instance] ty97
instance tz97 : Tz Try.prog 97 1 8 (.nilFunc) := ⟨by kernel_rfl⟩
@[reducible] def ty98 := Ty.mk Try.underlying98
attribute [instance] ty98
instance tz98 : Tz Try.prog 98 1 8 (.pointer none) := ⟨by kernel_rfl⟩
@[reducible] def ty99 := Ty.mk Try.underlying99
attribute [instance] ty99
instance tz99 : Tz Try.prog 99 3 40 (.agg #[.slice none 0 0, .int .i64 0, .int .i64 0]) := ⟨by kernel_rfl⟩
instance tf99 : Tf Try.prog 99 [(0, 1), (1, 1), (2, 1)] := ⟨by kernel_rfl⟩
@[reducible] def ty100 := Ty.mk Try.underlying100
attribute [instance] ty100
instance tz100 : Tz Try.prog 100 3 40 (.agg #[.slice none 0 0, .int .i64 0, .int .i64 0]) := ⟨by kernel_rfl⟩
instance tf100 : Tf Try.prog 100 [(0, 1), (1, 1), (2, 1)] := ⟨by kernel_rfl⟩
@[reducible] def ty101 := Ty.mk Try.underlying101
attribute [instance] ty101
instance tz101 : Tz Try.prog 101 1 8 (.nilFunc) := ⟨by kernel_rfl⟩
@[reducible] def ty102 := Ty.mk Try.underlying102
attribute [instance] ty102
instance tz102 : Tz Try.prog 102 1 8 (.nilFunc) := ⟨by kernel_rfl⟩
@[reducible] def ty103 := Ty.mk Try.underlying103
attribute [instance] ty103
@[reducible] def ty104 := Ty.mk Try.underlying104
attribute [instance] ty104
instance tz104 : Tz Try.prog 104 1 8 (.nilFunc) := ⟨by kernel_rfl⟩
@[reducible] def ty105 := Ty.mk Try.underlying105
attribute [instance] ty105
instance tz105 : Tz Try.prog 105 1 8 (.nilFunc) := ⟨by kernel_rfl⟩
@[reducible] def ty106 := Ty.mk Try.underlying106
attribute [instance] ty106
@[reducible] def ty107 := Ty.mk Try.underlying107
attribute [instance] ty107
instance tz107 : Tz Try.prog 107 1 8 (.nilFunc) := ⟨by kernel_rfl⟩
@[reducible] def ty108 := Ty.mk Try.underlying108
attribute [instance] ty108
instance tz108 : Tz Try.prog 108 1 8 (.nilFunc) := ⟨by kernel_rfl⟩
@[reducible] def ty109 := Ty.mk Try.underlying109
attribute [instance] ty109
instance tz109 : Tz Try.prog 109 1 8 (.nilFunc) := ⟨by kernel_rfl⟩
@[reducible] def ty110 := Ty.mk Try.underlying110
attribute [instance] ty110
instance tz110 : Tz Try.prog 110 4 40 (.agg #[.pointer none, .pointer none, .pointer none, .string .empty]) := ⟨by kernel_rfl⟩
instance tf110 : Tf Try.prog 110 [(0, 1), (1, 1), (2, 1), (3, 1)] := ⟨by kernel_rfl⟩
@[reducible] def ty111 := Ty.mk Try.underlying111
attribute [instance] ty111
instance tz111 : Tz Try.prog 111 4 40 (.agg #[.pointer none, .pointer none, .pointer none, .string .empty]) := ⟨by kernel_rfl⟩
instance tf111 : Tf Try.prog 111 [(0, 1), (1, 1), (2, 1), (3, 1)] := ⟨by kernel_rfl⟩
@[reducible] def ty112 := Ty.mk Try.underlying112
attribute [instance] ty112
@[reducible] def ty113 := Ty.mk Try.underlying113
attribute [instance] ty113
@[reducible] def ty114 := Ty.mk Try.underlying114
attribute [instance] ty114
@[reducible] def ty115 := Ty.mk Try.underlying115
attribute [instance] ty115
instance tz115 : Tz Try.prog 115 1 4 (.int .u32 0) := ⟨by kernel_rfl⟩
@[reducible] def ty116 := Ty.mk Try.underlying116
attribute [instance] ty116
instance tz116 : Tz Try.prog 116 1 1 (.int .u8 0) := ⟨by kernel_rfl⟩
@[reducible] def ty117 := Ty.mk Try.underlying117
attribute [instance] ty117
instance tz117 : Tz Try.prog 117 1 1 (.int .u8 0) := ⟨by kernel_rfl⟩
@[reducible] def ty118 := Ty.mk Try.underlying118
attribute [instance] ty118
instance tz118 : Tz Try.prog 118 1 8 (.nilFunc) := ⟨by kernel_rfl⟩
@[reducible] def ty119 := Ty.mk Try.underlying119
attribute [instance] ty119
instance tz119 : Tz Try.prog 119 1 8 (.pointer none) := ⟨by kernel_rfl⟩
@[reducible] def ty120 := Ty.mk Try.underlying120
attribute [instance] ty120
instance tz120 : Tz Try.prog 120 1 4 (.int .i32 0) := ⟨by kernel_rfl⟩
@[reducible] def ty121 := Ty.mk Try.underlying121
attribute [instance] ty121
instance tz121 : Tz Try.prog 121 1 4 (.int .i32 0) := ⟨by kernel_rfl⟩
@[reducible] def ty122 := Ty.mk Try.underlying122
attribute [instance] ty122
instance tz122 : Tz Try.prog 122 11 48 (.agg #[.int .u64 0, .int .u64 0, .int .u32 0, .int .u8 0, .int .u8 0, .int .u8 0, .int .u8 0, .nilFunc, .pointer none, .int .i32 0, .int .i32 0]) := ⟨by kernel_rfl⟩
instance tf122 : Tf Try.prog 122 [(0, 1), (1, 1), (2, 1), (3, 1), (4, 1), (5, 1), (6, 1), (7, 1), (8, 1), (9, 1), (10, 1)] := ⟨by kernel_rfl⟩
@[reducible] def ty123 := Ty.mk Try.underlying123
attribute [instance] ty123
instance tz123 : Tz Try.prog 123 11 48 (.agg #[.int .u64 0, .int .u64 0, .int .u32 0, .int .u8 0, .int .u8 0, .int .u8 0, .int .u8 0, .nilFunc, .pointer none, .int .i32 0, .int .i32 0]) := ⟨by kernel_rfl⟩
instance tf123 : Tf Try.prog 123 [(0, 1), (1, 1), (2, 1), (3, 1), (4, 1), (5, 1), (6, 1), (7, 1), (8, 1), (9, 1), (10, 1)] := ⟨by kernel_rfl⟩
@[reducible] def ty124 := Ty.mk Try.underlying124
attribute [instance] ty124

theorem mixed : Try.prog.follows .mixedOrders = true := by kernel_rfl
end Go.Proofs.Ytkjfflabapeidaa
