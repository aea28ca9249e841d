/- The types of the dump in short, each checked by the kernel. Printed by gen.py. -/
import Derived.Test.YtodafoajkajnkaaIL16
import Derived.Test.YtodafoajkajnkaaProg
namespace Go.Proofs.Ytodafoajkajnkaa.IL
open Go Go.RowKit

@[simp] theorem ty1 : tc Try.prog 1 = some { size := 1, bytes := 8, agg := false, zero := some [.nilf], flat := none, kd := .func } := by kernel_rfl
@[simp] theorem ty2 : tc Try.prog 2 = some { size := 1, bytes := 8, agg := false, zero := some [.int .i64 0], flat := some [.i], kd := .int .i64 } := by kernel_rfl
@[simp] theorem ty3 : tc Try.prog 3 = some { size := 1, bytes := 8, agg := false, zero := some [.int .i64 0], flat := some [.i], kd := .int .i64 } := by kernel_rfl
@[simp] theorem ty4 : tc Try.prog 4 = some { size := 1, bytes := 1, agg := false, zero := some [.bool false], flat := some [.b], kd := .bool } := by kernel_rfl
@[simp] theorem ty5 : tc Try.prog 5 = some { size := 1, bytes := 1, agg := false, zero := some [.int .u8 0], flat := some [.i], kd := .int .u8 } := by kernel_rfl
@[simp] theorem ty9 : tc Try.prog 9 = some { size := 1, bytes := 16, agg := false, zero := some [.str ⟨#[]⟩], flat := some [.s], kd := .string } := by kernel_rfl
@[simp] theorem ty20 : tc Try.prog 20 = some { size := 1, bytes := 16, agg := false, zero := some [.nili], flat := none, kd := .iface } := by kernel_rfl
@[simp] theorem ty21 : tc Try.prog 21 = some { size := 1, bytes := 4, agg := false, zero := some [.int .i32 0], flat := some [.i], kd := .int .i32 } := by kernel_rfl
@[simp] theorem ty22 : tc Try.prog 22 = some { size := 1, bytes := 24, agg := false, zero := some [.nils], flat := none, kd := .slice 84 } := by kernel_rfl
@[simp] theorem ty23 : tc Try.prog 23 = some { size := 1, bytes := 24, agg := false, zero := some [.nils], flat := none, kd := .slice 58 } := by kernel_rfl
@[simp] theorem ty24 : tc Try.prog 24 = some { size := 1, bytes := 24, agg := false, zero := some [.nils], flat := none, kd := .slice 63 } := by kernel_rfl
@[simp] theorem ty25 : tc Try.prog 25 = some { size := 5, bytes := 96, agg := true, zero := some [.bool false, .str ⟨#[]⟩, .nils, .nils, .nils], flat := none, kd := .struct [(0, 1, false), (1, 1, false), (2, 1, false), (3, 1, false), (4, 1, false)] } := by kernel_rfl
@[simp] theorem fk25 : fieldsKnown Try.prog 25 = true := by kernel_rfl
@[simp] theorem ty26 : tc Try.prog 26 = some { size := 5, bytes := 96, agg := true, zero := some [.bool false, .str ⟨#[]⟩, .nils, .nils, .nils], flat := none, kd := .struct [(0, 1, false), (1, 1, false), (2, 1, false), (3, 1, false), (4, 1, false)] } := by kernel_rfl
@[simp] theorem fk26 : fieldsKnown Try.prog 26 = true := by kernel_rfl
@[simp] theorem ty27 : tc Try.prog 27 = some { size := 1, bytes := 8, agg := false, zero := some [.nilf], flat := none, kd := .func } := by kernel_rfl
@[simp] theorem ty28 : tc Try.prog 28 = some { size := 1, bytes := 8, agg := false, zero := some [.nilf], flat := none, kd := .func } := by kernel_rfl
@[simp] theorem ty29 : tc Try.prog 29 = some { size := 1, bytes := 8, agg := false, zero := some [.nilp], flat := none, kd := .pointer 108 } := by kernel_rfl
@[simp] theorem ty30 : tc Try.prog 30 = some { size := 1, bytes := 8, agg := false, zero := some [.nilf], flat := none, kd := .func } := by kernel_rfl
@[simp] theorem ty31 : tc Try.prog 31 = some { size := 1, bytes := 24, agg := false, zero := some [.nils], flat := none, kd := .slice 37 } := by kernel_rfl
@[simp] theorem ty32 : tc Try.prog 32 = some { size := 1, bytes := 8, agg := false, zero := some [.nilf], flat := none, kd := .func } := by kernel_rfl
@[simp] theorem ty33 : tc Try.prog 33 = some { size := 1, bytes := 8, agg := false, zero := some [.nilf], flat := none, kd := .func } := by kernel_rfl
@[simp] theorem ty34 : tc Try.prog 34 = some { size := 1, bytes := 24, agg := false, zero := some [.nils], flat := none, kd := .slice 41 } := by kernel_rfl
@[simp] theorem ty35 : tc Try.prog 35 = some { size := 1, bytes := 8, agg := false, zero := some [.nilf], flat := none, kd := .func } := by kernel_rfl
@[simp] theorem ty36 : tc Try.prog 36 = some { size := 1, bytes := 8, agg := false, zero := some [.nilf], flat := none, kd := .func } := by kernel_rfl
@[simp] theorem ty37 : tc Try.prog 37 = some { size := 1, bytes := 24, agg := false, zero := some [.nils], flat := none, kd := .slice 3 } := by kernel_rfl
@[simp] theorem ty38 : tc Try.prog 38 = some { size := 1, bytes := 8, agg := false, zero := some [.nilf], flat := none, kd := .func } := by kernel_rfl
@[simp] theorem ty39 : tc Try.prog 39 = some { size := 1, bytes := 8, agg := false, zero := some [.nilf], flat := none, kd := .func } := by kernel_rfl
@[simp] theorem ty40 : tc Try.prog 40 = some { size := 1, bytes := 8, agg := false, zero := some [.nilf], flat := none, kd := .func } := by kernel_rfl
@[simp] theorem ty41 : tc Try.prog 41 = some { size := 2, bytes := 16, agg := true, zero := some [.int .i64 0, .int .i64 0], flat := some [.i, .i], kd := .array 2 3 } := by kernel_rfl
@[simp] theorem fk41 : fieldsKnown Try.prog 41 = true := by kernel_rfl
@[simp] theorem ty42 : tc Try.prog 42 = some { size := 1, bytes := 24, agg := false, zero := some [.nils], flat := none, kd := .slice 4 } := by kernel_rfl
@[simp] theorem ty43 : tc Try.prog 43 = some { size := 1, bytes := 8, agg := false, zero := some [.nilf], flat := none, kd := .func } := by kernel_rfl
@[simp] theorem ty44 : tc Try.prog 44 = some { size := 1, bytes := 8, agg := false, zero := some [.nilp], flat := none, kd := .pointer 117 } := by kernel_rfl
@[simp] theorem ty45 : tc Try.prog 45 = some { size := 1, bytes := 8, agg := false, zero := some [.nilf], flat := none, kd := .func } := by kernel_rfl
@[simp] theorem ty46 : tc Try.prog 46 = some { size := 1, bytes := 8, agg := false, zero := some [.nilf], flat := none, kd := .func } := by kernel_rfl
@[simp] theorem ty47 : tc Try.prog 47 = some { size := 1, bytes := 8, agg := false, zero := some [.nilf], flat := none, kd := .func } := by kernel_rfl
@[simp] theorem ty48 : tc Try.prog 48 = some { size := 1, bytes := 8, agg := false, zero := some [.nilf], flat := none, kd := .func } := by kernel_rfl
@[simp] theorem ty49 : tc Try.prog 49 = some { size := 1, bytes := 8, agg := false, zero := some [.nilf], flat := none, kd := .func } := by kernel_rfl
@[simp] theorem ty50 : tc Try.prog 50 = some { size := 1, bytes := 8, agg := false, zero := some [.nilf], flat := none, kd := .func } := by kernel_rfl
@[simp] theorem ty51 : tc Try.prog 51 = some { size := 1, bytes := 8, agg := false, zero := some [.nilf], flat := none, kd := .func } := by kernel_rfl
@[simp] theorem ty52 : tc Try.prog 52 = some { size := 1, bytes := 24, agg := false, zero := some [.nils], flat := none, kd := .slice 122 } := by kernel_rfl
@[simp] theorem ty53 : tc Try.prog 53 = some { size := 4, bytes := 32, agg := true, zero := some [.int .u8 0, .int .u8 0, .int .u8 0, .nils], flat := none, kd := .struct [(0, 1, false), (1, 1, false), (2, 1, false), (3, 1, false)] } := by kernel_rfl
@[simp] theorem fk53 : fieldsKnown Try.prog 53 = true := by kernel_rfl
@[simp] theorem ty54 : tc Try.prog 54 = some { size := 4, bytes := 32, agg := true, zero := some [.int .u8 0, .int .u8 0, .int .u8 0, .nils], flat := none, kd := .struct [(0, 1, false), (1, 1, false), (2, 1, false), (3, 1, false)] } := by kernel_rfl
@[simp] theorem fk54 : fieldsKnown Try.prog 54 = true := by kernel_rfl
@[simp] theorem ty55 : tc Try.prog 55 = some { size := 1, bytes := 8, agg := false, zero := some [.nilf], flat := none, kd := .func } := by kernel_rfl
@[simp] theorem ty56 : tc Try.prog 56 = some { size := 1, bytes := 8, agg := false, zero := some [.nilf], flat := none, kd := .func } := by kernel_rfl
@[simp] theorem ty57 : tc Try.prog 57 = some { size := 4, bytes := 32, agg := true, zero := some [.int .i64 0, .int .i64 0, .int .i64 0, .int .i64 0], flat := some [.i, .i, .i, .i], kd := .struct [(0, 1, false), (1, 1, false), (2, 1, false), (3, 1, false)] } := by kernel_rfl
@[simp] theorem fk57 : fieldsKnown Try.prog 57 = true := by kernel_rfl
@[simp] theorem ty58 : tc Try.prog 58 = some { size := 4, bytes := 32, agg := true, zero := some [.int .i64 0, .int .i64 0, .int .i64 0, .int .i64 0], flat := some [.i, .i, .i, .i], kd := .struct [(0, 1, false), (1, 1, false), (2, 1, false), (3, 1, false)] } := by kernel_rfl
@[simp] theorem fk58 : fieldsKnown Try.prog 58 = true := by kernel_rfl
@[simp] theorem ty59 : tc Try.prog 59 = some { size := 1, bytes := 8, agg := false, zero := some [.nilf], flat := none, kd := .func } := by kernel_rfl
@[simp] theorem ty60 : tc Try.prog 60 = some { size := 1, bytes := 8, agg := false, zero := some [.nilf], flat := none, kd := .func } := by kernel_rfl
@[simp] theorem ty61 : tc Try.prog 61 = some { size := 1, bytes := 24, agg := false, zero := some [.nils], flat := none, kd := .slice 66 } := by kernel_rfl
@[simp] theorem ty62 : tc Try.prog 62 = some { size := 4, bytes := 72, agg := true, zero := some [.str ⟨#[]⟩, .bool false, .nils, .nils], flat := none, kd := .struct [(0, 1, false), (1, 1, false), (2, 1, false), (3, 1, false)] } := by kernel_rfl
@[simp] theorem fk62 : fieldsKnown Try.prog 62 = true := by kernel_rfl
@[simp] theorem ty63 : tc Try.prog 63 = some { size := 4, bytes := 72, agg := true, zero := some [.str ⟨#[]⟩, .bool false, .nils, .nils], flat := none, kd := .struct [(0, 1, false), (1, 1, false), (2, 1, false), (3, 1, false)] } := by kernel_rfl
@[simp] theorem fk63 : fieldsKnown Try.prog 63 = true := by kernel_rfl
@[simp] theorem ty64 : tc Try.prog 64 = some { size := 1, bytes := 24, agg := false, zero := some [.nils], flat := none, kd := .slice 9 } := by kernel_rfl
@[simp] theorem ty65 : tc Try.prog 65 = some { size := 10, bytes := 136, agg := true, zero := some [.int .i64 0, .int .i64 0, .int .i64 0, .int .i64 0, .int .i64 0, .nils, .str ⟨#[]⟩, .int .i64 0, .nils, .nils], flat := none, kd := .struct [(0, 1, false), (1, 4, true), (5, 1, false), (6, 1, false), (7, 1, false), (8, 1, false), (9, 1, false)] } := by kernel_rfl
@[simp] theorem fk65 : fieldsKnown Try.prog 65 = true := by kernel_rfl
@[simp] theorem ty66 : tc Try.prog 66 = some { size := 10, bytes := 136, agg := true, zero := some [.int .i64 0, .int .i64 0, .int .i64 0, .int .i64 0, .int .i64 0, .nils, .str ⟨#[]⟩, .int .i64 0, .nils, .nils], flat := none, kd := .struct [(0, 1, false), (1, 4, true), (5, 1, false), (6, 1, false), (7, 1, false), (8, 1, false), (9, 1, false)] } := by kernel_rfl
@[simp] theorem fk66 : fieldsKnown Try.prog 66 = true := by kernel_rfl
@[simp] theorem ty67 : tc Try.prog 67 = some { size := 1, bytes := 8, agg := false, zero := some [.nilf], flat := none, kd := .func } := by kernel_rfl
@[simp] theorem ty68 : tc Try.prog 68 = some { size := 1, bytes := 8, agg := false, zero := some [.nilf], flat := none, kd := .func } := by kernel_rfl
@[simp] theorem ty69 : tc Try.prog 69 = some { size := 1, bytes := 8, agg := false, zero := some [.nilf], flat := none, kd := .func } := by kernel_rfl
@[simp] theorem ty70 : tc Try.prog 70 = some { size := 1, bytes := 8, agg := false, zero := some [.nilf], flat := none, kd := .func } := by kernel_rfl
@[simp] theorem ty71 : tc Try.prog 71 = some { size := 1, bytes := 8, agg := false, zero := some [.nilf], flat := none, kd := .func } := by kernel_rfl
@[simp] theorem ty72 : tc Try.prog 72 = some { size := 1, bytes := 8, agg := false, zero := some [.nilf], flat := none, kd := .func } := by kernel_rfl
@[simp] theorem ty73 : tc Try.prog 73 = some { size := 1, bytes := 8, agg := false, zero := some [.nilf], flat := none, kd := .func } := by kernel_rfl
@[simp] theorem ty75 : tc Try.prog 75 = some { size := 1, bytes := 8, agg := false, zero := some [.nilf], flat := none, kd := .func } := by kernel_rfl
@[simp] theorem ty76 : tc Try.prog 76 = some { size := 1, bytes := 8, agg := false, zero := some [.nilf], flat := none, kd := .func } := by kernel_rfl
@[simp] theorem ty77 : tc Try.prog 77 = some { size := 1, bytes := 8, agg := false, zero := some [.nilf], flat := none, kd := .func } := by kernel_rfl
@[simp] theorem ty78 : tc Try.prog 78 = some { size := 1, bytes := 8, agg := false, zero := some [.nilf], flat := none, kd := .func } := by kernel_rfl
@[simp] theorem ty79 : tc Try.prog 79 = some { size := 1, bytes := 8, agg := false, zero := some [.nilf], flat := none, kd := .func } := by kernel_rfl
@[simp] theorem ty80 : tc Try.prog 80 = some { size := 1, bytes := 8, agg := false, zero := some [.nilf], flat := none, kd := .func } := by kernel_rfl
@[simp] theorem ty81 : tc Try.prog 81 = some { size := 1, bytes := 8, agg := false, zero := some [.nilf], flat := none, kd := .func } := by kernel_rfl
@[simp] theorem ty82 : tc Try.prog 82 = some { size := 1, bytes := 8, agg := false, zero := some [.nilf], flat := none, kd := .func } := by kernel_rfl
@[simp] theorem ty83 : tc Try.prog 83 = some { size := 2, bytes := 16, agg := true, zero := some [.int .i64 0, .int .i64 0], flat := some [.i, .i], kd := .struct [(0, 1, false), (1, 1, false)] } := by kernel_rfl
@[simp] theorem fk83 : fieldsKnown Try.prog 83 = true := by kernel_rfl
@[simp] theorem ty84 : tc Try.prog 84 = some { size := 2, bytes := 16, agg := true, zero := some [.int .i64 0, .int .i64 0], flat := some [.i, .i], kd := .struct [(0, 1, false), (1, 1, false)] } := by kernel_rfl
@[simp] theorem fk84 : fieldsKnown Try.prog 84 = true := by kernel_rfl
@[simp] theorem ty85 : tc Try.prog 85 = some { size := 1, bytes := 8, agg := false, zero := some [.nilf], flat := none, kd := .func } := by kernel_rfl
@[simp] theorem ty86 : tc Try.prog 86 = some { size := 1, bytes := 8, agg := false, zero := some [.nilf], flat := none, kd := .func } := by kernel_rfl
@[simp] theorem ty87 : tc Try.prog 87 = some { size := 1, bytes := 8, agg := false, zero := some [.nilf], flat := none, kd := .func } := by kernel_rfl
@[simp] theorem ty88 : tc Try.prog 88 = some { size := 2, bytes := 48, agg := true, zero := some [.nils, .nils], flat := none, kd := .array 2 37 } := by kernel_rfl
@[simp] theorem fk88 : fieldsKnown Try.prog 88 = true := by kernel_rfl
@[simp] theorem ty89 : tc Try.prog 89 = some { size := 5, bytes := 72, agg := true, zero := some [.int .i64 0, .int .i64 0, .nils, .nils, .int .i64 0], flat := none, kd := .struct [(0, 2, true), (2, 2, true), (4, 1, false)] } := by kernel_rfl
@[simp] theorem fk89 : fieldsKnown Try.prog 89 = true := by kernel_rfl
@[simp] theorem ty90 : tc Try.prog 90 = some { size := 5, bytes := 72, agg := true, zero := some [.int .i64 0, .int .i64 0, .nils, .nils, .int .i64 0], flat := none, kd := .struct [(0, 2, true), (2, 2, true), (4, 1, false)] } := by kernel_rfl
@[simp] theorem fk90 : fieldsKnown Try.prog 90 = true := by kernel_rfl
@[simp] theorem ty91 : tc Try.prog 91 = some { size := 1, bytes := 24, agg := false, zero := some [.nils], flat := none, kd := .slice 155 } := by kernel_rfl
@[simp] theorem ty92 : tc Try.prog 92 = some { size := 2, bytes := 32, agg := true, zero := some [.int .i64 0, .nils], flat := none, kd := .struct [(0, 1, false), (1, 1, false)] } := by kernel_rfl
@[simp] theorem fk92 : fieldsKnown Try.prog 92 = true := by kernel_rfl
@[simp] theorem ty93 : tc Try.prog 93 = some { size := 2, bytes := 32, agg := true, zero := some [.int .i64 0, .nils], flat := none, kd := .struct [(0, 1, false), (1, 1, false)] } := by kernel_rfl
@[simp] theorem fk93 : fieldsKnown Try.prog 93 = true := by kernel_rfl
@[simp] theorem ty94 : tc Try.prog 94 = some { size := 13, bytes := 208, agg := true, zero := some [.int .i64 0, .int .i64 0, .nils, .nils, .int .i64 0, .bool false, .str ⟨#[]⟩, .nils, .nils, .nils, .bool false, .int .i64 0, .nils], flat := none, kd := .struct [(0, 5, true), (5, 5, true), (10, 1, false), (11, 2, true)] } := by kernel_rfl
@[simp] theorem fk94 : fieldsKnown Try.prog 94 = true := by kernel_rfl
@[simp] theorem ty95 : tc Try.prog 95 = some { size := 13, bytes := 208, agg := true, zero := some [.int .i64 0, .int .i64 0, .nils, .nils, .int .i64 0, .bool false, .str ⟨#[]⟩, .nils, .nils, .nils, .bool false, .int .i64 0, .nils], flat := none, kd := .struct [(0, 5, true), (5, 5, true), (10, 1, false), (11, 2, true)] } := by kernel_rfl
@[simp] theorem fk95 : fieldsKnown Try.prog 95 = true := by kernel_rfl
@[simp] theorem ty96 : tc Try.prog 96 = some { size := 1, bytes := 8, agg := false, zero := some [.nilf], flat := none, kd := .func } := by kernel_rfl
@[simp] theorem ty97 : tc Try.prog 97 = some { size := 1, bytes := 8, agg := false, zero := some [.nilf], flat := none, kd := .func } := by kernel_rfl
@[simp] theorem ty98 : tc Try.prog 98 = some { size := 1, bytes := 8, agg := false, zero := some [.nilf], flat := none, kd := .func } := by kernel_rfl
@[simp] theorem ty99 : tc Try.prog 99 = some { size := 1, bytes := 8, agg := false, zero := some [.nilp], flat := none, kd := .pointer 158 } := by kernel_rfl
@[simp] theorem ty100 : tc Try.prog 100 = some { size := 1, bytes := 8, agg := false, zero := some [.nilf], flat := none, kd := .func } := by kernel_rfl
@[simp] theorem ty101 : tc Try.prog 101 = some { size := 1, bytes := 8, agg := false, zero := some [.nilf], flat := none, kd := .func } := by kernel_rfl
@[simp] theorem ty102 : tc Try.prog 102 = some { size := 1, bytes := 8, agg := false, zero := some [.nilf], flat := none, kd := .func } := by kernel_rfl
@[simp] theorem ty103 : tc Try.prog 103 = some { size := 1, bytes := 8, agg := false, zero := some [.nilf], flat := none, kd := .func } := by kernel_rfl
@[simp] theorem ty104 : tc Try.prog 104 = some { size := 1, bytes := 8, agg := false, zero := some [.nilf], flat := none, kd := .func } := by kernel_rfl
@[simp] theorem ty105 : tc Try.prog 105 = some { size := 1, bytes := 8, agg := false, zero := some [.nilf], flat := none, kd := .func } := by kernel_rfl
@[simp] theorem ty106 : tc Try.prog 106 = some { size := 1, bytes := 8, agg := false, zero := some [.nilf], flat := none, kd := .func } := by kernel_rfl
@[simp] theorem ty107 : tc Try.prog 107 = some { size := 2, bytes := 48, agg := true, zero := some [.nils, .nils], flat := none, kd := .struct [(0, 1, false), (1, 1, false)] } := by kernel_rfl
@[simp] theorem fk107 : fieldsKnown Try.prog 107 = true := by kernel_rfl
@[simp] theorem ty108 : tc Try.prog 108 = some { size := 2, bytes := 48, agg := true, zero := some [.nils, .nils], flat := none, kd := .struct [(0, 1, false), (1, 1, false)] } := by kernel_rfl
@[simp] theorem fk108 : fieldsKnown Try.prog 108 = true := by kernel_rfl
@[simp] theorem ty110 : tc Try.prog 110 = some { size := 1, bytes := 8, agg := false, zero := some [.nilf], flat := none, kd := .func } := by kernel_rfl
@[simp] theorem ty111 : tc Try.prog 111 = some { size := 1, bytes := 8, agg := false, zero := some [.nilf], flat := none, kd := .func } := by kernel_rfl
@[simp] theorem ty112 : tc Try.prog 112 = some { size := 1, bytes := 8, agg := false, zero := some [.nilf], flat := none, kd := .func } := by kernel_rfl
@[simp] theorem ty113 : tc Try.prog 113 = some { size := 1, bytes := 8, agg := false, zero := some [.nilf], flat := none, kd := .func } := by kernel_rfl
@[simp] theorem ty114 : tc Try.prog 114 = some { size := 1, bytes := 8, agg := false, zero := some [.int .u64 0], flat := some [.i], kd := .int .u64 } := by kernel_rfl
@[simp] theorem ty115 : tc Try.prog 115 = some { size := 1, bytes := 24, agg := false, zero := some [.nils], flat := none, kd := .slice 114 } := by kernel_rfl
@[simp] theorem ty116 : tc Try.prog 116 = some { size := 2, bytes := 32, agg := true, zero := some [.int .i64 0, .nils], flat := none, kd := .struct [(0, 1, false), (1, 1, false)] } := by kernel_rfl
@[simp] theorem fk116 : fieldsKnown Try.prog 116 = true := by kernel_rfl
@[simp] theorem ty117 : tc Try.prog 117 = some { size := 2, bytes := 32, agg := true, zero := some [.int .i64 0, .nils], flat := none, kd := .struct [(0, 1, false), (1, 1, false)] } := by kernel_rfl
@[simp] theorem fk117 : fieldsKnown Try.prog 117 = true := by kernel_rfl
@[simp] theorem ty118 : tc Try.prog 118 = some { size := 1, bytes := 8, agg := false, zero := some [.nilf], flat := none, kd := .func } := by kernel_rfl
@[simp] theorem ty119 : tc Try.prog 119 = some { size := 1, bytes := 8, agg := false, zero := some [.nilf], flat := none, kd := .func } := by kernel_rfl
@[simp] theorem ty120 : tc Try.prog 120 = some { size := 1, bytes := 24, agg := false, zero := some [.nils], flat := none, kd := .slice 130 } := by kernel_rfl
@[simp] theorem ty121 : tc Try.prog 121 = some { size := 5, bytes := 32, agg := true, zero := some [.nils, .int .u8 0, .int .u8 0, .int .u8 0, .int .u8 0], flat := none, kd := .struct [(0, 1, false), (1, 1, false), (2, 1, false), (3, 1, false), (4, 1, false)] } := by kernel_rfl
@[simp] theorem fk121 : fieldsKnown Try.prog 121 = true := by kernel_rfl
@[simp] theorem ty122 : tc Try.prog 122 = some { size := 5, bytes := 32, agg := true, zero := some [.nils, .int .u8 0, .int .u8 0, .int .u8 0, .int .u8 0], flat := none, kd := .struct [(0, 1, false), (1, 1, false), (2, 1, false), (3, 1, false), (4, 1, false)] } := by kernel_rfl
@[simp] theorem fk122 : fieldsKnown Try.prog 122 = true := by kernel_rfl
@[simp] theorem ty123 : tc Try.prog 123 = some { size := 1, bytes := 8, agg := false, zero := some [.nilp], flat := none, kd := .pointer 125 } := by kernel_rfl
@[simp] theorem ty124 : tc Try.prog 124 = some { size := 8, bytes := 168, agg := true, zero := some [.bool false, .str ⟨#[]⟩, .nils, .nils, .nils, .nils, .nils, .nils], flat := none, kd := .struct [(0, 5, true), (5, 2, true), (7, 1, false)] } := by kernel_rfl
@[simp] theorem fk124 : fieldsKnown Try.prog 124 = true := by kernel_rfl
@[simp] theorem ty125 : tc Try.prog 125 = some { size := 8, bytes := 168, agg := true, zero := some [.bool false, .str ⟨#[]⟩, .nils, .nils, .nils, .nils, .nils, .nils], flat := none, kd := .struct [(0, 5, true), (5, 2, true), (7, 1, false)] } := by kernel_rfl
@[simp] theorem fk125 : fieldsKnown Try.prog 125 = true := by kernel_rfl
@[simp] theorem ty126 : tc Try.prog 126 = some { size := 1, bytes := 8, agg := false, zero := some [.nilf], flat := none, kd := .func } := by kernel_rfl
@[simp] theorem ty127 : tc Try.prog 127 = some { size := 1, bytes := 8, agg := false, zero := some [.nilf], flat := none, kd := .func } := by kernel_rfl
@[simp] theorem ty128 : tc Try.prog 128 = some { size := 1, bytes := 2, agg := false, zero := some [.int .i16 0], flat := some [.i], kd := .int .i16 } := by kernel_rfl
@[simp] theorem ty129 : tc Try.prog 129 = some { size := 5, bytes := 6, agg := true, zero := some [.int .u8 0, .int .u8 0, .int .u8 0, .int .u8 0, .int .i16 0], flat := some [.i, .i, .i, .i, .i], kd := .struct [(0, 1, false), (1, 1, false), (2, 1, false), (3, 1, false), (4, 1, false)] } := by kernel_rfl
@[simp] theorem fk129 : fieldsKnown Try.prog 129 = true := by kernel_rfl
@[simp] theorem ty130 : tc Try.prog 130 = some { size := 5, bytes := 6, agg := true, zero := some [.int .u8 0, .int .u8 0, .int .u8 0, .int .u8 0, .int .i16 0], flat := some [.i, .i, .i, .i, .i], kd := .struct [(0, 1, false), (1, 1, false), (2, 1, false), (3, 1, false), (4, 1, false)] } := by kernel_rfl
@[simp] theorem fk130 : fieldsKnown Try.prog 130 = true := by kernel_rfl
@[simp] theorem ty131 : tc Try.prog 131 = some { size := 1, bytes := 8, agg := false, zero := some [.nilf], flat := none, kd := .func } := by kernel_rfl
@[simp] theorem ty132 : tc Try.prog 132 = some { size := 1, bytes := 8, agg := false, zero := some [.nilf], flat := none, kd := .func } := by kernel_rfl
@[simp] theorem ty133 : tc Try.prog 133 = some { size := 3, bytes := 24, agg := true, zero := some [.int .i64 0, .int .i64 0, .int .i64 0], flat := some [.i, .i, .i], kd := .struct [(0, 1, false), (1, 1, false), (2, 1, false)] } := by kernel_rfl
@[simp] theorem fk133 : fieldsKnown Try.prog 133 = true := by kernel_rfl
@[simp] theorem ty134 : tc Try.prog 134 = some { size := 3, bytes := 24, agg := true, zero := some [.int .i64 0, .int .i64 0, .int .i64 0], flat := some [.i, .i, .i], kd := .struct [(0, 1, false), (1, 1, false), (2, 1, false)] } := by kernel_rfl
@[simp] theorem fk134 : fieldsKnown Try.prog 134 = true := by kernel_rfl
@[simp] theorem ty136 : tc Try.prog 136 = some { size := 1, bytes := 8, agg := false, zero := some [.nilf], flat := none, kd := .func } := by kernel_rfl
@[simp] theorem ty137 : tc Try.prog 137 = some { size := 1, bytes := 8, agg := false, zero := some [.nilf], flat := none, kd := .func } := by kernel_rfl
@[simp] theorem ty138 : tc Try.prog 138 = some { size := 1, bytes := 8, agg := false, zero := some [.nilf], flat := none, kd := .func } := by kernel_rfl
@[simp] theorem ty139 : tc Try.prog 139 = some { size := 1, bytes := 8, agg := false, zero := some [.nilf], flat := none, kd := .func } := by kernel_rfl
@[simp] theorem ty140 : tc Try.prog 140 = some { size := 1, bytes := 8, agg := false, zero := some [.nilf], flat := none, kd := .func } := by kernel_rfl
@[simp] theorem ty141 : tc Try.prog 141 = some { size := 1, bytes := 8, agg := false, zero := some [.nilf], flat := none, kd := .func } := by kernel_rfl
@[simp] theorem ty142 : tc Try.prog 142 = some { size := 1, bytes := 8, agg := false, zero := some [.nilf], flat := none, kd := .func } := by kernel_rfl
@[simp] theorem ty143 : tc Try.prog 143 = some { size := 1, bytes := 8, agg := false, zero := some [.nilf], flat := none, kd := .func } := by kernel_rfl
@[simp] theorem ty144 : tc Try.prog 144 = some { size := 1, bytes := 8, agg := false, zero := some [.nilf], flat := none, kd := .func } := by kernel_rfl
@[simp] theorem ty145 : tc Try.prog 145 = some { size := 1, bytes := 8, agg := false, zero := some [.nilf], flat := none, kd := .func } := by kernel_rfl
@[simp] theorem ty146 : tc Try.prog 146 = some { size := 1, bytes := 8, agg := false, zero := some [.nilf], flat := none, kd := .func } := by kernel_rfl
@[simp] theorem ty147 : tc Try.prog 147 = some { size := 1, bytes := 8, agg := false, zero := some [.nilf], flat := none, kd := .func } := by kernel_rfl
@[simp] theorem ty148 : tc Try.prog 148 = some { size := 1, bytes := 8, agg := false, zero := some [.nilf], flat := none, kd := .func } := by kernel_rfl
@[simp] theorem ty149 : tc Try.prog 149 = some { size := 1, bytes := 8, agg := false, zero := some [.nilf], flat := none, kd := .func } := by kernel_rfl
@[simp] theorem ty150 : tc Try.prog 150 = some { size := 1, bytes := 8, agg := false, zero := some [.nilf], flat := none, kd := .func } := by kernel_rfl
@[simp] theorem ty151 : tc Try.prog 151 = some { size := 1, bytes := 8, agg := false, zero := some [.nilf], flat := none, kd := .func } := by kernel_rfl
@[simp] theorem ty152 : tc Try.prog 152 = some { size := 1, bytes := 8, agg := false, zero := some [.nilf], flat := none, kd := .func } := by kernel_rfl
@[simp] theorem ty153 : tc Try.prog 153 = some { size := 1, bytes := 8, agg := false, zero := some [.nilf], flat := none, kd := .func } := by kernel_rfl
@[simp] theorem ty154 : tc Try.prog 154 = some { size := 6, bytes := 48, agg := true, zero := some [.int .i64 0, .int .i64 0, .int .i64 0, .int .i64 0, .int .i64 0, .int .i64 0], flat := some [.i, .i, .i, .i, .i, .i], kd := .struct [(0, 1, false), (1, 1, false), (2, 1, false), (3, 3, true)] } := by kernel_rfl
@[simp] theorem fk154 : fieldsKnown Try.prog 154 = true := by kernel_rfl
@[simp] theorem ty155 : tc Try.prog 155 = some { size := 6, bytes := 48, agg := true, zero := some [.int .i64 0, .int .i64 0, .int .i64 0, .int .i64 0, .int .i64 0, .int .i64 0], flat := some [.i, .i, .i, .i, .i, .i], kd := .struct [(0, 1, false), (1, 1, false), (2, 1, false), (3, 3, true)] } := by kernel_rfl
@[simp] theorem fk155 : fieldsKnown Try.prog 155 = true := by kernel_rfl
@[simp] theorem ty156 : tc Try.prog 156 = some { size := 1, bytes := 8, agg := false, zero := some [.junk], flat := none, kd := .map 3 44 } := by kernel_rfl
@[simp] theorem ty157 : tc Try.prog 157 = some { size := 2, bytes := 16, agg := true, zero := some [.int .i64 0, .junk], flat := none, kd := .struct [(0, 1, false), (1, 1, false)] } := by kernel_rfl
@[simp] theorem fk157 : fieldsKnown Try.prog 157 = true := by kernel_rfl
@[simp] theorem ty158 : tc Try.prog 158 = some { size := 2, bytes := 16, agg := true, zero := some [.int .i64 0, .junk], flat := none, kd := .struct [(0, 1, false), (1, 1, false)] } := by kernel_rfl
@[simp] theorem fk158 : fieldsKnown Try.prog 158 = true := by kernel_rfl
@[simp] theorem ty159 : tc Try.prog 159 = some { size := 1, bytes := 8, agg := false, zero := some [.nilp], flat := none, kd := .pointer 182 } := by kernel_rfl
@[simp] theorem ty160 : tc Try.prog 160 = some { size := 1, bytes := 8, agg := false, zero := some [.nilf], flat := none, kd := .func } := by kernel_rfl
@[simp] theorem ty161 : tc Try.prog 161 = some { size := 1, bytes := 8, agg := false, zero := some [.nilf], flat := none, kd := .func } := by kernel_rfl
@[simp] theorem ty162 : tc Try.prog 162 = some { size := 1, bytes := 8, agg := false, zero := some [.nilf], flat := none, kd := .func } := by kernel_rfl
@[simp] theorem ty163 : tc Try.prog 163 = some { size := 1, bytes := 8, agg := false, zero := some [.nilf], flat := none, kd := .func } := by kernel_rfl
@[simp] theorem ty164 : tc Try.prog 164 = some { size := 1, bytes := 8, agg := false, zero := some [.nilf], flat := none, kd := .func } := by kernel_rfl
@[simp] theorem ty165 : tc Try.prog 165 = some { size := 1, bytes := 8, agg := false, zero := some [.nilf], flat := none, kd := .func } := by kernel_rfl
@[simp] theorem ty166 : tc Try.prog 166 = some { size := 1, bytes := 8, agg := false, zero := some [.nilf], flat := none, kd := .func } := by kernel_rfl
@[simp] theorem ty167 : tc Try.prog 167 = some { size := 1, bytes := 8, agg := false, zero := some [.nilf], flat := none, kd := .func } := by kernel_rfl
@[simp] theorem ty168 : tc Try.prog 168 = some { size := 1, bytes := 8, agg := false, zero := some [.nilf], flat := none, kd := .func } := by kernel_rfl
@[simp] theorem ty169 : tc Try.prog 169 = some { size := 1, bytes := 8, agg := false, zero := some [.nilf], flat := none, kd := .func } := by kernel_rfl
@[simp] theorem ty170 : tc Try.prog 170 = some { size := 1, bytes := 8, agg := false, zero := some [.nilf], flat := none, kd := .func } := by kernel_rfl
@[simp] theorem ty171 : tc Try.prog 171 = some { size := 1, bytes := 8, agg := false, zero := some [.nilf], flat := none, kd := .func } := by kernel_rfl
@[simp] theorem ty172 : tc Try.prog 172 = some { size := 1, bytes := 8, agg := false, zero := some [.nilf], flat := none, kd := .func } := by kernel_rfl
@[simp] theorem ty173 : tc Try.prog 173 = some { size := 1, bytes := 8, agg := false, zero := some [.int .u64 0], flat := some [.i], kd := .int .u64 } := by kernel_rfl
@[simp] theorem ty174 : tc Try.prog 174 = some { size := 1, bytes := 8, agg := false, zero := some [.nilf], flat := none, kd := .func } := by kernel_rfl
@[simp] theorem ty175 : tc Try.prog 175 = some { size := 2, bytes := 48, agg := true, zero := some [.nils, .nils], flat := none, kd := .array 2 31 } := by kernel_rfl
@[simp] theorem fk175 : fieldsKnown Try.prog 175 = true := by kernel_rfl
@[simp] theorem ty176 : tc Try.prog 176 = some { size := 1, bytes := 8, agg := false, zero := some [.nilp], flat := none, kd := .pointer 41 } := by kernel_rfl
@[simp] theorem ty177 : tc Try.prog 177 = some { size := 1, bytes := 8, agg := false, zero := some [.nilf], flat := none, kd := .func } := by kernel_rfl
@[simp] theorem ty178 : tc Try.prog 178 = some { size := 1, bytes := 8, agg := false, zero := some [.nilf], flat := none, kd := .func } := by kernel_rfl
@[simp] theorem ty179 : tc Try.prog 179 = some { size := 1, bytes := 8, agg := false, zero := some [.nilf], flat := none, kd := .func } := by kernel_rfl
@[simp] theorem ty180 : tc Try.prog 180 = some { size := 1, bytes := 8, agg := false, zero := some [.nilf], flat := none, kd := .func } := by kernel_rfl
@[simp] theorem ty181 : tc Try.prog 181 = some { size := 2, bytes := 48, agg := true, zero := some [.nils, .nils], flat := none, kd := .struct [(0, 1, false), (1, 1, false)] } := by kernel_rfl
@[simp] theorem fk181 : fieldsKnown Try.prog 181 = true := by kernel_rfl
@[simp] theorem ty182 : tc Try.prog 182 = some { size := 2, bytes := 48, agg := true, zero := some [.nils, .nils], flat := none, kd := .struct [(0, 1, false), (1, 1, false)] } := by kernel_rfl
@[simp] theorem fk182 : fieldsKnown Try.prog 182 = true := by kernel_rfl
@[simp] theorem ty183 : tc Try.prog 183 = some { size := 1, bytes := 8, agg := false, zero := some [.nilf], flat := none, kd := .func } := by kernel_rfl
@[simp] theorem ty184 : tc Try.prog 184 = some { size := 1, bytes := 8, agg := false, zero := some [.nilf], flat := none, kd := .func } := by kernel_rfl
@[simp] theorem ty185 : tc Try.prog 185 = some { size := 1, bytes := 8, agg := false, zero := some [.nilf], flat := none, kd := .func } := by kernel_rfl
@[simp] theorem ty186 : tc Try.prog 186 = some { size := 1, bytes := 8, agg := false, zero := some [.int .i64 0], flat := some [.i], kd := .int .i64 } := by kernel_rfl
@[simp] theorem ty188 : tc Try.prog 188 = some { size := 1, bytes := 8, agg := false, zero := some [.nilf], flat := none, kd := .func } := by kernel_rfl
@[simp] theorem ty189 : tc Try.prog 189 = some { size := 1, bytes := 8, agg := false, zero := some [.nilf], flat := none, kd := .func } := by kernel_rfl
@[simp] theorem ty190 : tc Try.prog 190 = some { size := 1, bytes := 8, agg := false, zero := some [.nilf], flat := none, kd := .func } := by kernel_rfl
@[simp] theorem ty191 : tc Try.prog 191 = some { size := 1, bytes := 8, agg := false, zero := some [.nilf], flat := none, kd := .func } := by kernel_rfl
@[simp] theorem ty192 : tc Try.prog 192 = some { size := 1, bytes := 8, agg := false, zero := some [.nilf], flat := none, kd := .func } := by kernel_rfl
@[simp] theorem ty193 : tc Try.prog 193 = some { size := 1, bytes := 4, agg := false, zero := some [.int .u32 0], flat := some [.i], kd := .int .u32 } := by kernel_rfl
@[simp] theorem ty194 : tc Try.prog 194 = some { size := 1, bytes := 8, agg := false, zero := some [.nilf], flat := none, kd := .func } := by kernel_rfl
@[simp] theorem ty195 : tc Try.prog 195 = some { size := 1, bytes := 8, agg := false, zero := some [.nilf], flat := none, kd := .func } := by kernel_rfl
@[simp] theorem ty196 : tc Try.prog 196 = some { size := 1, bytes := 8, agg := false, zero := some [.nilf], flat := none, kd := .func } := by kernel_rfl
@[simp] theorem ty197 : tc Try.prog 197 = some { size := 1, bytes := 8, agg := false, zero := some [.nilf], flat := none, kd := .func } := by kernel_rfl
@[simp] theorem ty198 : tc Try.prog 198 = some { size := 1, bytes := 8, agg := false, zero := some [.nilf], flat := none, kd := .func } := by kernel_rfl
@[simp] theorem ty199 : tc Try.prog 199 = some { size := 1, bytes := 8, agg := false, zero := some [.nilf], flat := none, kd := .func } := by kernel_rfl
@[simp] theorem ty200 : tc Try.prog 200 = some { size := 1, bytes := 8, agg := false, zero := some [.nilf], flat := none, kd := .func } := by kernel_rfl
@[simp] theorem ty201 : tc Try.prog 201 = some { size := 1, bytes := 8, agg := false, zero := some [.nilf], flat := none, kd := .func } := by kernel_rfl
@[simp] theorem ty202 : tc Try.prog 202 = some { size := 1, bytes := 8, agg := false, zero := some [.int .u64 0], flat := some [.i], kd := .int .u64 } := by kernel_rfl
@[simp] theorem ty203 : tc Try.prog 203 = some { size := 1, bytes := 8, agg := false, zero := some [.nilf], flat := none, kd := .func } := by kernel_rfl
@[simp] theorem ty204 : tc Try.prog 204 = some { size := 1, bytes := 8, agg := false, zero := some [.nilf], flat := none, kd := .func } := by kernel_rfl
@[simp] theorem ty205 : tc Try.prog 205 = some { size := 1, bytes := 8, agg := false, zero := some [.nilf], flat := none, kd := .func } := by kernel_rfl
@[simp] theorem ty206 : tc Try.prog 206 = some { size := 1, bytes := 8, agg := false, zero := some [.nilp], flat := none, kd := .pointer 3 } := by kernel_rfl
@[simp] theorem ty207 : tc Try.prog 207 = some { size := 1, bytes := 8, agg := false, zero := some [.nilf], flat := none, kd := .func } := by kernel_rfl
@[simp] theorem ty208 : tc Try.prog 208 = some { size := 1, bytes := 8, agg := false, zero := some [.nilf], flat := none, kd := .func } := by kernel_rfl
@[simp] theorem ty209 : tc Try.prog 209 = some { size := 1, bytes := 8, agg := false, zero := some [.nilf], flat := none, kd := .func } := by kernel_rfl
@[simp] theorem ty210 : tc Try.prog 210 = some { size := 1, bytes := 8, agg := false, zero := some [.nilf], flat := none, kd := .func } := by kernel_rfl
@[simp] theorem ty211 : tc Try.prog 211 = some { size := 1, bytes := 8, agg := false, zero := some [.nilp], flat := none, kd := .pointer 202 } := by kernel_rfl
@[simp] theorem ty213 : tc Try.prog 213 = some { size := 1, bytes := 8, agg := false, zero := some [.nilf], flat := none, kd := .func } := by kernel_rfl
@[simp] theorem ty214 : tc Try.prog 214 = some { size := 1, bytes := 8, agg := false, zero := some [.nilf], flat := none, kd := .func } := by kernel_rfl
@[simp] theorem ty215 : tc Try.prog 215 = some { size := 1, bytes := 8, agg := false, zero := some [.nilf], flat := none, kd := .func } := by kernel_rfl
@[simp] theorem ty223 : tc Try.prog 223 = some { size := 1, bytes := 8, agg := false, zero := some [.nilf], flat := none, kd := .func } := by kernel_rfl
@[simp] theorem ty224 : tc Try.prog 224 = some { size := 1, bytes := 8, agg := false, zero := some [.nilp], flat := none, kd := .pointer 5 } := by kernel_rfl
theorem hm : Try.prog.follows .mixedOrders = true := by kernel_rfl

end Go.Proofs.Ytodafoajkajnkaa.IL
