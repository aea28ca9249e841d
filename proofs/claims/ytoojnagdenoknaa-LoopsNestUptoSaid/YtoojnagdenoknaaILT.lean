/- The types of the dump in short, each checked by the kernel. Printed by gen.py. -/
import Derived.Test.YtoojnagdenoknaaIL16
import Derived.Test.YtoojnagdenoknaaProg
set_option linter.unusedVariables false
set_option linter.unusedSimpArgs false
set_option linter.unusedSectionVars false
set_option linter.unnecessarySimpa false
namespace Go.Proofs.Ytoojnagdenoknaa.IL
open Go Go.RowKit
@[simp] theorem ty3:tc Try.prog 3=some {size:=1,bytes:=8,agg:=false,zero:=some [.int .i64 0],flat:=some [.i],kd:= .int .i64}:=by kernel_rfl
@[simp] theorem ty4:tc Try.prog 4=some {size:=1,bytes:=1,agg:=false,zero:=some [.bool false],flat:=some [.b],kd:= .bool}:=by kernel_rfl
@[simp] theorem ty9:tc Try.prog 9=some {size:=1,bytes:=16,agg:=false,zero:=some [.str ⟨#[]⟩],flat:=some [.s],kd:= .string}:=by kernel_rfl
@[simp] theorem ty22:tc Try.prog 22=some {size:=1,bytes:=24,agg:=false,zero:=some [.nils],flat:=none,kd:= .slice 106}:=by kernel_rfl
@[simp] theorem ty23:tc Try.prog 23=some {size:=1,bytes:=24,agg:=false,zero:=some [.nils],flat:=none,kd:= .slice 65}:=by kernel_rfl
@[simp] theorem ty24:tc Try.prog 24=some {size:=1,bytes:=24,agg:=false,zero:=some [.nils],flat:=none,kd:= .slice 63}:=by kernel_rfl
@[simp] theorem ty26:tc Try.prog 26=some {size:=5,bytes:=96,agg:=true,zero:=some [.bool false,.str ⟨#[]⟩,.nils,.nils,.nils],flat:=none,kd:= .struct [(0,1,false),(1,1,false),(2,1,false),(3,1,false),(4,1,false)]}:=by kernel_rfl
@[simp] theorem fk26:fieldsKnown Try.prog 26=true:=by kernel_rfl
@[simp] theorem ty29:tc Try.prog 29=some {size:=1,bytes:=24,agg:=false,zero:=some [.nils],flat:=none,kd:= .slice 36}:=by kernel_rfl
@[simp] theorem ty31:tc Try.prog 31=some {size:=1,bytes:=8,agg:=false,zero:=some [.nilp],flat:=none,kd:= .pointer 74}:=by kernel_rfl
@[simp] theorem ty33:tc Try.prog 33=some {size:=1,bytes:=8,agg:=false,zero:=some [.nilp],flat:=none,kd:= .pointer 83}:=by kernel_rfl
@[simp] theorem ty36:tc Try.prog 36=some {size:=1,bytes:=24,agg:=false,zero:=some [.nils],flat:=none,kd:= .slice 3}:=by kernel_rfl
@[simp] theorem ty42:tc Try.prog 42=some {size:=1,bytes:=8,agg:=false,zero:=some [.nilp],flat:=none,kd:= .pointer 93}:=by kernel_rfl
@[simp] theorem ty56:tc Try.prog 56=some {size:=2,bytes:=16,agg:=true,zero:=some [.int .i64 0,.int .i64 0],flat:=some [.i,.i],kd:= .array 2 3}:=by kernel_rfl
@[simp] theorem fk56:fieldsKnown Try.prog 56=true:=by kernel_rfl
@[simp] theorem ty61:tc Try.prog 61=some {size:=1,bytes:=24,agg:=false,zero:=some [.nils],flat:=none,kd:= .slice 68}:=by kernel_rfl
@[simp] theorem ty63:tc Try.prog 63=some {size:=4,bytes:=72,agg:=true,zero:=some [.str ⟨#[]⟩,.bool false,.nils,.nils],flat:=none,kd:= .struct [(0,1,false),(1,1,false),(2,1,false),(3,1,false)]}:=by kernel_rfl
@[simp] theorem fk63:fieldsKnown Try.prog 63=true:=by kernel_rfl
@[simp] theorem ty66:tc Try.prog 66=some {size:=1,bytes:=24,agg:=false,zero:=some [.nils],flat:=none,kd:= .slice 9}:=by kernel_rfl
@[simp] theorem ty68:tc Try.prog 68=some {size:=10,bytes:=136,agg:=true,zero:=some [.int .i64 0,.int .i64 0,.int .i64 0,.int .i64 0,.int .i64 0,.nils,.str ⟨#[]⟩,.int .i64 0,.nils,.nils],flat:=none,kd:= .struct [(0,1,false),(1,4,true),(5,1,false),(6,1,false),(7,1,false),(8,1,false),(9,1,false)]}:=by kernel_rfl
@[simp] theorem fk68:fieldsKnown Try.prog 68=true:=by kernel_rfl
@[simp] theorem ty72:tc Try.prog 72=some {size:=1,bytes:=8,agg:=false,zero:=some [.junk],flat:=none,kd:= .map 3 42}:=by kernel_rfl
@[simp] theorem ty74:tc Try.prog 74=some {size:=2,bytes:=16,agg:=true,zero:=some [.int .i64 0,.junk],flat:=none,kd:= .struct [(0,1,false),(1,1,false)]}:=by kernel_rfl
@[simp] theorem fk74:fieldsKnown Try.prog 74=true:=by kernel_rfl
@[simp] theorem ty75:tc Try.prog 75=some {size:=1,bytes:=8,agg:=false,zero:=some [.nilp],flat:=none,kd:= .pointer 118}:=by kernel_rfl
@[simp] theorem ty77:tc Try.prog 77=some {size:=1,bytes:=24,agg:=false,zero:=some [.nils],flat:=none,kd:= .slice 56}:=by kernel_rfl
@[simp] theorem ty83:tc Try.prog 83=some {size:=2,bytes:=48,agg:=true,zero:=some [.nils,.nils],flat:=none,kd:= .struct [(0,1,false),(1,1,false)]}:=by kernel_rfl
@[simp] theorem fk83:fieldsKnown Try.prog 83=true:=by kernel_rfl
@[simp] theorem ty90:tc Try.prog 90=some {size:=1,bytes:=8,agg:=false,zero:=some [.int .u64 0],flat:=some [.i],kd:= .int .u64}:=by kernel_rfl
@[simp] theorem ty91:tc Try.prog 91=some {size:=1,bytes:=24,agg:=false,zero:=some [.nils],flat:=none,kd:= .slice 90}:=by kernel_rfl
@[simp] theorem ty93:tc Try.prog 93=some {size:=2,bytes:=32,agg:=true,zero:=some [.int .i64 0,.nils],flat:=none,kd:= .struct [(0,1,false),(1,1,false)]}:=by kernel_rfl
@[simp] theorem fk93:fieldsKnown Try.prog 93=true:=by kernel_rfl
@[simp] theorem ty118:tc Try.prog 118=some {size:=2,bytes:=48,agg:=true,zero:=some [.nils,.nils],flat:=none,kd:= .struct [(0,1,false),(1,1,false)]}:=by kernel_rfl
@[simp] theorem fk118:fieldsKnown Try.prog 118=true:=by kernel_rfl
@[simp] theorem ty169:tc Try.prog 169=some {size:=2,bytes:=48,agg:=true,zero:=some [.nils,.nils],flat:=none,kd:= .array 2 29}:=by kernel_rfl
@[simp] theorem fk169:fieldsKnown Try.prog 169=true:=by kernel_rfl
theorem hm:Try.prog.follows .mixedOrders=true:=by kernel_rfl
end Go.Proofs.Ytoojnagdenoknaa.IL
