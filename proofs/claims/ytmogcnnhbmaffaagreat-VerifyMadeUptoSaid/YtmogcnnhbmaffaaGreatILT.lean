/- The types of the dump in short, each checked by the kernel. Printed by gen.py. -/
import Derived.Test.YtmogcnnhbmaffaaGreatIL16
import Derived.Test.YtmogcnnhbmaffaaGreatProg
namespace Go.Proofs.YtmogcnnhbmaffaaGreat.IL
open Go Go.RowKit
@[simp] theorem ty3:tc Tryz.prog 3=some {size:=1,bytes:=8,agg:=false,zero:=some [.int .i64 0],flat:=some [.i],kd:= .int .i64}:=by kernel_rfl
@[simp] theorem ty4:tc Tryz.prog 4=some {size:=1,bytes:=1,agg:=false,zero:=some [.bool false],flat:=some [.b],kd:= .bool}:=by kernel_rfl
@[simp] theorem ty5:tc Tryz.prog 5=some {size:=1,bytes:=1,agg:=false,zero:=some [.int .u8 0],flat:=some [.i],kd:= .int .u8}:=by kernel_rfl
@[simp] theorem ty9:tc Tryz.prog 9=some {size:=1,bytes:=16,agg:=false,zero:=some [.str ⟨#[]⟩],flat:=some [.s],kd:= .string}:=by kernel_rfl
@[simp] theorem ty22:tc Tryz.prog 22=some {size:=1,bytes:=24,agg:=false,zero:=some [.nils],flat:=none,kd:= .slice 48}:=by kernel_rfl
@[simp] theorem ty23:tc Tryz.prog 23=some {size:=1,bytes:=24,agg:=false,zero:=some [.nils],flat:=none,kd:= .slice 38}:=by kernel_rfl
@[simp] theorem ty24:tc Tryz.prog 24=some {size:=1,bytes:=24,agg:=false,zero:=some [.nils],flat:=none,kd:= .slice 45}:=by kernel_rfl
@[simp] theorem ty26:tc Tryz.prog 26=some {size:=5,bytes:=96,agg:=true,zero:=some [.bool false,.str ⟨#[]⟩,.nils,.nils,.nils],flat:=none,kd:= .struct [(0,1,false),(1,1,false),(2,1,false),(3,1,false),(4,1,false)]}:=by kernel_rfl
@[simp] theorem fk26:fieldsKnown Tryz.prog 26=true:=by kernel_rfl
@[simp] theorem ty29:tc Tryz.prog 29=some {size:=1,bytes:=8,agg:=false,zero:=some [.int .i64 0],flat:=some [.i],kd:= .int .i64}:=by kernel_rfl
@[simp] theorem ty32:tc Tryz.prog 32=some {size:=1,bytes:=24,agg:=false,zero:=some [.nils],flat:=none,kd:= .slice 75}:=by kernel_rfl
@[simp] theorem ty34:tc Tryz.prog 34=some {size:=4,bytes:=32,agg:=true,zero:=some [.int .u8 0,.int .u8 0,.int .u8 0,.nils],flat:=none,kd:= .struct [(0,1,false),(1,1,false),(2,1,false),(3,1,false)]}:=by kernel_rfl
@[simp] theorem ty38:tc Tryz.prog 38=some {size:=4,bytes:=32,agg:=true,zero:=some [.int .i64 0,.int .i64 0,.int .i64 0,.int .i64 0],flat:=some [.i,.i,.i,.i],kd:= .struct [(0,1,false),(1,1,false),(2,1,false),(3,1,false)]}:=by kernel_rfl
@[simp] theorem fk38:fieldsKnown Tryz.prog 38=true:=by kernel_rfl
@[simp] theorem ty39:tc Tryz.prog 39=some {size:=1,bytes:=24,agg:=false,zero:=some [.nils],flat:=none,kd:= .slice 9}:=by kernel_rfl
@[simp] theorem ty40:tc Tryz.prog 40=some {size:=1,bytes:=24,agg:=false,zero:=some [.nils],flat:=none,kd:= .slice 3}:=by kernel_rfl
@[simp] theorem ty42:tc Tryz.prog 42=some {size:=10,bytes:=136,agg:=true,zero:=some [.int .i64 0,.int .i64 0,.int .i64 0,.int .i64 0,.int .i64 0,.nils,.str ⟨#[]⟩,.int .i64 0,.nils,.nils],flat:=none,kd:= .struct [(0,1,false),(1,4,true),(5,1,false),(6,1,false),(7,1,false),(8,1,false),(9,1,false)]}:=by kernel_rfl
@[simp] theorem fk42:fieldsKnown Tryz.prog 42=true:=by kernel_rfl
@[simp] theorem ty43:tc Tryz.prog 43=some {size:=1,bytes:=24,agg:=false,zero:=some [.nils],flat:=none,kd:= .slice 42}:=by kernel_rfl
@[simp] theorem ty45:tc Tryz.prog 45=some {size:=4,bytes:=72,agg:=true,zero:=some [.str ⟨#[]⟩,.bool false,.nils,.nils],flat:=none,kd:= .struct [(0,1,false),(1,1,false),(2,1,false),(3,1,false)]}:=by kernel_rfl
@[simp] theorem fk45:fieldsKnown Tryz.prog 45=true:=by kernel_rfl
@[simp] theorem ty48:tc Tryz.prog 48=some {size:=2,bytes:=16,agg:=true,zero:=some [.int .i64 0,.int .i64 0],flat:=some [.i,.i],kd:= .struct [(0,1,false),(1,1,false)]}:=by kernel_rfl
@[simp] theorem fk48:fieldsKnown Tryz.prog 48=true:=by kernel_rfl
@[simp] theorem ty50:tc Tryz.prog 50=some {size:=1,bytes:=24,agg:=false,zero:=some [.nils],flat:=none,kd:= .slice 40}:=by kernel_rfl
@[simp] theorem ty59:tc Tryz.prog 59=some {size:=1,bytes:=8,agg:=false,zero:=some [.nilf],flat:=none,kd:= .func}:=by kernel_rfl
@[simp] theorem ty62:tc Tryz.prog 62=some {size:=5,bytes:=96,agg:=true,zero:=some [.bool false,.str ⟨#[]⟩,.nils,.nils,.nils],flat:=none,kd:= .struct [(0,5,true)]}:=by kernel_rfl
@[simp] theorem fk62:fieldsKnown Tryz.prog 62=true:=by kernel_rfl
@[simp] theorem ty64:tc Tryz.prog 64=some {size:=1,bytes:=8,agg:=true,zero:=some [.nilf],flat:=none,kd:= .struct [(0,1,false)]}:=by kernel_rfl
@[simp] theorem fk64:fieldsKnown Tryz.prog 64=true:=by kernel_rfl
@[simp] theorem ty65:tc Tryz.prog 65=some {size:=1,bytes:=24,agg:=false,zero:=some [.nils],flat:=none,kd:= .slice 64}:=by kernel_rfl
@[simp] theorem ty67:tc Tryz.prog 67=some {size:=3,bytes:=24,agg:=true,zero:=some [.int .i64 0,.int .i64 0,.int .i64 0],flat:=some [.i,.i,.i],kd:= .struct [(0,1,false),(1,1,false),(2,1,false)]}:=by kernel_rfl
@[simp] theorem fk67:fieldsKnown Tryz.prog 67=true:=by kernel_rfl
@[simp] theorem ty73:tc Tryz.prog 73=some {size:=1,bytes:=24,agg:=false,zero:=some [.nils],flat:=none,kd:= .slice 84}:=by kernel_rfl
@[simp] theorem ty75:tc Tryz.prog 75=some {size:=5,bytes:=32,agg:=true,zero:=some [.nils,.int .u8 0,.int .u8 0,.int .u8 0,.int .u8 0],flat:=none,kd:= .struct [(0,1,false),(1,1,false),(2,1,false),(3,1,false),(4,1,false)]}:=by kernel_rfl
@[simp] theorem fk75:fieldsKnown Tryz.prog 75=true:=by kernel_rfl
@[simp] theorem ty77:tc Tryz.prog 77=some {size:=2,bytes:=48,agg:=true,zero:=some [.nils,.nils],flat:=none,kd:= .array 2 40}:=by kernel_rfl
@[simp] theorem ty79:tc Tryz.prog 79=some {size:=8,bytes:=168,agg:=true,zero:=some [.bool false,.str ⟨#[]⟩,.nils,.nils,.nils,.nils,.nils,.nils],flat:=none,kd:= .struct [(0,5,true),(5,2,true),(7,1,false)]}:=by kernel_rfl
@[simp] theorem fk79:fieldsKnown Tryz.prog 79=true:=by kernel_rfl
@[simp] theorem ty80:tc Tryz.prog 80=some {size:=2,bytes:=16,agg:=true,zero:=some [.int .i64 0,.int .i64 0],flat:=some [.i,.i],kd:= .array 2 3}:=by kernel_rfl
@[simp] theorem fk80:fieldsKnown Tryz.prog 80=true:=by kernel_rfl
@[simp] theorem ty82:tc Tryz.prog 82=some {size:=1,bytes:=2,agg:=false,zero:=some [.int .i16 0],flat:=some [.i],kd:= .int .i16}:=by kernel_rfl
@[simp] theorem ty84:tc Tryz.prog 84=some {size:=5,bytes:=6,agg:=true,zero:=some [.int .u8 0,.int .u8 0,.int .u8 0,.int .u8 0,.int .i16 0],flat:=some [.i,.i,.i,.i,.i],kd:= .struct [(0,1,false),(1,1,false),(2,1,false),(3,1,false),(4,1,false)]}:=by kernel_rfl
@[simp] theorem ty95:tc Tryz.prog 95=some {size:=1,bytes:=8,agg:=false,zero:=some [.nilp],flat:=none,kd:= .pointer 132}:=by kernel_rfl
@[simp] theorem ty96:tc Tryz.prog 96=some {size:=1,bytes:=8,agg:=false,zero:=some [.nilp],flat:=none,kd:= .pointer 123}:=by kernel_rfl
@[simp] theorem ty101:tc Tryz.prog 101=some {size:=1,bytes:=8,agg:=false,zero:=some [.nilp],flat:=none,kd:= .pointer 135}:=by kernel_rfl
@[simp] theorem ty123:tc Tryz.prog 123=some {size:=2,bytes:=48,agg:=true,zero:=some [.nils,.nils],flat:=none,kd:= .struct [(0,1,false),(1,1,false)]}:=by kernel_rfl
@[simp] theorem fk123:fieldsKnown Tryz.prog 123=true:=by kernel_rfl
@[simp] theorem ty129:tc Tryz.prog 129=some {size:=1,bytes:=8,agg:=false,zero:=some [.int .u64 0],flat:=some [.i],kd:= .int .u64}:=by kernel_rfl
@[simp] theorem ty130:tc Tryz.prog 130=some {size:=1,bytes:=24,agg:=false,zero:=some [.nils],flat:=none,kd:= .slice 129}:=by kernel_rfl
@[simp] theorem ty132:tc Tryz.prog 132=some {size:=2,bytes:=32,agg:=true,zero:=some [.int .i64 0,.nils],flat:=none,kd:= .struct [(0,1,false),(1,1,false)]}:=by kernel_rfl
@[simp] theorem fk132:fieldsKnown Tryz.prog 132=true:=by kernel_rfl
@[simp] theorem ty133:tc Tryz.prog 133=some {size:=1,bytes:=24,agg:=false,zero:=some [.nils],flat:=none,kd:= .slice 95}:=by kernel_rfl
@[simp] theorem ty135:tc Tryz.prog 135=some {size:=7,bytes:=144,agg:=true,zero:=some [.bool false,.str ⟨#[]⟩,.nils,.nils,.nils,.nils,.nils],flat:=none,kd:= .struct [(0,5,true),(5,1,false),(6,1,false)]}:=by kernel_rfl
@[simp] theorem fk135:fieldsKnown Tryz.prog 135=true:=by kernel_rfl
@[simp] theorem ty149:tc Tryz.prog 149=some {size:=6,bytes:=56,agg:=true,zero:=some [.str ⟨#[]⟩,.int .i64 0,.int .i64 0,.int .i64 0,.int .i64 0,.bool false],flat:=some [.s,.i,.i,.i,.i,.b],kd:= .struct [(0,1,false),(1,1,false),(2,2,true),(4,1,false),(5,1,false)]}:=by kernel_rfl
@[simp] theorem fk149:fieldsKnown Tryz.prog 149=true:=by kernel_rfl
@[simp] theorem ty160:tc Tryz.prog 160=some {size:=1,bytes:=8,agg:=false,zero:=some [.int .u64 0],flat:=some [.i],kd:= .int .u64}:=by kernel_rfl
@[simp] theorem ty167:tc Tryz.prog 167=some {size:=15,bytes:=240,agg:=true,zero:=some [.str ⟨#[]⟩,.str ⟨#[]⟩,.str ⟨#[]⟩,.str ⟨#[]⟩,.str ⟨#[]⟩,.str ⟨#[]⟩,.str ⟨#[]⟩,.str ⟨#[]⟩,.str ⟨#[]⟩,.str ⟨#[]⟩,.str ⟨#[]⟩,.str ⟨#[]⟩,.str ⟨#[]⟩,.str ⟨#[]⟩,.str ⟨#[]⟩],flat:=some [.s,.s,.s,.s,.s,.s,.s,.s,.s,.s,.s,.s,.s,.s,.s],kd:= .array 15 9}:=by kernel_rfl
@[simp] theorem fk167:fieldsKnown Tryz.prog 167=true:=by kernel_rfl
@[simp] theorem ty168:tc Tryz.prog 168=some {size:=4,bytes:=32,agg:=true,zero:=some [.int .i64 0,.int .i64 0,.int .i64 0,.int .i64 0],flat:=some [.i,.i,.i,.i],kd:= .struct [(0,1,false),(1,1,false),(2,1,false),(3,1,false)]}:=by kernel_rfl
@[simp] theorem ty170:tc Tryz.prog 170=some {size:=1,bytes:=8,agg:=false,zero:=some [.nilf],flat:=none,kd:= .func}:=by kernel_rfl
@[simp] theorem ty171:tc Tryz.prog 171=some {size:=1,bytes:=24,agg:=false,zero:=some [.nils],flat:=none,kd:= .slice 80}:=by kernel_rfl
@[simp] theorem ty184:tc Tryz.prog 184=some {size:=2,bytes:=48,agg:=true,zero:=some [.nils,.nils],flat:=none,kd:= .array 2 50}:=by kernel_rfl
@[simp] theorem fk184:fieldsKnown Tryz.prog 184=true:=by kernel_rfl
theorem hm:Tryz.prog.follows .mixedOrders=true:=by kernel_rfl
end Go.Proofs.YtmogcnnhbmaffaaGreat.IL
