/- The types of the dump in short, each checked by the kernel. Printed by gen.py. -/
import Derived.Test.YtjjdblcinoikeaaDoorIL16
import Derived.Test.YtjjdblcinoikeaaDoorProg
namespace Go.Proofs.YtjjdblcinoikeaaDoor.IL
open Go Go.RowKit
@[simp] theorem ty3:tc Tryd.prog 3=some {size:=1,bytes:=8,agg:=false,zero:=some [.int .i64 0],flat:=some [.i],kd:= .int .i64}:=by kernel_rfl
@[simp] theorem ty5:tc Tryd.prog 5=some {size:=1,bytes:=1,agg:=false,zero:=some [.int .u8 0],flat:=some [.i],kd:= .int .u8}:=by kernel_rfl
@[simp] theorem ty9:tc Tryd.prog 9=some {size:=1,bytes:=16,agg:=false,zero:=some [.str ⟨#[]⟩],flat:=some [.s],kd:= .string}:=by kernel_rfl
@[simp] theorem ty22:tc Tryd.prog 22=some {size:=1,bytes:=24,agg:=false,zero:=some [.nils],flat:=none,kd:= .slice 41}:=by kernel_rfl
@[simp] theorem ty23:tc Tryd.prog 23=some {size:=1,bytes:=24,agg:=false,zero:=some [.nils],flat:=none,kd:= .slice 53}:=by kernel_rfl
@[simp] theorem ty24:tc Tryd.prog 24=some {size:=1,bytes:=24,agg:=false,zero:=some [.nils],flat:=none,kd:= .slice 39}:=by kernel_rfl
@[simp] theorem ty26:tc Tryd.prog 26=some {size:=5,bytes:=96,agg:=true,zero:=some [.bool false,.str ⟨#[]⟩,.nils,.nils,.nils],flat:=none,kd:= .struct [(0,1,false),(1,1,false),(2,1,false),(3,1,false),(4,1,false)]}:=by kernel_rfl
@[simp] theorem fk26:fieldsKnown Tryd.prog 26=true:=by kernel_rfl
@[simp] theorem ty29:tc Tryd.prog 29=some {size:=1,bytes:=8,agg:=false,zero:=some [.nilp],flat:=none,kd:= .pointer 65}:=by kernel_rfl
@[simp] theorem ty35:tc Tryd.prog 35=some {size:=1,bytes:=24,agg:=false,zero:=some [.nils],flat:=none,kd:= .slice 3}:=by kernel_rfl
@[simp] theorem ty37:tc Tryd.prog 37=some {size:=1,bytes:=24,agg:=false,zero:=some [.nils],flat:=none,kd:= .slice 56}:=by kernel_rfl
@[simp] theorem ty39:tc Tryd.prog 39=some {size:=4,bytes:=72,agg:=true,zero:=some [.str ⟨#[]⟩,.bool false,.nils,.nils],flat:=none,kd:= .struct [(0,1,false),(1,1,false),(2,1,false),(3,1,false)]}:=by kernel_rfl
@[simp] theorem fk39:fieldsKnown Tryd.prog 39=true:=by kernel_rfl
@[simp] theorem ty41:tc Tryd.prog 41=some {size:=2,bytes:=16,agg:=true,zero:=some [.int .i64 0,.int .i64 0],flat:=some [.i,.i],kd:= .struct [(0,1,false),(1,1,false)]}:=by kernel_rfl
@[simp] theorem fk41:fieldsKnown Tryd.prog 41=true:=by kernel_rfl
@[simp] theorem ty46:tc Tryd.prog 46=some {size:=1,bytes:=24,agg:=false,zero:=some [.nils],flat:=none,kd:= .slice 85}:=by kernel_rfl
@[simp] theorem ty48:tc Tryd.prog 48=some {size:=4,bytes:=32,agg:=true,zero:=some [.int .u8 0,.int .u8 0,.int .u8 0,.nils],flat:=none,kd:= .struct [(0,1,false),(1,1,false),(2,1,false),(3,1,false)]}:=by kernel_rfl
@[simp] theorem ty49:tc Tryd.prog 49=some {size:=1,bytes:=24,agg:=false,zero:=some [.nils],flat:=none,kd:= .slice 5}:=by kernel_rfl
@[simp] theorem ty53:tc Tryd.prog 53=some {size:=4,bytes:=32,agg:=true,zero:=some [.int .i64 0,.int .i64 0,.int .i64 0,.int .i64 0],flat:=some [.i,.i,.i,.i],kd:= .struct [(0,1,false),(1,1,false),(2,1,false),(3,1,false)]}:=by kernel_rfl
@[simp] theorem fk53:fieldsKnown Tryd.prog 53=true:=by kernel_rfl
@[simp] theorem ty54:tc Tryd.prog 54=some {size:=1,bytes:=24,agg:=false,zero:=some [.nils],flat:=none,kd:= .slice 9}:=by kernel_rfl
@[simp] theorem ty56:tc Tryd.prog 56=some {size:=10,bytes:=136,agg:=true,zero:=some [.int .i64 0,.int .i64 0,.int .i64 0,.int .i64 0,.int .i64 0,.nils,.str ⟨#[]⟩,.int .i64 0,.nils,.nils],flat:=none,kd:= .struct [(0,1,false),(1,4,true),(5,1,false),(6,1,false),(7,1,false),(8,1,false),(9,1,false)]}:=by kernel_rfl
@[simp] theorem fk56:fieldsKnown Tryd.prog 56=true:=by kernel_rfl
@[simp] theorem ty59:tc Tryd.prog 59=some {size:=1,bytes:=8,agg:=false,zero:=some [.nilf],flat:=none,kd:= .func}:=by kernel_rfl
@[simp] theorem ty63:tc Tryd.prog 63=some {size:=1,bytes:=24,agg:=false,zero:=some [.nils],flat:=none,kd:= .slice 68}:=by kernel_rfl
@[simp] theorem ty65:tc Tryd.prog 65=some {size:=7,bytes:=144,agg:=true,zero:=some [.bool false,.str ⟨#[]⟩,.nils,.nils,.nils,.nils,.nils],flat:=none,kd:= .struct [(0,5,true),(5,1,false),(6,1,false)]}:=by kernel_rfl
@[simp] theorem fk65:fieldsKnown Tryd.prog 65=true:=by kernel_rfl
@[simp] theorem ty68:tc Tryd.prog 68=some {size:=1,bytes:=8,agg:=false,zero:=some [.nilp],flat:=none,kd:= .pointer 102}:=by kernel_rfl
@[simp] theorem ty72:tc Tryd.prog 72=some {size:=1,bytes:=8,agg:=false,zero:=some [.nilp],flat:=none,kd:= .pointer 108}:=by kernel_rfl
@[simp] theorem ty83:tc Tryd.prog 83=some {size:=1,bytes:=24,agg:=false,zero:=some [.nils],flat:=none,kd:= .slice 94}:=by kernel_rfl
@[simp] theorem ty85:tc Tryd.prog 85=some {size:=5,bytes:=32,agg:=true,zero:=some [.nils,.int .u8 0,.int .u8 0,.int .u8 0,.int .u8 0],flat:=none,kd:= .struct [(0,1,false),(1,1,false),(2,1,false),(3,1,false),(4,1,false)]}:=by kernel_rfl
@[simp] theorem fk85:fieldsKnown Tryd.prog 85=true:=by kernel_rfl
@[simp] theorem ty87:tc Tryd.prog 87=some {size:=2,bytes:=48,agg:=true,zero:=some [.nils,.nils],flat:=none,kd:= .array 2 35}:=by kernel_rfl
@[simp] theorem ty89:tc Tryd.prog 89=some {size:=8,bytes:=168,agg:=true,zero:=some [.bool false,.str ⟨#[]⟩,.nils,.nils,.nils,.nils,.nils,.nils],flat:=none,kd:= .struct [(0,5,true),(5,2,true),(7,1,false)]}:=by kernel_rfl
@[simp] theorem fk89:fieldsKnown Tryd.prog 89=true:=by kernel_rfl
@[simp] theorem ty90:tc Tryd.prog 90=some {size:=2,bytes:=16,agg:=true,zero:=some [.int .i64 0,.int .i64 0],flat:=some [.i,.i],kd:= .array 2 3}:=by kernel_rfl
@[simp] theorem fk90:fieldsKnown Tryd.prog 90=true:=by kernel_rfl
@[simp] theorem ty92:tc Tryd.prog 92=some {size:=1,bytes:=2,agg:=false,zero:=some [.int .i16 0],flat:=some [.i],kd:= .int .i16}:=by kernel_rfl
@[simp] theorem ty94:tc Tryd.prog 94=some {size:=5,bytes:=6,agg:=true,zero:=some [.int .u8 0,.int .u8 0,.int .u8 0,.int .u8 0,.int .i16 0],flat:=some [.i,.i,.i,.i,.i],kd:= .struct [(0,1,false),(1,1,false),(2,1,false),(3,1,false),(4,1,false)]}:=by kernel_rfl
@[simp] theorem ty99:tc Tryd.prog 99=some {size:=1,bytes:=8,agg:=false,zero:=some [.int .u64 0],flat:=some [.i],kd:= .int .u64}:=by kernel_rfl
@[simp] theorem ty100:tc Tryd.prog 100=some {size:=1,bytes:=24,agg:=false,zero:=some [.nils],flat:=none,kd:= .slice 103}:=by kernel_rfl
@[simp] theorem ty102:tc Tryd.prog 102=some {size:=2,bytes:=32,agg:=true,zero:=some [.int .i64 0,.nils],flat:=none,kd:= .struct [(0,1,false),(1,1,false)]}:=by kernel_rfl
@[simp] theorem fk102:fieldsKnown Tryd.prog 102=true:=by kernel_rfl
@[simp] theorem ty103:tc Tryd.prog 103=some {size:=1,bytes:=8,agg:=false,zero:=some [.int .u64 0],flat:=some [.i],kd:= .int .u64}:=by kernel_rfl
@[simp] theorem ty106:tc Tryd.prog 106=some {size:=1,bytes:=24,agg:=false,zero:=some [.nils],flat:=none,kd:= .slice 35}:=by kernel_rfl
@[simp] theorem ty108:tc Tryd.prog 108=some {size:=2,bytes:=48,agg:=true,zero:=some [.nils,.nils],flat:=none,kd:= .struct [(0,1,false),(1,1,false)]}:=by kernel_rfl
@[simp] theorem fk108:fieldsKnown Tryd.prog 108=true:=by kernel_rfl
@[simp] theorem ty136:tc Tryd.prog 136=some {size:=1,bytes:=24,agg:=false,zero:=some [.nils],flat:=none,kd:= .slice 90}:=by kernel_rfl
@[simp] theorem ty139:tc Tryd.prog 139=some {size:=2,bytes:=48,agg:=true,zero:=some [.nils,.nils],flat:=none,kd:= .array 2 106}:=by kernel_rfl
@[simp] theorem fk139:fieldsKnown Tryd.prog 139=true:=by kernel_rfl
@[simp] theorem ty152:tc Tryd.prog 152=some {size:=64,bytes:=64,agg:=true,zero:=some [.int .u8 0,.int .u8 0,.int .u8 0,.int .u8 0,.int .u8 0,.int .u8 0,.int .u8 0,.int .u8 0,.int .u8 0,.int .u8 0,.int .u8 0,.int .u8 0,.int .u8 0,.int .u8 0,.int .u8 0,.int .u8 0,.int .u8 0,.int .u8 0,.int .u8 0,.int .u8 0,.int .u8 0,.int .u8 0,.int .u8 0,.int .u8 0,.int .u8 0,.int .u8 0,.int .u8 0,.int .u8 0,.int .u8 0,.int .u8 0,.int .u8 0,.int .u8 0,.int .u8 0,.int .u8 0,.int .u8 0,.int .u8 0,.int .u8 0,.int .u8 0,.int .u8 0,.int .u8 0,.int .u8 0,.int .u8 0,.int .u8 0,.int .u8 0,.int .u8 0,.int .u8 0,.int .u8 0,.int .u8 0,.int .u8 0,.int .u8 0,.int .u8 0,.int .u8 0,.int .u8 0,.int .u8 0,.int .u8 0,.int .u8 0,.int .u8 0,.int .u8 0,.int .u8 0,.int .u8 0,.int .u8 0,.int .u8 0,.int .u8 0,.int .u8 0],flat:=some [.i,.i,.i,.i,.i,.i,.i,.i,.i,.i,.i,.i,.i,.i,.i,.i,.i,.i,.i,.i,.i,.i,.i,.i,.i,.i,.i,.i,.i,.i,.i,.i,.i,.i,.i,.i,.i,.i,.i,.i,.i,.i,.i,.i,.i,.i,.i,.i,.i,.i,.i,.i,.i,.i,.i,.i,.i,.i,.i,.i,.i,.i,.i,.i],kd:= .array 64 5}:=by kernel_rfl
theorem hm:Tryd.prog.follows .mixedOrders=true:=by kernel_rfl
end Go.Proofs.YtjjdblcinoikeaaDoor.IL
