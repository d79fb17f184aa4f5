/- Part of the proof. -/
import Derived.Test.YtiedpcchhicifaaGreatDoorRows
import Derived.Test.YtiedpcchhicifaaGreatDoorLz
namespace Go.AV
def ζ {p:Prop}(h:p:=by kernel_rfl):p:=h
end Go.AV
namespace Go.Proofs.YtiedpcchhicifaaGreatDoor
open Go.AV
def Tryz.td1:aN Tryz.prog 1=some {k:=.other,size:=1,bytes:=8,zero:=[.junk]}:=ζ
def Tryz.td2:aN Tryz.prog 2=some {k:=.int .i64,size:=1,bytes:=8,zero:=[.int .i64 0]}:=ζ
def Tryz.td3:aN Tryz.prog 3=some {k:=.int .i64,size:=1,bytes:=8,zero:=[.int .i64 0]}:=ζ
def Tryz.td4:aN Tryz.prog 4=some {k:=.bool,size:=1,bytes:=1,zero:=[.bool false]}:=ζ
def Tryz.td5:aN Tryz.prog 5=some {k:=.int .u8,size:=1,bytes:=1,zero:=[.int .u8 0]}:=ζ
def Tryz.td9:aN Tryz.prog 9=some {k:=.str,size:=1,bytes:=16,zero:=[.str []]}:=ζ
def Tryz.td22:aN Tryz.prog 22=some {k:=.slice 26,size:=1,bytes:=24,zero:=[.nils]}:=ζ
def Tryz.el22:fB Tryz.prog 22=some {e:=26,size:=1,bytes:=24,zero:=[.nils],t:=.list (.int .i64)}:=ζ
def Tryz.td24:aN Tryz.prog 24=some {k:=.struct [(0,3,1),(1,3,1),(2,22,1),(3,22,1)],size:=4,bytes:=64,zero:=[.int .i64 0,.int .i64 0,.nils,.nils]}:=ζ
def Tryz.st24:fb Tryz.prog 24=some ([(0,3,1),(1,3,1),(2,22,1),(3,22,1)],[.int .i64 0,.int .i64 0,.nils,.nils]):=ζ
def Tryz.td26:aN Tryz.prog 26=some {k:=.slice 3,size:=1,bytes:=24,zero:=[.nils]}:=ζ
def Tryz.el26:fB Tryz.prog 26=some {e:=3,size:=1,bytes:=8,zero:=[.int .i64 0],t:=.int .i64}:=ζ
def Tryz.td27:aN Tryz.prog 27=some {k:=.int .i64,size:=1,bytes:=8,zero:=[.int .i64 0]}:=ζ
def Tryz.td32:aN Tryz.prog 32=some {k:=.slice 86,size:=1,bytes:=24,zero:=[.nils]}:=ζ
def Tryz.el32:fB Tryz.prog 32=some {e:=86,size:=2,bytes:=48,zero:=[.nils,.nils],t:=.pair (.list (.int .i64)) (.pair (.list (.int .i64)) (.unit))}:=ζ
def Tryz.td34:aN Tryz.prog 34=some {k:=.struct [(0,3,1),(1,32,1)],size:=2,bytes:=32,zero:=[.int .i64 0,.nils]}:=ζ
def Tryz.st34:fb Tryz.prog 34=some ([(0,3,1),(1,32,1)],[.int .i64 0,.nils]):=ζ
def Tryz.td38:aN Tryz.prog 38=some {k:=.struct [(0,3,1),(1,3,1),(2,22,1),(3,22,1)],size:=4,bytes:=64,zero:=[.int .i64 0,.int .i64 0,.nils,.nils]}:=ζ
def Tryz.st38:fb Tryz.prog 38=some ([(0,3,1),(1,3,1),(2,22,1),(3,22,1)],[.int .i64 0,.int .i64 0,.nils,.nils]):=ζ
def Tryz.td53:aN Tryz.prog 53=some {k:=.slice 22,size:=1,bytes:=24,zero:=[.nils]}:=ζ
def Tryz.el53:fB Tryz.prog 53=some {e:=22,size:=1,bytes:=24,zero:=[.nils],t:=.list (.list (.int .i64))}:=ζ
def Tryz.td54:aN Tryz.prog 54=some {k:=.slice 4,size:=1,bytes:=24,zero:=[.nils]}:=ζ
def Tryz.el54:fB Tryz.prog 54=some {e:=4,size:=1,bytes:=1,zero:=[.bool false],t:=.bool}:=ζ
def Tryz.td76:aN Tryz.prog 76=some {k:=.other,size:=1,bytes:=8,zero:=[.junk]}:=ζ
def Tryz.td78:aN Tryz.prog 78=some {k:=.other,size:=1,bytes:=8,zero:=[.junk]}:=ζ
def Tryz.td80:aN Tryz.prog 80=some {k:=.ptr 84,size:=1,bytes:=8,zero:=[.nilp]}:=ζ
def Tryz.td82:aN Tryz.prog 82=some {k:=.struct [(0,24,4)],size:=4,bytes:=64,zero:=[.int .i64 0,.int .i64 0,.nils,.nils]}:=ζ
def Tryz.st82:fb Tryz.prog 82=some ([(0,24,4)],[.int .i64 0,.int .i64 0,.nils,.nils]):=ζ
def Tryz.td84:aN Tryz.prog 84=some {k:=.struct [(0,82,4),(4,3,1)],size:=5,bytes:=72,zero:=[.int .i64 0,.int .i64 0,.nils,.nils,.int .i64 0]}:=ζ
def Tryz.st84:fb Tryz.prog 84=some ([(0,82,4),(4,3,1)],[.int .i64 0,.int .i64 0,.nils,.nils,.int .i64 0]):=ζ
def Tryz.td86:aN Tryz.prog 86=some {k:=.struct [(0,26,1),(1,26,1)],size:=2,bytes:=48,zero:=[.nils,.nils]}:=ζ
def Tryz.st86:fb Tryz.prog 86=some ([(0,26,1),(1,26,1)],[.nils,.nils]):=ζ
def Tryz.td106:aN Tryz.prog 106=some {k:=.struct [(0,24,4),(4,22,1)],size:=5,bytes:=88,zero:=[.int .i64 0,.int .i64 0,.nils,.nils,.nils]}:=ζ
def Tryz.st106:fb Tryz.prog 106=some ([(0,24,4),(4,22,1)],[.int .i64 0,.int .i64 0,.nils,.nils,.nils]):=ζ
def Tryz.td111:aN Tryz.prog 111=some {k:=.slice 114,size:=1,bytes:=24,zero:=[.nils]}:=ζ
def Tryz.el111:fB Tryz.prog 111=some {e:=114,size:=2,bytes:=32,zero:=[.int .i64 0,.nils],t:=.pair (.int .i64) (.pair (.list (.int .i64)) (.unit))}:=ζ
def Tryz.td114:aN Tryz.prog 114=some {k:=.struct [(0,3,1),(1,26,1)],size:=2,bytes:=32,zero:=[.int .i64 0,.nils]}:=ζ
def Tryz.st114:fb Tryz.prog 114=some ([(0,3,1),(1,26,1)],[.int .i64 0,.nils]):=ζ
def Tryz.td118:aN Tryz.prog 118=some {k:=.other,size:=1,bytes:=8,zero:=[.junk]}:=ζ
def Tryz.td122:aN Tryz.prog 122=some {k:=.struct [(0,3,1),(1,3,1)],size:=2,bytes:=16,zero:=[.int .i64 0,.int .i64 0]}:=ζ
def Tryz.fl122:v5 Tryz.prog 122=some [0,0]:=ζ
def Tryz.st122:fb Tryz.prog 122=some ([(0,3,1),(1,3,1)],[.int .i64 0,.int .i64 0]):=ζ
def Tryz.td123:aN Tryz.prog 123=some {k:=.slice 5,size:=1,bytes:=24,zero:=[.nils]}:=ζ
def Tryz.el123:fB Tryz.prog 123=some {e:=5,size:=1,bytes:=1,zero:=[.int .u8 0],t:=.int .u8}:=ζ
def Tryz.td127:aN Tryz.prog 127=some {k:=.int .u64,size:=1,bytes:=8,zero:=[.int .u64 0]}:=ζ
def Tryz.td131:aN Tryz.prog 131=some {k:=.other,size:=1,bytes:=8,zero:=[.junk]}:=ζ
def Tryz.td136:aN Tryz.prog 136=some {k:=.other,size:=1,bytes:=8,zero:=[.junk]}:=ζ
def Tryz.td138:aN Tryz.prog 138=some {k:=.other,size:=1,bytes:=8,zero:=[.junk]}:=ζ
def Tryz.td145:aN Tryz.prog 145=some {k:=.struct [(0,143,1)],size:=1,bytes:=8,zero:=[.junk]}:=ζ
def Tryz.st145:fb Tryz.prog 145=some ([(0,143,1)],[.junk]):=ζ
def Tryz.td146:aN Tryz.prog 146=some {k:=.array 2 3,size:=2,bytes:=16,zero:=[.int .i64 0,.int .i64 0]}:=ζ
def Tryz.ea146:fB Tryz.prog 146=none:=ζ
def Tryz.sa146:fb Tryz.prog 146=none:=ζ
def Tryz.td147:aN Tryz.prog 147=some {k:=.slice 146,size:=1,bytes:=24,zero:=[.nils]}:=ζ
def Tryz.el147:fB Tryz.prog 147=some {e:=146,size:=2,bytes:=16,zero:=[.int .i64 0,.int .i64 0],t:=.pair (.int .i64) (.pair (.int .i64) (.unit))}:=ζ
def Tryz.td153:aN Tryz.prog 153=some {k:=.slice 207,size:=1,bytes:=24,zero:=[.nils]}:=ζ
def Tryz.el153:fB Tryz.prog 153=some {e:=207,size:=5,bytes:=104,zero:=[.bool false,.nils,.nils,.nils,.nils],t:=.pair (.bool) (.pair (.list (.int .i64)) (.pair (.list (.int .i64)) (.pair (.list (.list (.int .i64))) (.pair (.list (.int .i64)) (.unit)))))}:=ζ
def Tryz.td155:aN Tryz.prog 155=some {k:=.struct [(0,153,1)],size:=1,bytes:=24,zero:=[.nils]}:=ζ
def Tryz.st155:fb Tryz.prog 155=some ([(0,153,1)],[.nils]):=ζ
def Tryz.td157:aN Tryz.prog 157=some {k:=.struct [(0,3,1),(1,155,1)],size:=2,bytes:=32,zero:=[.int .i64 0,.nils]}:=ζ
def Tryz.st157:fb Tryz.prog 157=some ([(0,3,1),(1,155,1)],[.int .i64 0,.nils]):=ζ
def Tryz.td161:aN Tryz.prog 161=some {k:=.struct [(0,157,2),(2,34,2)],size:=4,bytes:=64,zero:=[.int .i64 0,.nils,.int .i64 0,.nils]}:=ζ
def Tryz.st161:fb Tryz.prog 161=some ([(0,157,2),(2,34,2)],[.int .i64 0,.nils,.int .i64 0,.nils]):=ζ
def Tryz.td174:aN Tryz.prog 174=some {k:=.slice 54,size:=1,bytes:=24,zero:=[.nils]}:=ζ
def Tryz.el174:fB Tryz.prog 174=some {e:=54,size:=1,bytes:=24,zero:=[.nils],t:=.list .bool}:=ζ
def Tryz.td176:aN Tryz.prog 176=some {k:=.struct [(0,122,2),(2,26,1)],size:=3,bytes:=40,zero:=[.int .i64 0,.int .i64 0,.nils]}:=ζ
def Tryz.st176:fb Tryz.prog 176=some ([(0,122,2),(2,26,1)],[.int .i64 0,.int .i64 0,.nils]):=ζ
def Tryz.td177:aN Tryz.prog 177=some {k:=.slice 176,size:=1,bytes:=24,zero:=[.nils]}:=ζ
def Tryz.el177:fB Tryz.prog 177=some {e:=176,size:=3,bytes:=40,zero:=[.int .i64 0,.int .i64 0,.nils],t:=.pair (.pair (.int .i64) (.pair (.int .i64) (.unit))) (.pair (.list (.int .i64)) (.unit))}:=ζ
def Tryz.td179:aN Tryz.prog 179=some {k:=.int .i64,size:=1,bytes:=8,zero:=[.int .i64 0]}:=ζ
def Tryz.td186:aN Tryz.prog 186=some {k:=.int .u32,size:=1,bytes:=4,zero:=[.int .u32 0]}:=ζ
def Tryz.td188:aN Tryz.prog 188=some {k:=.int .u64,size:=1,bytes:=8,zero:=[.int .u64 0]}:=ζ
def Tryz.td197:aN Tryz.prog 197=some {k:=.slice 201,size:=1,bytes:=24,zero:=[.nils]}:=ζ
def Tryz.el197:fB Tryz.prog 197=some {e:=201,size:=2,bytes:=32,zero:=[.nils,.int .i64 0],t:=.pair (.list (.int .i64)) (.pair (.int .i64) (.unit))}:=ζ
def Tryz.td201:aN Tryz.prog 201=some {k:=.struct [(0,26,1),(1,3,1)],size:=2,bytes:=32,zero:=[.nils,.int .i64 0]}:=ζ
def Tryz.st201:fb Tryz.prog 201=some ([(0,26,1),(1,3,1)],[.nils,.int .i64 0]):=ζ
def Tryz.td207:aN Tryz.prog 207=some {k:=.struct [(0,4,1),(1,26,1),(2,26,1),(3,22,1),(4,26,1)],size:=5,bytes:=104,zero:=[.bool false,.nils,.nils,.nils,.nils]}:=ζ
def Tryz.st207:fb Tryz.prog 207=some ([(0,4,1),(1,26,1),(2,26,1),(3,22,1),(4,26,1)],[.bool false,.nils,.nils,.nils,.nils]):=ζ
def Tryz.td213:aN Tryz.prog 213=some {k:=.struct [(0,26,1),(1,3,1),(2,26,1)],size:=3,bytes:=56,zero:=[.nils,.int .i64 0,.nils]}:=ζ
def Tryz.st213:fb Tryz.prog 213=some ([(0,26,1),(1,3,1),(2,26,1)],[.nils,.int .i64 0,.nils]):=ζ
def Tryz.td220:aN Tryz.prog 220=some {k:=.array 128 3,size:=128,bytes:=1024,zero:=List.replicate 128 (.int .i64 0)}:=ζ
def Tryz.ea220:fB Tryz.prog 220=none:=ζ
def Tryz.sa220:fb Tryz.prog 220=none:=ζ
def Tryz.td241:aN Tryz.prog 241=some {k:=.array 2 24,size:=8,bytes:=128,zero:=[.int .i64 0,.int .i64 0,.nils,.nils,.int .i64 0,.int .i64 0,.nils,.nils]}:=ζ
def Tryz.ea241:fB Tryz.prog 241=none:=ζ
def Tryz.sa241:fb Tryz.prog 241=none:=ζ
def Tryz.td242:aN Tryz.prog 242=some {k:=.ptr 269,size:=1,bytes:=8,zero:=[.nilp]}:=ζ
def Tryz.td249:aN Tryz.prog 249=some {k:=.array 24 5,size:=24,bytes:=24,zero:=[.int .u8 0,.int .u8 0,.int .u8 0,.int .u8 0,.int .u8 0,.int .u8 0,.int .u8 0,.int .u8 0,.int .u8 0,.int .u8 0,.int .u8 0,.int .u8 0,.int .u8 0,.int .u8 0,.int .u8 0,.int .u8 0,.int .u8 0,.int .u8 0,.int .u8 0,.int .u8 0,.int .u8 0,.int .u8 0,.int .u8 0,.int .u8 0]}:=ζ
def Tryz.ea249:fB Tryz.prog 249=none:=ζ
def Tryz.sa249:fb Tryz.prog 249=none:=ζ
def Tryz.st269:fb Tryz.prog 269=some ([(0,106,5),(5,34,2),(7,26,1),(8,26,1),(9,26,1)],[.int .i64 0,.int .i64 0,.nils,.nils,.nils,.int .i64 0,.nils,.nils,.nils,.nils]):=ζ
def Tryz.td276:aN Tryz.prog 276=some {k:=.array 65 5,size:=65,bytes:=65,zero:=List.replicate 65 (.int .u8 0)}:=ζ
def Tryz.ea276:fB Tryz.prog 276=none:=ζ
def Tryz.sa276:fb Tryz.prog 276=none:=ζ
def Tryz.mk73:kP Tryz.prog 73=some {k:=9,e:=4,kk:=.str,vk:=.bool}:=ζ
def Tryz.mk143:kP Tryz.prog 143=some {k:=3,e:=3,kk:=.int,vk:=.int}:=ζ
def Tryz.mk218:kP Tryz.prog 218=some {k:=220,e:=3,kk:=.arr 128,vk:=.int}:=ζ
def Tryz.mixed:Tryz.prog.follows .mixedOrders=true:=ζ
end Go.Proofs.YtiedpcchhicifaaGreatDoor
