/- Part of the proof. -/
import Derived.Test.YtiedpcchhicifaaGreatDoorRows
import Derived.Test.YtiedpcchhicifaaGreatDoorLz
namespace Go.AV
theorem ζ {p:Prop}(h:p:=by kernel_rfl):p:=h
end Go.AV
namespace Go.Proofs.YtiedpcchhicifaaGreatDoor
open Go.AV
theorem Tryz.td1:aN Tryz.prog 1=some {k:=.other,size:=1,bytes:=8,zero:=[.junk]}:=ζ
theorem Tryz.td2:aN Tryz.prog 2=some {k:=.int .i64,size:=1,bytes:=8,zero:=[.int .i64 0]}:=ζ
theorem Tryz.td3:aN Tryz.prog 3=some {k:=.int .i64,size:=1,bytes:=8,zero:=[.int .i64 0]}:=ζ
theorem Tryz.td4:aN Tryz.prog 4=some {k:=.bool,size:=1,bytes:=1,zero:=[.bool false]}:=ζ
theorem Tryz.td5:aN Tryz.prog 5=some {k:=.int .u8,size:=1,bytes:=1,zero:=[.int .u8 0]}:=ζ
theorem Tryz.td9:aN Tryz.prog 9=some {k:=.str,size:=1,bytes:=16,zero:=[.str []]}:=ζ
theorem Tryz.td22:aN Tryz.prog 22=some {k:=.slice 26,size:=1,bytes:=24,zero:=[.nils]}:=ζ
theorem Tryz.el22:fD Tryz.prog 22=some {e:=26,size:=1,bytes:=24,zero:=[.nils],t:=.list (.int .i64)}:=ζ
theorem Tryz.td24:aN Tryz.prog 24=some {k:=.struct [(0,3,1),(1,3,1),(2,22,1),(3,22,1)],size:=4,bytes:=64,zero:=[.int .i64 0,.int .i64 0,.nils,.nils]}:=ζ
theorem Tryz.st24:fd Tryz.prog 24=some ([(0,3,1),(1,3,1),(2,22,1),(3,22,1)],[.int .i64 0,.int .i64 0,.nils,.nils]):=ζ
theorem Tryz.td26:aN Tryz.prog 26=some {k:=.slice 3,size:=1,bytes:=24,zero:=[.nils]}:=ζ
theorem Tryz.el26:fD Tryz.prog 26=some {e:=3,size:=1,bytes:=8,zero:=[.int .i64 0],t:=.int .i64}:=ζ
theorem Tryz.td27:aN Tryz.prog 27=some {k:=.int .i64,size:=1,bytes:=8,zero:=[.int .i64 0]}:=ζ
theorem Tryz.td32:aN Tryz.prog 32=some {k:=.slice 86,size:=1,bytes:=24,zero:=[.nils]}:=ζ
theorem Tryz.el32:fD Tryz.prog 32=some {e:=86,size:=2,bytes:=48,zero:=[.nils,.nils],t:=.pair (.list (.int .i64)) (.pair (.list (.int .i64)) (.unit))}:=ζ
theorem Tryz.td34:aN Tryz.prog 34=some {k:=.struct [(0,3,1),(1,32,1)],size:=2,bytes:=32,zero:=[.int .i64 0,.nils]}:=ζ
theorem Tryz.st34:fd Tryz.prog 34=some ([(0,3,1),(1,32,1)],[.int .i64 0,.nils]):=ζ
theorem Tryz.td38:aN Tryz.prog 38=some {k:=.struct [(0,3,1),(1,3,1),(2,22,1),(3,22,1)],size:=4,bytes:=64,zero:=[.int .i64 0,.int .i64 0,.nils,.nils]}:=ζ
theorem Tryz.st38:fd Tryz.prog 38=some ([(0,3,1),(1,3,1),(2,22,1),(3,22,1)],[.int .i64 0,.int .i64 0,.nils,.nils]):=ζ
theorem Tryz.td53:aN Tryz.prog 53=some {k:=.slice 22,size:=1,bytes:=24,zero:=[.nils]}:=ζ
theorem Tryz.el53:fD Tryz.prog 53=some {e:=22,size:=1,bytes:=24,zero:=[.nils],t:=.list (.list (.int .i64))}:=ζ
theorem Tryz.td54:aN Tryz.prog 54=some {k:=.slice 4,size:=1,bytes:=24,zero:=[.nils]}:=ζ
theorem Tryz.el54:fD Tryz.prog 54=some {e:=4,size:=1,bytes:=1,zero:=[.bool false],t:=.bool}:=ζ
theorem Tryz.td76:aN Tryz.prog 76=some {k:=.other,size:=1,bytes:=8,zero:=[.junk]}:=ζ
theorem Tryz.td78:aN Tryz.prog 78=some {k:=.other,size:=1,bytes:=8,zero:=[.junk]}:=ζ
theorem Tryz.td80:aN Tryz.prog 80=some {k:=.ptr 84,size:=1,bytes:=8,zero:=[.nilp]}:=ζ
theorem Tryz.td82:aN Tryz.prog 82=some {k:=.struct [(0,24,4)],size:=4,bytes:=64,zero:=[.int .i64 0,.int .i64 0,.nils,.nils]}:=ζ
theorem Tryz.st82:fd Tryz.prog 82=some ([(0,24,4)],[.int .i64 0,.int .i64 0,.nils,.nils]):=ζ
theorem Tryz.td84:aN Tryz.prog 84=some {k:=.struct [(0,82,4),(4,3,1)],size:=5,bytes:=72,zero:=[.int .i64 0,.int .i64 0,.nils,.nils,.int .i64 0]}:=ζ
theorem Tryz.st84:fd Tryz.prog 84=some ([(0,82,4),(4,3,1)],[.int .i64 0,.int .i64 0,.nils,.nils,.int .i64 0]):=ζ
theorem Tryz.td86:aN Tryz.prog 86=some {k:=.struct [(0,26,1),(1,26,1)],size:=2,bytes:=48,zero:=[.nils,.nils]}:=ζ
theorem Tryz.st86:fd Tryz.prog 86=some ([(0,26,1),(1,26,1)],[.nils,.nils]):=ζ
theorem Tryz.td106:aN Tryz.prog 106=some {k:=.struct [(0,24,4),(4,22,1)],size:=5,bytes:=88,zero:=[.int .i64 0,.int .i64 0,.nils,.nils,.nils]}:=ζ
theorem Tryz.st106:fd Tryz.prog 106=some ([(0,24,4),(4,22,1)],[.int .i64 0,.int .i64 0,.nils,.nils,.nils]):=ζ
theorem Tryz.td111:aN Tryz.prog 111=some {k:=.slice 114,size:=1,bytes:=24,zero:=[.nils]}:=ζ
theorem Tryz.el111:fD Tryz.prog 111=some {e:=114,size:=2,bytes:=32,zero:=[.int .i64 0,.nils],t:=.pair (.int .i64) (.pair (.list (.int .i64)) (.unit))}:=ζ
theorem Tryz.td114:aN Tryz.prog 114=some {k:=.struct [(0,3,1),(1,26,1)],size:=2,bytes:=32,zero:=[.int .i64 0,.nils]}:=ζ
theorem Tryz.st114:fd Tryz.prog 114=some ([(0,3,1),(1,26,1)],[.int .i64 0,.nils]):=ζ
theorem Tryz.td118:aN Tryz.prog 118=some {k:=.other,size:=1,bytes:=8,zero:=[.junk]}:=ζ
theorem Tryz.td122:aN Tryz.prog 122=some {k:=.struct [(0,3,1),(1,3,1)],size:=2,bytes:=16,zero:=[.int .i64 0,.int .i64 0]}:=ζ
theorem Tryz.fl122:v5 Tryz.prog 122=some [0,0]:=ζ
theorem Tryz.st122:fd Tryz.prog 122=some ([(0,3,1),(1,3,1)],[.int .i64 0,.int .i64 0]):=ζ
theorem Tryz.td123:aN Tryz.prog 123=some {k:=.slice 5,size:=1,bytes:=24,zero:=[.nils]}:=ζ
theorem Tryz.el123:fD Tryz.prog 123=some {e:=5,size:=1,bytes:=1,zero:=[.int .u8 0],t:=.int .u8}:=ζ
theorem Tryz.td127:aN Tryz.prog 127=some {k:=.int .u64,size:=1,bytes:=8,zero:=[.int .u64 0]}:=ζ
theorem Tryz.td131:aN Tryz.prog 131=some {k:=.other,size:=1,bytes:=8,zero:=[.junk]}:=ζ
theorem Tryz.td136:aN Tryz.prog 136=some {k:=.other,size:=1,bytes:=8,zero:=[.junk]}:=ζ
theorem Tryz.td138:aN Tryz.prog 138=some {k:=.other,size:=1,bytes:=8,zero:=[.junk]}:=ζ
theorem Tryz.td145:aN Tryz.prog 145=some {k:=.struct [(0,143,1)],size:=1,bytes:=8,zero:=[.junk]}:=ζ
theorem Tryz.st145:fd Tryz.prog 145=some ([(0,143,1)],[.junk]):=ζ
theorem Tryz.td146:aN Tryz.prog 146=some {k:=.array 2 3,size:=2,bytes:=16,zero:=[.int .i64 0,.int .i64 0]}:=ζ
theorem Tryz.ea146:fD Tryz.prog 146=none:=ζ
theorem Tryz.sa146:fd Tryz.prog 146=none:=ζ
theorem Tryz.td147:aN Tryz.prog 147=some {k:=.slice 146,size:=1,bytes:=24,zero:=[.nils]}:=ζ
theorem Tryz.el147:fD Tryz.prog 147=some {e:=146,size:=2,bytes:=16,zero:=[.int .i64 0,.int .i64 0],t:=.pair (.int .i64) (.pair (.int .i64) (.unit))}:=ζ
theorem Tryz.td153:aN Tryz.prog 153=some {k:=.slice 207,size:=1,bytes:=24,zero:=[.nils]}:=ζ
theorem Tryz.el153:fD Tryz.prog 153=some {e:=207,size:=5,bytes:=104,zero:=[.bool false,.nils,.nils,.nils,.nils],t:=.pair (.bool) (.pair (.list (.int .i64)) (.pair (.list (.int .i64)) (.pair (.list (.list (.int .i64))) (.pair (.list (.int .i64)) (.unit)))))}:=ζ
theorem Tryz.td155:aN Tryz.prog 155=some {k:=.struct [(0,153,1)],size:=1,bytes:=24,zero:=[.nils]}:=ζ
theorem Tryz.st155:fd Tryz.prog 155=some ([(0,153,1)],[.nils]):=ζ
theorem Tryz.td157:aN Tryz.prog 157=some {k:=.struct [(0,3,1),(1,155,1)],size:=2,bytes:=32,zero:=[.int .i64 0,.nils]}:=ζ
theorem Tryz.st157:fd Tryz.prog 157=some ([(0,3,1),(1,155,1)],[.int .i64 0,.nils]):=ζ
theorem Tryz.td161:aN Tryz.prog 161=some {k:=.struct [(0,157,2),(2,34,2)],size:=4,bytes:=64,zero:=[.int .i64 0,.nils,.int .i64 0,.nils]}:=ζ
theorem Tryz.st161:fd Tryz.prog 161=some ([(0,157,2),(2,34,2)],[.int .i64 0,.nils,.int .i64 0,.nils]):=ζ
theorem Tryz.td174:aN Tryz.prog 174=some {k:=.slice 54,size:=1,bytes:=24,zero:=[.nils]}:=ζ
theorem Tryz.el174:fD Tryz.prog 174=some {e:=54,size:=1,bytes:=24,zero:=[.nils],t:=.list .bool}:=ζ
theorem Tryz.td176:aN Tryz.prog 176=some {k:=.struct [(0,122,2),(2,26,1)],size:=3,bytes:=40,zero:=[.int .i64 0,.int .i64 0,.nils]}:=ζ
theorem Tryz.st176:fd Tryz.prog 176=some ([(0,122,2),(2,26,1)],[.int .i64 0,.int .i64 0,.nils]):=ζ
theorem Tryz.td177:aN Tryz.prog 177=some {k:=.slice 176,size:=1,bytes:=24,zero:=[.nils]}:=ζ
theorem Tryz.el177:fD Tryz.prog 177=some {e:=176,size:=3,bytes:=40,zero:=[.int .i64 0,.int .i64 0,.nils],t:=.pair (.pair (.int .i64) (.pair (.int .i64) (.unit))) (.pair (.list (.int .i64)) (.unit))}:=ζ
theorem Tryz.td179:aN Tryz.prog 179=some {k:=.int .i64,size:=1,bytes:=8,zero:=[.int .i64 0]}:=ζ
theorem Tryz.td186:aN Tryz.prog 186=some {k:=.int .u32,size:=1,bytes:=4,zero:=[.int .u32 0]}:=ζ
theorem Tryz.td188:aN Tryz.prog 188=some {k:=.int .u64,size:=1,bytes:=8,zero:=[.int .u64 0]}:=ζ
theorem Tryz.td197:aN Tryz.prog 197=some {k:=.slice 201,size:=1,bytes:=24,zero:=[.nils]}:=ζ
theorem Tryz.el197:fD Tryz.prog 197=some {e:=201,size:=2,bytes:=32,zero:=[.nils,.int .i64 0],t:=.pair (.list (.int .i64)) (.pair (.int .i64) (.unit))}:=ζ
theorem Tryz.td201:aN Tryz.prog 201=some {k:=.struct [(0,26,1),(1,3,1)],size:=2,bytes:=32,zero:=[.nils,.int .i64 0]}:=ζ
theorem Tryz.st201:fd Tryz.prog 201=some ([(0,26,1),(1,3,1)],[.nils,.int .i64 0]):=ζ
theorem Tryz.td207:aN Tryz.prog 207=some {k:=.struct [(0,4,1),(1,26,1),(2,26,1),(3,22,1),(4,26,1)],size:=5,bytes:=104,zero:=[.bool false,.nils,.nils,.nils,.nils]}:=ζ
theorem Tryz.st207:fd Tryz.prog 207=some ([(0,4,1),(1,26,1),(2,26,1),(3,22,1),(4,26,1)],[.bool false,.nils,.nils,.nils,.nils]):=ζ
theorem Tryz.td213:aN Tryz.prog 213=some {k:=.struct [(0,26,1),(1,3,1),(2,26,1)],size:=3,bytes:=56,zero:=[.nils,.int .i64 0,.nils]}:=ζ
theorem Tryz.st213:fd Tryz.prog 213=some ([(0,26,1),(1,3,1),(2,26,1)],[.nils,.int .i64 0,.nils]):=ζ
theorem Tryz.td220:aN Tryz.prog 220=some {k:=.array 128 3,size:=128,bytes:=1024,zero:=List.replicate 128 (.int .i64 0)}:=ζ
theorem Tryz.ea220:fD Tryz.prog 220=none:=ζ
theorem Tryz.sa220:fd Tryz.prog 220=none:=ζ
theorem Tryz.td241:aN Tryz.prog 241=some {k:=.array 2 24,size:=8,bytes:=128,zero:=[.int .i64 0,.int .i64 0,.nils,.nils,.int .i64 0,.int .i64 0,.nils,.nils]}:=ζ
theorem Tryz.ea241:fD Tryz.prog 241=none:=ζ
theorem Tryz.sa241:fd Tryz.prog 241=none:=ζ
theorem Tryz.td242:aN Tryz.prog 242=some {k:=.ptr 269,size:=1,bytes:=8,zero:=[.nilp]}:=ζ
theorem Tryz.td249:aN Tryz.prog 249=some {k:=.array 24 5,size:=24,bytes:=24,zero:=[.int .u8 0,.int .u8 0,.int .u8 0,.int .u8 0,.int .u8 0,.int .u8 0,.int .u8 0,.int .u8 0,.int .u8 0,.int .u8 0,.int .u8 0,.int .u8 0,.int .u8 0,.int .u8 0,.int .u8 0,.int .u8 0,.int .u8 0,.int .u8 0,.int .u8 0,.int .u8 0,.int .u8 0,.int .u8 0,.int .u8 0,.int .u8 0]}:=ζ
theorem Tryz.ea249:fD Tryz.prog 249=none:=ζ
theorem Tryz.sa249:fd Tryz.prog 249=none:=ζ
theorem Tryz.st269:fd Tryz.prog 269=some ([(0,106,5),(5,34,2),(7,26,1),(8,26,1),(9,26,1)],[.int .i64 0,.int .i64 0,.nils,.nils,.nils,.int .i64 0,.nils,.nils,.nils,.nils]):=ζ
theorem Tryz.td276:aN Tryz.prog 276=some {k:=.array 65 5,size:=65,bytes:=65,zero:=List.replicate 65 (.int .u8 0)}:=ζ
theorem Tryz.ea276:fD Tryz.prog 276=none:=ζ
theorem Tryz.sa276:fd Tryz.prog 276=none:=ζ
theorem Tryz.mk73:kM Tryz.prog 73=some {k:=9,e:=4,kk:=.str,vk:=.bool}:=ζ
theorem Tryz.mk143:kM Tryz.prog 143=some {k:=3,e:=3,kk:=.int,vk:=.int}:=ζ
theorem Tryz.mk218:kM Tryz.prog 218=some {k:=220,e:=3,kk:=.arr 128,vk:=.int}:=ζ
theorem Tryz.mixed:Tryz.prog.follows .mixedOrders=true:=ζ
end Go.Proofs.YtiedpcchhicifaaGreatDoor
