/- The tables of the program for D, .. -/
import Derived.Test.YthffgohpkjpkbaaGreatDoorG0J
set_option maxHeartbeats 1000000
set_option linter.defProp false
namespace Go.Proofs.YthffgohpkjpkbaaGreatDoor
open Go Go.D Go.Proofs.Tryz
namespace ai
def y{α:Type}(i:α):Tr α:=.n (some i) .e .e
def u{α:Type}(i:α)(j k:Tr α):Tr α:=.n (some i) j k
def v{α:Type}(j k:Tr α):Tr α:=.n none j k
def t2:TI:=⟨.int .i64,1,8,0,some (.int .i64 0),none⟩
def t3:TI:=⟨.int .i64,1,8,0,some (.int .i64 0),none⟩
def t4:TI:=⟨.bool,1,1,0,some (.bool false),none⟩
def t5:TI:=⟨.int .u8,1,1,0,some (.int .u8 0),none⟩
def t6:TI:=t5
def acY:TI:=⟨.struct [⟨2,0,1,false⟩,⟨3,1,1,false⟩,⟨4,2,1,false⟩,⟨6,3,1,false⟩],4,24,0,some (.agg #[.int .i64 0,.int .i64 0,.bool false,.int .u8 0]),some [.i,.i,.b,.i]⟩
def t9:TI:=⟨.str,1,16,0,some (.string ⟨#[]⟩),none⟩
def t10:TI:=t9
def t20:TI:=⟨.iface true,1,16,0,some (.nilIface),none⟩
def t22:TI:=⟨.slice 62,1,24,6,some (.slice none 0 0),none⟩
def t23:TI:=⟨.slice 157,1,24,4,some (.slice none 0 0),none⟩
def t24:TI:=⟨.struct [⟨22,0,1,false⟩,⟨23,1,1,false⟩,⟨22,2,1,false⟩],3,72,0,some (.agg #[.slice none 0 0,.slice none 0 0,.slice none 0 0]),none⟩
def t25:TI:=t24
def t27:TI:=⟨.slice 43,1,24,6,some (.slice none 0 0),none⟩
def t29:TI:=⟨.struct [⟨27,0,1,false⟩],1,24,0,some (.agg #[.slice none 0 0]),none⟩
def t30:TI:=⟨.slice 68,1,24,5,some (.slice none 0 0),none⟩
def t32:TI:=⟨.struct [⟨29,0,1,false⟩,⟨30,1,1,false⟩],2,48,0,some (.agg #[.slice none 0 0,.slice none 0 0]),none⟩
def t33:TI:=⟨.slice 85,1,24,7,some (.slice none 0 0),none⟩
def t34:TI:=⟨.slice 103,1,24,2,some (.slice none 0 0),none⟩
def t35:TI:=⟨.slice 60,1,24,3,some (.slice none 0 0),none⟩
def t37:TI:=⟨.struct [⟨32,0,2,false⟩,⟨33,2,1,false⟩,⟨34,3,1,false⟩,⟨35,4,1,false⟩],5,120,0,some (.agg #[.slice none 0 0,.slice none 0 0,.slice none 0 0,.slice none 0 0,.slice none 0 0]),none⟩
def t38:TI:=⟨.slice 58,1,24,11,some (.slice none 0 0),none⟩
def t41:TI:=⟨.slice 46,1,24,2,some (.slice none 0 0),none⟩
def t43:TI:=⟨.struct [⟨3,0,1,false⟩,⟨3,1,1,false⟩,⟨3,2,1,false⟩,⟨41,3,1,false⟩,⟨3,4,1,false⟩,⟨3,5,1,false⟩],6,64,0,some (.agg #[.int .i64 0,.int .i64 0,.int .i64 0,.slice none 0 0,.int .i64 0,.int .i64 0]),none⟩
def t46:TI:=⟨.struct [⟨3,0,1,false⟩,⟨3,1,1,false⟩],2,16,0,some (.agg #[.int .i64 0,.int .i64 0]),some [.i,.i]⟩
def t48:TI:=⟨.struct [⟨46,0,2,false⟩,⟨46,2,2,false⟩],4,32,0,some (.agg #[.int .i64 0,.int .i64 0,.int .i64 0,.int .i64 0]),some [.i,.i,.i,.i]⟩
def t50:TI:=⟨.struct [⟨3,0,1,false⟩,⟨3,1,1,false⟩,⟨48,2,4,false⟩,⟨3,6,1,false⟩,⟨3,7,1,false⟩],8,64,0,some (.agg #[.int .i64 0,.int .i64 0,.int .i64 0,.int .i64 0,.int .i64 0,.int .i64 0,.int .i64 0,.int .i64 0]),some [.i,.i,.i,.i,.i,.i,.i,.i]⟩
def t54:TI:=⟨.int .i64,1,8,0,some (.int .i64 0),none⟩
def t58:TI:=⟨.struct [⟨3,0,1,false⟩,⟨43,1,6,false⟩,⟨3,7,1,false⟩,⟨3,8,1,false⟩,⟨3,9,1,false⟩,⟨3,10,1,false⟩],11,104,0,some (.agg #[.int .i64 0,.int .i64 0,.int .i64 0,.int .i64 0,.slice none 0 0,.int .i64 0,.int .i64 0,.int .i64 0,.int .i64 0,.int .i64 0,.int .i64 0]),none⟩
def t60:TI:=⟨.struct [⟨3,0,1,false⟩,⟨3,1,1,false⟩,⟨3,2,1,false⟩],3,24,0,some (.agg #[.int .i64 0,.int .i64 0,.int .i64 0]),some [.i,.i,.i]⟩
def t62:TI:=⟨.array 6 3,6,48,1,some (.agg #[.int .i64 0,.int .i64 0,.int .i64 0,.int .i64 0,.int .i64 0,.int .i64 0]),some [.i,.i,.i,.i,.i,.i]⟩
def t66:TI:=⟨.func,1,8,0,some (.nilFunc),none⟩
def t68:TI:=⟨.struct [⟨3,0,1,false⟩,⟨3,1,1,false⟩,⟨3,2,1,false⟩,⟨3,3,1,false⟩,⟨4,4,1,false⟩],5,40,0,some (.agg #[.int .i64 0,.int .i64 0,.int .i64 0,.int .i64 0,.bool false]),some [.i,.i,.i,.i,.b]⟩
def t78:TI:=⟨.slice 87,1,24,15,some (.slice none 0 0),none⟩
def t85:TI:=⟨.struct [⟨43,0,6,false⟩,⟨30,6,1,false⟩],7,88,0,some (.agg #[.int .i64 0,.int .i64 0,.int .i64 0,.slice none 0 0,.int .i64 0,.int .i64 0,.slice none 0 0]),none⟩
def t87:TI:=⟨.struct [⟨3,0,1,false⟩,⟨43,1,6,false⟩,⟨3,7,1,false⟩,⟨3,8,1,false⟩,⟨3,9,1,false⟩,⟨68,10,5,false⟩],15,136,0,some (.agg #[.int .i64 0,.int .i64 0,.int .i64 0,.int .i64 0,.slice none 0 0,.int .i64 0,.int .i64 0,.int .i64 0,.int .i64 0,.int .i64 0,.int .i64 0,.int .i64 0,.int .i64 0,.int .i64 0,.bool false]),none⟩
def t88:TI:=t66
def t96:TI:=⟨.struct [⟨3,0,1,false⟩,⟨3,1,1,false⟩,⟨3,2,1,false⟩,⟨3,3,1,false⟩,⟨3,4,1,false⟩],5,40,0,some (.agg #[.int .i64 0,.int .i64 0,.int .i64 0,.int .i64 0,.int .i64 0]),some [.i,.i,.i,.i,.i]⟩
def t103:TI:=⟨.struct [⟨3,0,1,false⟩,⟨3,1,1,false⟩],2,16,0,some (.agg #[.int .i64 0,.int .i64 0]),some [.i,.i]⟩
def t109:TI:=t66
def t111:TI:=t66
def t113:TI:=t66
def t116:TI:=⟨.slice 3,1,24,1,some (.slice none 0 0),none⟩
def t117:TI:=⟨.slice 50,1,24,8,some (.slice none 0 0),none⟩
def t131:TI:=⟨.ptr 134,1,8,0,some (.pointer none),none⟩
def t132:TI:=⟨.slice 5,1,24,1,some (.slice none 0 0),none⟩
def t134:TI:=⟨.struct [⟨131,0,1,false⟩,⟨132,1,1,false⟩],2,32,0,some (.agg #[.pointer none,.slice none 0 0]),none⟩
def t136:TI:=⟨.iface false,1,16,0,some (.nilIface),none⟩
def t142:TI:=⟨.slice 145,1,24,1,some (.slice none 0 0),none⟩
def t144:TI:=⟨.ptr 58,1,8,0,some (.pointer none),none⟩
def t145:TI:=⟨.ptr 3,1,8,0,some (.pointer none),none⟩
def t146:TI:=t66
def t148:TI:=⟨.map 3 4,1,8,0,some (.map none),none⟩
def t149:TI:=⟨.func,1,8,0,some (.nilFunc),none⟩
def t150:TI:=t66
def t151:TI:=t66
def t152:TI:=t66
def t157:TI:=⟨.array 4 3,4,32,1,some (.agg #[.int .i64 0,.int .i64 0,.int .i64 0,.int .i64 0]),some [.i,.i,.i,.i]⟩
def t165:TI:=t66
def t170:TI:=t66
def t191:TI:=⟨.slice 9,1,24,1,some (.slice none 0 0),none⟩
def t193:TI:=⟨.map 9 3,1,8,0,some (.map none),none⟩
def t197:TI:=t66
def t199:TI:=⟨.array 10 9,10,160,1,some (.agg #[.string ⟨#[]⟩,.string ⟨#[]⟩,.string ⟨#[]⟩,.string ⟨#[]⟩,.string ⟨#[]⟩,.string ⟨#[]⟩,.string ⟨#[]⟩,.string ⟨#[]⟩,.string ⟨#[]⟩,.string ⟨#[]⟩]),some [.s,.s,.s,.s,.s,.s,.s,.s,.s,.s]⟩
def t207:TI:=t66
def t209:TI:=t66
def t212:TI:=⟨.array 8 96,40,320,5,some (.agg #[.int .i64 0,.int .i64 0,.int .i64 0,.int .i64 0,.int .i64 0,.int .i64 0,.int .i64 0,.int .i64 0,.int .i64 0,.int .i64 0,.int .i64 0,.int .i64 0,.int .i64 0,.int .i64 0,.int .i64 0,.int .i64 0,.int .i64 0,.int .i64 0,.int .i64 0,.int .i64 0,.int .i64 0,.int .i64 0,.int .i64 0,.int .i64 0,.int .i64 0,.int .i64 0,.int .i64 0,.int .i64 0,.int .i64 0,.int .i64 0,.int .i64 0,.int .i64 0,.int .i64 0,.int .i64 0,.int .i64 0,.int .i64 0,.int .i64 0,.int .i64 0,.int .i64 0,.int .i64 0]),some [.i,.i,.i,.i,.i,.i,.i,.i,.i,.i,.i,.i,.i,.i,.i,.i,.i,.i,.i,.i,.i,.i,.i,.i,.i,.i,.i,.i,.i,.i,.i,.i,.i,.i,.i,.i,.i,.i,.i,.i]⟩
def t220:TI:=⟨.int .u64,1,8,0,some (.int .u64 0),none⟩
def t228:TI:=t66
def t229:TI:=t66
def t230:TI:=t66
def t231:TI:=t66
def t232:TI:=t66
def t234:TI:=⟨.struct [⟨228,0,1,false⟩,⟨229,1,1,false⟩,⟨230,2,1,false⟩,⟨231,3,1,false⟩,⟨232,4,1,false⟩],5,40,0,some (.agg #[.nilFunc,.nilFunc,.nilFunc,.nilFunc,.nilFunc]),none⟩
def t238:TI:=⟨.struct [],0,0,0,some (.agg #[]),some []⟩
def t240:TI:=⟨.ptr 242,1,8,0,some (.pointer none),none⟩
def t242:TI:=⟨.struct [⟨32,0,2,false⟩],2,48,0,some (.agg #[.slice none 0 0,.slice none 0 0]),none⟩
def t250:TI:=t66
def t253:TI:=t66
def t268:TI:=⟨.map 3 234,1,8,0,some (.map none),none⟩
def t281:TI:=t66
def t287:TI:=t2
def t294:TI:=⟨.int .u32,1,4,0,some (.int .u32 0),none⟩
def t296:TI:=t220
def t303:TI:=⟨.slice 307,1,24,3,some (.slice none 0 0),none⟩
def t305:TI:=⟨.slice 309,1,24,3,some (.slice none 0 0),none⟩
def t307:TI:=⟨.struct [⟨3,0,1,false⟩,⟨3,1,1,false⟩,⟨3,2,1,false⟩],3,24,0,some (.agg #[.int .i64 0,.int .i64 0,.int .i64 0]),some [.i,.i,.i]⟩
def t309:TI:=⟨.struct [⟨3,0,1,false⟩,⟨3,1,1,false⟩,⟨3,2,1,false⟩],3,24,0,some (.agg #[.int .i64 0,.int .i64 0,.int .i64 0]),some [.i,.i,.i]⟩
def t322:TI:=t66
def t336:TI:=⟨.array 24 5,24,24,1,some (.agg #[.int .u8 0,.int .u8 0,.int .u8 0,.int .u8 0,.int .u8 0,.int .u8 0,.int .u8 0,.int .u8 0,.int .u8 0,.int .u8 0,.int .u8 0,.int .u8 0,.int .u8 0,.int .u8 0,.int .u8 0,.int .u8 0,.int .u8 0,.int .u8 0,.int .u8 0,.int .u8 0,.int .u8 0,.int .u8 0,.int .u8 0,.int .u8 0]),some [.i,.i,.i,.i,.i,.i,.i,.i,.i,.i,.i,.i,.i,.i,.i,.i,.i,.i,.i,.i,.i,.i,.i,.i]⟩
def t340:TI:=⟨.slice 96,1,24,5,some (.slice none 0 0),none⟩
def t364:TI:=⟨.array 20 296,20,160,1,some (.agg #[.int .u64 0,.int .u64 0,.int .u64 0,.int .u64 0,.int .u64 0,.int .u64 0,.int .u64 0,.int .u64 0,.int .u64 0,.int .u64 0,.int .u64 0,.int .u64 0,.int .u64 0,.int .u64 0,.int .u64 0,.int .u64 0,.int .u64 0,.int .u64 0,.int .u64 0,.int .u64 0]),some [.i,.i,.i,.i,.i,.i,.i,.i,.i,.i,.i,.i,.i,.i,.i,.i,.i,.i,.i,.i]⟩
def Pz:Tr TI:=v (v (v .e .e) (v .e .e)) (u t191 (v .e .e) .e)
def OS:Tr TI:=v (v (y t287) .e) (v (v .e .e) .e)
def Pf:Tr TI:=v (v (v .e .e) (v .e .e)) (u t207 (v .e .e) .e)
def Me:Tr TI:=u t111 (v (y t303) .e) (v (v .e .e) .e)
def Pp:Tr TI:=v (v (v .e .e) (v .e .e)) (u t199 (v .e .e) .e)
def Mn:Tr TI:=u t103 (v (v .e .e) .e) (u t231 (v .e .e) .e)
def adw:Tr TI:=u t87 (u t151 (v .e .e) .e) (v (v .e .e) .e)
def aaV:Tr TI:=v (v (v .e .e) .e) (v (v .e .e) .e)
def Xf:Tr TI:=v (v (v Pz OS) (v Pf Me)) (u t23 (v Pp Mn) (v adw aaV))
def Pu:Tr TI:=v (u t131 (v .e .e) (v .e .e)) (v (v .e .e) .e)
def adF:Tr TI:=v (v (v .e .e) .e) (v (v .e .e) .e)
def Pb:Tr TI:=v (v (v .e .e) .e) (v (v .e .e) .e)
def Ma:Tr TI:=v (v (y t307) .e) (v (v .e .e) .e)
def atG:Tr TI:=v (v (v .e .e) (v .e .e)) (v (v .e .e) .e)
def Mi:Tr TI:=v (v (v .e .e) .e) (v (v .e .e) .e)
def OW:Tr TI:=v (v (v .e .e) .e) (v (v .e .e) .e)
def L0:Tr TI:=v (v (v .e .e) .e) (v (v .e .e) .e)
def ab6:Tr TI:=v (v (u t35 Pu adF) (v Pb Ma)) (u t27 (u t43 atG Mi) (v OW L0))
def Pw:Tr TI:=v (v (v .e .e) (v .e .e)) (u t193 (v .e .e) .e)
def OQ:Tr TI:=v (v (v .e .e) .e) (v (v .e .e) .e)
def Pd:Tr TI:=v (u t145 (v .e .e) (v .e .e)) (u t209 (v .e .e) .e)
def Mc:Tr TI:=u t113 (v (y t305) .e) (v (v .e .e) .e)
def Pn:Tr TI:=v (v (v .e .e) (v .e .e)) (v (v .e .e) .e)
def Ml:Tr TI:=v (v (v .e .e) .e) (v (v .e .e) .e)
def OY:Tr TI:=v (v (y t281) .e) (v (v .e .e) .e)
def L4:Tr TI:=v (v (v .e .e) .e) (v (v .e .e) .e)
def adY:Tr TI:=u t9 (v (u t33 Pw OQ) (v Pd Mc)) (u t25 (u t41 Pn Ml) (v OY L4))
def Pr:Tr TI:=v (v (v .e .e) (v .e .e)) (u t197 (v .e .e) .e)
def abt:Tr TI:=v (u t165 (v .e .e) .e) (u t229 (v .e .e) .e)
def O8:Tr TI:=u t85 (u t149 (v .e .e) .e) (v (v .e .e) .e)
def L8:Tr TI:=u t117 (v (y t309) .e) (v (v .e .e) .e)
def Ph:Tr TI:=v (v (v .e .e) (v .e .e)) (v (v .e .e) .e)
def ac7:Tr TI:=u t109 (v (v .e .e) .e) (v (v .e .e) .e)
def OU:Tr TI:=v (u t157 (v .e .e) .e) (v (v .e .e) .e)
def LY:Tr TI:=v (v (v .e .e) .e) (u t253 (v .e .e) .e)
def TU:Tr TI:=v (v (u t37 Pr abt) (v O8 L8)) (u t29 (v Ph ac7) (v OU LY))
def acQ:Tr TI:=v (v (v .e .e) (v .e .e)) (v (v .e .e) .e)
def OR:Tr TI:=u t96 (v (v .e .e) .e) (v (v .e .e) .e)
def Pe:Tr TI:=v (u t144 (v .e .e) (v .e .e)) (v (y t336) .e)
def Md:Tr TI:=v (v (v .e .e) .e) (u t240 (v .e .e) .e)
def aaw:Tr TI:=v (u t136 (v .e .e) (v .e .e)) (v (v .e .e) .e)
def Mm:Tr TI:=v (v (y t296) .e) (u t232 (v .e .e) .e)
def acm:Tr TI:=u t88 (u t152 (v .e .e) .e) (v (v .e .e) .e)
def L5:Tr TI:=v (v (v .e .e) .e) (v (v .e .e) .e)
def Xe:Tr TI:=u acY (v (u t32 acQ OR) (u t48 Pe Md)) (u t24 (v aaw Mm) (v acm L5))
def Ps:Tr TI:=u t68 (u t132 (v .e .e) (v .e .e)) (v (v .e .e) .e)
def aca:Tr TI:=v (v (v .e .e) .e) (u t228 (v .e .e) .e)
def O9:Tr TI:=v (u t148 (v .e .e) .e) (u t212 (y t340) .e)
def L9:Tr TI:=u t116 (v (v .e .e) .e) (v (v .e .e) .e)
def Pj:Tr TI:=v (v (y t268) (v .e .e)) (v (v .e .e) .e)
def Mh:Tr TI:=v (v (v .e .e) .e) (v (y t364) .e)
def acn:Tr TI:=v (v (v .e .e) .e) (u t220 (v .e .e) .e)
def LZ:Tr TI:=v (v (v .e .e) .e) (v (v .e .e) .e)
def TX:Tr TI:=v (u t20 (v Ps aca) (v O9 L9)) (v (v Pj Mh) (u t60 acn LZ))
def Pv:Tr TI:=u t66 (v (v .e .e) (v .e .e)) (v (y t322) .e)
def OP:Tr TI:=v (v (v .e .e) .e) (v (v .e .e) .e)
def aex:Tr TI:=v (u t146 (v .e .e) .e) (v (v .e .e) .e)
def adV:Tr TI:=v (v (v .e .e) .e) (u t242 (v .e .e) .e)
def Pm:Tr TI:=v (v (v .e .e) (v .e .e)) (v (v .e .e) .e)
def Mj:Tr TI:=v (u t170 (v .e .e) .e) (u t234 (v .e .e) .e)
def acB:Tr TI:=v (v (v .e .e) .e) (v (v .e .e) .e)
def L3:Tr TI:=v (v (v .e .e) .e) (u t250 (v .e .e) .e)
def TZ:Tr TI:=u t10 (v (u t34 Pv OP) (u t50 aex adV)) (v (v Pm Mj) (u t58 acB L3))
def adP:Tr TI:=v (u t134 (v .e .e) (v .e .e)) (v (v .e .e) .e)
def Mp:Tr TI:=v (v (y t294) .e) (u t230 (v .e .e) .e)
def O7:Tr TI:=v (u t150 (v .e .e) .e) (v (v .e .e) .e)
def L7:Tr TI:=v (v (v .e .e) .e) (v (v .e .e) .e)
def Pg:Tr TI:=u t78 (u t142 (v .e .e) (v .e .e)) (v (v .e .e) .e)
def abR:Tr TI:=v (v (v .e .e) .e) (u t238 (v .e .e) .e)
def OT:Tr TI:=v (v (v .e .e) .e) (v (v .e .e) .e)
def LX:Tr TI:=v (v (v .e .e) .e) (v (v .e .e) .e)
def TT:Tr TI:=v (u t22 (u t38 adP Mp) (u t54 O7 L7)) (u t30 (u t46 Pg abR) (u t62 OT LX))
def II:Tr TI:=v (v (u t3 Xf ab6) (u t5 adY TU)) (u t2 (u t4 Xe TX) (u t6 TZ TT))
noncomputable def acS:Tr Func:=u f63 (u f127 (v .e .e) .e) (u f191 (v .e .e) .e)
noncomputable def RE:Tr Func:=u f95 (u f159 (v .e .e) .e) (v (v .e .e) .e)
noncomputable def RX:Tr Func:=u f79 (v (v .e .e) .e) (u f207 (y f335) .e)
noncomputable def aby:Tr Func:=v (u f175 (v .e .e) .e) (v (v .e .e) .e)
noncomputable def R6:Tr Func:=u f71 (u f135 (v .e .e) .e) (v (v .e .e) .e)
noncomputable def adh:Tr Func:=v (u f167 (v .e .e) .e) (v (v .e .e) .e)
noncomputable def aa6:Tr Func:=u f87 (v (y f279) .e) (u f215 (v .e .e) .e)
noncomputable def Nu:Tr Func:=u f119 (u f183 (y f311) .e) (u f247 (v .e .e) .e)
noncomputable def X2:Tr Func:=u Tryz.f7 (u f15 (u f31 acS RE) (u f47 RX aby)) (u f23 (u f39 R6 adh) (u f55 aa6 Nu))
noncomputable def ab3:Tr Func:=u f67 (u f131 (v .e .e) .e) (v (v .e .e) .e)
noncomputable def aaF:Tr Func:=u f99 (u f163 (v .e .e) .e) (v (v .e .e) .e)
noncomputable def ad4:Tr Func:=u f83 (u f147 (y f275) .e) (u f211 (v .e .e) .e)
noncomputable def Ny:Tr Func:=u f115 (u f179 (v .e .e) .e) (v (v .e .e) .e)
noncomputable def R1:Tr Func:=u f75 (v (v .e .e) .e) (v (y f331) .e)
noncomputable def NH:Tr Func:=u f107 (u f171 (y f299) .e) (u f235 (v .e .e) .e)
noncomputable def acs:Tr Func:=u f91 (v (v .e .e) .e) (u f219 (v .e .e) .e)
noncomputable def aea:Tr Func:=u f123 (v (v .e .e) .e) (y f251)
noncomputable def Vz:Tr Func:=u f11 (u f19 (u f35 ab3 aaF) (u f51 ad4 Ny)) (u f27 (u f43 R1 NH) (u f59 acs aea))
noncomputable def Sc:Tr Func:=u f65 (u f129 (v .e .e) .e) (u f193 (v .e .e) .e)
noncomputable def RC:Tr Func:=u f97 (u f161 (v .e .e) .e) (v (v .e .e) .e)
noncomputable def abC:Tr Func:=u f81 (v (v .e .e) .e) (u f209 (v .e .e) .e)
noncomputable def ac6:Tr Func:=u f113 (u f177 (v .e .e) .e) (u f241 (v .e .e) .e)
noncomputable def aco:Tr Func:=u f73 (u f137 (v .e .e) .e) (v (v .e .e) .e)
noncomputable def NJ:Tr Func:=u f105 (u f169 (y f297) .e) (v (v .e .e) .e)
noncomputable def acd:Tr Func:=u f89 (v (v .e .e) .e) (u f217 (v .e .e) .e)
noncomputable def abF:Tr Func:=u f121 (v (y f313) .e) (u f249 (v .e .e) .e)
noncomputable def abT:Tr Func:=u Tryz.f9 (u f17 (u f33 Sc RC) (u f49 abC ac6)) (u f25 (u f41 aco NJ) (u f57 acd abF))
noncomputable def aaK:Tr Func:=u f69 (u f133 (v .e .e) .e) (v (y f325) .e)
noncomputable def NN:Tr Func:=u f101 (u f165 (y f293) .e) (u f229 (v .e .e) .e)
noncomputable def ad1:Tr Func:=u f85 (u f149 (y f277) .e) (u f213 (v .e .e) .e)
noncomputable def ack:Tr Func:=u f117 (u f181 (v .e .e) .e) (v (v .e .e) .e)
noncomputable def RZ:Tr Func:=u f77 (u f141 (y f269) .e) (v (y f333) .e)
noncomputable def aaY:Tr Func:=v (u f173 (v .e .e) .e) (u f237 (v .e .e) .e)
noncomputable def RH:Tr Func:=u f93 (v (v .e .e) .e) (v (v .e .e) .e)
noncomputable def abi:Tr Func:=u f125 (u f189 (v .e .e) .e) (v .e .e)
noncomputable def acJ:Tr Func:=u f13 (u f21 (u f37 aaK NN) (u f53 ad1 ack)) (u f29 (u f45 RZ aaY) (u f61 RH abi))
noncomputable def adN:Tr Func:=u f64 (u f128 (v .e .e) .e) (u f192 (y f320) .e)
noncomputable def RD:Tr Func:=u f96 (u f160 (v .e .e) .e) (v (v .e .e) .e)
noncomputable def RW:Tr Func:=u f80 (v (y f272) .e) (u f208 (v .e .e) .e)
noncomputable def NB:Tr Func:=u f112 (u f176 (v .e .e) .e) (u f240 (v .e .e) .e)
noncomputable def R5:Tr Func:=u f72 (u f136 (v .e .e) .e) (v (v .e .e) .e)
noncomputable def NK:Tr Func:=u f104 (u f168 (y f296) .e) (v (v .e .e) .e)
noncomputable def RN:Tr Func:=u f88 (u f152 (y f280) .e) (u f216 (v .e .e) .e)
noncomputable def adl:Tr Func:=u f120 (u f184 (y f312) .e) (v (v .e .e) .e)
noncomputable def X1:Tr Func:=v (u f16 (u f32 adN RD) (u f48 RW NB)) (u f24 (u f40 R5 NK) (u f56 RN adl))
noncomputable def R9:Tr Func:=u f68 (u f132 (v .e .e) .e) (v (y f324) .e)
noncomputable def NO:Tr Func:=u f100 (u f164 (y f292) .e) (u f228 (v .e .e) .e)
noncomputable def RS:Tr Func:=u f84 (u f148 (y f276) .e) (u f212 (y f340) .e)
noncomputable def acK:Tr Func:=u f116 (u f180 (y f308) .e) (v (v .e .e) .e)
noncomputable def R0:Tr Func:=u f76 (v (v .e .e) .e) (v (y f332) .e)
noncomputable def abI:Tr Func:=u f108 (u f172 (y f300) .e) (u f236 (v .e .e) .e)
noncomputable def RI:Tr Func:=u f92 (v (v .e .e) .e) (v (v .e .e) .e)
noncomputable def abM:Tr Func:=u f124 (u f188 (v .e .e) .e) (v .e .e)
noncomputable def Vy:Tr Func:=u f12 (u f20 (u f36 R9 NO) (u f52 RS acK)) (u f28 (u f44 R0 abI) (u f60 RI abM))
noncomputable def aax:Tr Func:=u f66 (u f130 (v .e .e) .e) (v (v .e .e) .e)
noncomputable def abo:Tr Func:=u f98 (u f162 (v .e .e) .e) (v (v .e .e) .e)
noncomputable def RU:Tr Func:=u f82 (u f146 (y f274) .e) (u f210 (v .e .e) .e)
noncomputable def Nz:Tr Func:=u f114 (u f178 (v .e .e) .e) (v (v .e .e) .e)
noncomputable def adW:Tr Func:=u f74 (u f138 (v .e .e) .e) (v (v .e .e) .e)
noncomputable def acg:Tr Func:=u f106 (u f170 (y f298) .e) (u f234 (v .e .e) .e)
noncomputable def RL:Tr Func:=u f90 (v (y f282) .e) (u f218 (v .e .e) .e)
noncomputable def aaO:Tr Func:=u f122 (v (y f314) .e) (u f250 (v .e .e) .e)
noncomputable def VA:Tr Func:=u f10 (u f18 (u f34 aax abo) (u f50 RU Nz)) (u f26 (u f42 adW acg) (v RL aaO))
noncomputable def aaX:Tr Func:=u f70 (u f134 (v .e .e) .e) (v (v .e .e) .e)
noncomputable def NM:Tr Func:=u f102 (u f166 (y f294) .e) (u f230 (v .e .e) .e)
noncomputable def adt:Tr Func:=u f86 (u f150 (v .e .e) .e) (u f214 (v .e .e) .e)
noncomputable def Nv:Tr Func:=u f118 (u f182 (v .e .e) .e) (u f246 (v .e .e) .e)
noncomputable def RY:Tr Func:=u f78 (v (v .e .e) .e) (u f206 (v .e .e) .e)
noncomputable def aaT:Tr Func:=u f110 (u f174 (v .e .e) .e) (v (v .e .e) .e)
noncomputable def RG:Tr Func:=u f94 (u f158 (v .e .e) .e) (v (v .e .e) .e)
noncomputable def Nn:Tr Func:=u f126 (u f190 (v .e .e) .e) (v .e .e)
noncomputable def aa1:Tr Func:=u f14 (u f22 (u f38 aaX NM) (u f54 adt Nv)) (u f30 (u f46 RY aaT) (u f62 RG Nn))
noncomputable def JD:Tr Func:=v (v (v X2 Vz) (v abT acJ)) (v (u Tryz.f4 X1 Vy) (u Tryz.f6 VA aa1))
noncomputable def df:Tr LO:=(Tr.set .e 103 (nd f103))
noncomputable def cl:Tr Wa:=(Tr.set .e 151 (Hz f151))
noncomputable def _root_.Go.Proofs.YthffgohpkjpkbaaGreatDoor.TE:Env:={ty:=II,fn:=JD,G:=10,df:=df,cl:=cl}
set_option maxRecDepth 100000
def TS:(II.wD 1 0).map (λp=>XC Tryz.prog p.1)=(II.wD 1 0).map (λp=>some p.2):=bv
def Vv:(JD.wD 1 0).map (λp=>Tryz.prog.funcs[p.1]?)=(JD.wD 1 0).map (λp=>some p.2):=bv
def aee:df.wD 1 0=[(103,nd f103)]:=bv
def ad7:Tryz.prog.funcs[103]?=some (nd f103).fn:=bv
def JL:(nd f103).fn.body=some (nP (nd f103).pre (.seq (.region (nd f103).id #[(nd f103).mf,(nd f103).de] false) (nd f103).post)):=bv
def ZT:∀x∈ [(103,nd f103)],Tryz.prog.funcs[x.1]?=some x.2.fn/\x.2.fn.body=some (nP x.2.pre (.seq (.region x.2.id #[x.2.mf,x.2.de] false) x.2.post)):=by intro x F;simp only[VM,DA,or_false]at F;rcases F with rfl;exact⟨ad7,JL⟩
def aam:cl.wD 1 0=[(151,Hz f151)]:=bv
def SS:Tryz.prog.funcs[151]?=some (Hz f151).fn:=bv
def JT:(Hz f151).fn.body=some (.seq (.region (Hz f151).id (Hz f151).ops false) (Hz f151).rest):=bv
def aaM:∀x∈ [(151,Hz f151)],Tryz.prog.funcs[x.1]?=some x.2.fn/\x.2.fn.body=some (.seq (.region x.2.id x.2.ops false) x.2.rest):=by intro x F;simp only[VM,DA,or_false]at F;rcases F with rfl;exact⟨SS,JT⟩
def nJ{α:Type}{p:α->Bool}(n:Nat)(l:List α)(F:(l.take n).all p=true)(H:(l.drop n).all p=true):l.all p=true:=by rw[<-Jy n l,JH,F,H];rfl
def aae:((TE.fn.wD 1 0).take 40).all (λp=>nc TE.G p.2)=true:=bv
def aad:(((TE.fn.wD 1 0).drop 40).take 40).all (λp=>nc TE.G p.2)=true:=bv
def aac:((((TE.fn.wD 1 0).drop 40).drop 40).take 40).all (λp=>nc TE.G p.2)=true:=bv
def aab:(((((TE.fn.wD 1 0).drop 40).drop 40).drop 40).take 40).all (λp=>nc TE.G p.2)=true:=bv
def aaa:((((((TE.fn.wD 1 0).drop 40).drop 40).drop 40).drop 40).take 40).all (λp=>nc TE.G p.2)=true:=bv
def aeG:(((((((TE.fn.wD 1 0).drop 40).drop 40).drop 40).drop 40).drop 40).take 40).all (λp=>nc TE.G p.2)=true:=bv
def chk_e:(((((((TE.fn.wD 1 0).drop 40).drop 40).drop 40).drop 40).drop 40).drop 40).all (λp=>nc TE.G p.2)=true:=bv
def aa3:(TE.fn.wD 1 0).all (λp=>nc TE.G p.2)=true:=(nJ 40 _ aae (nJ 40 _ aad (nJ 40 _ aac (nJ 40 _ aab (nJ 40 _ aaa (nJ 40 _ aeG chk_e))))))
def Z7:((TE.ty.wD 1 0).all λp=>(match p.2.zero with|some z=>aZ z|none=>true) && (match p.2.d with |.struct F=>F.all (λf=>match TE.ty.get f.ty with|some fi=>fi.size==f.size|none=>false)|_=>true))=true:=bv
def aaf:((TE.df.wD 1 0).all (λp=>nc TE.G p.2.fn) && (TE.cl.wD 1 0).all λp=>nc TE.G p.2.fn)=true:=bv
def IA:TE.IA=true:=by unfold Env.IA;rw[G4,G4];exact⟨Z7,aa3,aaf⟩
def size:TE.G=Tryz.prog.globals.size:=bv
def st1:TE.fn.get Ds=none:=bv
def st2:TE.df.get Ds=none:=bv
def ok:TE.OK Tryz.prog:=⟨⟨st1,st2⟩,λ_ _ h=>Tr.Af _ TS h,λ_ _ h=>Tr.Af _ Vv h,size,λ_ _ h=>Tr.KF (p:=λi d=>Tryz.prog.funcs[i]?=some d.fn/\d.fn.body=some (nP d.pre (.seq (.region d.id #[d.mf,d.de] false) d.post))) _ aee ZT h,λ_ _ h=>Tr.KF (p:=λi d=>Tryz.prog.funcs[i]?=some d.fn/\d.fn.body=some (.seq (.region d.id d.ops false) d.rest)) _ aam aaM h,IA,Checked.mixed Tryz.checked⟩
