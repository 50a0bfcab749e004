/- The tables of the program for D, .. -/
import Derived.Test.YthffgohpkjpkbaaGreatDoorG0J
import Derived.Test.YthffgohpkjpkbaaGreatDoorChecked
set_option linter.defProp false
namespace Go.Proofs.YthffgohpkjpkbaaGreatDoor
open Go Go.D Go.Proofs.Tryz
namespace ai
def y{α:Type}(i:α):Tr α:=.n (some i) .e .e
def u{α:Type}(i:α)(j k:Tr α):Tr α:=.n (some i) j k
def v{α:Type}(j k:Tr α):Tr α:=.n none j k
def t2:TI:=⟨.int .i64,1,8,0,some (.int .i64 0),none⟩
def t3:TI:=⟨.int .i64,1,8,0,some (.int .i64 0),none⟩
def t4:TI:=⟨.bool,1,1,0,some (.bool false),none⟩
def t5:TI:=⟨.int .u8,1,1,0,some (.int .u8 0),none⟩
def t6:TI:=t5
def t8:TI:=⟨.struct [⟨2,0,1,false⟩,⟨3,1,1,false⟩,⟨4,2,1,false⟩,⟨6,3,1,false⟩],4,24,0,some (.agg #[.int .i64 0,.int .i64 0,.bool false,.int .u8 0]),some [.i,.i,.b,.i]⟩
def t9:TI:=⟨.str,1,16,0,some (.string ⟨#[]⟩),none⟩
def t10:TI:=t9
def t20:TI:=⟨.iface true,1,16,0,some (.nilIface),none⟩
def t22:TI:=⟨.slice 62,1,24,6,some (.slice none 0 0),none⟩
def t23:TI:=⟨.slice 157,1,24,4,some (.slice none 0 0),none⟩
def t24:TI:=⟨.struct [⟨22,0,1,false⟩,⟨23,1,1,false⟩,⟨22,2,1,false⟩],3,72,0,some (.agg #[.slice none 0 0,.slice none 0 0,.slice none 0 0]),none⟩
def t25:TI:=t24
def t27:TI:=⟨.slice 43,1,24,6,some (.slice none 0 0),none⟩
def t29:TI:=⟨.struct [⟨27,0,1,false⟩],1,24,0,some (.agg #[.slice none 0 0]),none⟩
def t30:TI:=⟨.slice 68,1,24,5,some (.slice none 0 0),none⟩
def t32:TI:=⟨.struct [⟨29,0,1,false⟩,⟨30,1,1,false⟩],2,48,0,some (.agg #[.slice none 0 0,.slice none 0 0]),none⟩
def t33:TI:=⟨.slice 85,1,24,7,some (.slice none 0 0),none⟩
def t34:TI:=⟨.slice 103,1,24,2,some (.slice none 0 0),none⟩
def t35:TI:=⟨.slice 60,1,24,3,some (.slice none 0 0),none⟩
def t37:TI:=⟨.struct [⟨32,0,2,false⟩,⟨33,2,1,false⟩,⟨34,3,1,false⟩,⟨35,4,1,false⟩],5,120,0,some (.agg #[.slice none 0 0,.slice none 0 0,.slice none 0 0,.slice none 0 0,.slice none 0 0]),none⟩
def t38:TI:=⟨.slice 58,1,24,11,some (.slice none 0 0),none⟩
def t41:TI:=⟨.slice 46,1,24,2,some (.slice none 0 0),none⟩
def t43:TI:=⟨.struct [⟨3,0,1,false⟩,⟨3,1,1,false⟩,⟨3,2,1,false⟩,⟨41,3,1,false⟩,⟨3,4,1,false⟩,⟨3,5,1,false⟩],6,64,0,some (.agg #[.int .i64 0,.int .i64 0,.int .i64 0,.slice none 0 0,.int .i64 0,.int .i64 0]),none⟩
def t46:TI:=⟨.struct [⟨3,0,1,false⟩,⟨3,1,1,false⟩],2,16,0,some (.agg #[.int .i64 0,.int .i64 0]),some [.i,.i]⟩
def t48:TI:=⟨.struct [⟨46,0,2,false⟩,⟨46,2,2,false⟩],4,32,0,some (.agg #[.int .i64 0,.int .i64 0,.int .i64 0,.int .i64 0]),some [.i,.i,.i,.i]⟩
def t50:TI:=⟨.struct [⟨3,0,1,false⟩,⟨3,1,1,false⟩,⟨48,2,4,false⟩,⟨3,6,1,false⟩,⟨3,7,1,false⟩],8,64,0,some (.agg #[.int .i64 0,.int .i64 0,.int .i64 0,.int .i64 0,.int .i64 0,.int .i64 0,.int .i64 0,.int .i64 0]),some [.i,.i,.i,.i,.i,.i,.i,.i]⟩
def t54:TI:=⟨.int .i64,1,8,0,some (.int .i64 0),none⟩
def t58:TI:=⟨.struct [⟨3,0,1,false⟩,⟨43,1,6,false⟩,⟨3,7,1,false⟩,⟨3,8,1,false⟩,⟨3,9,1,false⟩,⟨3,10,1,false⟩],11,104,0,some (.agg #[.int .i64 0,.int .i64 0,.int .i64 0,.int .i64 0,.slice none 0 0,.int .i64 0,.int .i64 0,.int .i64 0,.int .i64 0,.int .i64 0,.int .i64 0]),none⟩
def t60:TI:=⟨.struct [⟨3,0,1,false⟩,⟨3,1,1,false⟩,⟨3,2,1,false⟩],3,24,0,some (.agg #[.int .i64 0,.int .i64 0,.int .i64 0]),some [.i,.i,.i]⟩
def t62:TI:=⟨.array 6 3,6,48,1,some (.agg #[.int .i64 0,.int .i64 0,.int .i64 0,.int .i64 0,.int .i64 0,.int .i64 0]),some [.i,.i,.i,.i,.i,.i]⟩
def t66:TI:=⟨.func,1,8,0,some (.nilFunc),none⟩
def t68:TI:=⟨.struct [⟨3,0,1,false⟩,⟨3,1,1,false⟩,⟨3,2,1,false⟩,⟨3,3,1,false⟩,⟨4,4,1,false⟩],5,40,0,some (.agg #[.int .i64 0,.int .i64 0,.int .i64 0,.int .i64 0,.bool false]),some [.i,.i,.i,.i,.b]⟩
def t78:TI:=⟨.slice 87,1,24,15,some (.slice none 0 0),none⟩
def t85:TI:=⟨.struct [⟨43,0,6,false⟩,⟨30,6,1,false⟩],7,88,0,some (.agg #[.int .i64 0,.int .i64 0,.int .i64 0,.slice none 0 0,.int .i64 0,.int .i64 0,.slice none 0 0]),none⟩
def t87:TI:=⟨.struct [⟨3,0,1,false⟩,⟨43,1,6,false⟩,⟨3,7,1,false⟩,⟨3,8,1,false⟩,⟨3,9,1,false⟩,⟨68,10,5,false⟩],15,136,0,some (.agg #[.int .i64 0,.int .i64 0,.int .i64 0,.int .i64 0,.slice none 0 0,.int .i64 0,.int .i64 0,.int .i64 0,.int .i64 0,.int .i64 0,.int .i64 0,.int .i64 0,.int .i64 0,.int .i64 0,.bool false]),none⟩
def t88:TI:=t66
def t96:TI:=⟨.struct [⟨3,0,1,false⟩,⟨3,1,1,false⟩,⟨3,2,1,false⟩,⟨3,3,1,false⟩,⟨3,4,1,false⟩],5,40,0,some (.agg #[.int .i64 0,.int .i64 0,.int .i64 0,.int .i64 0,.int .i64 0]),some [.i,.i,.i,.i,.i]⟩
def t103:TI:=⟨.struct [⟨3,0,1,false⟩,⟨3,1,1,false⟩],2,16,0,some (.agg #[.int .i64 0,.int .i64 0]),some [.i,.i]⟩
def t109:TI:=t66
def t111:TI:=t66
def t113:TI:=t66
def t116:TI:=⟨.slice 3,1,24,1,some (.slice none 0 0),none⟩
def t117:TI:=⟨.slice 50,1,24,8,some (.slice none 0 0),none⟩
def t131:TI:=⟨.ptr 134,1,8,0,some (.pointer none),none⟩
def t132:TI:=⟨.slice 5,1,24,1,some (.slice none 0 0),none⟩
def t134:TI:=⟨.struct [⟨131,0,1,false⟩,⟨132,1,1,false⟩],2,32,0,some (.agg #[.pointer none,.slice none 0 0]),none⟩
def t136:TI:=⟨.iface false,1,16,0,some (.nilIface),none⟩
def t142:TI:=⟨.slice 145,1,24,1,some (.slice none 0 0),none⟩
def t144:TI:=⟨.ptr 58,1,8,0,some (.pointer none),none⟩
def t145:TI:=⟨.ptr 3,1,8,0,some (.pointer none),none⟩
def t146:TI:=t66
def t148:TI:=⟨.map 3 4,1,8,0,some (.map none),none⟩
def t149:TI:=⟨.func,1,8,0,some (.nilFunc),none⟩
def t150:TI:=t66
def t151:TI:=t66
def t152:TI:=t66
def t157:TI:=⟨.array 4 3,4,32,1,some (.agg #[.int .i64 0,.int .i64 0,.int .i64 0,.int .i64 0]),some [.i,.i,.i,.i]⟩
def t165:TI:=t66
def t170:TI:=t66
def t191:TI:=⟨.slice 9,1,24,1,some (.slice none 0 0),none⟩
def t193:TI:=⟨.map 9 3,1,8,0,some (.map none),none⟩
def t197:TI:=t66
def t199:TI:=⟨.array 10 9,10,160,1,some (.agg #[.string ⟨#[]⟩,.string ⟨#[]⟩,.string ⟨#[]⟩,.string ⟨#[]⟩,.string ⟨#[]⟩,.string ⟨#[]⟩,.string ⟨#[]⟩,.string ⟨#[]⟩,.string ⟨#[]⟩,.string ⟨#[]⟩]),some [.s,.s,.s,.s,.s,.s,.s,.s,.s,.s]⟩
def t207:TI:=t66
def t209:TI:=t66
def t212:TI:=⟨.array 8 96,40,320,5,some (.agg #[.int .i64 0,.int .i64 0,.int .i64 0,.int .i64 0,.int .i64 0,.int .i64 0,.int .i64 0,.int .i64 0,.int .i64 0,.int .i64 0,.int .i64 0,.int .i64 0,.int .i64 0,.int .i64 0,.int .i64 0,.int .i64 0,.int .i64 0,.int .i64 0,.int .i64 0,.int .i64 0,.int .i64 0,.int .i64 0,.int .i64 0,.int .i64 0,.int .i64 0,.int .i64 0,.int .i64 0,.int .i64 0,.int .i64 0,.int .i64 0,.int .i64 0,.int .i64 0,.int .i64 0,.int .i64 0,.int .i64 0,.int .i64 0,.int .i64 0,.int .i64 0,.int .i64 0,.int .i64 0]),some [.i,.i,.i,.i,.i,.i,.i,.i,.i,.i,.i,.i,.i,.i,.i,.i,.i,.i,.i,.i,.i,.i,.i,.i,.i,.i,.i,.i,.i,.i,.i,.i,.i,.i,.i,.i,.i,.i,.i,.i]⟩
def t220:TI:=⟨.int .u64,1,8,0,some (.int .u64 0),none⟩
def t228:TI:=t66
def t229:TI:=t66
def t230:TI:=t66
def t231:TI:=t66
def t232:TI:=t66
def t234:TI:=⟨.struct [⟨228,0,1,false⟩,⟨229,1,1,false⟩,⟨230,2,1,false⟩,⟨231,3,1,false⟩,⟨232,4,1,false⟩],5,40,0,some (.agg #[.nilFunc,.nilFunc,.nilFunc,.nilFunc,.nilFunc]),none⟩
def t238:TI:=⟨.struct [],0,0,0,some (.agg #[]),some []⟩
def t240:TI:=⟨.ptr 242,1,8,0,some (.pointer none),none⟩
def t242:TI:=⟨.struct [⟨32,0,2,false⟩],2,48,0,some (.agg #[.slice none 0 0,.slice none 0 0]),none⟩
def t250:TI:=t66
def t253:TI:=t66
def t268:TI:=⟨.map 3 234,1,8,0,some (.map none),none⟩
def t281:TI:=t66
def t287:TI:=t2
def t294:TI:=⟨.int .u32,1,4,0,some (.int .u32 0),none⟩
def t296:TI:=t220
def t303:TI:=⟨.slice 307,1,24,3,some (.slice none 0 0),none⟩
def t305:TI:=⟨.slice 309,1,24,3,some (.slice none 0 0),none⟩
def t307:TI:=⟨.struct [⟨3,0,1,false⟩,⟨3,1,1,false⟩,⟨3,2,1,false⟩],3,24,0,some (.agg #[.int .i64 0,.int .i64 0,.int .i64 0]),some [.i,.i,.i]⟩
def t309:TI:=⟨.struct [⟨3,0,1,false⟩,⟨3,1,1,false⟩,⟨3,2,1,false⟩],3,24,0,some (.agg #[.int .i64 0,.int .i64 0,.int .i64 0]),some [.i,.i,.i]⟩
def t322:TI:=t66
def t336:TI:=⟨.array 24 5,24,24,1,some (.agg #[.int .u8 0,.int .u8 0,.int .u8 0,.int .u8 0,.int .u8 0,.int .u8 0,.int .u8 0,.int .u8 0,.int .u8 0,.int .u8 0,.int .u8 0,.int .u8 0,.int .u8 0,.int .u8 0,.int .u8 0,.int .u8 0,.int .u8 0,.int .u8 0,.int .u8 0,.int .u8 0,.int .u8 0,.int .u8 0,.int .u8 0,.int .u8 0]),some [.i,.i,.i,.i,.i,.i,.i,.i,.i,.i,.i,.i,.i,.i,.i,.i,.i,.i,.i,.i,.i,.i,.i,.i]⟩
def t340:TI:=⟨.slice 96,1,24,5,some (.slice none 0 0),none⟩
def t364:TI:=⟨.array 20 296,20,160,1,some (.agg #[.int .u64 0,.int .u64 0,.int .u64 0,.int .u64 0,.int .u64 0,.int .u64 0,.int .u64 0,.int .u64 0,.int .u64 0,.int .u64 0,.int .u64 0,.int .u64 0,.int .u64 0,.int .u64 0,.int .u64 0,.int .u64 0,.int .u64 0,.int .u64 0,.int .u64 0,.int .u64 0]),some [.i,.i,.i,.i,.i,.i,.i,.i,.i,.i,.i,.i,.i,.i,.i,.i,.i,.i,.i,.i]⟩
def adl:Tr TI:=v (v (v .e .e) (v .e .e)) (u t191 (v .e .e) .e)
def OB:Tr TI:=v (v (y t287) .e) (v (v .e .e) .e)
def aaM:Tr TI:=v (v (v .e .e) (v .e .e)) (u t207 (v .e .e) .e)
def LW:Tr TI:=u t111 (v (y t303) .e) (v (v .e .e) .e)
def O6:Tr TI:=v (v (v .e .e) (v .e .e)) (u t199 (v .e .e) .e)
def aej:Tr TI:=u t103 (v (v .e .e) .e) (u t231 (v .e .e) .e)
def acT:Tr TI:=u t87 (u t151 (v .e .e) .e) (v (v .e .e) .e)
def abA:Tr TI:=v (v (v .e .e) .e) (v (v .e .e) .e)
def adZ:Tr TI:=v (v (v adl OB) (v aaM LW)) (u t23 (v O6 aej) (v acT abA))
def Pb:Tr TI:=v (u t131 (v .e .e) (v .e .e)) (v (v .e .e) .e)
def Ox:Tr TI:=v (v (v .e .e) .e) (v (v .e .e) .e)
def OO:Tr TI:=v (v (v .e .e) .e) (v (v .e .e) .e)
def LQ:Tr TI:=v (v (y t307) .e) (v (v .e .e) .e)
def OW:Tr TI:=v (v (v .e .e) (v .e .e)) (v (v .e .e) .e)
def L0:Tr TI:=v (v (v .e .e) .e) (v (v .e .e) .e)
def OF:Tr TI:=v (v (v .e .e) .e) (v (v .e .e) .e)
def LH:Tr TI:=v (v (v .e .e) .e) (v (v .e .e) .e)
def TB:Tr TI:=v (v (u t35 Pb Ox) (v OO LQ)) (u t27 (u t43 OW L0) (v OF LH))
def Pd:Tr TI:=v (v (v .e .e) (v .e .e)) (u t193 (v .e .e) .e)
def Oz:Tr TI:=v (v (v .e .e) .e) (v (v .e .e) .e)
def acj:Tr TI:=v (u t145 (v .e .e) (v .e .e)) (u t209 (v .e .e) .e)
def aa8:Tr TI:=u t113 (v (y t305) .e) (v (v .e .e) .e)
def OY:Tr TI:=v (v (v .e .e) (v .e .e)) (v (v .e .e) .e)
def L2:Tr TI:=v (v (v .e .e) .e) (v (v .e .e) .e)
def OH:Tr TI:=v (v (y t281) .e) (v (v .e .e) .e)
def LJ:Tr TI:=v (v (v .e .e) .e) (v (v .e .e) .e)
def WO:Tr TI:=u t9 (v (u t33 Pd Oz) (v acj aa8)) (u t25 (u t41 OY L2) (v OH LJ))
def O8:Tr TI:=v (v (v .e .e) (v .e .e)) (u t197 (v .e .e) .e)
def aaJ:Tr TI:=v (u t165 (v .e .e) .e) (u t229 (v .e .e) .e)
def OM:Tr TI:=u t85 (u t149 (v .e .e) .e) (v (v .e .e) .e)
def ac8:Tr TI:=u t117 (v (y t309) .e) (v (v .e .e) .e)
def ad7:Tr TI:=v (v (v .e .e) (v .e .e)) (v (v .e .e) .e)
def LY:Tr TI:=u t109 (v (v .e .e) .e) (v (v .e .e) .e)
def OD:Tr TI:=v (u t157 (v .e .e) .e) (v (v .e .e) .e)
def aeh:Tr TI:=v (v (v .e .e) .e) (u t253 (v .e .e) .e)
def Tz:Tr TI:=v (v (u t37 O8 aaJ) (v OM ac8)) (u t29 (v ad7 LY) (v OD aeh))
def Pe:Tr TI:=v (v (v .e .e) (v .e .e)) (v (v .e .e) .e)
def adw:Tr TI:=u t96 (v (v .e .e) .e) (v (v .e .e) .e)
def abz:Tr TI:=v (u t144 (v .e .e) (v .e .e)) (v (y t336) .e)
def LV:Tr TI:=v (v (v .e .e) .e) (u t240 (v .e .e) .e)
def OZ:Tr TI:=v (u t136 (v .e .e) (v .e .e)) (v (v .e .e) .e)
def abe:Tr TI:=v (v (y t296) .e) (u t232 (v .e .e) .e)
def OI:Tr TI:=u t88 (u t152 (v .e .e) .e) (v (v .e .e) .e)
def aaw:Tr TI:=v (v (v .e .e) .e) (v (v .e .e) .e)
def aa4:Tr TI:=u t8 (v (u t32 Pe adw) (u t48 abz LV)) (u t24 (v OZ abe) (v OI aaw))
def aaH:Tr TI:=u t68 (u t132 (v .e .e) (v .e .e)) (v (v .e .e) .e)
def L7:Tr TI:=v (v (v .e .e) .e) (u t228 (v .e .e) .e)
def ON:Tr TI:=v (u t148 (v .e .e) .e) (u t212 (y t340) .e)
def aaV:Tr TI:=u t116 (v (v .e .e) .e) (v (v .e .e) .e)
def OV:Tr TI:=v (v (y t268) (v .e .e)) (v (v .e .e) .e)
def LZ:Tr TI:=v (v (v .e .e) .e) (v (y t364) .e)
def ab6:Tr TI:=v (v (v .e .e) .e) (u t220 (v .e .e) .e)
def LG:Tr TI:=v (v (v .e .e) .e) (v (v .e .e) .e)
def TA:Tr TI:=v (u t20 (v aaH L7) (v ON aaV)) (v (v OV LZ) (u t60 ab6 LG))
def Pc:Tr TI:=u t66 (v (v .e .e) (v .e .e)) (v (y t322) .e)
def Oy:Tr TI:=v (v (v .e .e) .e) (v (v .e .e) .e)
def aaZ:Tr TI:=v (u t146 (v .e .e) .e) (v (v .e .e) .e)
def acL:Tr TI:=v (v (v .e .e) .e) (u t242 (v .e .e) .e)
def OX:Tr TI:=v (v (v .e .e) (v .e .e)) (v (v .e .e) .e)
def aco:Tr TI:=v (u t170 (v .e .e) .e) (u t234 (v .e .e) .e)
def OG:Tr TI:=v (v (v .e .e) .e) (v (v .e .e) .e)
def ad4:Tr TI:=v (v (v .e .e) .e) (u t250 (v .e .e) .e)
def TC:Tr TI:=u t10 (v (u t34 Pc Oy) (u t50 aaZ acL)) (v (v OX aco) (u t58 OG ad4))
def acK:Tr TI:=v (u t134 (v .e .e) (v .e .e)) (v (v .e .e) .e)
def aaS:Tr TI:=v (v (y t294) .e) (u t230 (v .e .e) .e)
def acr:Tr TI:=v (u t150 (v .e .e) .e) (v (v .e .e) .e)
def LN:Tr TI:=v (v (v .e .e) .e) (v (v .e .e) .e)
def OT:Tr TI:=u t78 (u t142 (v .e .e) (v .e .e)) (v (v .e .e) .e)
def LX:Tr TI:=v (v (v .e .e) .e) (u t238 (v .e .e) .e)
def ad1:Tr TI:=v (v (v .e .e) .e) (v (v .e .e) .e)
def adj:Tr TI:=v (v (v .e .e) .e) (v (v .e .e) .e)
def Ty:Tr TI:=v (u t22 (u t38 acK aaS) (u t54 acr LN)) (u t30 (u t46 OT LX) (u t62 ad1 adj))
def Iq:Tr TI:=v (v (u t3 adZ TB) (u t5 WO Tz)) (u t2 (u t4 aa4 TA) (u t6 TC Ty))
noncomputable def RW:Tr Func:=u f63 (u f127 (v .e .e) .e) (u f191 (v .e .e) .e)
noncomputable def Rn:Tr Func:=u f95 (u f159 (v .e .e) .e) (v (v .e .e) .e)
noncomputable def RD:Tr Func:=u f79 (v (v .e .e) .e) (u f207 (y f335) .e)
noncomputable def Nn:Tr Func:=v (u f175 (v .e .e) .e) (v (v .e .e) .e)
noncomputable def RN:Tr Func:=u f71 (u f135 (v .e .e) .e) (v (v .e .e) .e)
noncomputable def Nv:Tr Func:=v (u f167 (v .e .e) .e) (v (v .e .e) .e)
noncomputable def Rv:Tr Func:=u f87 (v (y f279) .e) (u f215 (v .e .e) .e)
noncomputable def Nc:Tr Func:=u f119 (u f183 (y f311) .e) (u f247 (v .e .e) .e)
noncomputable def Xx:Tr Func:=u Tryz.f7 (u f15 (u f31 RW Rn) (u f47 RD Nn)) (u f23 (u f39 RN Nv) (u f55 Rv Nc))
noncomputable def RS:Tr Func:=u f67 (u f131 (v .e .e) .e) (v (v .e .e) .e)
noncomputable def Rj:Tr Func:=u f99 (u f163 (v .e .e) .e) (v (v .e .e) .e)
noncomputable def aci:Tr Func:=u f83 (u f147 (y f275) .e) (u f211 (v .e .e) .e)
noncomputable def Ni:Tr Func:=u f115 (u f179 (v .e .e) .e) (v (v .e .e) .e)
noncomputable def adN:Tr Func:=u f75 (v (v .e .e) .e) (v (y f331) .e)
noncomputable def abB:Tr Func:=u f107 (u f171 (y f299) .e) (u f235 (v .e .e) .e)
noncomputable def Rr:Tr Func:=u f91 (v (v .e .e) .e) (u f219 (v .e .e) .e)
noncomputable def M8:Tr Func:=u f123 (v (v .e .e) .e) (y f251)
noncomputable def Va:Tr Func:=u f11 (u f19 (u f35 RS Rj) (u f51 aci Ni)) (u f27 (u f43 adN abB) (u f59 Rr M8))
noncomputable def RU:Tr Func:=u f65 (u f129 (v .e .e) .e) (u f193 (v .e .e) .e)
noncomputable def Rl:Tr Func:=u f97 (u f161 (v .e .e) .e) (v (v .e .e) .e)
noncomputable def RB:Tr Func:=u f81 (v (v .e .e) .e) (u f209 (v .e .e) .e)
noncomputable def acz:Tr Func:=u f113 (u f177 (v .e .e) .e) (u f241 (v .e .e) .e)
noncomputable def aaR:Tr Func:=u f73 (u f137 (v .e .e) .e) (v (v .e .e) .e)
noncomputable def Nt:Tr Func:=u f105 (u f169 (y f297) .e) (v (v .e .e) .e)
noncomputable def Rt:Tr Func:=u f89 (v (v .e .e) .e) (u f217 (v .e .e) .e)
noncomputable def Na:Tr Func:=u f121 (v (y f313) .e) (u f249 (v .e .e) .e)
noncomputable def Xv:Tr Func:=u Tryz.f9 (u f17 (u f33 RU Rl) (u f49 RB acz)) (u f25 (u f41 aaR Nt) (u f57 Rt Na))
noncomputable def aaK:Tr Func:=u f69 (u f133 (v .e .e) .e) (v (y f325) .e)
noncomputable def aaf:Tr Func:=u f101 (u f165 (y f293) .e) (u f229 (v .e .e) .e)
noncomputable def Rx:Tr Func:=u f85 (u f149 (y f277) .e) (u f213 (v .e .e) .e)
noncomputable def Ng:Tr Func:=u f117 (u f181 (v .e .e) .e) (v (v .e .e) .e)
noncomputable def RG:Tr Func:=u f77 (u f141 (y f269) .e) (v (y f333) .e)
noncomputable def aav:Tr Func:=v (u f173 (v .e .e) .e) (u f237 (v .e .e) .e)
noncomputable def Rp:Tr Func:=u f93 (v (v .e .e) .e) (v (v .e .e) .e)
noncomputable def acD:Tr Func:=u f125 (u f189 (v .e .e) .e) (v .e .e)
noncomputable def adS:Tr Func:=u f13 (u f21 (u f37 aaK aaf) (u f53 Rx Ng)) (u f29 (u f45 RG aav) (u f61 Rp acD))
noncomputable def RV:Tr Func:=u f64 (u f128 (v .e .e) .e) (u f192 (y f320) .e)
noncomputable def Rm:Tr Func:=u f96 (u f160 (v .e .e) .e) (v (v .e .e) .e)
noncomputable def RC:Tr Func:=u f80 (v (y f272) .e) (u f208 (v .e .e) .e)
noncomputable def aa6:Tr Func:=u f112 (u f176 (v .e .e) .e) (u f240 (v .e .e) .e)
noncomputable def aan:Tr Func:=u f72 (u f136 (v .e .e) .e) (v (v .e .e) .e)
noncomputable def Nu:Tr Func:=u f104 (u f168 (y f296) .e) (v (v .e .e) .e)
noncomputable def Ru:Tr Func:=u f88 (u f152 (y f280) .e) (u f216 (v .e .e) .e)
noncomputable def Nb:Tr Func:=u f120 (u f184 (y f312) .e) (v (v .e .e) .e)
noncomputable def adr:Tr Func:=u Tryz.f8 (u f16 (u f32 RV Rm) (u f48 RC aa6)) (u f24 (u f40 aan Nu) (u f56 Ru Nb))
noncomputable def aec:Tr Func:=u f68 (u f132 (v .e .e) .e) (v (y f324) .e)
noncomputable def acJ:Tr Func:=u f100 (u f164 (y f292) .e) (u f228 (v .e .e) .e)
noncomputable def Ry:Tr Func:=u f84 (u f148 (y f276) .e) (u f212 (y f340) .e)
noncomputable def Nh:Tr Func:=u f116 (u f180 (y f308) .e) (v (v .e .e) .e)
noncomputable def ack:Tr Func:=u f76 (v (v .e .e) .e) (v (y f332) .e)
noncomputable def Nq:Tr Func:=u f108 (u f172 (y f300) .e) (u f236 (v .e .e) .e)
noncomputable def aaq:Tr Func:=u f92 (v (v .e .e) .e) (v (v .e .e) .e)
noncomputable def M7:Tr Func:=u f124 (u f188 (v .e .e) .e) (v .e .e)
noncomputable def U9:Tr Func:=u f12 (u f20 (u f36 aec acJ) (u f52 Ry Nh)) (u f28 (u f44 ack Nq) (u f60 aaq M7))
noncomputable def aaX:Tr Func:=u f66 (u f130 (v .e .e) .e) (v (v .e .e) .e)
noncomputable def Rk:Tr Func:=u f98 (u f162 (v .e .e) .e) (v (v .e .e) .e)
noncomputable def RA:Tr Func:=u f82 (u f146 (y f274) .e) (u f210 (v .e .e) .e)
noncomputable def Nj:Tr Func:=u f114 (u f178 (v .e .e) .e) (v (v .e .e) .e)
noncomputable def RJ:Tr Func:=u f74 (u f138 (v .e .e) .e) (v (v .e .e) .e)
noncomputable def abO:Tr Func:=u f106 (u f170 (y f298) .e) (u f234 (v .e .e) .e)
noncomputable def adg:Tr Func:=u f90 (v (y f282) .e) (u f218 (v .e .e) .e)
noncomputable def abQ:Tr Func:=u f122 (v (y f314) .e) (u f250 (v .e .e) .e)
noncomputable def aaj:Tr Func:=u f10 (u f18 (u f34 aaX Rk) (u f50 RA Nj)) (u f26 (u f42 RJ abO) (v adg abQ))
noncomputable def RO:Tr Func:=u f70 (u f134 (v .e .e) .e) (v (v .e .e) .e)
noncomputable def Nw:Tr Func:=u f102 (u f166 (y f294) .e) (u f230 (v .e .e) .e)
noncomputable def acW:Tr Func:=u f86 (u f150 (v .e .e) .e) (u f214 (v .e .e) .e)
noncomputable def adf:Tr Func:=u f118 (u f182 (v .e .e) .e) (u f246 (v .e .e) .e)
noncomputable def adx:Tr Func:=u f78 (v (v .e .e) .e) (u f206 (v .e .e) .e)
noncomputable def aal:Tr Func:=u f110 (u f174 (v .e .e) .e) (v (v .e .e) .e)
noncomputable def acN:Tr Func:=u f94 (u f158 (v .e .e) .e) (v (v .e .e) .e)
noncomputable def M5:Tr Func:=u f126 (u f190 (v .e .e) .e) (v .e .e)
noncomputable def aaW:Tr Func:=v (u f22 (u f38 RO Nw) (u f54 acW adf)) (u f30 (u f46 adx aal) (u f62 acN M5))
noncomputable def Jo:Tr Func:=v (v (u Tryz.f3 Xx Va) (v Xv adS)) (v (v adr U9) (u Tryz.f6 aaj aaW))
noncomputable def df:Tr Ly:=(Tr.set .e 103 (nh f103))
noncomputable def cl:Tr VL:=(Tr.set .e 151 (Hg f151))
noncomputable def _root_.Go.Proofs.YthffgohpkjpkbaaGreatDoor.TE:Env:={ty:=Iq,fn:=Jo,G:=10,df:=df,cl:=cl}
set_option maxRecDepth 100000
def adV:(Iq.vZ 1 0).map (λp=>Xb Tryz.prog p.1)=(Iq.vZ 1 0).map (λp=>some p.2):=bv
def U6:(Jo.vZ 1 0).map (λp=>Tryz.prog.funcs[p.1]?)=(Jo.vZ 1 0).map (λp=>some p.2):=bv
def Vj:df.vZ 1 0=[(103,nh f103)]:=bv
def acF:Tryz.prog.funcs[103]?=some (nh f103).fn:=bv
def adJ:(nh f103).fn.body=some (nP (nh f103).pre (.seq (.region (nh f103).id #[(nh f103).mf,(nh f103).de] false) (nh f103).post)):=bv
def Zr:∀x∈ [(103,nh f103)],Tryz.prog.funcs[x.1]?=some x.2.fn/\x.2.fn.body=some (nP x.2.pre (.seq (.region x.2.id #[x.2.mf,x.2.de] false) x.2.post)):=by intro x F;simp only[OS,Dy,or_false]at F;rcases F with rfl;exact⟨acF,adJ⟩
def aa3:cl.vZ 1 0=[(151,Hg f151)]:=bv
def SB:Tryz.prog.funcs[151]?=some (Hg f151).fn:=bv
def JF:(Hg f151).fn.body=some (.seq (.region (Hg f151).id (Hg f151).ops false) (Hg f151).rest):=bv
def Zy:∀x∈ [(151,Hg f151)],Tryz.prog.funcs[x.1]?=some x.2.fn/\x.2.fn.body=some (.seq (.region x.2.id x.2.ops false) x.2.rest):=by intro x F;simp only[OS,Dy,or_false]at F;rcases F with rfl;exact⟨SB,JF⟩
def nL{α:Type}{p:α->Bool}(n:Nat)(l:List α)(F:(l.take n).all p=true)(H:(l.drop n).all p=true):l.all p=true:=by rw[<-ZV n l,Nk,F,H];rfl
def ZM:((TE.fn.vZ 1 0).take 40).all (λp=>ng TE.G p.2)=true:=bv
def aaI:(((TE.fn.vZ 1 0).drop 40).take 40).all (λp=>ng TE.G p.2)=true:=bv
def ZK:((((TE.fn.vZ 1 0).drop 40).drop 40).take 40).all (λp=>ng TE.G p.2)=true:=bv
def acZ:(((((TE.fn.vZ 1 0).drop 40).drop 40).drop 40).take 40).all (λp=>ng TE.G p.2)=true:=bv
def ZI:((((((TE.fn.vZ 1 0).drop 40).drop 40).drop 40).drop 40).take 40).all (λp=>ng TE.G p.2)=true:=bv
def acU:(((((((TE.fn.vZ 1 0).drop 40).drop 40).drop 40).drop 40).drop 40).take 40).all (λp=>ng TE.G p.2)=true:=bv
def chk_e:(((((((TE.fn.vZ 1 0).drop 40).drop 40).drop 40).drop 40).drop 40).drop 40).all (λp=>ng TE.G p.2)=true:=bv
def acm:(TE.fn.vZ 1 0).all (λp=>ng TE.G p.2)=true:=(nL 40 _ ZM (nL 40 _ aaI (nL 40 _ ZK (nL 40 _ acZ (nL 40 _ ZI (nL 40 _ acU chk_e))))))
def ZF:((TE.ty.vZ 1 0).all λp=>(match p.2.zero with|some z=>aZ z|none=>true) && (match p.2.d with |.struct F=>F.all (λf=>match TE.ty.get f.ty with|some fi=>fi.size==f.size|none=>false)|_=>true))=true:=bv
def ady:((TE.df.vZ 1 0).all (λp=>ng TE.G p.2.fn) && (TE.cl.vZ 1 0).all λp=>ng TE.G p.2.fn)=true:=bv
def Ig:TE.Ig=true:=by unfold Env.Ig;rw[IG,IG];exact⟨ZF,acm,ady⟩
def size:TE.G=Tryz.prog.globals.size:=bv
def st1:TE.fn.get Da=none:=bv
def st2:TE.df.get Da=none:=bv
def ok:TE.OK Tryz.prog:=⟨⟨st1,st2⟩,λ_ _ h=>Tr.zS _ adV h,λ_ _ h=>Tr.zS _ U6 h,size,λ_ _ h=>Tr.Ks (p:=λi d=>Tryz.prog.funcs[i]?=some d.fn/\d.fn.body=some (nP d.pre (.seq (.region d.id #[d.mf,d.de] false) d.post))) _ Vj Zr h,λ_ _ h=>Tr.Ks (p:=λi d=>Tryz.prog.funcs[i]?=some d.fn/\d.fn.body=some (.seq (.region d.id d.ops false) d.rest)) _ aa3 Zy h,Ig,Checked.mixed Tryz.checked⟩
