/- The tables of the program for D, .. -/
import Derived.Test.YtjpegplpgihmdaaGreatDoorG0J
import Derived.Test.YtjpegplpgihmdaaGreatDoorChecked
set_option linter.defProp false
namespace Go.Proofs.YtjpegplpgihmdaaGreatDoor
open Go Go.D Go.Proofs.Tryz
namespace ai
def y{α:Type}(i:α):Tr α:=.n (some i) .e .e
def u{α:Type}(i:α)(j k:Tr α):Tr α:=.n (some i) j k
def v{α:Type}(j k:Tr α):Tr α:=.n none j k
def t2:TI:=⟨.int .i64,1,8,0,some (.int .i64 0),none⟩
def t3:TI:=⟨.int .i64,1,8,0,some (.int .i64 0),none⟩
def t4:TI:=⟨.bool,1,1,0,some (.bool false),none⟩
def t5:TI:=⟨.int .u8,1,1,0,some (.int .u8 0),none⟩
def t6:TI:=t5
def t8:TI:=⟨.struct [⟨2,0,1,false⟩,⟨3,1,1,false⟩,⟨4,2,1,false⟩,⟨6,3,1,false⟩],4,24,0,some (.agg #[.int .i64 0,.int .i64 0,.bool false,.int .u8 0]),some [.i,.i,.b,.i]⟩
def t9:TI:=⟨.str,1,16,0,some (.string ⟨#[]⟩),none⟩
def t10:TI:=t9
def t20:TI:=⟨.iface true,1,16,0,some (.nilIface),none⟩
def t22:TI:=⟨.slice 26,1,24,6,some (.slice none 0 0),none⟩
def t23:TI:=⟨.slice 149,1,24,4,some (.slice none 0 0),none⟩
def t24:TI:=⟨.struct [⟨22,0,1,false⟩,⟨23,1,1,false⟩,⟨22,2,1,false⟩],3,72,0,some (.agg #[.slice none 0 0,.slice none 0 0,.slice none 0 0]),none⟩
def t25:TI:=t24
def t26:TI:=⟨.array 6 3,6,48,1,some (.agg #[.int .i64 0,.int .i64 0,.int .i64 0,.int .i64 0,.int .i64 0,.int .i64 0]),some [.i,.i,.i,.i,.i,.i]⟩
def t28:TI:=⟨.slice 44,1,24,6,some (.slice none 0 0),none⟩
def t30:TI:=⟨.struct [⟨28,0,1,false⟩],1,24,0,some (.agg #[.slice none 0 0]),none⟩
def t31:TI:=⟨.slice 71,1,24,5,some (.slice none 0 0),none⟩
def t33:TI:=⟨.struct [⟨30,0,1,false⟩,⟨31,1,1,false⟩],2,48,0,some (.agg #[.slice none 0 0,.slice none 0 0]),none⟩
def t34:TI:=⟨.slice 69,1,24,7,some (.slice none 0 0),none⟩
def t35:TI:=⟨.slice 52,1,24,2,some (.slice none 0 0),none⟩
def t36:TI:=⟨.slice 95,1,24,3,some (.slice none 0 0),none⟩
def t38:TI:=⟨.struct [⟨33,0,2,false⟩,⟨34,2,1,false⟩,⟨35,3,1,false⟩,⟨36,4,1,false⟩],5,120,0,some (.agg #[.slice none 0 0,.slice none 0 0,.slice none 0 0,.slice none 0 0,.slice none 0 0]),none⟩
def t39:TI:=⟨.slice 46,1,24,11,some (.slice none 0 0),none⟩
def t42:TI:=⟨.slice 85,1,24,2,some (.slice none 0 0),none⟩
def t44:TI:=⟨.struct [⟨3,0,1,false⟩,⟨3,1,1,false⟩,⟨3,2,1,false⟩,⟨42,3,1,false⟩,⟨3,4,1,false⟩,⟨3,5,1,false⟩],6,64,0,some (.agg #[.int .i64 0,.int .i64 0,.int .i64 0,.slice none 0 0,.int .i64 0,.int .i64 0]),none⟩
def t46:TI:=⟨.struct [⟨3,0,1,false⟩,⟨44,1,6,false⟩,⟨3,7,1,false⟩,⟨3,8,1,false⟩,⟨3,9,1,false⟩,⟨3,10,1,false⟩],11,104,0,some (.agg #[.int .i64 0,.int .i64 0,.int .i64 0,.int .i64 0,.slice none 0 0,.int .i64 0,.int .i64 0,.int .i64 0,.int .i64 0,.int .i64 0,.int .i64 0]),none⟩
def t48:TI:=⟨.int .i64,1,8,0,some (.int .i64 0),none⟩
def t52:TI:=⟨.struct [⟨3,0,1,false⟩,⟨3,1,1,false⟩],2,16,0,some (.agg #[.int .i64 0,.int .i64 0]),some [.i,.i]⟩
def t60:TI:=⟨.slice 73,1,24,15,some (.slice none 0 0),none⟩
def t69:TI:=⟨.struct [⟨44,0,6,false⟩,⟨31,6,1,false⟩],7,88,0,some (.agg #[.int .i64 0,.int .i64 0,.int .i64 0,.slice none 0 0,.int .i64 0,.int .i64 0,.slice none 0 0]),none⟩
def t71:TI:=⟨.struct [⟨3,0,1,false⟩,⟨3,1,1,false⟩,⟨3,2,1,false⟩,⟨3,3,1,false⟩,⟨4,4,1,false⟩],5,40,0,some (.agg #[.int .i64 0,.int .i64 0,.int .i64 0,.int .i64 0,.bool false]),some [.i,.i,.i,.i,.b]⟩
def t73:TI:=⟨.struct [⟨3,0,1,false⟩,⟨44,1,6,false⟩,⟨3,7,1,false⟩,⟨3,8,1,false⟩,⟨3,9,1,false⟩,⟨71,10,5,false⟩],15,136,0,some (.agg #[.int .i64 0,.int .i64 0,.int .i64 0,.int .i64 0,.slice none 0 0,.int .i64 0,.int .i64 0,.int .i64 0,.int .i64 0,.int .i64 0,.int .i64 0,.int .i64 0,.int .i64 0,.int .i64 0,.bool false]),none⟩
def t75:TI:=⟨.func,1,8,0,some (.nilFunc),none⟩
def t81:TI:=⟨.slice 3,1,24,1,some (.slice none 0 0),none⟩
def t82:TI:=⟨.slice 89,1,24,8,some (.slice none 0 0),none⟩
def t85:TI:=⟨.struct [⟨3,0,1,false⟩,⟨3,1,1,false⟩],2,16,0,some (.agg #[.int .i64 0,.int .i64 0]),some [.i,.i]⟩
def t87:TI:=⟨.struct [⟨85,0,2,false⟩,⟨85,2,2,false⟩],4,32,0,some (.agg #[.int .i64 0,.int .i64 0,.int .i64 0,.int .i64 0]),some [.i,.i,.i,.i]⟩
def t89:TI:=⟨.struct [⟨3,0,1,false⟩,⟨3,1,1,false⟩,⟨87,2,4,false⟩,⟨3,6,1,false⟩,⟨3,7,1,false⟩],8,64,0,some (.agg #[.int .i64 0,.int .i64 0,.int .i64 0,.int .i64 0,.int .i64 0,.int .i64 0,.int .i64 0,.int .i64 0]),some [.i,.i,.i,.i,.i,.i,.i,.i]⟩
def t95:TI:=⟨.struct [⟨3,0,1,false⟩,⟨3,1,1,false⟩,⟨3,2,1,false⟩],3,24,0,some (.agg #[.int .i64 0,.int .i64 0,.int .i64 0]),some [.i,.i,.i]⟩
def t100:TI:=t75
def t102:TI:=t75
def t104:TI:=t75
def t105:TI:=t75
def t117:TI:=⟨.ptr 120,1,8,0,some (.pointer none),none⟩
def t118:TI:=⟨.slice 5,1,24,1,some (.slice none 0 0),none⟩
def t120:TI:=⟨.struct [⟨117,0,1,false⟩,⟨118,1,1,false⟩],2,32,0,some (.agg #[.pointer none,.slice none 0 0]),none⟩
def t122:TI:=⟨.iface false,1,16,0,some (.nilIface),none⟩
def t128:TI:=t75
def t131:TI:=⟨.struct [⟨3,0,1,false⟩,⟨3,1,1,false⟩,⟨3,2,1,false⟩,⟨3,3,1,false⟩,⟨3,4,1,false⟩],5,40,0,some (.agg #[.int .i64 0,.int .i64 0,.int .i64 0,.int .i64 0,.int .i64 0]),some [.i,.i,.i,.i,.i]⟩
def t135:TI:=⟨.slice 138,1,24,1,some (.slice none 0 0),none⟩
def t137:TI:=⟨.ptr 46,1,8,0,some (.pointer none),none⟩
def t138:TI:=⟨.ptr 3,1,8,0,some (.pointer none),none⟩
def t140:TI:=⟨.map 3 4,1,8,0,some (.map none),none⟩
def t141:TI:=⟨.func,1,8,0,some (.nilFunc),none⟩
def t142:TI:=t75
def t143:TI:=t75
def t144:TI:=t75
def t149:TI:=⟨.array 4 3,4,32,1,some (.agg #[.int .i64 0,.int .i64 0,.int .i64 0,.int .i64 0]),some [.i,.i,.i,.i]⟩
def t172:TI:=⟨.slice 9,1,24,1,some (.slice none 0 0),none⟩
def t174:TI:=⟨.map 9 3,1,8,0,some (.map none),none⟩
def t178:TI:=t75
def t183:TI:=⟨.array 10 9,10,160,1,some (.agg #[.string ⟨#[]⟩,.string ⟨#[]⟩,.string ⟨#[]⟩,.string ⟨#[]⟩,.string ⟨#[]⟩,.string ⟨#[]⟩,.string ⟨#[]⟩,.string ⟨#[]⟩,.string ⟨#[]⟩,.string ⟨#[]⟩]),some [.s,.s,.s,.s,.s,.s,.s,.s,.s,.s]⟩
def t203:TI:=⟨.int .u64,1,8,0,some (.int .u64 0),none⟩
def t212:TI:=t75
def t217:TI:=t75
def t218:TI:=t75
def t219:TI:=t75
def t220:TI:=t75
def t221:TI:=t75
def t223:TI:=⟨.struct [⟨217,0,1,false⟩,⟨218,1,1,false⟩,⟨219,2,1,false⟩,⟨220,3,1,false⟩,⟨221,4,1,false⟩],5,40,0,some (.agg #[.nilFunc,.nilFunc,.nilFunc,.nilFunc,.nilFunc]),none⟩
def t227:TI:=⟨.struct [],0,0,0,some (.agg #[]),some []⟩
def t229:TI:=⟨.ptr 231,1,8,0,some (.pointer none),none⟩
def t231:TI:=⟨.struct [⟨33,0,2,false⟩],2,48,0,some (.agg #[.slice none 0 0,.slice none 0 0]),none⟩
def t235:TI:=⟨.array 8 131,40,320,5,some (.agg #[.int .i64 0,.int .i64 0,.int .i64 0,.int .i64 0,.int .i64 0,.int .i64 0,.int .i64 0,.int .i64 0,.int .i64 0,.int .i64 0,.int .i64 0,.int .i64 0,.int .i64 0,.int .i64 0,.int .i64 0,.int .i64 0,.int .i64 0,.int .i64 0,.int .i64 0,.int .i64 0,.int .i64 0,.int .i64 0,.int .i64 0,.int .i64 0,.int .i64 0,.int .i64 0,.int .i64 0,.int .i64 0,.int .i64 0,.int .i64 0,.int .i64 0,.int .i64 0,.int .i64 0,.int .i64 0,.int .i64 0,.int .i64 0,.int .i64 0,.int .i64 0,.int .i64 0,.int .i64 0]),some [.i,.i,.i,.i,.i,.i,.i,.i,.i,.i,.i,.i,.i,.i,.i,.i,.i,.i,.i,.i,.i,.i,.i,.i,.i,.i,.i,.i,.i,.i,.i,.i,.i,.i,.i,.i,.i,.i,.i,.i]⟩
def t237:TI:=t75
def t240:TI:=t75
def t260:TI:=⟨.map 3 223,1,8,0,some (.map none),none⟩
def t266:TI:=t75
def t272:TI:=⟨.slice 276,1,24,3,some (.slice none 0 0),none⟩
def t274:TI:=⟨.slice 278,1,24,3,some (.slice none 0 0),none⟩
def t276:TI:=⟨.struct [⟨3,0,1,false⟩,⟨3,1,1,false⟩,⟨3,2,1,false⟩],3,24,0,some (.agg #[.int .i64 0,.int .i64 0,.int .i64 0]),some [.i,.i,.i]⟩
def t278:TI:=⟨.struct [⟨3,0,1,false⟩,⟨3,1,1,false⟩,⟨3,2,1,false⟩],3,24,0,some (.agg #[.int .i64 0,.int .i64 0,.int .i64 0]),some [.i,.i,.i]⟩
def t283:TI:=⟨.int .u32,1,4,0,some (.int .u32 0),none⟩
def t289:TI:=t203
def t308:TI:=t75
def t311:TI:=⟨.array 24 5,24,24,1,some (.agg #[.int .u8 0,.int .u8 0,.int .u8 0,.int .u8 0,.int .u8 0,.int .u8 0,.int .u8 0,.int .u8 0,.int .u8 0,.int .u8 0,.int .u8 0,.int .u8 0,.int .u8 0,.int .u8 0,.int .u8 0,.int .u8 0,.int .u8 0,.int .u8 0,.int .u8 0,.int .u8 0,.int .u8 0,.int .u8 0,.int .u8 0,.int .u8 0]),some [.i,.i,.i,.i,.i,.i,.i,.i,.i,.i,.i,.i,.i,.i,.i,.i,.i,.i,.i,.i,.i,.i,.i,.i]⟩
def t317:TI:=⟨.slice 131,1,24,5,some (.slice none 0 0),none⟩
def t321:TI:=t75
def t325:TI:=t75
def t342:TI:=⟨.array 20 289,20,160,1,some (.agg #[.int .u64 0,.int .u64 0,.int .u64 0,.int .u64 0,.int .u64 0,.int .u64 0,.int .u64 0,.int .u64 0,.int .u64 0,.int .u64 0,.int .u64 0,.int .u64 0,.int .u64 0,.int .u64 0,.int .u64 0,.int .u64 0,.int .u64 0,.int .u64 0,.int .u64 0,.int .u64 0]),some [.i,.i,.i,.i,.i,.i,.i,.i,.i,.i,.i,.i,.i,.i,.i,.i,.i,.i,.i,.i]⟩
def t347:TI:=t75
def t371:TI:=t2
def OI:Tr TI:=v (v (v .e .e) (v .e .e)) (v (v .e .e) .e)
def acg:Tr TI:=u t95 (v (v .e .e) .e) (u t223 (v .e .e) .e)
def Oo:Tr TI:=v (u t143 (v .e .e) .e) (v (v .e .e) .e)
def Lv:Tr TI:=v (v (v .e .e) .e) (v (v .e .e) .e)
def OA:Tr TI:=u t71 (u t135 (v .e .e) (v .e .e)) (v (v .e .e) .e)
def aeD:Tr TI:=v (v (v .e .e) .e) (u t231 (v .e .e) .e)
def Og:Tr TI:=u t87 (v (v .e .e) .e) (v (v .e .e) .e)
def Ll:Tr TI:=v (u t183 (y t311) .e) (v (v .e .e) .e)
def acD:Tr TI:=v (v (u t31 OI acg) (v Oo Lv)) (u t23 (u t39 OA aeD) (v Og Ll))
def OE:Tr TI:=v (u t131 (v .e .e) (v .e .e)) (v (v .e .e) .e)
def N1:Tr TI:=v (v (v .e .e) .e) (u t227 (v .e .e) .e)
def Ok:Tr TI:=v (v (v .e .e) .e) (v (v .e .e) .e)
def Lr:Tr TI:=v (v (v .e .e) .e) (v (y t371) .e)
def Ov:Tr TI:=u t75 (v (v .e .e) (v .e .e)) (u t203 (v .e .e) .e)
def LA:Tr TI:=v (v (v .e .e) .e) (u t235 (v .e .e) .e)
def N9:Tr TI:=v (v (y t283) .e) (u t219 (y t347) .e)
def Lh:Tr TI:=v (v (v .e .e) .e) (v (v .e .e) .e)
def acz:Tr TI:=v (v (u t35 OE N1) (v Ok Lr)) (v (v Ov LA) (v N9 Lh))
def acV:Tr TI:=v (v (v .e .e) (v .e .e)) (v (y t321) .e)
def N3:Tr TI:=v (v (y t289) .e) (v (v .e .e) .e)
def aec:Tr TI:=u t81 (v (v .e .e) .e) (v (v .e .e) .e)
def Lt:Tr TI:=v (v (v .e .e) .e) (v (v .e .e) .e)
def Oy:Tr TI:=u t73 (u t137 (v .e .e) (v .e .e)) (v (v .e .e) .e)
def LC:Tr TI:=u t105 (v (v .e .e) .e) (v (v .e .e) .e)
def Oe:Tr TI:=u t89 (v (v .e .e) .e) (u t217 (v .e .e) .e)
def ae5:Tr TI:=v (v (v .e .e) .e) (v (v .e .e) .e)
def acL:Tr TI:=u t9 (v (u t33 acV N3) (v aec Lt)) (u t25 (v Oy LC) (v Oe ae5))
def OC:Tr TI:=u t69 (v (v .e .e) (v .e .e)) (v (y t325) .e)
def LH:Tr TI:=v (v (v .e .e) .e) (u t229 (v .e .e) .e)
def Oi:Tr TI:=u t85 (u t149 (v .e .e) .e) (v (v .e .e) .e)
def Lo:Tr TI:=u t117 (v (v .e .e) .e) (v (v .e .e) .e)
def adh:Tr TI:=v (u t141 (v .e .e) (v .e .e)) (v (v .e .e) .e)
def Lx:Tr TI:=v (v (v .e .e) .e) (u t237 (v .e .e) .e)
def acx:Tr TI:=v (v (v .e .e) .e) (u t221 (v .e .e) .e)
def abM:Tr TI:=v (v (y t317) .e) (v (v .e .e) .e)
def abT:Tr TI:=v (v (v OC LH) (v Oi Lo)) (v (v adh Lx) (v acx abM))
def OH:Tr TI:=v (u t128 (v .e .e) (v .e .e)) (v (v .e .e) .e)
def N4:Tr TI:=v (v (v .e .e) .e) (v (v .e .e) .e)
def On:Tr TI:=v (u t144 (y t272) .e) (v (v .e .e) .e)
def ac7:Tr TI:=v (v (v .e .e) .e) (u t240 (v .e .e) .e)
def Oz:Tr TI:=v (v (v .e .e) (v .e .e)) (v (v .e .e) .e)
def afe:Tr TI:=u t104 (v (v .e .e) .e) (v (v .e .e) .e)
def aem:Tr TI:=v (v (v .e .e) .e) (v (v .e .e) .e)
def Lk:Tr TI:=u t120 (v (v .e .e) .e) (v (v .e .e) .e)
def Wg:Tr TI:=u t8 (v (v OH N4) (u t48 On ac7)) (u t24 (v Oz afe) (v aem Lk))
def OD:Tr TI:=v (v (y t260) (v .e .e)) (v (v .e .e) .e)
def ae2:Tr TI:=u t100 (v (v .e .e) .e) (v (v .e .e) .e)
def aeq:Tr TI:=v (v (y t276) .e) (u t212 (v .e .e) .e)
def afh:Tr TI:=v (v (y t308) .e) (v (v .e .e) .e)
def Ou:Tr TI:=v (u t140 (v .e .e) (v .e .e)) (v (v .e .e) .e)
def aeZ:Tr TI:=v (u t172 (v .e .e) .e) (v (v .e .e) .e)
def aeX:Tr TI:=v (v (v .e .e) .e) (u t220 (v .e .e) .e)
def aea:Tr TI:=v (v (v .e .e) .e) (v (v .e .e) .e)
def abL:Tr TI:=v (u t20 (u t36 OD ae2) (u t52 aeq afh)) (u t28 (u t44 Ou aeZ) (u t60 aeX aea))
def OF:Tr TI:=v (v (v .e .e) (v .e .e)) (v (v .e .e) .e)
def N2:Tr TI:=v (v (v .e .e) .e) (v (v .e .e) .e)
def acs:Tr TI:=u t82 (v (y t274) .e) (v (v .e .e) .e)
def ac2:Tr TI:=v (u t178 (v .e .e) .e) (v (v .e .e) .e)
def acA:Tr TI:=v (u t138 (y t266) (v .e .e)) (v (v .e .e) .e)
def adz:Tr TI:=v (v (v .e .e) .e) (v (v .e .e) .e)
def abN:Tr TI:=v (v (v .e .e) .e) (u t218 (v .e .e) .e)
def Li:Tr TI:=u t122 (v (v .e .e) .e) (v (v .e .e) .e)
def acO:Tr TI:=u t10 (v (u t34 OF N2) (v acs ac2)) (u t26 (u t42 acA adz) (v abN Li))
def acU:Tr TI:=v (v (v .e .e) (v .e .e)) (v (v .e .e) .e)
def adP:Tr TI:=u t102 (v (v .e .e) .e) (v (v .e .e) .e)
def ab6:Tr TI:=v (v (y t278) .e) (v (y t342) .e)
def Lm:Tr TI:=u t118 (v (v .e .e) .e) (v (v .e .e) .e)
def Oq:Tr TI:=v (u t142 (v .e .e) (v .e .e)) (v (v .e .e) .e)
def acN:Tr TI:=v (u t174 (v .e .e) .e) (v (v .e .e) .e)
def N6:Tr TI:=v (v (v .e .e) .e) (v (v .e .e) .e)
def aeC:Tr TI:=v (v (v .e .e) .e) (v (v .e .e) .e)
def S3:Tr TI:=v (u t22 (u t38 acU adP) (v ab6 Lm)) (u t30 (u t46 Oq acN) (v N6 aeC))
def Ia:Tr TI:=v (v (u t3 acD acz) (u t5 acL abT)) (u t2 (u t4 Wg abL) (u t6 acO S3))
noncomputable def Rs:Tr Func:=u f63 (v (v .e .e) .e) (u f191 (y f319) .e)
noncomputable def QT:Tr Func:=u f95 (u f159 (y f287) .e) (u f223 (v .e .e) .e)
noncomputable def Rb:Tr Func:=u f79 (v (y f271) .e) (u f207 (v .e .e) .e)
noncomputable def MS:Tr Func:=u f111 (v (v .e .e) .e) (v (v .e .e) .e)
noncomputable def Rk:Tr Func:=u f71 (u f135 (v .e .e) .e) (u f199 (v .e .e) .e)
noncomputable def aex:Tr Func:=u f103 (u f167 (v .e .e) .e) (u f231 (v .e .e) .e)
noncomputable def Q3:Tr Func:=u f87 (u f151 (y f279) .e) (v (v .e .e) .e)
noncomputable def aca:Tr Func:=u f119 (v (y f311) .e) (v .e .e)
noncomputable def W1:Tr Func:=u Tryz.f7 (u f15 (u f31 Rs QT) (u f47 Rb MS)) (u f23 (u f39 Rk aex) (u f55 Q3 aca))
noncomputable def Ro:Tr Func:=u f67 (v (y f259) .e) (u f195 (v .e .e) .e)
noncomputable def QP:Tr Func:=u f99 (u f163 (v .e .e) .e) (v (v .e .e) .e)
noncomputable def acv:Tr Func:=u f83 (u f147 (y f275) .e) (v (v .e .e) .e)
noncomputable def acG:Tr Func:=u f115 (v (y f307) .e) (v (v .e .e) .e)
noncomputable def Rg:Tr Func:=u f75 (v (y f267) .e) (u f203 (v .e .e) .e)
noncomputable def MW:Tr Func:=u f107 (v (y f299) .e) (v (v .e .e) .e)
noncomputable def QX:Tr Func:=u f91 (u f155 (v .e .e) .e) (u f219 (v .e .e) .e)
noncomputable def MG:Tr Func:=u f123 (u f187 (v .e .e) .e) (y f251)
noncomputable def adp:Tr Func:=u f11 (u f19 (u f35 Ro QP) (u f51 acv acG)) (u f27 (u f43 Rg MW) (u f59 QX MG))
noncomputable def Rq:Tr Func:=u f65 (v (y f257) .e) (u f193 (y f321) .e)
noncomputable def QR:Tr Func:=u f97 (u f161 (y f289) .e) (v (v .e .e) .e)
noncomputable def adv:Tr Func:=u f81 (u f145 (y f273) .e) (v (v .e .e) .e)
noncomputable def MQ:Tr Func:=u f113 (v (y f305) .e) (v (v .e .e) .e)
noncomputable def abq:Tr Func:=u f73 (v (v .e .e) .e) (u f201 (v .e .e) .e)
noncomputable def MY:Tr Func:=u f105 (u f169 (y f297) .e) (u f233 (v .e .e) .e)
noncomputable def QZ:Tr Func:=u f89 (u f153 (v .e .e) .e) (v (v .e .e) .e)
noncomputable def ab2:Tr Func:=u f121 (v (y f313) .e) (v .e .e)
noncomputable def WZ:Tr Func:=u Tryz.f9 (u f17 (u f33 Rq QR) (v adv MQ)) (u f25 (u f41 abq MY) (u f57 QZ ab2))
noncomputable def Rm:Tr Func:=u f69 (u f133 (y f261) .e) (u f197 (v .e .e) .e)
noncomputable def M4:Tr Func:=u f101 (u f165 (v .e .e) .e) (u f229 (v .e .e) .e)
noncomputable def Q5:Tr Func:=u f85 (u f149 (v .e .e) .e) (v (v .e .e) .e)
noncomputable def abn:Tr Func:=u f117 (v (y f309) .e) (v (v .e .e) .e)
noncomputable def Re:Tr Func:=u f77 (v (v .e .e) .e) (u f205 (v .e .e) .e)
noncomputable def MU:Tr Func:=u f109 (v (v .e .e) .e) (v (v .e .e) .e)
noncomputable def QV:Tr Func:=u f93 (u f157 (v .e .e) .e) (v (v .e .e) .e)
noncomputable def ae9:Tr Func:=u f125 (u f189 (v .e .e) .e) (v .e .e)
noncomputable def UD:Tr Func:=u f13 (u f21 (u f37 Rm M4) (u f53 Q5 abn)) (u f29 (u f45 Re MU) (u f61 QV ae9))
noncomputable def Rr:Tr Func:=u f64 (u f128 (y f256) .e) (u f192 (y f320) .e)
noncomputable def acW:Tr Func:=v (u f160 (y f288) .e) (v (v .e .e) .e)
noncomputable def Ra:Tr Func:=u f80 (u f144 (y f272) .e) (v (v .e .e) .e)
noncomputable def MR:Tr Func:=u f112 (v (v .e .e) .e) (v (v .e .e) .e)
noncomputable def Rj:Tr Func:=u f72 (v (y f264) .e) (u f200 (v .e .e) .e)
noncomputable def abD:Tr Func:=u f104 (u f168 (y f296) .e) (u f232 (v .e .e) .e)
noncomputable def Q1:Tr Func:=u f88 (u f152 (y f280) .e) (v (v .e .e) .e)
noncomputable def MJ:Tr Func:=u f120 (v (v .e .e) .e) (v .e .e)
noncomputable def W0:Tr Func:=u Tryz.f8 (u f16 (u f32 Rr acW) (u f48 Ra MR)) (u f24 (u f40 Rj abD) (u f56 Q1 MJ))
noncomputable def Rn:Tr Func:=u f68 (v (v .e .e) .e) (u f196 (v .e .e) .e)
noncomputable def M5:Tr Func:=v (u f164 (v .e .e) .e) (u f228 (v .e .e) .e)
noncomputable def Q6:Tr Func:=u f84 (u f148 (v .e .e) .e) (v (v .e .e) .e)
noncomputable def MN:Tr Func:=u f116 (v (y f308) .e) (v (v .e .e) .e)
noncomputable def Rf:Tr Func:=u f76 (u f140 (y f268) .e) (u f204 (v .e .e) .e)
noncomputable def acr:Tr Func:=u f108 (v (v .e .e) .e) (v (v .e .e) .e)
noncomputable def QW:Tr Func:=u f92 (u f156 (y f284) .e) (v (v .e .e) .e)
noncomputable def MF:Tr Func:=u f124 (u f188 (v .e .e) .e) (v .e .e)
noncomputable def adj:Tr Func:=u f12 (u f20 (u f36 Rn M5) (u f52 Q6 MN)) (u f28 (u f44 Rf acr) (u f60 QW MF))
noncomputable def Rp:Tr Func:=u f66 (v (y f258) .e) (u f194 (v .e .e) .e)
noncomputable def QQ:Tr Func:=v (u f162 (y f290) .e) (v (v .e .e) .e)
noncomputable def Q8:Tr Func:=u f82 (u f146 (y f274) .e) (v (v .e .e) .e)
noncomputable def acQ:Tr Func:=u f114 (v (y f306) .e) (v (v .e .e) .e)
noncomputable def Rh:Tr Func:=u f74 (v (y f266) .e) (u f202 (v .e .e) .e)
noncomputable def MX:Tr Func:=u f106 (u f170 (y f298) .e) (v (v .e .e) .e)
noncomputable def ab4:Tr Func:=u f90 (u f154 (v .e .e) .e) (v (v .e .e) .e)
noncomputable def aev:Tr Func:=u f122 (v (v .e .e) .e) (v .e .e)
noncomputable def UG:Tr Func:=u f10 (u f18 (u f34 Rp QQ) (u f50 Q8 acQ)) (u f26 (u f42 Rh MX) (u f58 ab4 aev))
noncomputable def ab1:Tr Func:=u f70 (u f134 (y f262) .e) (u f198 (y f326) .e)
noncomputable def M3:Tr Func:=u f102 (u f166 (v .e .e) .e) (v (v .e .e) .e)
noncomputable def Q4:Tr Func:=u f86 (u f150 (y f278) .e) (v (v .e .e) .e)
noncomputable def ad7:Tr Func:=u f118 (v (y f310) .e) (v (v .e .e) .e)
noncomputable def Rc:Tr Func:=u f78 (u f142 (y f270) .e) (u f206 (v .e .e) .e)
noncomputable def MT:Tr Func:=u f110 (u f174 (y f302) .e) (v (v .e .e) .e)
noncomputable def abz:Tr Func:=u f94 (u f158 (v .e .e) .e) (u f222 (v .e .e) .e)
noncomputable def acm:Tr Func:=v (u f190 (y f318) .e) (y f254)
noncomputable def aeT:Tr Func:=u f14 (u f22 (u f38 ab1 M3) (u f54 Q4 ad7)) (u f30 (u f46 Rc MT) (u f62 abz acm))
noncomputable def I5:Tr Func:=v (v (u Tryz.f3 W1 adp) (u Tryz.f5 WZ UD)) (v (u Tryz.f4 W0 adj) (u Tryz.f6 UG aeT))
noncomputable def df:Tr K8:=(Tr.set .e 98 (mT f98))
noncomputable def cl:Tr Vh:=(Tr.set .e 141 (GX f141))
noncomputable def _root_.Go.Proofs.YtjpegplpgihmdaaGreatDoor.TE:Env:={ty:=Ia,fn:=I5,G:=10,df:=df,cl:=cl}
set_option maxRecDepth 100000
def S2:(Ia.vH 1 0).map (λp=>WD Tryz.prog p.1)=(Ia.vH 1 0).map (λp=>some p.2):=bv
def UB:(I5.vH 1 0).map (λp=>Tryz.prog.funcs[p.1]?)=(I5.vH 1 0).map (λp=>some p.2):=bv
def acy:df.vH 1 0=[(98,mT f98)]:=bv
def UP:Tryz.prog.funcs[98]?=some (mT f98).fn:=bv
def aeb:(mT f98).fn.body=some (nF (mT f98).pre (.seq (.region (mT f98).id #[(mT f98).mf,(mT f98).de] false) (mT f98).post)):=bv
def acK:∀x∈ [(98,mT f98)],Tryz.prog.funcs[x.1]?=some x.2.fn/\x.2.fn.body=some (nF x.2.pre (.seq (.region x.2.id #[x.2.mf,x.2.de] false) x.2.post)):=by intro x F;simp only[Qk,Uf,or_false]at F;rcases F with rfl;exact⟨UP,aeb⟩
def UY:cl.vH 1 0=[(141,GX f141)]:=bv
def R3:Tryz.prog.funcs[141]?=some (GX f141).fn:=bv
def adw:(GX f141).fn.body=some (.seq (.region (GX f141).id (GX f141).ops false) (GX f141).rest):=bv
def Y6:∀x∈ [(141,GX f141)],Tryz.prog.funcs[x.1]?=some x.2.fn/\x.2.fn.body=some (.seq (.region x.2.id x.2.ops false) x.2.rest):=by intro x F;simp only[Qk,Uf,or_false]at F;rcases F with rfl;exact⟨R3,adw⟩
def nz{α:Type}{p:α->Bool}(n:Nat)(l:List α)(F:(l.take n).all p=true)(H:(l.drop n).all p=true):l.all p=true:=by rw[<-Zd n l,YW,F,H];rfl
def aeH:((TE.fn.vH 1 0).take 40).all (λp=>mS TE.G p.2)=true:=bv
def ac9:(((TE.fn.vH 1 0).drop 40).take 40).all (λp=>mS TE.G p.2)=true:=bv
def adU:((((TE.fn.vH 1 0).drop 40).drop 40).take 40).all (λp=>mS TE.G p.2)=true:=bv
def ad4:(((((TE.fn.vH 1 0).drop 40).drop 40).drop 40).take 40).all (λp=>mS TE.G p.2)=true:=bv
def ae0:((((((TE.fn.vH 1 0).drop 40).drop 40).drop 40).drop 40).take 40).all (λp=>mS TE.G p.2)=true:=bv
def Zf:(((((((TE.fn.vH 1 0).drop 40).drop 40).drop 40).drop 40).drop 40).take 40).all (λp=>mS TE.G p.2)=true:=bv
def chk_e:(((((((TE.fn.vH 1 0).drop 40).drop 40).drop 40).drop 40).drop 40).drop 40).all (λp=>mS TE.G p.2)=true:=bv
def Ze:(TE.fn.vH 1 0).all (λp=>mS TE.G p.2)=true:=(nz 40 _ aeH (nz 40 _ ac9 (nz 40 _ adU (nz 40 _ ad4 (nz 40 _ ae0 (nz 40 _ Zf chk_e))))))
def acR:((TE.ty.vH 1 0).all λp=>(match p.2.zero with|some z=>aZ z|none=>true) && (match p.2.d with |.struct F=>F.all (λf=>match TE.ty.get f.ty with|some fi=>fi.size==f.size|none=>false)|_=>true))=true:=bv
def Zl:((TE.df.vH 1 0).all (λp=>mS TE.G p.2.fn) && (TE.cl.vH 1 0).all λp=>mS TE.G p.2.fn)=true:=bv
def H2:TE.H2=true:=by unfold Env.H2;rw[De,De];exact⟨acR,Ze,Zl⟩
def size:TE.G=Tryz.prog.globals.size:=bv
def st1:TE.fn.get CU=none:=bv
def st2:TE.df.get CU=none:=bv
def ok:TE.OK Tryz.prog:=⟨⟨st1,st2⟩,λ_ _ h=>Tr.zC _ S2 h,λ_ _ h=>Tr.zC _ UB h,size,λ_ _ h=>Tr.J2 (p:=λi d=>Tryz.prog.funcs[i]?=some d.fn/\d.fn.body=some (nF d.pre (.seq (.region d.id #[d.mf,d.de] false) d.post))) _ acy acK h,λ_ _ h=>Tr.J2 (p:=λi d=>Tryz.prog.funcs[i]?=some d.fn/\d.fn.body=some (.seq (.region d.id d.ops false) d.rest)) _ UY Y6 h,H2,Checked.mixed Tryz.checked⟩
