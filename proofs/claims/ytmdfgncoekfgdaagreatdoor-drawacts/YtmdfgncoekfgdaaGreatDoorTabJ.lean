/- The tables of the program for D, .. -/
import Derived.Test.YtmdfgncoekfgdaaGreatDoorG0J
import Derived.Test.YtmdfgncoekfgdaaGreatDoorChecked
import Derived.KernelRfl
import Derived.Eval
namespace Go.Proofs.YtmdfgncoekfgdaaGreatDoor
open Go Go.D
namespace ag
def y{α:Type}(i:α):Tr α:=.n (some i) .e .e
def u{α:Type}(i:α)(j k:Tr α):Tr α:=.n (some i) j k
def v{α:Type}(j k:Tr α):Tr α:=.n none j k
def t2:TI:=⟨.int .i64,1,8,0,some (.int .i64 0),none⟩
def t3:TI:=⟨.int .i64,1,8,0,some (.int .i64 0),none⟩
def t4:TI:=⟨.bool,1,1,0,some (.bool false),none⟩
def t5:TI:=⟨.int .u8,1,1,0,some (.int .u8 0),none⟩
def t6:TI:=t5
def t7:TI:=⟨.struct [⟨2,0,1,false⟩,⟨3,1,1,false⟩,⟨4,2,1,false⟩,⟨6,3,1,false⟩],4,24,0,some (.agg #[.int .i64 0,.int .i64 0,.bool false,.int .u8 0]),some [.i,.i,.b,.i]⟩
def t8:TI:=t7
def t9:TI:=⟨.str,1,16,0,some (.string ⟨#[]⟩),none⟩
def t16:TI:=⟨.ptr 419,1,8,0,some (.pointer none),none⟩
def t20:TI:=⟨.iface true,1,16,0,some (.nilIface),none⟩
def t21:TI:=⟨.int .i32,1,4,0,some (.int .i32 0),none⟩
def t22:TI:=⟨.slice 85,1,24,6,some (.slice none 0 0),none⟩
def t24:TI:=⟨.array 2 3,2,16,1,some (.agg #[.int .i64 0,.int .i64 0]),some [.i,.i]⟩
def t25:TI:=⟨.slice 3,1,24,1,some (.slice none 0 0),none⟩
def t27:TI:=⟨.struct [⟨3,0,1,false⟩,⟨3,1,1,false⟩,⟨25,2,1,false⟩],3,40,0,some (.agg #[.int .i64 0,.int .i64 0,.slice none 0 0]),none⟩
def t29:TI:=⟨.slice 87,1,24,6,some (.slice none 0 0),none⟩
def t31:TI:=⟨.struct [⟨29,0,1,false⟩],1,24,0,some (.agg #[.slice none 0 0]),none⟩
def t35:TI:=⟨.int .i64,1,8,0,some (.int .i64 0),none⟩
def t39:TI:=⟨.func,1,8,0,some (.nilFunc),none⟩
def t42:TI:=⟨.slice 9,1,24,1,some (.slice none 0 0),none⟩
def t45:TI:=⟨.slice 98,1,24,2,some (.slice none 0 0),none⟩
def t52:TI:=⟨.slice 5,1,24,1,some (.slice none 0 0),none⟩
def t55:TI:=⟨.slice 166,1,24,4,some (.slice none 0 0),none⟩
def t57:TI:=⟨.struct [⟨22,0,1,false⟩,⟨55,1,1,false⟩,⟨22,2,1,false⟩],3,72,0,some (.agg #[.slice none 0 0,.slice none 0 0,.slice none 0 0]),none⟩
def t58:TI:=⟨.slice 89,1,24,5,some (.slice none 0 0),none⟩
def t60:TI:=⟨.struct [⟨31,0,1,false⟩,⟨58,1,1,false⟩],2,48,0,some (.agg #[.slice none 0 0,.slice none 0 0]),none⟩
def t61:TI:=⟨.slice 91,1,24,15,some (.slice none 0 0),none⟩
def t62:TI:=⟨.slice 24,1,24,2,some (.slice none 0 0),none⟩
def t64:TI:=⟨.struct [⟨60,0,2,false⟩,⟨61,2,1,false⟩,⟨62,3,1,false⟩],4,96,0,some (.agg #[.slice none 0 0,.slice none 0 0,.slice none 0 0,.slice none 0 0]),none⟩
def t72:TI:=⟨.slice 105,1,24,5,some (.slice none 0 0),none⟩
def t79:TI:=⟨.slice 83,1,24,5,some (.slice none 0 0),none⟩
def t83:TI:=⟨.struct [⟨3,0,1,false⟩,⟨3,1,1,false⟩,⟨3,2,1,false⟩,⟨3,3,1,false⟩,⟨3,4,1,false⟩],5,40,0,some (.agg #[.int .i64 0,.int .i64 0,.int .i64 0,.int .i64 0,.int .i64 0]),some [.i,.i,.i,.i,.i]⟩
def t85:TI:=⟨.array 6 3,6,48,1,some (.agg #[.int .i64 0,.int .i64 0,.int .i64 0,.int .i64 0,.int .i64 0,.int .i64 0]),some [.i,.i,.i,.i,.i,.i]⟩
def t87:TI:=⟨.struct [⟨3,0,1,false⟩,⟨3,1,1,false⟩,⟨3,2,1,false⟩,⟨45,3,1,false⟩,⟨3,4,1,false⟩,⟨3,5,1,false⟩],6,64,0,some (.agg #[.int .i64 0,.int .i64 0,.int .i64 0,.slice none 0 0,.int .i64 0,.int .i64 0]),none⟩
def t89:TI:=⟨.struct [⟨3,0,1,false⟩,⟨3,1,1,false⟩,⟨3,2,1,false⟩,⟨3,3,1,false⟩,⟨4,4,1,false⟩],5,40,0,some (.agg #[.int .i64 0,.int .i64 0,.int .i64 0,.int .i64 0,.bool false]),some [.i,.i,.i,.i,.b]⟩
def t91:TI:=⟨.struct [⟨3,0,1,false⟩,⟨87,1,6,false⟩,⟨3,7,1,false⟩,⟨3,8,1,false⟩,⟨3,9,1,false⟩,⟨89,10,5,false⟩],15,136,0,some (.agg #[.int .i64 0,.int .i64 0,.int .i64 0,.int .i64 0,.slice none 0 0,.int .i64 0,.int .i64 0,.int .i64 0,.int .i64 0,.int .i64 0,.int .i64 0,.int .i64 0,.int .i64 0,.int .i64 0,.bool false]),none⟩
def t95:TI:=t39
def t96:TI:=⟨.slice 4,1,24,1,some (.slice none 0 0),none⟩
def t98:TI:=⟨.struct [⟨3,0,1,false⟩,⟨3,1,1,false⟩],2,16,0,some (.agg #[.int .i64 0,.int .i64 0]),some [.i,.i]⟩
def t102:TI:=⟨.slice 107,1,24,2,some (.slice none 0 0),none⟩
def t105:TI:=⟨.struct [⟨3,0,1,false⟩,⟨3,1,1,false⟩,⟨3,2,1,false⟩,⟨25,3,1,false⟩,⟨25,4,1,false⟩],5,72,0,some (.agg #[.int .i64 0,.int .i64 0,.int .i64 0,.slice none 0 0,.slice none 0 0]),none⟩
def t107:TI:=t98
def t110:TI:=⟨.slice 115,1,24,8,some (.slice none 0 0),none⟩
def t113:TI:=⟨.struct [⟨98,0,2,false⟩,⟨98,2,2,false⟩],4,32,0,some (.agg #[.int .i64 0,.int .i64 0,.int .i64 0,.int .i64 0]),some [.i,.i,.i,.i]⟩
def t115:TI:=⟨.struct [⟨3,0,1,false⟩,⟨3,1,1,false⟩,⟨113,2,4,false⟩,⟨3,6,1,false⟩,⟨3,7,1,false⟩],8,64,0,some (.agg #[.int .i64 0,.int .i64 0,.int .i64 0,.int .i64 0,.int .i64 0,.int .i64 0,.int .i64 0,.int .i64 0]),some [.i,.i,.i,.i,.i,.i,.i,.i]⟩
def t133:TI:=⟨.map 98 29,1,8,0,some (.map none),none⟩
def t138:TI:=t39
def t140:TI:=⟨.ptr 142,1,8,0,some (.pointer none),none⟩
def t142:TI:=⟨.struct [⟨140,0,1,false⟩,⟨52,1,1,false⟩],2,32,0,some (.agg #[.pointer none,.slice none 0 0]),none⟩
def t144:TI:=⟨.iface false,1,16,0,some (.nilIface),none⟩
def t152:TI:=t39
def t161:TI:=⟨.struct [⟨3,0,1,false⟩,⟨62,1,1,false⟩],2,32,0,some (.agg #[.int .i64 0,.slice none 0 0]),none⟩
def t165:TI:=⟨.map 3 3,1,8,0,some (.map none),none⟩
def t166:TI:=⟨.array 4 3,4,32,1,some (.agg #[.int .i64 0,.int .i64 0,.int .i64 0,.int .i64 0]),some [.i,.i,.i,.i]⟩
def t181:TI:=t39
def t182:TI:=t39
def t183:TI:=t39
def t184:TI:=t39
def t186:TI:=⟨.struct [⟨181,0,1,false⟩,⟨95,1,1,false⟩,⟨182,2,1,false⟩,⟨183,3,1,false⟩,⟨184,4,1,false⟩],5,40,0,some (.agg #[.nilFunc,.nilFunc,.nilFunc,.nilFunc,.nilFunc]),none⟩
def t190:TI:=t39
def t196:TI:=t39
def t198:TI:=t39
def t202:TI:=t39
def t203:TI:=⟨.ptr 5,1,8,0,some (.pointer none),none⟩
def t215:TI:=t39
def t218:TI:=t39
def t224:TI:=⟨.int .u64,1,8,0,some (.int .u64 0),none⟩
def t225:TI:=t39
def t230:TI:=⟨.slice 234,1,24,3,some (.slice none 0 0),none⟩
def t232:TI:=⟨.slice 236,1,24,3,some (.slice none 0 0),none⟩
def t234:TI:=⟨.struct [⟨3,0,1,false⟩,⟨3,1,1,false⟩,⟨3,2,1,false⟩],3,24,0,some (.agg #[.int .i64 0,.int .i64 0,.int .i64 0]),some [.i,.i,.i]⟩
def t236:TI:=⟨.struct [⟨3,0,1,false⟩,⟨3,1,1,false⟩,⟨3,2,1,false⟩],3,24,0,some (.agg #[.int .i64 0,.int .i64 0,.int .i64 0]),some [.i,.i,.i]⟩
def t237:TI:=⟨.map 3 60,1,8,0,some (.map none),none⟩
def t242:TI:=⟨.array 8 3,8,64,1,some (.agg #[.int .i64 0,.int .i64 0,.int .i64 0,.int .i64 0,.int .i64 0,.int .i64 0,.int .i64 0,.int .i64 0]),some [.i,.i,.i,.i,.i,.i,.i,.i]⟩
def t247:TI:=⟨.ptr 252,1,8,0,some (.pointer none),none⟩
def t250:TI:=⟨.map 107 3,1,8,0,some (.map none),none⟩
def t252:TI:=⟨.struct [⟨165,0,1,false⟩,⟨250,1,1,false⟩,⟨165,2,1,false⟩,⟨165,3,1,false⟩],4,32,0,some (.agg #[.map none,.map none,.map none,.map none]),none⟩
def t254:TI:=⟨.struct [],0,0,0,some (.agg #[]),some []⟩
def t256:TI:=⟨.ptr 258,1,8,0,some (.pointer none),none⟩
def t258:TI:=⟨.struct [⟨60,0,2,false⟩],2,48,0,some (.agg #[.slice none 0 0,.slice none 0 0]),none⟩
def t260:TI:=⟨.map 3 186,1,8,0,some (.map none),none⟩
def t265:TI:=t39
def t266:TI:=t39
def t268:TI:=⟨.other,1,8,0,some (.pointer none),none⟩
def t277:TI:=t234
def t290:TI:=t39
def t293:TI:=t2
def t297:TI:=t39
def t301:TI:=⟨.int .u32,1,4,0,some (.int .u32 0),none⟩
def t303:TI:=t224
def t324:TI:=t39
def t337:TI:=t224
def t341:TI:=⟨.ptr 3,1,8,0,some (.pointer none),none⟩
def t345:TI:=t39
def t348:TI:=t39
def t350:TI:=⟨.struct [⟨142,0,2,false⟩],2,32,0,some (.agg #[.pointer none,.slice none 0 0]),none⟩
def t360:TI:=t39
def t369:TI:=⟨.ptr 337,1,8,0,some (.pointer none),none⟩
def t374:TI:=t39
def t381:TI:=⟨.ptr 350,1,8,0,some (.pointer none),none⟩
def t383:TI:=t39
def t386:TI:=⟨.slice 45,1,24,1,some (.slice none 0 0),none⟩
def t392:TI:=⟨.array 256 5,256,256,1,some (.agg #[.int .u8 0,.int .u8 0,.int .u8 0,.int .u8 0,.int .u8 0,.int .u8 0,.int .u8 0,.int .u8 0,.int .u8 0,.int .u8 0,.int .u8 0,.int .u8 0,.int .u8 0,.int .u8 0,.int .u8 0,.int .u8 0,.int .u8 0,.int .u8 0,.int .u8 0,.int .u8 0,.int .u8 0,.int .u8 0,.int .u8 0,.int .u8 0,.int .u8 0,.int .u8 0,.int .u8 0,.int .u8 0,.int .u8 0,.int .u8 0,.int .u8 0,.int .u8 0,.int .u8 0,.int .u8 0,.int .u8 0,.int .u8 0,.int .u8 0,.int .u8 0,.int .u8 0,.int .u8 0,.int .u8 0,.int .u8 0,.int .u8 0,.int .u8 0,.int .u8 0,.int .u8 0,.int .u8 0,.int .u8 0,.int .u8 0,.int .u8 0,.int .u8 0,.int .u8 0,.int .u8 0,.int .u8 0,.int .u8 0,.int .u8 0,.int .u8 0,.int .u8 0,.int .u8 0,.int .u8 0,.int .u8 0,.int .u8 0,.int .u8 0,.int .u8 0,.int .u8 0,.int .u8 0,.int .u8 0,.int .u8 0,.int .u8 0,.int .u8 0,.int .u8 0,.int .u8 0,.int .u8 0,.int .u8 0,.int .u8 0,.int .u8 0,.int .u8 0,.int .u8 0,.int .u8 0,.int .u8 0,.int .u8 0,.int .u8 0,.int .u8 0,.int .u8 0,.int .u8 0,.int .u8 0,.int .u8 0,.int .u8 0,.int .u8 0,.int .u8 0,.int .u8 0,.int .u8 0,.int .u8 0,.int .u8 0,.int .u8 0,.int .u8 0,.int .u8 0,.int .u8 0,.int .u8 0,.int .u8 0,.int .u8 0,.int .u8 0,.int .u8 0,.int .u8 0,.int .u8 0,.int .u8 0,.int .u8 0,.int .u8 0,.int .u8 0,.int .u8 0,.int .u8 0,.int .u8 0,.int .u8 0,.int .u8 0,.int .u8 0,.int .u8 0,.int .u8 0,.int .u8 0,.int .u8 0,.int .u8 0,.int .u8 0,.int .u8 0,.int .u8 0,.int .u8 0,.int .u8 0,.int .u8 0,.int .u8 0,.int .u8 0,.int .u8 0,.int .u8 0,.int .u8 0,.int .u8 0,.int .u8 0,.int .u8 0,.int .u8 0,.int .u8 0,.int .u8 0,.int .u8 0,.int .u8 0,.int .u8 0,.int .u8 0,.int .u8 0,.int .u8 0,.int .u8 0,.int .u8 0,.int .u8 0,.int .u8 0,.int .u8 0,.int .u8 0,.int .u8 0,.int .u8 0,.int .u8 0,.int .u8 0,.int .u8 0,.int .u8 0,.int .u8 0,.int .u8 0,.int .u8 0,.int .u8 0,.int .u8 0,.int .u8 0,.int .u8 0,.int .u8 0,.int .u8 0,.int .u8 0,.int .u8 0,.int .u8 0,.int .u8 0,.int .u8 0,.int .u8 0,.int .u8 0,.int .u8 0,.int .u8 0,.int .u8 0,.int .u8 0,.int .u8 0,.int .u8 0,.int .u8 0,.int .u8 0,.int .u8 0,.int .u8 0,.int .u8 0,.int .u8 0,.int .u8 0,.int .u8 0,.int .u8 0,.int .u8 0,.int .u8 0,.int .u8 0,.int .u8 0,.int .u8 0,.int .u8 0,.int .u8 0,.int .u8 0,.int .u8 0,.int .u8 0,.int .u8 0,.int .u8 0,.int .u8 0,.int .u8 0,.int .u8 0,.int .u8 0,.int .u8 0,.int .u8 0,.int .u8 0,.int .u8 0,.int .u8 0,.int .u8 0,.int .u8 0,.int .u8 0,.int .u8 0,.int .u8 0,.int .u8 0,.int .u8 0,.int .u8 0,.int .u8 0,.int .u8 0,.int .u8 0,.int .u8 0,.int .u8 0,.int .u8 0,.int .u8 0,.int .u8 0,.int .u8 0,.int .u8 0,.int .u8 0,.int .u8 0,.int .u8 0,.int .u8 0,.int .u8 0,.int .u8 0,.int .u8 0,.int .u8 0,.int .u8 0,.int .u8 0,.int .u8 0,.int .u8 0,.int .u8 0,.int .u8 0,.int .u8 0,.int .u8 0,.int .u8 0,.int .u8 0,.int .u8 0,.int .u8 0,.int .u8 0,.int .u8 0,.int .u8 0,.int .u8 0,.int .u8 0,.int .u8 0,.int .u8 0,.int .u8 0,.int .u8 0,.int .u8 0,.int .u8 0]),none⟩
def t394:TI:=⟨.struct [⟨5,0,1,false⟩,⟨5,1,1,false⟩],2,2,0,some (.agg #[.int .u8 0,.int .u8 0]),some [.i,.i]⟩
def t395:TI:=⟨.array 16 394,32,32,2,some (.agg #[.int .u8 0,.int .u8 0,.int .u8 0,.int .u8 0,.int .u8 0,.int .u8 0,.int .u8 0,.int .u8 0,.int .u8 0,.int .u8 0,.int .u8 0,.int .u8 0,.int .u8 0,.int .u8 0,.int .u8 0,.int .u8 0,.int .u8 0,.int .u8 0,.int .u8 0,.int .u8 0,.int .u8 0,.int .u8 0,.int .u8 0,.int .u8 0,.int .u8 0,.int .u8 0,.int .u8 0,.int .u8 0,.int .u8 0,.int .u8 0,.int .u8 0,.int .u8 0]),some [.i,.i,.i,.i,.i,.i,.i,.i,.i,.i,.i,.i,.i,.i,.i,.i,.i,.i,.i,.i,.i,.i,.i,.i,.i,.i,.i,.i,.i,.i,.i,.i]⟩
def t402:TI:=t39
def JP:Tr TI:=v (v (v .e .e) (y t383)) (v (v .e .e) .e)
def Jj:Tr TI:=u t95 (v (v .e .e) (v .e .e)) (v (v .e .e) .e)
def Jz:Tr TI:=u t79 (v (v .e .e) (v .e .e)) (v (v .e .e) .e)
def Gz:Tr TI:=v (v (y t303) .e) (v (v .e .e) .e)
def JH:Tr TI:=v (v (v .e .e) (v .e .e)) (v (v .e .e) .e)
def GI:Tr TI:=v (v (v .e .e) (v .e .e)) (v (v .e .e) .e)
def Jr:Tr TI:=u t87 (v (v .e .e) (v .e .e)) (u t215 (v .e .e) .e)
def Gr:Tr TI:=v (u t183 (v .e .e) .e) (u t247 (v .e .e) .e)
def QL:Tr TI:=u t7 (v (u t31 JP Jj) (v Jz Gz)) (v (u t39 JH GI) (u t55 Jr Gr))
def JL:Tr TI:=v (v (v .e .e) (v .e .e)) (v (v .e .e) .e)
def Jf:Tr TI:=v (v (v .e .e) (v .e .e)) (v (v .e .e) .e)
def Jv:Tr TI:=u t83 (v (v .e .e) (v .e .e)) (v (v .e .e) .e)
def Gv:Tr TI:=u t115 (v (v .e .e) .e) (v (v .e .e) .e)
def JD:Tr TI:=v (v (v .e .e) (y t395)) (u t203 (v .e .e) .e)
def GD:Tr TI:=u t107 (v (v .e .e) (v .e .e)) (v (v .e .e) .e)
def Jn:Tr TI:=u t91 (v (v .e .e) (v .e .e)) (v (v .e .e) .e)
def Gm:Tr TI:=v (v (v .e .e) .e) (v (v .e .e) .e)
def NO:Tr TI:=v (v (u t35 JL Jf) (v Jv Gv)) (u t27 (v JD GD) (v Jn Gm))
def JN:Tr TI:=v (v (v .e .e) (v .e .e)) (v (v .e .e) .e)
def Jh:Tr TI:=v (u t161 (v .e .e) (v .e .e)) (u t225 (v .e .e) .e)
def Jx:Tr TI:=v (v (v .e .e) (v .e .e)) (v (y t337) .e)
def Gx:Tr TI:=u t113 (v (v .e .e) .e) (v (y t369) .e)
def JF:Tr TI:=v (v (y t265) (v .e .e)) (v (v .e .e) .e)
def GG:Tr TI:=u t105 (v (y t297) (v .e .e)) (v (v .e .e) .e)
def Jp:Tr TI:=u t89 (v (v .e .e) (v .e .e)) (v (y t345) .e)
def Gp:Tr TI:=v (v (v .e .e) .e) (v (v .e .e) .e)
def QJ:Tr TI:=u t9 (v (v JN Jh) (v Jx Gx)) (u t25 (v JF GG) (u t57 Jp Gp))
def JJ:Tr TI:=v (u t133 (v .e .e) (v .e .e)) (v (v .e .e) .e)
def GK:Tr TI:=v (u t165 (y t293) (v .e .e)) (v (v .e .e) .e)
def Jt:Tr TI:=u t85 (v (y t277) (v .e .e)) (v (y t341) .e)
def Gt:Tr TI:=v (u t181 (v .e .e) .e) (v (v .e .e) .e)
def JB:Tr TI:=v (v (v .e .e) (v .e .e)) (v (v .e .e) .e)
def GB:Tr TI:=v (v (y t301) .e) (u t237 (v .e .e) .e)
def Jl:Tr TI:=v (v (v .e .e) (v .e .e)) (v (v .e .e) .e)
def Gk:Tr TI:=v (v (v .e .e) .e) (v (y t381) .e)
def NM:Tr TI:=v (u t21 (v JJ GK) (v Jt Gt)) (u t29 (u t45 JB GB) (u t61 Jl Gk))
def JO:Tr TI:=u t64 (v (y t256) (v .e .e)) (v (v .e .e) .e)
def Ji:Tr TI:=u t96 (v (v .e .e) (v .e .e)) (u t224 (v .e .e) .e)
def Jy:Tr TI:=v (u t144 (v .e .e) (v .e .e)) (v (v .e .e) .e)
def Gy:Tr TI:=v (v (v .e .e) .e) (v (v .e .e) .e)
def JG:Tr TI:=u t72 (v (v .e .e) (y t392)) (v (v .e .e) .e)
def GH:Tr TI:=v (v (v .e .e) (v .e .e)) (u t232 (y t360) .e)
def Jq:Tr TI:=v (u t152 (v .e .e) (v .e .e)) (v (v .e .e) .e)
def Gq:Tr TI:=v (u t184 (v .e .e) .e) (v (v .e .e) .e)
def QK:Tr TI:=u t8 (u t16 (v JO Ji) (v Jy Gy)) (u t24 (v JG GH) (v Jq Gq))
def JK:Tr TI:=v (v (y t260) (v .e .e)) (u t196 (y t324) .e)
def GL:Tr TI:=v (v (v .e .e) (v .e .e)) (v (v .e .e) .e)
def Ju:Tr TI:=v (v (v .e .e) (v .e .e)) (v (v .e .e) .e)
def Gu:Tr TI:=v (v (v .e .e) .e) (v (v .e .e) .e)
def JC:Tr TI:=v (u t140 (y t268) (v .e .e)) (v (v .e .e) .e)
def GC:Tr TI:=v (v (v .e .e) .e) (u t236 (v .e .e) .e)
def Jm:Tr TI:=v (v (v .e .e) (v .e .e)) (v (y t348) .e)
def Gl:Tr TI:=v (v (v .e .e) .e) (u t252 (v .e .e) .e)
def NN:Tr TI:=v (u t20 (v JK GL) (u t52 Ju Gu)) (v (v JC GC) (u t60 Jm Gl))
def JM:Tr TI:=v (v (y t258) (y t386)) (v (v .e .e) .e)
def Jg:Tr TI:=u t98 (v (y t290) (v .e .e)) (v (v .e .e) .e)
def Jw:Tr TI:=v (v (v .e .e) (y t402)) (v (v .e .e) .e)
def Gw:Tr TI:=v (v (v .e .e) .e) (u t242 (v .e .e) .e)
def JE:Tr TI:=v (u t138 (y t266) (y t394)) (u t202 (v .e .e) .e)
def GF:Tr TI:=v (v (v .e .e) (v .e .e)) (u t234 (v .e .e) .e)
def Jo:Tr TI:=v (v (v .e .e) (v .e .e)) (u t218 (v .e .e) .e)
def Gn:Tr TI:=v (u t186 (v .e .e) .e) (u t250 (v .e .e) .e)
def NP:Tr TI:=v (v (v JM Jg) (v Jw Gw)) (v (u t42 JE GF) (u t58 Jo Gn))
def JI:Tr TI:=v (v (v .e .e) (v .e .e)) (u t198 (v .e .e) .e)
def GJ:Tr TI:=u t102 (u t166 (v .e .e) (v .e .e)) (u t230 (v .e .e) .e)
def Js:Tr TI:=v (v (v .e .e) (v .e .e)) (v (v .e .e) .e)
def Gs:Tr TI:=v (u t182 (v .e .e) .e) (v (y t374) .e)
def JA:Tr TI:=v (u t142 (v .e .e) (v .e .e)) (v (v .e .e) .e)
def GA:Tr TI:=u t110 (v (v .e .e) .e) (v (v .e .e) .e)
def Jk:Tr TI:=v (v (v .e .e) (v .e .e)) (v (y t350) .e)
def Gj:Tr TI:=v (u t190 (v .e .e) .e) (u t254 (v .e .e) .e)
def NL:Tr TI:=v (u t22 (v JI GJ) (v Js Gs)) (v (v JA GA) (u t62 Jk Gj))
def Db:Tr TI:=v (v (u t3 QL NO) (u t5 QJ NM)) (u t2 (u t4 QK NN) (u t6 NP NL))
noncomputable def Mi:Tr Func:=v (u Tryz.f127 (y Tryz.f255) (y Tryz.f383)) (u Tryz.f191 (y Tryz.f319) .e)
noncomputable def Lw:Tr Func:=u Tryz.f95 (u Tryz.f159 (y Tryz.f287) (v .e .e)) (u Tryz.f223 (y Tryz.f351) .e)
noncomputable def LQ:Tr Func:=u Tryz.f79 (u Tryz.f143 (y Tryz.f271) (y Tryz.f399)) (v (y Tryz.f335) .e)
noncomputable def HZ:Tr Func:=u Tryz.f111 (u Tryz.f175 (y Tryz.f303) .e) (u Tryz.f239 (y Tryz.f367) .e)
noncomputable def Ma:Tr Func:=v (u Tryz.f135 (y Tryz.f263) (y Tryz.f391)) (v (y Tryz.f327) .e)
noncomputable def Ij:Tr Func:=u Tryz.f103 (u Tryz.f167 (v .e .e) .e) (u Tryz.f231 (y Tryz.f359) .e)
noncomputable def LG:Tr Func:=v (v (y Tryz.f279) (v .e .e)) (u Tryz.f215 (y Tryz.f343) .e)
noncomputable def HR:Tr Func:=u Tryz.f119 (u Tryz.f183 (y Tryz.f311) .e) (u Tryz.f247 (v .e .e) .e)
noncomputable def Rs:Tr Func:=v (u Tryz.f15 (v Mi Lw) (v LQ HZ)) (u Tryz.f23 (u Tryz.f39 Ma Ij) (v LG HR))
noncomputable def Me:Tr Func:=u Tryz.f67 (u Tryz.f131 (y Tryz.f259) (y Tryz.f387)) (u Tryz.f195 (y Tryz.f323) .e)
noncomputable def Ls:Tr Func:=u Tryz.f99 (v (y Tryz.f291) (v .e .e)) (v (y Tryz.f355) .e)
noncomputable def LL:Tr Func:=u Tryz.f83 (v (y Tryz.f275) (v .e .e)) (u Tryz.f211 (y Tryz.f339) .e)
noncomputable def HV:Tr Func:=u Tryz.f115 (u Tryz.f179 (y Tryz.f307) .e) (u Tryz.f243 (y Tryz.f371) .e)
noncomputable def LV:Tr Func:=u Tryz.f75 (u Tryz.f139 (y Tryz.f267) (y Tryz.f395)) (v (y Tryz.f331) .e)
noncomputable def Ie:Tr Func:=v (u Tryz.f171 (v .e .e) .e) (u Tryz.f235 (y Tryz.f363) .e)
noncomputable def LB:Tr Func:=v (u Tryz.f155 (y Tryz.f283) (v .e .e)) (u Tryz.f219 (v .e .e) .e)
noncomputable def HN:Tr Func:=u Tryz.f123 (v (y Tryz.f315) .e) (u Tryz.f251 (y Tryz.f379) .e)
noncomputable def OZ:Tr Func:=u Tryz.f11 (v (v Me Ls) (u Tryz.f51 LL HV)) (u Tryz.f27 (u Tryz.f43 LV Ie) (u Tryz.f59 LB HN))
noncomputable def Mg:Tr Func:=u Tryz.f65 (u Tryz.f129 (y Tryz.f257) (y Tryz.f385)) (u Tryz.f193 (y Tryz.f321) .e)
noncomputable def Lu:Tr Func:=v (u Tryz.f161 (y Tryz.f289) (v .e .e)) (u Tryz.f225 (y Tryz.f353) .e)
noncomputable def LN:Tr Func:=u Tryz.f81 (v (y Tryz.f273) (v .e .e)) (v (y Tryz.f337) .e)
noncomputable def HX:Tr Func:=u Tryz.f113 (u Tryz.f177 (y Tryz.f305) .e) (u Tryz.f241 (y Tryz.f369) .e)
noncomputable def LY:Tr Func:=v (v (y Tryz.f265) (y Tryz.f393)) (v (y Tryz.f329) .e)
noncomputable def Ih:Tr Func:=v (u Tryz.f169 (v .e .e) .e) (u Tryz.f233 (y Tryz.f361) .e)
noncomputable def LD:Tr Func:=v (u Tryz.f153 (y Tryz.f281) (v .e .e)) (u Tryz.f217 (v .e .e) .e)
noncomputable def HP:Tr Func:=u Tryz.f121 (u Tryz.f185 (y Tryz.f313) .e) (u Tryz.f249 (y Tryz.f377) .e)
noncomputable def Rq:Tr Func:=u Tryz.f9 (u Tryz.f17 (v Mg Lu) (u Tryz.f49 LN HX)) (u Tryz.f25 (u Tryz.f41 LY Ih) (u Tryz.f57 LD HP))
noncomputable def Mc:Tr Func:=u Tryz.f69 (u Tryz.f133 (y Tryz.f261) (y Tryz.f389)) (u Tryz.f197 (y Tryz.f325) .e)
noncomputable def Il:Tr Func:=u Tryz.f101 (v (y Tryz.f293) (v .e .e)) (u Tryz.f229 (y Tryz.f357) .e)
noncomputable def LI:Tr Func:=u Tryz.f85 (v (y Tryz.f277) (v .e .e)) (u Tryz.f213 (y Tryz.f341) .e)
noncomputable def HT:Tr Func:=v (u Tryz.f181 (y Tryz.f309) .e) (u Tryz.f245 (y Tryz.f373) .e)
noncomputable def LS:Tr Func:=v (u Tryz.f141 (y Tryz.f269) (y Tryz.f397)) (v (y Tryz.f333) .e)
noncomputable def Ib:Tr Func:=v (u Tryz.f173 (y Tryz.f301) .e) (u Tryz.f237 (y Tryz.f365) .e)
noncomputable def Ly:Tr Func:=v (u Tryz.f157 (y Tryz.f285) (v .e .e)) (u Tryz.f221 (y Tryz.f349) .e)
noncomputable def HL:Tr Func:=v (u Tryz.f189 (y Tryz.f317) .e) (u Tryz.f253 (y Tryz.f381) .e)
noncomputable def OX:Tr Func:=u Tryz.f13 (u Tryz.f21 (v Mc Il) (u Tryz.f53 LI HT)) (v (u Tryz.f45 LS Ib) (u Tryz.f61 Ly HL))
noncomputable def Mh:Tr Func:=v (u Tryz.f128 (y Tryz.f256) (y Tryz.f384)) (v (y Tryz.f320) .e)
noncomputable def Lv:Tr Func:=u Tryz.f96 (u Tryz.f160 (y Tryz.f288) (v .e .e)) (u Tryz.f224 (y Tryz.f352) .e)
noncomputable def LP:Tr Func:=v (u Tryz.f144 (y Tryz.f272) (v .e .e)) (v (y Tryz.f336) .e)
noncomputable def HY:Tr Func:=u Tryz.f112 (u Tryz.f176 (y Tryz.f304) .e) (u Tryz.f240 (y Tryz.f368) .e)
noncomputable def LZ:Tr Func:=u Tryz.f72 (u Tryz.f136 (y Tryz.f264) (y Tryz.f392)) (v (y Tryz.f328) .e)
noncomputable def Ii:Tr Func:=v (u Tryz.f168 (v .e .e) .e) (u Tryz.f232 (y Tryz.f360) .e)
noncomputable def LF:Tr Func:=v (v (y Tryz.f280) (v .e .e)) (u Tryz.f216 (y Tryz.f344) .e)
noncomputable def HQ:Tr Func:=u Tryz.f120 (u Tryz.f184 (y Tryz.f312) .e) (u Tryz.f248 (y Tryz.f376) .e)
noncomputable def Rr:Tr Func:=u Tryz.f8 (v (u Tryz.f32 Mh Lv) (v LP HY)) (v (u Tryz.f40 LZ Ii) (v LF HQ))
noncomputable def Md:Tr Func:=u Tryz.f68 (u Tryz.f132 (y Tryz.f260) (y Tryz.f388)) (u Tryz.f196 (y Tryz.f324) .e)
noncomputable def Im:Tr Func:=u Tryz.f100 (v (y Tryz.f292) (v .e .e)) (u Tryz.f228 (y Tryz.f356) .e)
noncomputable def LJ:Tr Func:=u Tryz.f84 (v (y Tryz.f276) (v .e .e)) (u Tryz.f212 (y Tryz.f340) .e)
noncomputable def HU:Tr Func:=u Tryz.f116 (u Tryz.f180 (y Tryz.f308) .e) (u Tryz.f244 (y Tryz.f372) .e)
noncomputable def LU:Tr Func:=u Tryz.f76 (u Tryz.f140 (y Tryz.f268) (y Tryz.f396)) (v (y Tryz.f332) .e)
noncomputable def Ic:Tr Func:=u Tryz.f108 (u Tryz.f172 (v .e .e) .e) (u Tryz.f236 (y Tryz.f364) .e)
noncomputable def LA:Tr Func:=v (u Tryz.f156 (y Tryz.f284) (v .e .e)) (u Tryz.f220 (y Tryz.f348) .e)
noncomputable def HM:Tr Func:=u Tryz.f124 (u Tryz.f188 (y Tryz.f316) .e) (u Tryz.f252 (y Tryz.f380) .e)
noncomputable def OY:Tr Func:=v (v (u Tryz.f36 Md Im) (u Tryz.f52 LJ HU)) (u Tryz.f28 (u Tryz.f44 LU Ic) (u Tryz.f60 LA HM))
noncomputable def Mf:Tr Func:=u Tryz.f66 (u Tryz.f130 (y Tryz.f258) (y Tryz.f386)) (u Tryz.f194 (y Tryz.f322) .e)
noncomputable def Lt:Tr Func:=u Tryz.f98 (u Tryz.f162 (y Tryz.f290) (v .e .e)) (v (y Tryz.f354) .e)
noncomputable def LM:Tr Func:=u Tryz.f82 (v (y Tryz.f274) (v .e .e)) (u Tryz.f210 (y Tryz.f338) .e)
noncomputable def HW:Tr Func:=u Tryz.f114 (u Tryz.f178 (y Tryz.f306) .e) (u Tryz.f242 (y Tryz.f370) .e)
noncomputable def LX:Tr Func:=u Tryz.f74 (u Tryz.f138 (y Tryz.f266) (y Tryz.f394)) (v (y Tryz.f330) .e)
noncomputable def Ig:Tr Func:=v (u Tryz.f170 (v .e .e) .e) (u Tryz.f234 (y Tryz.f362) .e)
noncomputable def LC:Tr Func:=v (u Tryz.f154 (y Tryz.f282) (v .e .e)) (u Tryz.f218 (v .e .e) .e)
noncomputable def HO:Tr Func:=v (u Tryz.f186 (y Tryz.f314) .e) (u Tryz.f250 (y Tryz.f378) .e)
noncomputable def Pb:Tr Func:=v (v (u Tryz.f34 Mf Lt) (u Tryz.f50 LM HW)) (v (u Tryz.f42 LX Ig) (v LC HO))
noncomputable def Mb:Tr Func:=u Tryz.f70 (u Tryz.f134 (y Tryz.f262) (y Tryz.f390)) (v (y Tryz.f326) .e)
noncomputable def Ik:Tr Func:=u Tryz.f102 (u Tryz.f166 (y Tryz.f294) .e) (u Tryz.f230 (y Tryz.f358) .e)
noncomputable def LH:Tr Func:=v (v (y Tryz.f278) (v .e .e)) (u Tryz.f214 (y Tryz.f342) .e)
noncomputable def HS:Tr Func:=u Tryz.f118 (u Tryz.f182 (y Tryz.f310) .e) (u Tryz.f246 (y Tryz.f374) .e)
noncomputable def LR:Tr Func:=u Tryz.f78 (u Tryz.f142 (y Tryz.f270) (y Tryz.f398)) (v (y Tryz.f334) .e)
noncomputable def Ia:Tr Func:=v (u Tryz.f174 (y Tryz.f302) .e) (u Tryz.f238 (y Tryz.f366) .e)
noncomputable def Lx:Tr Func:=v (u Tryz.f158 (y Tryz.f286) (v .e .e)) (u Tryz.f222 (y Tryz.f350) .e)
noncomputable def HK:Tr Func:=v (u Tryz.f190 (y Tryz.f318) .e) (u Tryz.f254 (y Tryz.f382) .e)
noncomputable def OW:Tr Func:=v (v (u Tryz.f38 Mb Ik) (u Tryz.f54 LH HS)) (v (u Tryz.f46 LR Ia) (v Lx HK))
noncomputable def Ef:Tr Func:=v (v (v Rs OZ) (v Rq OX)) (v (v Rr OY) (u Tryz.f6 Pb OW))
noncomputable def df:Tr Gd:=(Tr.set .e 117 (kf Tryz.f117))
noncomputable def cl:Tr PI:=(Tr.set .e 174 (BN Tryz.f174))
noncomputable def _root_.Go.Proofs.YtmdfgncoekfgdaaGreatDoor.TE:Env:={ty:=Db,fn:=Ef,G:=3,df:=df,cl:=cl}
set_option maxRecDepth 100000
theorem NK:(Db.pW 1 0).map (λp=>Rb Tryz.prog p.1)=(Db.pW 1 0).map (λp=>some p.2):=by kernel_rfl
theorem OV:(Ef.pW 1 0).map (λp=>Tryz.prog.funcs[p.1]?)=(Ef.pW 1 0).map (λp=>some p.2):=by kernel_rfl
theorem Pm:df.pW 1 0=[(117,kf Tryz.f117)]:=by kernel_rfl
theorem MN:Tryz.prog.funcs[117]?=some (kf Tryz.f117).fn:=by kernel_rfl
theorem Em:(kf Tryz.f117).fn.body=some (kI (kf Tryz.f117).pre (.seq (.region (kf Tryz.f117).id #[(kf Tryz.f117).mf,(kf Tryz.f117).de] false) (kf Tryz.f117).post)):=by kernel_rfl
theorem Tf:∀x∈ [(117,kf Tryz.f117)],Tryz.prog.funcs[x.1]?=some x.2.fn/\x.2.fn.body=some (kI x.2.pre (.seq (.region x.2.id #[x.2.mf,x.2.de] false) x.2.post)):=by intro x F;simp only[aaS,acp,or_false]at F;rcases F with rfl;exact⟨MN,Em⟩
theorem Pu:cl.pW 1 0=[(174,BN Tryz.f174)]:=by kernel_rfl
theorem M1:Tryz.prog.funcs[174]?=some (BN Tryz.f174).fn:=by kernel_rfl
theorem Ew:(BN Tryz.f174).fn.body=some (.seq (.region (BN Tryz.f174).id (BN Tryz.f174).ops false) (BN Tryz.f174).rest):=by kernel_rfl
theorem Tm:∀x∈ [(174,BN Tryz.f174)],Tryz.prog.funcs[x.1]?=some x.2.fn/\x.2.fn.body=some (.seq (.region x.2.id x.2.ops false) x.2.rest):=by intro x F;simp only[aaS,acp,or_false]at F;rcases F with rfl;exact⟨M1,Ew⟩
theorem iE{α:Type}{p:α->Bool}(n:Nat)(l:List α)(F:(l.take n).all p=true)(H:(l.drop n).all p=true):l.all p=true:=by rw[<-abV n l,ac9,F,H];rfl
theorem Tz:((TE.fn.pW 1 0).take 40).all (λp=>jA TE.G p.2)=true:=by kernel_rfl
theorem Ty:(((TE.fn.pW 1 0).drop 40).take 40).all (λp=>jA TE.G p.2)=true:=by kernel_rfl
theorem Tx:((((TE.fn.pW 1 0).drop 40).drop 40).take 40).all (λp=>jA TE.G p.2)=true:=by kernel_rfl
theorem Tw:(((((TE.fn.pW 1 0).drop 40).drop 40).drop 40).take 40).all (λp=>jA TE.G p.2)=true:=by kernel_rfl
theorem Tv:((((((TE.fn.pW 1 0).drop 40).drop 40).drop 40).drop 40).take 40).all (λp=>jA TE.G p.2)=true:=by kernel_rfl
theorem Tu:(((((((TE.fn.pW 1 0).drop 40).drop 40).drop 40).drop 40).drop 40).take 40).all (λp=>jA TE.G p.2)=true:=by kernel_rfl
theorem Tt:((((((((TE.fn.pW 1 0).drop 40).drop 40).drop 40).drop 40).drop 40).drop 40).take 40).all (λp=>jA TE.G p.2)=true:=by kernel_rfl
theorem Ts:(((((((((TE.fn.pW 1 0).drop 40).drop 40).drop 40).drop 40).drop 40).drop 40).drop 40).take 40).all (λp=>jA TE.G p.2)=true:=by kernel_rfl
theorem VL:(((((((((TE.fn.pW 1 0).drop 40).drop 40).drop 40).drop 40).drop 40).drop 40).drop 40).drop 40).all (λp=>jA TE.G p.2)=true:=by kernel_rfl
theorem Tq:(TE.fn.pW 1 0).all (λp=>jA TE.G p.2)=true:=(iE 40 _ Tz (iE 40 _ Ty (iE 40 _ Tx (iE 40 _ Tw (iE 40 _ Tv (iE 40 _ Tu (iE 40 _ Tt (iE 40 _ Ts VL))))))))
theorem Tp:((TE.ty.pW 1 0).all λp=>(match p.2.zero with |some z=>bP z |none=>true) && (match p.2.d with |.struct F=>F.all (λf=>match TE.ty.get f.ty with |some fi=>fi.size==f.size |none=>false) |_=>true))=true:=by kernel_rfl
theorem TA:((TE.df.pW 1 0).all (λp=>jA TE.G p.2.fn) && (TE.cl.pW 1 0).all λp=>jA TE.G p.2.fn)=true:=by kernel_rfl
theorem CW:TE.CW=true:=by unfold Env.CW;rw[Ψ,Ψ];exact⟨Tp,Tq,TA⟩
theorem size:TE.G=Tryz.prog.globals.size:=by kernel_rfl
theorem st1:TE.fn.get tP=none:=by kernel_rfl
theorem WH:TE.df.get tP=none:=by kernel_rfl
theorem ok:TE.OK Tryz.prog:=⟨⟨st1,WH⟩,λ_ _ h=>Tr.tL _ NK h,λ_ _ h=>Tr.tL _ OV h,size,λ_ _ h=>Tr.Fm (p:=λi d=>Tryz.prog.funcs[i]?=some d.fn/\d.fn.body=some (kI d.pre (.seq (.region d.id #[d.mf,d.de] false) d.post))) _ Pm Tf h,λ_ _ h=>Tr.Fm (p:=λi d=>Tryz.prog.funcs[i]?=some d.fn/\d.fn.body=some (.seq (.region d.id d.ops false) d.rest)) _ Pu Tm h,CW,Checked.mixed Tryz.checked⟩
end ag
end Go.Proofs.YtmdfgncoekfgdaaGreatDoor
