/- The tables of the program for D, made by a program of ours (mktab.py) off the translation; and the proof, by the kernel, that they are the program's. -/
import Derived.Test.YtmdfgncoekfgdaaGreatDoorG0J
import Derived.Test.YtmdfgncoekfgdaaGreatDoorChecked
import Derived.KernelRfl
import Derived.Eval
namespace Go.Proofs.YtmdfgncoekfgdaaGreatDoor
open Go Go.D
namespace af
def t2:TI:=⟨(.int .i64),1,8,0,(some (.int .i64 0)),none⟩
def t3:TI:=⟨(.int .i64),1,8,0,(some (.int .i64 0)),none⟩
def t4:TI:=⟨.bool,1,1,0,(some (.bool false)),none⟩
def t5:TI:=⟨(.int .u8),1,1,0,(some (.int .u8 0)),none⟩
def t6:TI:=t5
def t7:TI:=⟨(.struct [⟨2,0,1,false⟩,⟨3,1,1,false⟩,⟨4,2,1,false⟩,⟨6,3,1,false⟩]),4,24,0,(some (.agg #[.int .i64 0,.int .i64 0,.bool false,.int .u8 0])),(some [.i,.i,.b,.i])⟩
def t8:TI:=t7
def t9:TI:=⟨.str,1,16,0,(some (.string ⟨#[]⟩)),none⟩
def t16:TI:=⟨(.ptr 419),1,8,0,(some (.pointer none)),none⟩
def t20:TI:=⟨(.iface true),1,16,0,(some (.nilIface)),none⟩
def t21:TI:=⟨(.int .i32),1,4,0,(some (.int .i32 0)),none⟩
def t22:TI:=⟨(.slice 85),1,24,6,(some (.slice none 0 0)),none⟩
def t23:TI:=⟨(.array 3 3),3,24,1,(some (.agg #[.int .i64 0,.int .i64 0,.int .i64 0])),(some [.i,.i,.i])⟩
def t24:TI:=⟨(.array 2 3),2,16,1,(some (.agg #[.int .i64 0,.int .i64 0])),(some [.i,.i])⟩
def t25:TI:=⟨(.slice 3),1,24,1,(some (.slice none 0 0)),none⟩
def t27:TI:=⟨(.struct [⟨3,0,1,false⟩,⟨3,1,1,false⟩,⟨25,2,1,false⟩]),3,40,0,(some (.agg #[.int .i64 0,.int .i64 0,.slice none 0 0])),none⟩
def t29:TI:=⟨(.slice 87),1,24,6,(some (.slice none 0 0)),none⟩
def t31:TI:=⟨(.struct [⟨29,0,1,false⟩]),1,24,0,(some (.agg #[.slice none 0 0])),none⟩
def t34:TI:=⟨(.slice 31),1,24,1,(some (.slice none 0 0)),none⟩
def t35:TI:=t2
def t39:TI:=⟨.func,1,8,0,(some (.nilFunc)),none⟩
def t42:TI:=⟨(.slice 9),1,24,1,(some (.slice none 0 0)),none⟩
def t44:TI:=⟨(.slice 27),1,24,3,(some (.slice none 0 0)),none⟩
def t45:TI:=⟨(.slice 98),1,24,2,(some (.slice none 0 0)),none⟩
def t52:TI:=⟨(.slice 5),1,24,1,(some (.slice none 0 0)),none⟩
def t58:TI:=⟨(.slice 89),1,24,5,(some (.slice none 0 0)),none⟩
def t60:TI:=⟨(.struct [⟨31,0,1,false⟩,⟨58,1,1,false⟩]),2,48,0,(some (.agg #[.slice none 0 0,.slice none 0 0])),none⟩
def t61:TI:=⟨(.slice 91),1,24,15,(some (.slice none 0 0)),none⟩
def t62:TI:=⟨(.slice 24),1,24,2,(some (.slice none 0 0)),none⟩
def t64:TI:=⟨(.struct [⟨60,0,2,false⟩,⟨61,2,1,false⟩,⟨62,3,1,false⟩]),4,96,0,(some (.agg #[.slice none 0 0,.slice none 0 0,.slice none 0 0,.slice none 0 0])),none⟩
def t72:TI:=⟨(.slice 105),1,24,5,(some (.slice none 0 0)),none⟩
def t79:TI:=⟨(.slice 83),1,24,5,(some (.slice none 0 0)),none⟩
def t83:TI:=⟨(.struct [⟨3,0,1,false⟩,⟨3,1,1,false⟩,⟨3,2,1,false⟩,⟨3,3,1,false⟩,⟨3,4,1,false⟩]),5,40,0,(some (.agg #[.int .i64 0,.int .i64 0,.int .i64 0,.int .i64 0,.int .i64 0])),(some [.i,.i,.i,.i,.i])⟩
def t85:TI:=⟨(.array 6 3),6,48,1,(some (.agg #[.int .i64 0,.int .i64 0,.int .i64 0,.int .i64 0,.int .i64 0,.int .i64 0])),(some [.i,.i,.i,.i,.i,.i])⟩
def t87:TI:=⟨(.struct [⟨3,0,1,false⟩,⟨3,1,1,false⟩,⟨3,2,1,false⟩,⟨45,3,1,false⟩,⟨3,4,1,false⟩,⟨3,5,1,false⟩]),6,64,0,(some (.agg #[.int .i64 0,.int .i64 0,.int .i64 0,.slice none 0 0,.int .i64 0,.int .i64 0])),none⟩
def t89:TI:=⟨(.struct [⟨3,0,1,false⟩,⟨3,1,1,false⟩,⟨3,2,1,false⟩,⟨3,3,1,false⟩,⟨4,4,1,false⟩]),5,40,0,(some (.agg #[.int .i64 0,.int .i64 0,.int .i64 0,.int .i64 0,.bool false])),(some [.i,.i,.i,.i,.b])⟩
def t91:TI:=⟨(.struct [⟨3,0,1,false⟩,⟨87,1,6,false⟩,⟨3,7,1,false⟩,⟨3,8,1,false⟩,⟨3,9,1,false⟩,⟨89,10,5,false⟩]),15,136,0,(some (.agg #[.int .i64 0,.int .i64 0,.int .i64 0,.int .i64 0,.slice none 0 0,.int .i64 0,.int .i64 0,.int .i64 0,.int .i64 0,.int .i64 0,.int .i64 0,.int .i64 0,.int .i64 0,.int .i64 0,.bool false])),none⟩
def t95:TI:=t39
def t98:TI:=⟨(.struct [⟨3,0,1,false⟩,⟨3,1,1,false⟩]),2,16,0,(some (.agg #[.int .i64 0,.int .i64 0])),(some [.i,.i])⟩
def t102:TI:=⟨(.slice 107),1,24,2,(some (.slice none 0 0)),none⟩
def t105:TI:=⟨(.struct [⟨3,0,1,false⟩,⟨3,1,1,false⟩,⟨3,2,1,false⟩,⟨25,3,1,false⟩,⟨25,4,1,false⟩]),5,72,0,(some (.agg #[.int .i64 0,.int .i64 0,.int .i64 0,.slice none 0 0,.slice none 0 0])),none⟩
def t107:TI:=t98
def t110:TI:=⟨(.slice 115),1,24,8,(some (.slice none 0 0)),none⟩
def t113:TI:=⟨(.struct [⟨98,0,2,false⟩,⟨98,2,2,false⟩]),4,32,0,(some (.agg #[.int .i64 0,.int .i64 0,.int .i64 0,.int .i64 0])),(some [.i,.i,.i,.i])⟩
def t115:TI:=⟨(.struct [⟨3,0,1,false⟩,⟨3,1,1,false⟩,⟨113,2,4,false⟩,⟨3,6,1,false⟩,⟨3,7,1,false⟩]),8,64,0,(some (.agg #[.int .i64 0,.int .i64 0,.int .i64 0,.int .i64 0,.int .i64 0,.int .i64 0,.int .i64 0,.int .i64 0])),(some [.i,.i,.i,.i,.i,.i,.i,.i])⟩
def t133:TI:=⟨(.map 98 29),1,8,0,(some (.map none)),none⟩
def t138:TI:=t39
def t140:TI:=⟨(.ptr 142),1,8,0,(some (.pointer none)),none⟩
def t142:TI:=⟨(.struct [⟨140,0,1,false⟩,⟨52,1,1,false⟩]),2,32,0,(some (.agg #[.pointer none,.slice none 0 0])),none⟩
def t144:TI:=⟨(.iface false),1,16,0,(some (.nilIface)),none⟩
def t152:TI:=t39
def t161:TI:=⟨(.struct [⟨3,0,1,false⟩,⟨62,1,1,false⟩]),2,32,0,(some (.agg #[.int .i64 0,.slice none 0 0])),none⟩
def t165:TI:=⟨(.map 3 3),1,8,0,(some (.map none)),none⟩
def t181:TI:=t39
def t182:TI:=t39
def t183:TI:=t39
def t184:TI:=t39
def t186:TI:=⟨(.struct [⟨181,0,1,false⟩,⟨95,1,1,false⟩,⟨182,2,1,false⟩,⟨183,3,1,false⟩,⟨184,4,1,false⟩]),5,40,0,(some (.agg #[.nilFunc,.nilFunc,.nilFunc,.nilFunc,.nilFunc])),none⟩
def t190:TI:=t39
def t196:TI:=t39
def t198:TI:=t39
def t202:TI:=t39
def t203:TI:=⟨(.ptr 5),1,8,0,(some (.pointer none)),none⟩
def t215:TI:=t39
def t218:TI:=t39
def t224:TI:=⟨(.int .u64),1,8,0,(some (.int .u64 0)),none⟩
def t225:TI:=t39
def t230:TI:=⟨(.slice 234),1,24,3,(some (.slice none 0 0)),none⟩
def t232:TI:=⟨(.slice 236),1,24,3,(some (.slice none 0 0)),none⟩
def t234:TI:=⟨(.struct [⟨3,0,1,false⟩,⟨3,1,1,false⟩,⟨3,2,1,false⟩]),3,24,0,(some (.agg #[.int .i64 0,.int .i64 0,.int .i64 0])),(some [.i,.i,.i])⟩
def t236:TI:=⟨(.struct [⟨3,0,1,false⟩,⟨3,1,1,false⟩,⟨3,2,1,false⟩]),3,24,0,(some (.agg #[.int .i64 0,.int .i64 0,.int .i64 0])),(some [.i,.i,.i])⟩
def t237:TI:=⟨(.map 3 60),1,8,0,(some (.map none)),none⟩
def t242:TI:=⟨(.array 8 3),8,64,1,(some (.agg #[.int .i64 0,.int .i64 0,.int .i64 0,.int .i64 0,.int .i64 0,.int .i64 0,.int .i64 0,.int .i64 0])),(some [.i,.i,.i,.i,.i,.i,.i,.i])⟩
def t247:TI:=⟨(.ptr 252),1,8,0,(some (.pointer none)),none⟩
def t250:TI:=⟨(.map 107 3),1,8,0,(some (.map none)),none⟩
def t252:TI:=⟨(.struct [⟨165,0,1,false⟩,⟨250,1,1,false⟩,⟨165,2,1,false⟩,⟨165,3,1,false⟩]),4,32,0,(some (.agg #[.map none,.map none,.map none,.map none])),none⟩
def t254:TI:=⟨(.struct []),0,0,0,(some (.agg #[])),(some [])⟩
def t256:TI:=⟨(.ptr 258),1,8,0,(some (.pointer none)),none⟩
def t258:TI:=⟨(.struct [⟨60,0,2,false⟩]),2,48,0,(some (.agg #[.slice none 0 0,.slice none 0 0])),none⟩
def t260:TI:=⟨(.map 3 186),1,8,0,(some (.map none)),none⟩
def t265:TI:=t39
def t266:TI:=t39
def t268:TI:=⟨.other,1,8,0,(some (.pointer none)),none⟩
def t277:TI:=t234
def t290:TI:=t39
def t293:TI:=t2
def t297:TI:=t39
def t301:TI:=⟨(.int .u32),1,4,0,(some (.int .u32 0)),none⟩
def t303:TI:=t224
def t324:TI:=t39
def t337:TI:=t224
def t341:TI:=⟨(.ptr 3),1,8,0,(some (.pointer none)),none⟩
def t345:TI:=t39
def t348:TI:=t39
def t350:TI:=⟨(.struct [⟨142,0,2,false⟩]),2,32,0,(some (.agg #[.pointer none,.slice none 0 0])),none⟩
def t360:TI:=t39
def t369:TI:=⟨(.ptr 337),1,8,0,(some (.pointer none)),none⟩
def t374:TI:=t39
def t381:TI:=⟨(.ptr 350),1,8,0,(some (.pointer none)),none⟩
def t383:TI:=t39
def t386:TI:=⟨(.slice 45),1,24,1,(some (.slice none 0 0)),none⟩
def t392:TI:=⟨(.array 256 5),256,256,1,(some (.agg #[.int .u8 0,.int .u8 0,.int .u8 0,.int .u8 0,.int .u8 0,.int .u8 0,.int .u8 0,.int .u8 0,.int .u8 0,.int .u8 0,.int .u8 0,.int .u8 0,.int .u8 0,.int .u8 0,.int .u8 0,.int .u8 0,.int .u8 0,.int .u8 0,.int .u8 0,.int .u8 0,.int .u8 0,.int .u8 0,.int .u8 0,.int .u8 0,.int .u8 0,.int .u8 0,.int .u8 0,.int .u8 0,.int .u8 0,.int .u8 0,.int .u8 0,.int .u8 0,.int .u8 0,.int .u8 0,.int .u8 0,.int .u8 0,.int .u8 0,.int .u8 0,.int .u8 0,.int .u8 0,.int .u8 0,.int .u8 0,.int .u8 0,.int .u8 0,.int .u8 0,.int .u8 0,.int .u8 0,.int .u8 0,.int .u8 0,.int .u8 0,.int .u8 0,.int .u8 0,.int .u8 0,.int .u8 0,.int .u8 0,.int .u8 0,.int .u8 0,.int .u8 0,.int .u8 0,.int .u8 0,.int .u8 0,.int .u8 0,.int .u8 0,.int .u8 0,.int .u8 0,.int .u8 0,.int .u8 0,.int .u8 0,.int .u8 0,.int .u8 0,.int .u8 0,.int .u8 0,.int .u8 0,.int .u8 0,.int .u8 0,.int .u8 0,.int .u8 0,.int .u8 0,.int .u8 0,.int .u8 0,.int .u8 0,.int .u8 0,.int .u8 0,.int .u8 0,.int .u8 0,.int .u8 0,.int .u8 0,.int .u8 0,.int .u8 0,.int .u8 0,.int .u8 0,.int .u8 0,.int .u8 0,.int .u8 0,.int .u8 0,.int .u8 0,.int .u8 0,.int .u8 0,.int .u8 0,.int .u8 0,.int .u8 0,.int .u8 0,.int .u8 0,.int .u8 0,.int .u8 0,.int .u8 0,.int .u8 0,.int .u8 0,.int .u8 0,.int .u8 0,.int .u8 0,.int .u8 0,.int .u8 0,.int .u8 0,.int .u8 0,.int .u8 0,.int .u8 0,.int .u8 0,.int .u8 0,.int .u8 0,.int .u8 0,.int .u8 0,.int .u8 0,.int .u8 0,.int .u8 0,.int .u8 0,.int .u8 0,.int .u8 0,.int .u8 0,.int .u8 0,.int .u8 0,.int .u8 0,.int .u8 0,.int .u8 0,.int .u8 0,.int .u8 0,.int .u8 0,.int .u8 0,.int .u8 0,.int .u8 0,.int .u8 0,.int .u8 0,.int .u8 0,.int .u8 0,.int .u8 0,.int .u8 0,.int .u8 0,.int .u8 0,.int .u8 0,.int .u8 0,.int .u8 0,.int .u8 0,.int .u8 0,.int .u8 0,.int .u8 0,.int .u8 0,.int .u8 0,.int .u8 0,.int .u8 0,.int .u8 0,.int .u8 0,.int .u8 0,.int .u8 0,.int .u8 0,.int .u8 0,.int .u8 0,.int .u8 0,.int .u8 0,.int .u8 0,.int .u8 0,.int .u8 0,.int .u8 0,.int .u8 0,.int .u8 0,.int .u8 0,.int .u8 0,.int .u8 0,.int .u8 0,.int .u8 0,.int .u8 0,.int .u8 0,.int .u8 0,.int .u8 0,.int .u8 0,.int .u8 0,.int .u8 0,.int .u8 0,.int .u8 0,.int .u8 0,.int .u8 0,.int .u8 0,.int .u8 0,.int .u8 0,.int .u8 0,.int .u8 0,.int .u8 0,.int .u8 0,.int .u8 0,.int .u8 0,.int .u8 0,.int .u8 0,.int .u8 0,.int .u8 0,.int .u8 0,.int .u8 0,.int .u8 0,.int .u8 0,.int .u8 0,.int .u8 0,.int .u8 0,.int .u8 0,.int .u8 0,.int .u8 0,.int .u8 0,.int .u8 0,.int .u8 0,.int .u8 0,.int .u8 0,.int .u8 0,.int .u8 0,.int .u8 0,.int .u8 0,.int .u8 0,.int .u8 0,.int .u8 0,.int .u8 0,.int .u8 0,.int .u8 0,.int .u8 0,.int .u8 0,.int .u8 0,.int .u8 0,.int .u8 0,.int .u8 0,.int .u8 0,.int .u8 0,.int .u8 0,.int .u8 0,.int .u8 0,.int .u8 0,.int .u8 0,.int .u8 0,.int .u8 0,.int .u8 0,.int .u8 0,.int .u8 0,.int .u8 0,.int .u8 0,.int .u8 0,.int .u8 0,.int .u8 0,.int .u8 0,.int .u8 0,.int .u8 0,.int .u8 0,.int .u8 0])),none⟩
def t394:TI:=⟨(.struct [⟨5,0,1,false⟩,⟨5,1,1,false⟩]),2,2,0,(some (.agg #[.int .u8 0,.int .u8 0])),(some [.i,.i])⟩
def t395:TI:=⟨(.array 16 394),32,32,2,(some (.agg #[.int .u8 0,.int .u8 0,.int .u8 0,.int .u8 0,.int .u8 0,.int .u8 0,.int .u8 0,.int .u8 0,.int .u8 0,.int .u8 0,.int .u8 0,.int .u8 0,.int .u8 0,.int .u8 0,.int .u8 0,.int .u8 0,.int .u8 0,.int .u8 0,.int .u8 0,.int .u8 0,.int .u8 0,.int .u8 0,.int .u8 0,.int .u8 0,.int .u8 0,.int .u8 0,.int .u8 0,.int .u8 0,.int .u8 0,.int .u8 0,.int .u8 0,.int .u8 0])),(some [.i,.i,.i,.i,.i,.i,.i,.i,.i,.i,.i,.i,.i,.i,.i,.i,.i,.i,.i,.i,.i,.i,.i,.i,.i,.i,.i,.i,.i,.i,.i,.i])⟩
def t402:TI:=t39
def FJ:Tr TI:=.n none (.n none (.n none .e .e) (.n (some t383) .e .e)) (.n none (.n none .e .e) .e)
def Fa:Tr TI:=.n (some t95) (.n none (.n none .e .e) (.n none .e .e)) (.n none (.n none .e .e) .e)
def Ft:Tr TI:=.n (some t79) (.n none (.n none .e .e) (.n none .e .e)) (.n none (.n none .e .e) .e)
def CJ:Tr TI:=.n none (.n none (.n (some t303) .e .e) .e) (.n none (.n none .e .e) .e)
def FB:Tr TI:=.n none (.n none (.n none .e .e) (.n none .e .e)) (.n none (.n none .e .e) .e)
def CR:Tr TI:=.n none (.n none (.n none .e .e) (.n none .e .e)) (.n none (.n none .e .e) .e)
def Fj:Tr TI:=.n (some t87) (.n none (.n none .e .e) (.n none .e .e)) (.n (some t215) (.n none .e .e) .e)
def CB:Tr TI:=.n none (.n (some t183) (.n none .e .e) .e) (.n (some t247) (.n none .e .e) .e)
def Lh:Tr TI:=.n (some t7) (.n none (.n (some t31) FJ Fa) (.n none Ft CJ)) (.n (some t23) (.n (some t39) FB CR) (.n none Fj CB))
def FF:Tr TI:=.n none (.n none (.n none .e .e) (.n none .e .e)) (.n none (.n none .e .e) .e)
def EW:Tr TI:=.n none (.n none (.n none .e .e) (.n none .e .e)) (.n none (.n none .e .e) .e)
def Fo:Tr TI:=.n (some t83) (.n none (.n none .e .e) (.n none .e .e)) (.n none (.n none .e .e) .e)
def CF:Tr TI:=.n (some t115) (.n none (.n none .e .e) .e) (.n none (.n none .e .e) .e)
def Fx:Tr TI:=.n none (.n none (.n none .e .e) (.n (some t395) .e .e)) (.n (some t203) (.n none .e .e) .e)
def CN:Tr TI:=.n (some t107) (.n none (.n none .e .e) (.n none .e .e)) (.n none (.n none .e .e) .e)
def Ff:Tr TI:=.n (some t91) (.n none (.n none .e .e) (.n none .e .e)) (.n none (.n none .e .e) .e)
def Cx:Tr TI:=.n none (.n none (.n none .e .e) .e) (.n none (.n none .e .e) .e)
def IQ:Tr TI:=.n none (.n none (.n (some t35) FF EW) (.n none Fo CF)) (.n (some t27) (.n none Fx CN) (.n none Ff Cx))
def FH:Tr TI:=.n none (.n none (.n none .e .e) (.n none .e .e)) (.n none (.n none .e .e) .e)
def EY:Tr TI:=.n none (.n (some t161) (.n none .e .e) (.n none .e .e)) (.n (some t225) (.n none .e .e) .e)
def Fq:Tr TI:=.n none (.n none (.n none .e .e) (.n none .e .e)) (.n none (.n (some t337) .e .e) .e)
def CH:Tr TI:=.n (some t113) (.n none (.n none .e .e) .e) (.n none (.n (some t369) .e .e) .e)
def Fz:Tr TI:=.n none (.n none (.n (some t265) .e .e) (.n none .e .e)) (.n none (.n none .e .e) .e)
def CP:Tr TI:=.n (some t105) (.n none (.n (some t297) .e .e) (.n none .e .e)) (.n none (.n none .e .e) .e)
def Fh:Tr TI:=.n (some t89) (.n none (.n none .e .e) (.n none .e .e)) (.n none (.n (some t345) .e .e) .e)
def Cz:Tr TI:=.n none (.n none (.n none .e .e) .e) (.n none (.n none .e .e) .e)
def Lf:Tr TI:=.n (some t9) (.n none (.n none FH EY) (.n none Fq CH)) (.n (some t25) (.n none Fz CP) (.n none Fh Cz))
def FD:Tr TI:=.n none (.n (some t133) (.n none .e .e) (.n none .e .e)) (.n none (.n none .e .e) .e)
def CT:Tr TI:=.n none (.n (some t165) (.n (some t293) .e .e) (.n none .e .e)) (.n none (.n none .e .e) .e)
def Fl:Tr TI:=.n (some t85) (.n none (.n (some t277) .e .e) (.n none .e .e)) (.n none (.n (some t341) .e .e) .e)
def CD:Tr TI:=.n none (.n (some t181) (.n none .e .e) .e) (.n none (.n none .e .e) .e)
def Fv:Tr TI:=.n none (.n none (.n none .e .e) (.n none .e .e)) (.n none (.n none .e .e) .e)
def CL:Tr TI:=.n none (.n none (.n (some t301) .e .e) .e) (.n (some t237) (.n none .e .e) .e)
def Fc:Tr TI:=.n none (.n none (.n none .e .e) (.n none .e .e)) (.n none (.n none .e .e) .e)
def Cu:Tr TI:=.n none (.n none (.n none .e .e) .e) (.n none (.n (some t381) .e .e) .e)
def IN:Tr TI:=.n none (.n (some t21) (.n none FD CT) (.n none Fl CD)) (.n (some t29) (.n (some t45) Fv CL) (.n (some t61) Fc Cu))
def FI:Tr TI:=.n (some t64) (.n none (.n (some t256) .e .e) (.n none .e .e)) (.n none (.n none .e .e) .e)
def EZ:Tr TI:=.n none (.n none (.n none .e .e) (.n none .e .e)) (.n (some t224) (.n none .e .e) .e)
def Fs:Tr TI:=.n none (.n (some t144) (.n none .e .e) (.n none .e .e)) (.n none (.n none .e .e) .e)
def CI:Tr TI:=.n none (.n none (.n none .e .e) .e) (.n none (.n none .e .e) .e)
def FA:Tr TI:=.n (some t72) (.n none (.n none .e .e) (.n (some t392) .e .e)) (.n none (.n none .e .e) .e)
def CQ:Tr TI:=.n none (.n none (.n none .e .e) (.n none .e .e)) (.n (some t232) (.n (some t360) .e .e) .e)
def Fi:Tr TI:=.n none (.n (some t152) (.n none .e .e) (.n none .e .e)) (.n none (.n none .e .e) .e)
def CA:Tr TI:=.n none (.n (some t184) (.n none .e .e) .e) (.n none (.n none .e .e) .e)
def Lg:Tr TI:=.n (some t8) (.n (some t16) (.n none FI EZ) (.n none Fs CI)) (.n (some t24) (.n none FA CQ) (.n none Fi CA))
def FE:Tr TI:=.n none (.n none (.n (some t260) .e .e) (.n none .e .e)) (.n (some t196) (.n (some t324) .e .e) .e)
def CU:Tr TI:=.n none (.n none (.n none .e .e) (.n none .e .e)) (.n none (.n none .e .e) .e)
def Fm:Tr TI:=.n none (.n none (.n none .e .e) (.n none .e .e)) (.n none (.n none .e .e) .e)
def CE:Tr TI:=.n none (.n none (.n none .e .e) .e) (.n none (.n none .e .e) .e)
def Fw:Tr TI:=.n none (.n (some t140) (.n (some t268) .e .e) (.n none .e .e)) (.n none (.n none .e .e) .e)
def CM:Tr TI:=.n none (.n none (.n none .e .e) .e) (.n (some t236) (.n none .e .e) .e)
def Fe:Tr TI:=.n none (.n none (.n none .e .e) (.n none .e .e)) (.n none (.n (some t348) .e .e) .e)
def Cw:Tr TI:=.n none (.n none (.n none .e .e) .e) (.n (some t252) (.n none .e .e) .e)
def IP:Tr TI:=.n none (.n (some t20) (.n none FE CU) (.n (some t52) Fm CE)) (.n none (.n (some t44) Fw CM) (.n (some t60) Fe Cw))
def FG:Tr TI:=.n none (.n none (.n (some t258) .e .e) (.n (some t386) .e .e)) (.n none (.n none .e .e) .e)
def EX:Tr TI:=.n (some t98) (.n none (.n (some t290) .e .e) (.n none .e .e)) (.n none (.n none .e .e) .e)
def Fp:Tr TI:=.n none (.n none (.n none .e .e) (.n (some t402) .e .e)) (.n none (.n none .e .e) .e)
def CG:Tr TI:=.n none (.n none (.n none .e .e) .e) (.n (some t242) (.n none .e .e) .e)
def Fy:Tr TI:=.n none (.n (some t138) (.n (some t266) .e .e) (.n (some t394) .e .e)) (.n (some t202) (.n none .e .e) .e)
def CO:Tr TI:=.n none (.n none (.n none .e .e) (.n none .e .e)) (.n (some t234) (.n none .e .e) .e)
def Fg:Tr TI:=.n none (.n none (.n none .e .e) (.n none .e .e)) (.n (some t218) (.n none .e .e) .e)
def Cy:Tr TI:=.n none (.n (some t186) (.n none .e .e) .e) (.n (some t250) (.n none .e .e) .e)
def IS:Tr TI:=.n none (.n none (.n (some t34) FG EX) (.n none Fp CG)) (.n none (.n (some t42) Fy CO) (.n (some t58) Fg Cy))
def FC:Tr TI:=.n none (.n none (.n none .e .e) (.n none .e .e)) (.n (some t198) (.n none .e .e) .e)
def CS:Tr TI:=.n (some t102) (.n none (.n none .e .e) (.n none .e .e)) (.n (some t230) (.n none .e .e) .e)
def Fk:Tr TI:=.n none (.n none (.n none .e .e) (.n none .e .e)) (.n none (.n none .e .e) .e)
def CC:Tr TI:=.n none (.n (some t182) (.n none .e .e) .e) (.n none (.n (some t374) .e .e) .e)
def Fu:Tr TI:=.n none (.n (some t142) (.n none .e .e) (.n none .e .e)) (.n none (.n none .e .e) .e)
def CK:Tr TI:=.n (some t110) (.n none (.n none .e .e) .e) (.n none (.n none .e .e) .e)
def Fb:Tr TI:=.n none (.n none (.n none .e .e) (.n none .e .e)) (.n none (.n (some t350) .e .e) .e)
def Ct:Tr TI:=.n none (.n (some t190) (.n none .e .e) .e) (.n (some t254) (.n none .e .e) .e)
def IM:Tr TI:=.n none (.n (some t22) (.n none FC CS) (.n none Fk CC)) (.n none (.n none Fu CK) (.n (some t62) Fb Ct))
def zG:Tr TI:=.n none (.n none (.n (some t3) Lh IQ) (.n (some t5) Lf IN)) (.n (some t2) (.n (some t4) Lg IP) (.n (some t6) IS IM))
noncomputable def HK:Tr Func:=.n (some Tryz.f63) (.n (some Tryz.f127) (.n (some Tryz.f255) .e .e) (.n (some Tryz.f383) .e .e)) (.n (some Tryz.f191) (.n (some Tryz.f319) .e .e) .e)
noncomputable def Hd:Tr Func:=.n none (.n (some Tryz.f159) (.n (some Tryz.f287) .e .e) (.n none .e .e)) (.n (some Tryz.f223) (.n (some Tryz.f351) .e .e) .e)
noncomputable def Ht:Tr Func:=.n (some Tryz.f79) (.n (some Tryz.f143) (.n (some Tryz.f271) .e .e) (.n (some Tryz.f399) .e .e)) (.n none (.n (some Tryz.f335) .e .e) .e)
noncomputable def DY:Tr Func:=.n (some Tryz.f111) (.n (some Tryz.f175) (.n (some Tryz.f303) .e .e) .e) (.n (some Tryz.f239) (.n (some Tryz.f367) .e .e) .e)
noncomputable def HB:Tr Func:=.n (some Tryz.f71) (.n (some Tryz.f135) (.n (some Tryz.f263) .e .e) (.n (some Tryz.f391) .e .e)) (.n none (.n (some Tryz.f327) .e .e) .e)
noncomputable def Eg:Tr Func:=.n (some Tryz.f103) (.n (some Tryz.f167) (.n none .e .e) .e) (.n (some Tryz.f231) (.n (some Tryz.f359) .e .e) .e)
noncomputable def Hl:Tr Func:=.n none (.n none (.n (some Tryz.f279) .e .e) (.n none .e .e)) (.n (some Tryz.f215) (.n (some Tryz.f343) .e .e) .e)
noncomputable def DP:Tr Func:=.n (some Tryz.f119) (.n (some Tryz.f183) (.n (some Tryz.f311) .e .e) .e) (.n (some Tryz.f247) (.n none .e .e) .e)
noncomputable def LR:Tr Func:=.n none (.n (some Tryz.f15) (.n none HK Hd) (.n none Ht DY)) (.n (some Tryz.f23) (.n (some Tryz.f39) HB Eg) (.n (some Tryz.f55) Hl DP))
noncomputable def HF:Tr Func:=.n (some Tryz.f67) (.n (some Tryz.f131) (.n (some Tryz.f259) .e .e) (.n (some Tryz.f387) .e .e)) (.n (some Tryz.f195) (.n (some Tryz.f323) .e .e) .e)
noncomputable def GZ:Tr Func:=.n (some Tryz.f99) (.n none (.n (some Tryz.f291) .e .e) (.n none .e .e)) (.n none (.n (some Tryz.f355) .e .e) .e)
noncomputable def Hp:Tr Func:=.n (some Tryz.f83) (.n none (.n (some Tryz.f275) .e .e) (.n none .e .e)) (.n (some Tryz.f211) (.n (some Tryz.f339) .e .e) .e)
noncomputable def DT:Tr Func:=.n (some Tryz.f115) (.n (some Tryz.f179) (.n (some Tryz.f307) .e .e) .e) (.n (some Tryz.f243) (.n (some Tryz.f371) .e .e) .e)
noncomputable def Hx:Tr Func:=.n (some Tryz.f75) (.n (some Tryz.f139) (.n (some Tryz.f267) .e .e) (.n (some Tryz.f395) .e .e)) (.n none (.n (some Tryz.f331) .e .e) .e)
noncomputable def Ec:Tr Func:=.n none (.n (some Tryz.f171) (.n none .e .e) .e) (.n (some Tryz.f235) (.n (some Tryz.f363) .e .e) .e)
noncomputable def Hh:Tr Func:=.n none (.n (some Tryz.f155) (.n (some Tryz.f283) .e .e) (.n none .e .e)) (.n (some Tryz.f219) (.n none .e .e) .e)
noncomputable def DK:Tr Func:=.n (some Tryz.f123) (.n (some Tryz.f187) (.n (some Tryz.f315) .e .e) .e) (.n (some Tryz.f251) (.n (some Tryz.f379) .e .e) .e)
noncomputable def JA:Tr Func:=.n (some Tryz.f11) (.n (some Tryz.f19) (.n none HF GZ) (.n (some Tryz.f51) Hp DT)) (.n (some Tryz.f27) (.n none Hx Ec) (.n (some Tryz.f59) Hh DK))
noncomputable def HH:Tr Func:=.n (some Tryz.f65) (.n (some Tryz.f129) (.n (some Tryz.f257) .e .e) (.n (some Tryz.f385) .e .e)) (.n (some Tryz.f193) (.n (some Tryz.f321) .e .e) .e)
noncomputable def Hb:Tr Func:=.n none (.n (some Tryz.f161) (.n (some Tryz.f289) .e .e) (.n none .e .e)) (.n (some Tryz.f225) (.n (some Tryz.f353) .e .e) .e)
noncomputable def Hr:Tr Func:=.n (some Tryz.f81) (.n none (.n (some Tryz.f273) .e .e) (.n none .e .e)) (.n none (.n (some Tryz.f337) .e .e) .e)
noncomputable def DW:Tr Func:=.n (some Tryz.f113) (.n (some Tryz.f177) (.n (some Tryz.f305) .e .e) .e) (.n (some Tryz.f241) (.n (some Tryz.f369) .e .e) .e)
noncomputable def Hz:Tr Func:=.n (some Tryz.f73) (.n (some Tryz.f137) (.n (some Tryz.f265) .e .e) (.n (some Tryz.f393) .e .e)) (.n none (.n (some Tryz.f329) .e .e) .e)
noncomputable def Ee:Tr Func:=.n none (.n (some Tryz.f169) (.n none .e .e) .e) (.n (some Tryz.f233) (.n (some Tryz.f361) .e .e) .e)
noncomputable def Hj:Tr Func:=.n none (.n (some Tryz.f153) (.n (some Tryz.f281) .e .e) (.n none .e .e)) (.n (some Tryz.f217) (.n none .e .e) .e)
noncomputable def DM:Tr Func:=.n (some Tryz.f121) (.n (some Tryz.f185) (.n (some Tryz.f313) .e .e) .e) (.n (some Tryz.f249) (.n (some Tryz.f377) .e .e) .e)
noncomputable def LP:Tr Func:=.n (some Tryz.f9) (.n (some Tryz.f17) (.n none HH Hb) (.n (some Tryz.f49) Hr DW)) (.n (some Tryz.f25) (.n none Hz Ee) (.n (some Tryz.f57) Hj DM))
noncomputable def HD:Tr Func:=.n (some Tryz.f69) (.n (some Tryz.f133) (.n (some Tryz.f261) .e .e) (.n (some Tryz.f389) .e .e)) (.n (some Tryz.f197) (.n (some Tryz.f325) .e .e) .e)
noncomputable def Ei:Tr Func:=.n (some Tryz.f101) (.n none (.n (some Tryz.f293) .e .e) (.n none .e .e)) (.n (some Tryz.f229) (.n (some Tryz.f357) .e .e) .e)
noncomputable def Hn:Tr Func:=.n (some Tryz.f85) (.n none (.n (some Tryz.f277) .e .e) (.n none .e .e)) (.n (some Tryz.f213) (.n (some Tryz.f341) .e .e) .e)
noncomputable def DR:Tr Func:=.n none (.n (some Tryz.f181) (.n (some Tryz.f309) .e .e) .e) (.n (some Tryz.f245) (.n (some Tryz.f373) .e .e) .e)
noncomputable def Hv:Tr Func:=.n none (.n (some Tryz.f141) (.n (some Tryz.f269) .e .e) (.n (some Tryz.f397) .e .e)) (.n none (.n (some Tryz.f333) .e .e) .e)
noncomputable def Ea:Tr Func:=.n none (.n (some Tryz.f173) (.n (some Tryz.f301) .e .e) .e) (.n (some Tryz.f237) (.n (some Tryz.f365) .e .e) .e)
noncomputable def Hf:Tr Func:=.n none (.n (some Tryz.f157) (.n (some Tryz.f285) .e .e) (.n none .e .e)) (.n (some Tryz.f221) (.n (some Tryz.f349) .e .e) .e)
noncomputable def DI:Tr Func:=.n (some Tryz.f125) (.n (some Tryz.f189) (.n (some Tryz.f317) .e .e) .e) (.n (some Tryz.f253) (.n (some Tryz.f381) .e .e) .e)
noncomputable def Jy:Tr Func:=.n (some Tryz.f13) (.n (some Tryz.f21) (.n none HD Ei) (.n (some Tryz.f53) Hn DR)) (.n (some Tryz.f29) (.n none Hv Ea) (.n (some Tryz.f61) Hf DI))
noncomputable def HJ:Tr Func:=.n (some Tryz.f64) (.n (some Tryz.f128) (.n (some Tryz.f256) .e .e) (.n (some Tryz.f384) .e .e)) (.n (some Tryz.f192) (.n (some Tryz.f320) .e .e) .e)
noncomputable def Hc:Tr Func:=.n none (.n (some Tryz.f160) (.n (some Tryz.f288) .e .e) (.n none .e .e)) (.n (some Tryz.f224) (.n (some Tryz.f352) .e .e) .e)
noncomputable def Hs:Tr Func:=.n (some Tryz.f80) (.n (some Tryz.f144) (.n (some Tryz.f272) .e .e) (.n none .e .e)) (.n none (.n (some Tryz.f336) .e .e) .e)
noncomputable def DX:Tr Func:=.n (some Tryz.f112) (.n (some Tryz.f176) (.n (some Tryz.f304) .e .e) .e) (.n (some Tryz.f240) (.n (some Tryz.f368) .e .e) .e)
noncomputable def HA:Tr Func:=.n (some Tryz.f72) (.n (some Tryz.f136) (.n (some Tryz.f264) .e .e) (.n (some Tryz.f392) .e .e)) (.n none (.n (some Tryz.f328) .e .e) .e)
noncomputable def Ef:Tr Func:=.n none (.n (some Tryz.f168) (.n none .e .e) .e) (.n (some Tryz.f232) (.n (some Tryz.f360) .e .e) .e)
noncomputable def Hk:Tr Func:=.n none (.n none (.n (some Tryz.f280) .e .e) (.n none .e .e)) (.n (some Tryz.f216) (.n (some Tryz.f344) .e .e) .e)
noncomputable def DN:Tr Func:=.n (some Tryz.f120) (.n (some Tryz.f184) (.n (some Tryz.f312) .e .e) .e) (.n (some Tryz.f248) (.n (some Tryz.f376) .e .e) .e)
noncomputable def LQ:Tr Func:=.n (some Tryz.f8) (.n (some Tryz.f16) (.n (some Tryz.f32) HJ Hc) (.n none Hs DX)) (.n (some Tryz.f24) (.n (some Tryz.f40) HA Ef) (.n (some Tryz.f56) Hk DN))
noncomputable def HE:Tr Func:=.n (some Tryz.f68) (.n (some Tryz.f132) (.n (some Tryz.f260) .e .e) (.n (some Tryz.f388) .e .e)) (.n (some Tryz.f196) (.n (some Tryz.f324) .e .e) .e)
noncomputable def Ej:Tr Func:=.n (some Tryz.f100) (.n none (.n (some Tryz.f292) .e .e) (.n none .e .e)) (.n (some Tryz.f228) (.n (some Tryz.f356) .e .e) .e)
noncomputable def Ho:Tr Func:=.n (some Tryz.f84) (.n none (.n (some Tryz.f276) .e .e) (.n none .e .e)) (.n (some Tryz.f212) (.n (some Tryz.f340) .e .e) .e)
noncomputable def DS:Tr Func:=.n none (.n (some Tryz.f180) (.n (some Tryz.f308) .e .e) .e) (.n (some Tryz.f244) (.n (some Tryz.f372) .e .e) .e)
noncomputable def Hw:Tr Func:=.n (some Tryz.f76) (.n (some Tryz.f140) (.n (some Tryz.f268) .e .e) (.n (some Tryz.f396) .e .e)) (.n none (.n (some Tryz.f332) .e .e) .e)
noncomputable def Eb:Tr Func:=.n (some Tryz.f108) (.n (some Tryz.f172) (.n none .e .e) .e) (.n (some Tryz.f236) (.n (some Tryz.f364) .e .e) .e)
noncomputable def Hg:Tr Func:=.n none (.n (some Tryz.f156) (.n (some Tryz.f284) .e .e) (.n none .e .e)) (.n (some Tryz.f220) (.n (some Tryz.f348) .e .e) .e)
noncomputable def DJ:Tr Func:=.n (some Tryz.f124) (.n (some Tryz.f188) (.n (some Tryz.f316) .e .e) .e) (.n (some Tryz.f252) (.n (some Tryz.f380) .e .e) .e)
noncomputable def Jz:Tr Func:=.n (some Tryz.f12) (.n (some Tryz.f20) (.n (some Tryz.f36) HE Ej) (.n (some Tryz.f52) Ho DS)) (.n (some Tryz.f28) (.n (some Tryz.f44) Hw Eb) (.n (some Tryz.f60) Hg DJ))
noncomputable def HG:Tr Func:=.n (some Tryz.f66) (.n (some Tryz.f130) (.n (some Tryz.f258) .e .e) (.n (some Tryz.f386) .e .e)) (.n (some Tryz.f194) (.n (some Tryz.f322) .e .e) .e)
noncomputable def Ha:Tr Func:=.n (some Tryz.f98) (.n (some Tryz.f162) (.n (some Tryz.f290) .e .e) (.n none .e .e)) (.n none (.n (some Tryz.f354) .e .e) .e)
noncomputable def Hq:Tr Func:=.n (some Tryz.f82) (.n none (.n (some Tryz.f274) .e .e) (.n none .e .e)) (.n (some Tryz.f210) (.n (some Tryz.f338) .e .e) .e)
noncomputable def DU:Tr Func:=.n (some Tryz.f114) (.n (some Tryz.f178) (.n (some Tryz.f306) .e .e) .e) (.n (some Tryz.f242) (.n (some Tryz.f370) .e .e) .e)
noncomputable def Hy:Tr Func:=.n (some Tryz.f74) (.n (some Tryz.f138) (.n (some Tryz.f266) .e .e) (.n (some Tryz.f394) .e .e)) (.n none (.n (some Tryz.f330) .e .e) .e)
noncomputable def Ed:Tr Func:=.n none (.n (some Tryz.f170) (.n none .e .e) .e) (.n (some Tryz.f234) (.n (some Tryz.f362) .e .e) .e)
noncomputable def Hi:Tr Func:=.n none (.n (some Tryz.f154) (.n (some Tryz.f282) .e .e) (.n none .e .e)) (.n (some Tryz.f218) (.n none .e .e) .e)
noncomputable def DL:Tr Func:=.n none (.n (some Tryz.f186) (.n (some Tryz.f314) .e .e) .e) (.n (some Tryz.f250) (.n (some Tryz.f378) .e .e) .e)
noncomputable def JB:Tr Func:=.n (some Tryz.f10) (.n (some Tryz.f18) (.n none HG Ha) (.n (some Tryz.f50) Hq DU)) (.n (some Tryz.f26) (.n (some Tryz.f42) Hy Ed) (.n (some Tryz.f58) Hi DL))
noncomputable def HC:Tr Func:=.n (some Tryz.f70) (.n (some Tryz.f134) (.n (some Tryz.f262) .e .e) (.n (some Tryz.f390) .e .e)) (.n none (.n (some Tryz.f326) .e .e) .e)
noncomputable def Eh:Tr Func:=.n (some Tryz.f102) (.n (some Tryz.f166) (.n (some Tryz.f294) .e .e) .e) (.n (some Tryz.f230) (.n (some Tryz.f358) .e .e) .e)
noncomputable def Hm:Tr Func:=.n none (.n none (.n (some Tryz.f278) .e .e) (.n none .e .e)) (.n (some Tryz.f214) (.n (some Tryz.f342) .e .e) .e)
noncomputable def DQ:Tr Func:=.n (some Tryz.f118) (.n (some Tryz.f182) (.n (some Tryz.f310) .e .e) .e) (.n (some Tryz.f246) (.n (some Tryz.f374) .e .e) .e)
noncomputable def Hu:Tr Func:=.n (some Tryz.f78) (.n (some Tryz.f142) (.n (some Tryz.f270) .e .e) (.n (some Tryz.f398) .e .e)) (.n none (.n (some Tryz.f334) .e .e) .e)
noncomputable def DZ:Tr Func:=.n none (.n (some Tryz.f174) (.n (some Tryz.f302) .e .e) .e) (.n (some Tryz.f238) (.n (some Tryz.f366) .e .e) .e)
noncomputable def He:Tr Func:=.n none (.n (some Tryz.f158) (.n (some Tryz.f286) .e .e) (.n none .e .e)) (.n (some Tryz.f222) (.n (some Tryz.f350) .e .e) .e)
noncomputable def DH:Tr Func:=.n (some Tryz.f126) (.n (some Tryz.f190) (.n (some Tryz.f318) .e .e) .e) (.n (some Tryz.f254) (.n (some Tryz.f382) .e .e) .e)
noncomputable def Jx:Tr Func:=.n (some Tryz.f14) (.n (some Tryz.f22) (.n (some Tryz.f38) HC Eh) (.n (some Tryz.f54) Hm DQ)) (.n none (.n (some Tryz.f46) Hu DZ) (.n (some Tryz.f62) He DH))
noncomputable def Ay:Tr Func:=.n none (.n none (.n (some Tryz.f3) LR JA) (.n none LP Jy)) (.n none (.n none LQ Jz) (.n none JB Jx))
noncomputable def df:Tr Nl:=(Tr.set .e 117 (tk Tryz.f117))
noncomputable def cl:Tr JZ:=(Tr.set .e 174 (yF Tryz.f174))
noncomputable def _root_.Go.Proofs.YtmdfgncoekfgdaaGreatDoor.TE:Env:={ty:=zG,fn:=Ay,G:=3,df:=df,cl:=cl}
set_option maxRecDepth 100000
theorem IL:(zG.mP 1 0).map (fun p=>Lz Tryz.prog p.1)=(zG.mP 1 0).map (fun p=>some p.2):=by kernel_rfl
theorem Jw:(Ay.mP 1 0).map (fun p=>Tryz.prog.funcs[p.1]?)=(Ay.mP 1 0).map (fun p=>some p.2):=by kernel_rfl
theorem JI:df.mP 1 0=[(117,tk Tryz.f117)]:=by kernel_rfl
theorem HW:Tryz.prog.funcs[117]?=some (tk Tryz.f117).fn:=by kernel_rfl
theorem AK:(tk Tryz.f117).fn.body=some (jo (tk Tryz.f117).pre (.seq (.region (tk Tryz.f117).id #[(tk Tryz.f117).mf,(tk Tryz.f117).de] false) (tk Tryz.f117).post)):=by kernel_rfl
theorem MN:∀x∈ [(117,tk Tryz.f117)],Tryz.prog.funcs[x.1]?=some x.2.fn/\x.2.fn.body=some (jo x.2.pre (.seq (.region x.2.id #[x.2.mf,x.2.de] false) x.2.post)):=by
 intro x hx
 simp only[List.mem_cons,List.not_mem_nil,or_false]at hx
 rcases hx with rfl
 ·exact⟨HW,AK⟩
theorem JM:cl.mP 1 0=[(174,yF Tryz.f174)]:=by kernel_rfl
theorem Ih:Tryz.prog.funcs[174]?=some (yF Tryz.f174).fn:=by kernel_rfl
theorem AS:(yF Tryz.f174).fn.body=some (.seq (.region (yF Tryz.f174).id (yF Tryz.f174).ops false) (yF Tryz.f174).rest):=by kernel_rfl
theorem MT:∀x∈ [(174,yF Tryz.f174)],Tryz.prog.funcs[x.1]?=some x.2.fn/\x.2.fn.body=some (.seq (.region x.2.id x.2.ops false) x.2.rest):=by
 intro x hx
 simp only[List.mem_cons,List.not_mem_nil,or_false]at hx
 rcases hx with rfl
 ·exact⟨Ih,AS⟩
theorem fl{α:Type}{p:α->Bool}(n:Nat)(l:List α)(h1:(l.take n).all p=true)(h2:(l.drop n).all p=true):l.all p=true:=by rw[<-List.take_append_drop n l,List.all_append,h1,h2];rfl
theorem M6:((TE.fn.mP 1 0).take 40).all (fun p=>iP TE.G p.2)=true:=by kernel_rfl
theorem M5:(((TE.fn.mP 1 0).drop 40).take 40).all (fun p=>iP TE.G p.2)=true:=by kernel_rfl
theorem M4:((((TE.fn.mP 1 0).drop 40).drop 40).take 40).all (fun p=>iP TE.G p.2)=true:=by kernel_rfl
theorem M3:(((((TE.fn.mP 1 0).drop 40).drop 40).drop 40).take 40).all (fun p=>iP TE.G p.2)=true:=by kernel_rfl
theorem M1:((((((TE.fn.mP 1 0).drop 40).drop 40).drop 40).drop 40).take 40).all (fun p=>iP TE.G p.2)=true:=by kernel_rfl
theorem MZ:(((((((TE.fn.mP 1 0).drop 40).drop 40).drop 40).drop 40).drop 40).take 40).all (fun p=>iP TE.G p.2)=true:=by kernel_rfl
theorem MY:((((((((TE.fn.mP 1 0).drop 40).drop 40).drop 40).drop 40).drop 40).drop 40).take 40).all (fun p=>iP TE.G p.2)=true:=by kernel_rfl
theorem MX:(((((((((TE.fn.mP 1 0).drop 40).drop 40).drop 40).drop 40).drop 40).drop 40).drop 40).take 40).all (fun p=>iP TE.G p.2)=true:=by kernel_rfl
theorem MW:((((((((((TE.fn.mP 1 0).drop 40).drop 40).drop 40).drop 40).drop 40).drop 40).drop 40).drop 40).take 40).all (fun p=>iP TE.G p.2)=true:=by kernel_rfl
theorem Pb:((((((((((TE.fn.mP 1 0).drop 40).drop 40).drop 40).drop 40).drop 40).drop 40).drop 40).drop 40).drop 40).all (fun p=>iP TE.G p.2)=true:=by kernel_rfl
theorem MV:(TE.fn.mP 1 0).all (fun p=>iP TE.G p.2)=true:=(fl 40 _ M6 (fl 40 _ M5 (fl 40 _ M4 (fl 40 _ M3 (fl 40 _ M1 (fl 40 _ MZ (fl 40 _ MY (fl 40 _ MX (fl 40 _ MW Pb)))))))))
theorem MU:((TE.ty.mP 1 0).all fun p=>(match p.2.zero with |some z=>bD z |none=>true) && (match p.2.d with |.struct fs=>fs.all (fun f=>match TE.ty.get f.ty with |some fi=>fi.size==f.size |none=>false) |_=>true))=true:=by kernel_rfl
theorem M7:((TE.df.mP 1 0).all (fun p=>iP TE.G p.2.fn) && (TE.cl.mP 1 0).all fun p=>iP TE.G p.2.fn)=true:=by kernel_rfl
theorem zw:TE.zw=true:=by
 unfold Env.zw
 rw[Bool.and_eq_true,Bool.and_eq_true]
 exact⟨MU,MV,M7⟩
theorem size:TE.G=Tryz.prog.globals.size:=by kernel_rfl
theorem Yh:TE.fn.get tI=none:=by kernel_rfl
theorem Yg:TE.df.get tI=none:=by kernel_rfl
theorem ok:TE.OK Tryz.prog:=⟨⟨Yh,Yg⟩,fun _ _ h=>Tr.qx _ IL h,fun _ _ h=>Tr.qx _ Jw h,size,fun _ _ h=>Tr.BC (p:=fun i d=>Tryz.prog.funcs[i]?=some d.fn/\d.fn.body=some (jo d.pre (.seq (.region d.id #[d.mf,d.de] false) d.post))) _ JI MN h,fun _ _ h=>Tr.BC (p:=fun i d=>Tryz.prog.funcs[i]?=some d.fn/\d.fn.body=some (.seq (.region d.id d.ops false) d.rest)) _ JM MT h,zw,Checked.mixed Tryz.checked⟩
end af
end Go.Proofs.YtmdfgncoekfgdaaGreatDoor
