/- The tables of the program for D, .. -/
import Derived.Test.YtigpcbodmjjaiaaGreatDoorG0J
import Derived.Test.YtigpcbodmjjaiaaGreatDoorChecked
namespace Go.Proofs.YtigpcbodmjjaiaaGreatDoor
open Go Go.D Go.Proofs.Tryz
namespace ag
def x{α:Type}(i:α):Tr α:=.n (some i) .e .e
def y{α:Type}(i:α)(j k:Tr α):Tr α:=.n (some i) j k
def u{α:Type}(j k:Tr α):Tr α:=.n none j k
def t2:TI:=⟨.int .i64,1,8,0,some (.int .i64 0),none⟩
def t3:TI:=⟨.int .i64,1,8,0,some (.int .i64 0),none⟩
def t4:TI:=⟨.bool,1,1,0,some (.bool false),none⟩
def t5:TI:=⟨.int .u8,1,1,0,some (.int .u8 0),none⟩
def t6:TI:=t5
def t8:TI:=⟨.struct [⟨2,0,1,false⟩,⟨3,1,1,false⟩,⟨4,2,1,false⟩,⟨6,3,1,false⟩],4,24,0,some (.agg #[.int .i64 0,.int .i64 0,.bool false,.int .u8 0]),some [.i,.i,.b,.i]⟩
def t9:TI:=⟨.str,1,16,0,some (.string ⟨#[]⟩),none⟩
def t22:TI:=⟨.slice 89,1,24,6,some (.slice none 0 0),none⟩
def t23:TI:=⟨.slice 153,1,24,4,some (.slice none 0 0),none⟩
def t25:TI:=⟨.struct [⟨22,0,1,false⟩,⟨23,1,1,false⟩,⟨22,2,1,false⟩],3,72,0,some (.agg #[.slice none 0 0,.slice none 0 0,.slice none 0 0]),none⟩
def t26:TI:=⟨.slice 3,1,24,1,some (.slice none 0 0),none⟩
def t28:TI:=⟨.slice 60,1,24,6,some (.slice none 0 0),none⟩
def t30:TI:=⟨.struct [⟨28,0,1,false⟩],1,24,0,some (.agg #[.slice none 0 0]),none⟩
def t31:TI:=⟨.slice 137,1,24,5,some (.slice none 0 0),none⟩
def t33:TI:=⟨.struct [⟨30,0,1,false⟩,⟨31,1,1,false⟩],2,48,0,some (.agg #[.slice none 0 0,.slice none 0 0]),none⟩
def t34:TI:=⟨.slice 113,1,24,7,some (.slice none 0 0),none⟩
def t35:TI:=⟨.slice 53,1,24,2,some (.slice none 0 0),none⟩
def t36:TI:=⟨.slice 109,1,24,3,some (.slice none 0 0),none⟩
def t38:TI:=⟨.struct [⟨33,0,2,false⟩,⟨34,2,1,false⟩,⟨35,3,1,false⟩,⟨36,4,1,false⟩],5,120,0,some (.agg #[.slice none 0 0,.slice none 0 0,.slice none 0 0,.slice none 0 0,.slice none 0 0]),none⟩
def t39:TI:=⟨.slice 62,1,24,11,some (.slice none 0 0),none⟩
def t40:TI:=⟨.slice 69,1,24,2,some (.slice none 0 0),none⟩
def t41:TI:=⟨.slice 79,1,24,2,some (.slice none 0 0),none⟩
def t43:TI:=⟨.struct [⟨38,0,5,false⟩,⟨39,5,1,false⟩,⟨40,6,1,false⟩,⟨41,7,1,false⟩],8,192,0,some (.agg #[.slice none 0 0,.slice none 0 0,.slice none 0 0,.slice none 0 0,.slice none 0 0,.slice none 0 0,.slice none 0 0,.slice none 0 0]),none⟩
def t45:TI:=⟨.slice 55,1,24,4,some (.slice none 0 0),none⟩
def t46:TI:=t2
def t53:TI:=⟨.struct [⟨3,0,1,false⟩,⟨3,1,1,false⟩],2,16,0,some (.agg #[.int .i64 0,.int .i64 0]),some [.i,.i]⟩
def t55:TI:=⟨.struct [⟨3,0,1,false⟩,⟨53,1,2,false⟩,⟨3,3,1,false⟩],4,32,0,some (.agg #[.int .i64 0,.int .i64 0,.int .i64 0,.int .i64 0]),some [.i,.i,.i,.i]⟩
def t58:TI:=⟨.slice 141,1,24,2,some (.slice none 0 0),none⟩
def t60:TI:=⟨.struct [⟨3,0,1,false⟩,⟨3,1,1,false⟩,⟨3,2,1,false⟩,⟨58,3,1,false⟩,⟨3,4,1,false⟩,⟨3,5,1,false⟩],6,64,0,some (.agg #[.int .i64 0,.int .i64 0,.int .i64 0,.slice none 0 0,.int .i64 0,.int .i64 0]),none⟩
def t62:TI:=⟨.struct [⟨3,0,1,false⟩,⟨60,1,6,false⟩,⟨3,7,1,false⟩,⟨3,8,1,false⟩,⟨3,9,1,false⟩,⟨3,10,1,false⟩],11,104,0,some (.agg #[.int .i64 0,.int .i64 0,.int .i64 0,.int .i64 0,.slice none 0 0,.int .i64 0,.int .i64 0,.int .i64 0,.int .i64 0,.int .i64 0,.int .i64 0]),none⟩
def t66:TI:=⟨.slice 43,1,24,8,some (.slice none 0 0),none⟩
def t69:TI:=⟨.array 2 3,2,16,1,some (.agg #[.int .i64 0,.int .i64 0]),some [.i,.i]⟩
def t75:TI:=⟨.struct [⟨3,0,1,false⟩,⟨40,1,1,false⟩],2,32,0,some (.agg #[.int .i64 0,.slice none 0 0]),none⟩
def t79:TI:=⟨.struct [⟨3,0,1,false⟩,⟨35,1,1,false⟩],2,32,0,some (.agg #[.int .i64 0,.slice none 0 0]),none⟩
def t89:TI:=⟨.array 6 3,6,48,1,some (.agg #[.int .i64 0,.int .i64 0,.int .i64 0,.int .i64 0,.int .i64 0,.int .i64 0]),some [.i,.i,.i,.i,.i,.i]⟩
def t96:TI:=⟨.func,1,8,0,some (.nilFunc),none⟩
def t98:TI:=⟨.map 53 4,1,8,0,some (.map none),none⟩
def t100:TI:=t96
def t109:TI:=⟨.struct [⟨3,0,1,false⟩,⟨3,1,1,false⟩,⟨3,2,1,false⟩],3,24,0,some (.agg #[.int .i64 0,.int .i64 0,.int .i64 0]),some [.i,.i,.i]⟩
def t113:TI:=⟨.struct [⟨60,0,6,false⟩,⟨31,6,1,false⟩],7,88,0,some (.agg #[.int .i64 0,.int .i64 0,.int .i64 0,.slice none 0 0,.int .i64 0,.int .i64 0,.slice none 0 0]),none⟩
def t120:TI:=⟨.array 8 3,8,64,1,some (.agg #[.int .i64 0,.int .i64 0,.int .i64 0,.int .i64 0,.int .i64 0,.int .i64 0,.int .i64 0,.int .i64 0]),some [.i,.i,.i,.i,.i,.i,.i,.i]⟩
def t123:TI:=t96
def t126:TI:=t96
def t127:TI:=t96
def t131:TI:=t96
def t137:TI:=⟨.struct [⟨3,0,1,false⟩,⟨3,1,1,false⟩,⟨3,2,1,false⟩,⟨3,3,1,false⟩,⟨4,4,1,false⟩],5,40,0,some (.agg #[.int .i64 0,.int .i64 0,.int .i64 0,.int .i64 0,.bool false]),some [.i,.i,.i,.i,.b]⟩
def t138:TI:=⟨.slice 145,1,24,8,some (.slice none 0 0),none⟩
def t141:TI:=⟨.struct [⟨3,0,1,false⟩,⟨3,1,1,false⟩],2,16,0,some (.agg #[.int .i64 0,.int .i64 0]),some [.i,.i]⟩
def t143:TI:=⟨.struct [⟨141,0,2,false⟩,⟨141,2,2,false⟩],4,32,0,some (.agg #[.int .i64 0,.int .i64 0,.int .i64 0,.int .i64 0]),some [.i,.i,.i,.i]⟩
def t145:TI:=⟨.struct [⟨3,0,1,false⟩,⟨3,1,1,false⟩,⟨143,2,4,false⟩,⟨3,6,1,false⟩,⟨3,7,1,false⟩],8,64,0,some (.agg #[.int .i64 0,.int .i64 0,.int .i64 0,.int .i64 0,.int .i64 0,.int .i64 0,.int .i64 0,.int .i64 0]),some [.i,.i,.i,.i,.i,.i,.i,.i]⟩
def t146:TI:=⟨.slice 184,1,24,15,some (.slice none 0 0),none⟩
def t153:TI:=⟨.array 4 3,4,32,1,some (.agg #[.int .i64 0,.int .i64 0,.int .i64 0,.int .i64 0]),some [.i,.i,.i,.i]⟩
def t155:TI:=⟨.func,1,8,0,some (.nilFunc),none⟩
def t156:TI:=t96
def t159:TI:=⟨.int .u64,1,8,0,some (.int .u64 0),none⟩
def t170:TI:=t96
def t173:TI:=⟨.map 3 4,1,8,0,some (.map none),none⟩
def t174:TI:=⟨.func,1,8,0,some (.nilFunc),none⟩
def t175:TI:=t96
def t176:TI:=t96
def t178:TI:=t96
def t181:TI:=t96
def t184:TI:=⟨.struct [⟨3,0,1,false⟩,⟨60,1,6,false⟩,⟨3,7,1,false⟩,⟨3,8,1,false⟩,⟨3,9,1,false⟩,⟨137,10,5,false⟩],15,136,0,some (.agg #[.int .i64 0,.int .i64 0,.int .i64 0,.int .i64 0,.slice none 0 0,.int .i64 0,.int .i64 0,.int .i64 0,.int .i64 0,.int .i64 0,.int .i64 0,.int .i64 0,.int .i64 0,.int .i64 0,.bool false]),none⟩
def t192:TI:=⟨.slice 195,1,24,1,some (.slice none 0 0),none⟩
def t194:TI:=⟨.ptr 62,1,8,0,some (.pointer none),none⟩
def t195:TI:=⟨.ptr 3,1,8,0,some (.pointer none),none⟩
def t196:TI:=t96
def t210:TI:=t2
def t218:TI:=⟨.int .u32,1,4,0,some (.int .u32 0),none⟩
def t220:TI:=t159
def t227:TI:=t96
def t253:TI:=t96
def t264:TI:=t159
def t270:TI:=t96
def t275:TI:=t96
def t277:TI:=t96
def t298:TI:=⟨.struct [⟨3,0,1,false⟩,⟨3,1,1,false⟩,⟨3,2,1,false⟩,⟨3,3,1,false⟩,⟨3,4,1,false⟩],5,40,0,some (.agg #[.int .i64 0,.int .i64 0,.int .i64 0,.int .i64 0,.int .i64 0]),some [.i,.i,.i,.i,.i]⟩
def t309:TI:=t96
def t313:TI:=t96
def t337:TI:=⟨.slice 341,1,24,3,some (.slice none 0 0),none⟩
def t339:TI:=⟨.slice 343,1,24,3,some (.slice none 0 0),none⟩
def t341:TI:=⟨.struct [⟨3,0,1,false⟩,⟨3,1,1,false⟩,⟨3,2,1,false⟩],3,24,0,some (.agg #[.int .i64 0,.int .i64 0,.int .i64 0]),some [.i,.i,.i]⟩
def t343:TI:=⟨.struct [⟨3,0,1,false⟩,⟨3,1,1,false⟩,⟨3,2,1,false⟩],3,24,0,some (.agg #[.int .i64 0,.int .i64 0,.int .i64 0]),some [.i,.i,.i]⟩
def t344:TI:=⟨.slice 298,1,24,5,some (.slice none 0 0),none⟩
def Ma:Tr TI:=u (y t127 (u .e .e) (u .e .e)) (u (u .e .e) .e)
def Lm:Tr TI:=u (y t159 (u .e .e) .e) (u (u .e .e) .e)
def LH:Tr TI:=y t79 (y t143 (u .e .e) (u .e .e)) (u (u .e .e) .e)
def IB:Tr TI:=u (y t175 (u .e .e) .e) (u (u .e .e) .e)
def LQ:Tr TI:=u (u (u .e .e) (u .e .e)) (u (u .e .e) .e)
def IJ:Tr TI:=u (u (u .e .e) .e) (u (u .e .e) .e)
def Lx:Tr TI:=u (u (u .e .e) (u .e .e)) (u (x t343) .e)
def It:Tr TI:=u (u (u .e .e) .e) (u (u .e .e) .e)
def SM:Tr TI:=u (u (y t31 Ma Lm) (u LH IB)) (y t23 (y t39 LQ IJ) (y t55 Lx It))
def LW:Tr TI:=u (y t131 (u .e .e) (u .e .e)) (y t195 (u .e .e) .e)
def Li:Tr TI:=u (u (u .e .e) .e) (y t227 (u .e .e) .e)
def LC:Tr TI:=u (u (x t275) (u .e .e)) (u (x t339) .e)
def Ix:Tr TI:=u (u (u .e .e) .e) (u (u .e .e) .e)
def LM:Tr TI:=y t75 (u (u .e .e) (u .e .e)) (u (u .e .e) .e)
def IF:Tr TI:=u (u (u .e .e) .e) (u (u .e .e) .e)
def Lt:Tr TI:=u (y t155 (u .e .e) .e) (u (u .e .e) .e)
def Ip:Tr TI:=y t123 (u (u .e .e) .e) (u (u .e .e) .e)
def PT:Tr TI:=u (u (y t35 LW Li) (u LC Ix)) (u (y t43 LM IF) (u Lt Ip))
def LY:Tr TI:=u (u (u .e .e) (u .e .e)) (u (u .e .e) .e)
def Lk:Tr TI:=u (u (u .e .e) .e) (u (u .e .e) .e)
def LF:Tr TI:=u (y t145 (u .e .e) (u .e .e)) (u (x t337) .e)
def Iz:Tr TI:=y t113 (u (u .e .e) .e) (u (u .e .e) .e)
def LO:Tr TI:=u (y t137 (u .e .e) (u .e .e)) (u (u .e .e) .e)
def IH:Tr TI:=u (u (u .e .e) .e) (u (u .e .e) .e)
def Lv:Tr TI:=y t89 (y t153 (u .e .e) (u .e .e)) (u (u .e .e) .e)
def Ir:Tr TI:=u (u (x t313) .e) (u (u .e .e) .e)
def SK:Tr TI:=y t9 (u (y t33 LY Lk) (u LF Iz)) (y t25 (y t41 LO IH) (u Lv Ir))
def LU:Tr TI:=y t69 (u (u .e .e) (u .e .e)) (u (u .e .e) .e)
def IL:Tr TI:=u (u (u .e .e) .e) (u (u .e .e) .e)
def LA:Tr TI:=u (u (x t277) (u .e .e)) (u (x t341) .e)
def Iv:Tr TI:=u (y t181 (x t309) .e) (u (u .e .e) .e)
def LJ:Tr TI:=u (y t141 (u .e .e) (u .e .e)) (u (u .e .e) .e)
def ID:Tr TI:=y t109 (y t173 (u .e .e) .e) (u (u .e .e) .e)
def Lq:Tr TI:=u (u (u .e .e) .e) (u (u .e .e) .e)
def Im:Tr TI:=u (u (u .e .e) .e) (y t253 (u .e .e) .e)
def PR:Tr TI:=u (u (u LU IL) (y t53 LA Iv)) (u (y t45 LJ ID) (u Lq Im))
def LZ:Tr TI:=u (u (u .e .e) (u .e .e)) (y t192 (u .e .e) .e)
def Ll:Tr TI:=y t96 (u (u .e .e) .e) (u (u .e .e) .e)
def LG:Tr TI:=u (u (u .e .e) (u .e .e)) (u (u .e .e) .e)
def IA:Tr TI:=u (y t176 (u .e .e) .e) (u (u .e .e) .e)
def LP:Tr TI:=u (u (x t264) (u .e .e)) (u (u .e .e) .e)
def II:Tr TI:=u (u (u .e .e) .e) (u (u .e .e) .e)
def Lw:Tr TI:=u (u (u .e .e) (u .e .e)) (u (x t344) .e)
def Is:Tr TI:=y t120 (y t184 (u .e .e) .e) (u (u .e .e) .e)
def SL:Tr TI:=y t8 (u (u LZ Ll) (u LG IA)) (u (y t40 LP II) (u Lw Is))
def LV:Tr TI:=u (u (u .e .e) (u .e .e)) (y t196 (u .e .e) .e)
def IM:Tr TI:=y t100 (u (u .e .e) .e) (u (u .e .e) .e)
def LB:Tr TI:=u (u (u .e .e) (u .e .e)) (u (u .e .e) .e)
def Iw:Tr TI:=u (u (u .e .e) .e) (u (u .e .e) .e)
def LL:Tr TI:=u (u (u .e .e) (u .e .e)) (u (u .e .e) .e)
def IE:Tr TI:=u (u (u .e .e) .e) (u (u .e .e) .e)
def Lr:Tr TI:=u (y t156 (u .e .e) .e) (y t220 (u .e .e) .e)
def Io:Tr TI:=u (u (u .e .e) .e) (u (u .e .e) .e)
def PS:Tr TI:=u (u (y t36 LV IM) (u LB Iw)) (y t28 (u LL IE) (y t60 Lr Io))
def LX:Tr TI:=y t66 (u (u .e .e) (u .e .e)) (y t194 (u .e .e) .e)
def Lj:Tr TI:=y t98 (u (u .e .e) .e) (u (u .e .e) .e)
def LD:Tr TI:=u (y t146 (u .e .e) (u .e .e)) (y t210 (u .e .e) .e)
def Iy:Tr TI:=u (y t178 (u .e .e) .e) (u (u .e .e) .e)
def LN:Tr TI:=u (y t138 (u .e .e) (u .e .e)) (u (u .e .e) .e)
def IG:Tr TI:=u (y t170 (x t298) .e) (u (u .e .e) .e)
def Lu:Tr TI:=u (u (u .e .e) (u .e .e)) (y t218 (u .e .e) .e)
def Iq:Tr TI:=u (u (u .e .e) .e) (u (u .e .e) .e)
def PU:Tr TI:=u (u (y t34 LX Lj) (u LD Iy)) (y t26 (u LN IG) (y t58 Lu Iq))
def LR:Tr TI:=u (u (u .e .e) (u .e .e)) (u (u .e .e) .e)
def IK:Tr TI:=u (u (u .e .e) .e) (u (u .e .e) .e)
def Ly:Tr TI:=u (u (u .e .e) (u .e .e)) (u (u .e .e) .e)
def Iu:Tr TI:=u (u (u .e .e) .e) (u (u .e .e) .e)
def LI:Tr TI:=u (u (x t270) (u .e .e)) (u (u .e .e) .e)
def IC:Tr TI:=u (y t174 (u .e .e) .e) (u (u .e .e) .e)
def Lo:Tr TI:=u (u (u .e .e) .e) (u (u .e .e) .e)
def Il:Tr TI:=y t126 (u (u .e .e) .e) (u (u .e .e) .e)
def PQ:Tr TI:=u (y t22 (y t38 LR IK) (u Ly Iu)) (y t30 (y t46 LI IC) (y t62 Lo Il))
def EL:Tr TI:=u (u (y t3 SM PT) (y t5 SK PR)) (y t2 (y t4 SL PS) (y t6 PU PQ))
noncomputable def OE:Tr Func:=y f63 (y f127 (u .e .e) .e) (y f191 (u .e .e) .e)
noncomputable def NQ:Tr Func:=y f95 (u (u .e .e) .e) (y f223 (x f351) .e)
noncomputable def Oj:Tr Func:=y f79 (u (u .e .e) .e) (u (x f335) .e)
noncomputable def JR:Tr Func:=y f111 (y f175 (x f303) .e) (y f239 (u .e .e) .e)
noncomputable def Ov:Tr Func:=y f71 (y f135 (u .e .e) .e) (y f199 (u .e .e) .e)
noncomputable def JZ:Tr Func:=y f103 (y f167 (u .e .e) .e) (y f231 (u .e .e) .e)
noncomputable def NY:Tr Func:=y f87 (y f151 (u .e .e) .e) (u (u .e .e) .e)
noncomputable def JJ:Tr Func:=y f119 (y f183 (u .e .e) .e) (u (u .e .e) .e)
noncomputable def TJ:Tr Func:=y Tryz.f7 (y f15 (y f31 OE NQ) (y f47 Oj JR)) (y f23 (y f39 Ov JZ) (y f55 NY JJ))
noncomputable def OA:Tr Func:=y f67 (y f131 (u .e .e) .e) (y f195 (u .e .e) .e)
noncomputable def NM:Tr Func:=y f99 (y f163 (u .e .e) .e) (y f227 (u .e .e) .e)
noncomputable def Of:Tr Func:=y f83 (y f147 (u .e .e) .e) (u (x f339) .e)
noncomputable def JN:Tr Func:=y f115 (y f179 (u .e .e) .e) (u (u .e .e) .e)
noncomputable def Oo:Tr Func:=y f75 (y f139 (u .e .e) .e) (u (u .e .e) .e)
noncomputable def JV:Tr Func:=y f107 (y f171 (x f299) .e) (y f235 (u .e .e) .e)
noncomputable def NU:Tr Func:=y f91 (u (u .e .e) .e) (y f219 (u .e .e) .e)
noncomputable def JF:Tr Func:=y f123 (u (u .e .e) .e) (u (u .e .e) .e)
noncomputable def Rm:Tr Func:=y f11 (y f19 (y f35 OA NM) (y f51 Of JN)) (y f27 (y f43 Oo JV) (y f59 NU JF))
noncomputable def OC:Tr Func:=y f65 (y f129 (u .e .e) .e) (y f193 (u .e .e) .e)
noncomputable def NO:Tr Func:=y f97 (u (u .e .e) .e) (y f225 (u .e .e) .e)
noncomputable def Oh:Tr Func:=y f81 (y f145 (u .e .e) .e) (u (x f337) .e)
noncomputable def JP:Tr Func:=y f113 (y f177 (x f305) .e) (u (u .e .e) .e)
noncomputable def Ot:Tr Func:=y f73 (y f137 (u .e .e) .e) (u (u .e .e) .e)
noncomputable def JX:Tr Func:=u (y f169 (x f297) .e) (y f233 (u .e .e) .e)
noncomputable def NW:Tr Func:=y f89 (y f153 (u .e .e) .e) (y f217 (u .e .e) .e)
noncomputable def JH:Tr Func:=y f121 (y f185 (u .e .e) .e) (u (u .e .e) .e)
noncomputable def TG:Tr Func:=y Tryz.f9 (u (y f33 OC NO) (y f49 Oh JP)) (y f25 (y f41 Ot JX) (y f57 NW JH))
noncomputable def Oy:Tr Func:=y f69 (y f133 (u .e .e) .e) (y f197 (u .e .e) .e)
noncomputable def Kb:Tr Func:=y f101 (u (u .e .e) .e) (y f229 (u .e .e) .e)
noncomputable def Od:Tr Func:=y f85 (y f149 (u .e .e) .e) (u (u .e .e) .e)
noncomputable def JL:Tr Func:=y f117 (y f181 (x f309) .e) (u (u .e .e) .e)
noncomputable def Om:Tr Func:=y f77 (y f141 (u .e .e) .e) (u (x f333) .e)
noncomputable def JT:Tr Func:=y f109 (y f173 (x f301) .e) (y f237 (u .e .e) .e)
noncomputable def NS:Tr Func:=y f93 (u (u .e .e) .e) (y f221 (x f349) .e)
noncomputable def JD:Tr Func:=y f125 (y f189 (u .e .e) .e) (u (u .e .e) .e)
noncomputable def Rk:Tr Func:=u (y f21 (y f37 Oy Kb) (y f53 Od JL)) (y f29 (y f45 Om JT) (y f61 NS JD))
noncomputable def OD:Tr Func:=y f64 (y f128 (u .e .e) .e) (y f192 (u .e .e) .e)
noncomputable def NP:Tr Func:=y f96 (u (u .e .e) .e) (y f224 (u .e .e) .e)
noncomputable def Oi:Tr Func:=y f80 (y f144 (u .e .e) .e) (y f208 (x f336) .e)
noncomputable def JQ:Tr Func:=y f112 (y f176 (x f304) .e) (y f240 (u .e .e) .e)
noncomputable def Ou:Tr Func:=y f72 (y f136 (u .e .e) .e) (u (u .e .e) .e)
noncomputable def JY:Tr Func:=y f104 (y f168 (u .e .e) .e) (y f232 (u .e .e) .e)
noncomputable def NX:Tr Func:=y f88 (y f152 (u .e .e) .e) (y f216 (u .e .e) .e)
noncomputable def JI:Tr Func:=y f120 (y f184 (u .e .e) .e) (u (u .e .e) .e)
noncomputable def TH:Tr Func:=y Tryz.f8 (y f16 (y f32 OD NP) (y f48 Oi JQ)) (y f24 (y f40 Ou JY) (y f56 NX JI))
noncomputable def Oz:Tr Func:=y f68 (y f132 (u .e .e) .e) (y f196 (u .e .e) .e)
noncomputable def Kc:Tr Func:=y f100 (u (u .e .e) .e) (y f228 (u .e .e) .e)
noncomputable def Oe:Tr Func:=y f84 (y f148 (u .e .e) .e) (u (x f340) .e)
noncomputable def JM:Tr Func:=y f116 (y f180 (x f308) .e) (u (u .e .e) .e)
noncomputable def On:Tr Func:=y f76 (y f140 (u .e .e) .e) (u (x f332) .e)
noncomputable def JU:Tr Func:=u (y f172 (x f300) .e) (y f236 (u .e .e) .e)
noncomputable def NT:Tr Func:=y f92 (u (u .e .e) .e) (y f220 (u .e .e) .e)
noncomputable def JE:Tr Func:=y f124 (u (u .e .e) .e) (u (u .e .e) .e)
noncomputable def Rl:Tr Func:=y f12 (y f20 (y f36 Oz Kc) (y f52 Oe JM)) (y f28 (y f44 On JU) (y f60 NT JE))
noncomputable def OB:Tr Func:=y f66 (y f130 (u .e .e) .e) (y f194 (u .e .e) .e)
noncomputable def NN:Tr Func:=y f98 (y f162 (u .e .e) .e) (y f226 (u .e .e) .e)
noncomputable def Og:Tr Func:=y f82 (y f146 (u .e .e) .e) (u (x f338) .e)
noncomputable def JO:Tr Func:=y f114 (y f178 (u .e .e) .e) (u (u .e .e) .e)
noncomputable def Oq:Tr Func:=y f74 (y f138 (u .e .e) .e) (u (u .e .e) .e)
noncomputable def JW:Tr Func:=y f106 (y f170 (x f298) .e) (y f234 (u .e .e) .e)
noncomputable def NV:Tr Func:=y f90 (y f154 (u .e .e) .e) (y f218 (u .e .e) .e)
noncomputable def JG:Tr Func:=y f122 (y f186 (u .e .e) .e) (u (u .e .e) .e)
noncomputable def Rn:Tr Func:=y f10 (y f18 (y f34 OB NN) (y f50 Og JO)) (y f26 (y f42 Oq JW) (y f58 NV JG))
noncomputable def Ox:Tr Func:=y f70 (y f134 (u .e .e) .e) (y f198 (u .e .e) .e)
noncomputable def Ka:Tr Func:=y f102 (y f166 (u .e .e) .e) (y f230 (x f358) .e)
noncomputable def NZ:Tr Func:=y f86 (y f150 (u .e .e) .e) (u (u .e .e) .e)
noncomputable def JK:Tr Func:=y f118 (y f182 (u .e .e) .e) (u (u .e .e) .e)
noncomputable def Ol:Tr Func:=y f78 (y f142 (u .e .e) .e) (u (x f334) .e)
noncomputable def JS:Tr Func:=u (y f174 (x f302) .e) (y f238 (u .e .e) .e)
noncomputable def NR:Tr Func:=y f94 (y f158 (u .e .e) .e) (y f222 (x f350) .e)
noncomputable def JC:Tr Func:=y f126 (y f190 (u .e .e) .e) (u .e .e)
noncomputable def Rj:Tr Func:=y f14 (y f22 (y f38 Ox Ka) (y f54 NZ JK)) (y f30 (y f46 Ol JS) (y f62 NR JC))
noncomputable def FK:Tr Func:=u (u (u TJ Rm) (u TG Rk)) (u (y Tryz.f4 TH Rl) (y Tryz.f6 Rn Rj))
noncomputable def _root_.Go.Proofs.YtigpcbodmjjaiaaGreatDoor.TE:Env:={ty:=EL,fn:=FK,G:=1}
set_option maxRecDepth 100000
theorem PO:(EL.zz 1 0).map (λp=>Tq Tryz.prog p.1)=(EL.zz 1 0).map (λp=>some p.2):=by kernel_rfl
theorem Ri:(FK.zz 1 0).map (λp=>Tryz.prog.funcs[p.1]?)=(FK.zz 1 0).map (λp=>some p.2):=by kernel_rfl
theorem kM{α:Type}{p:α->Bool}(n:Nat)(l:List α)(h1:(l.take n).all p=true)(H:(l.drop n).all p=true):l.all p=true:=by rw[<-abW n l,adH,h1,H];rfl
theorem VV:((TE.fn.zz 1 0).take 40).all (λp=>yu TE.G p.2)=true:=by kernel_rfl
theorem VU:(((TE.fn.zz 1 0).drop 40).take 40).all (λp=>yu TE.G p.2)=true:=by kernel_rfl
theorem VT:((((TE.fn.zz 1 0).drop 40).drop 40).take 40).all (λp=>yu TE.G p.2)=true:=by kernel_rfl
theorem VS:(((((TE.fn.zz 1 0).drop 40).drop 40).drop 40).take 40).all (λp=>yu TE.G p.2)=true:=by kernel_rfl
theorem VR:((((((TE.fn.zz 1 0).drop 40).drop 40).drop 40).drop 40).take 40).all (λp=>yu TE.G p.2)=true:=by kernel_rfl
theorem VQ:(((((((TE.fn.zz 1 0).drop 40).drop 40).drop 40).drop 40).drop 40).take 40).all (λp=>yu TE.G p.2)=true:=by kernel_rfl
theorem Ya:(((((((TE.fn.zz 1 0).drop 40).drop 40).drop 40).drop 40).drop 40).drop 40).all (λp=>yu TE.G p.2)=true:=by kernel_rfl
theorem VP:(TE.fn.zz 1 0).all (λp=>yu TE.G p.2)=true:=(kM 40 _ VV (kM 40 _ VU (kM 40 _ VT (kM 40 _ VS (kM 40 _ VR (kM 40 _ VQ Ya))))))
theorem VO:((TE.ty.zz 1 0).all λp=>(match p.2.zero with |some z=>bF z |none=>true) && (match p.2.d with |.struct H=>H.all (λf=>match TE.ty.get f.ty with |some fi=>fi.size==f.size |none=>false) |_=>true))=true:=by kernel_rfl
theorem KK:TE.KK=true:=by unfold Env.KK;rw[aa3];exact⟨VO,VP⟩
theorem size:TE.G=Tryz.prog.globals.size:=by kernel_rfl
theorem ok:TE.OK Tryz.prog:=⟨λ_ _ h=>Tr.vQ _ PO h,λ_ _ h=>Tr.vQ _ Ri h,size,KK,Checked.mixed Tryz.checked⟩
end ag
end Go.Proofs.YtigpcbodmjjaiaaGreatDoor
