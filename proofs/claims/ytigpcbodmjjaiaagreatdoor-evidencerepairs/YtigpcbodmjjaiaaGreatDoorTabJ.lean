/- The tables of the program for D, .. -/
import Derived.Test.YtigpcbodmjjaiaaGreatDoorG0J
import Derived.Test.YtigpcbodmjjaiaaGreatDoorChecked
namespace Go.Proofs.YtigpcbodmjjaiaaGreatDoor
open Go Go.D Go.Proofs.Tryz
namespace ag
def x{α:Type}(i:α):Tr α:=.n (some i) .e .e
def y{α:Type}(i:α)(j k:Tr α):Tr α:=.n (some i) j k
def u{α:Type}(j k:Tr α):Tr α:=.n none j k
def t2:TI:=⟨.int .i64,1,8,0,some (.int .i64 0),none⟩
def t3:TI:=⟨.int .i64,1,8,0,some (.int .i64 0),none⟩
def t4:TI:=⟨.bool,1,1,0,some (.bool false),none⟩
def t5:TI:=⟨.int .u8,1,1,0,some (.int .u8 0),none⟩
def t6:TI:=t5
def t8:TI:=⟨.struct [⟨2,0,1,false⟩,⟨3,1,1,false⟩,⟨4,2,1,false⟩,⟨6,3,1,false⟩],4,24,0,some (.agg #[.int .i64 0,.int .i64 0,.bool false,.int .u8 0]),some [.i,.i,.b,.i]⟩
def t9:TI:=⟨.str,1,16,0,some (.string ⟨#[]⟩),none⟩
def t22:TI:=⟨.slice 89,1,24,6,some (.slice none 0 0),none⟩
def t23:TI:=⟨.slice 153,1,24,4,some (.slice none 0 0),none⟩
def t25:TI:=⟨.struct [⟨22,0,1,false⟩,⟨23,1,1,false⟩,⟨22,2,1,false⟩],3,72,0,some (.agg #[.slice none 0 0,.slice none 0 0,.slice none 0 0]),none⟩
def t26:TI:=⟨.slice 3,1,24,1,some (.slice none 0 0),none⟩
def t28:TI:=⟨.slice 60,1,24,6,some (.slice none 0 0),none⟩
def t30:TI:=⟨.struct [⟨28,0,1,false⟩],1,24,0,some (.agg #[.slice none 0 0]),none⟩
def t31:TI:=⟨.slice 137,1,24,5,some (.slice none 0 0),none⟩
def t33:TI:=⟨.struct [⟨30,0,1,false⟩,⟨31,1,1,false⟩],2,48,0,some (.agg #[.slice none 0 0,.slice none 0 0]),none⟩
def t34:TI:=⟨.slice 113,1,24,7,some (.slice none 0 0),none⟩
def t35:TI:=⟨.slice 53,1,24,2,some (.slice none 0 0),none⟩
def t36:TI:=⟨.slice 109,1,24,3,some (.slice none 0 0),none⟩
def t38:TI:=⟨.struct [⟨33,0,2,false⟩,⟨34,2,1,false⟩,⟨35,3,1,false⟩,⟨36,4,1,false⟩],5,120,0,some (.agg #[.slice none 0 0,.slice none 0 0,.slice none 0 0,.slice none 0 0,.slice none 0 0]),none⟩
def t39:TI:=⟨.slice 62,1,24,11,some (.slice none 0 0),none⟩
def t40:TI:=⟨.slice 69,1,24,2,some (.slice none 0 0),none⟩
def t41:TI:=⟨.slice 79,1,24,2,some (.slice none 0 0),none⟩
def t43:TI:=⟨.struct [⟨38,0,5,false⟩,⟨39,5,1,false⟩,⟨40,6,1,false⟩,⟨41,7,1,false⟩],8,192,0,some (.agg #[.slice none 0 0,.slice none 0 0,.slice none 0 0,.slice none 0 0,.slice none 0 0,.slice none 0 0,.slice none 0 0,.slice none 0 0]),none⟩
def t45:TI:=⟨.slice 55,1,24,4,some (.slice none 0 0),none⟩
def t46:TI:=t2
def t53:TI:=⟨.struct [⟨3,0,1,false⟩,⟨3,1,1,false⟩],2,16,0,some (.agg #[.int .i64 0,.int .i64 0]),some [.i,.i]⟩
def t55:TI:=⟨.struct [⟨3,0,1,false⟩,⟨53,1,2,false⟩,⟨3,3,1,false⟩],4,32,0,some (.agg #[.int .i64 0,.int .i64 0,.int .i64 0,.int .i64 0]),some [.i,.i,.i,.i]⟩
def t58:TI:=⟨.slice 141,1,24,2,some (.slice none 0 0),none⟩
def t60:TI:=⟨.struct [⟨3,0,1,false⟩,⟨3,1,1,false⟩,⟨3,2,1,false⟩,⟨58,3,1,false⟩,⟨3,4,1,false⟩,⟨3,5,1,false⟩],6,64,0,some (.agg #[.int .i64 0,.int .i64 0,.int .i64 0,.slice none 0 0,.int .i64 0,.int .i64 0]),none⟩
def t62:TI:=⟨.struct [⟨3,0,1,false⟩,⟨60,1,6,false⟩,⟨3,7,1,false⟩,⟨3,8,1,false⟩,⟨3,9,1,false⟩,⟨3,10,1,false⟩],11,104,0,some (.agg #[.int .i64 0,.int .i64 0,.int .i64 0,.int .i64 0,.slice none 0 0,.int .i64 0,.int .i64 0,.int .i64 0,.int .i64 0,.int .i64 0,.int .i64 0]),none⟩
def t69:TI:=⟨.array 2 3,2,16,1,some (.agg #[.int .i64 0,.int .i64 0]),some [.i,.i]⟩
def t75:TI:=⟨.struct [⟨3,0,1,false⟩,⟨40,1,1,false⟩],2,32,0,some (.agg #[.int .i64 0,.slice none 0 0]),none⟩
def t79:TI:=⟨.struct [⟨3,0,1,false⟩,⟨35,1,1,false⟩],2,32,0,some (.agg #[.int .i64 0,.slice none 0 0]),none⟩
def t89:TI:=⟨.array 6 3,6,48,1,some (.agg #[.int .i64 0,.int .i64 0,.int .i64 0,.int .i64 0,.int .i64 0,.int .i64 0]),some [.i,.i,.i,.i,.i,.i]⟩
def t96:TI:=⟨.func,1,8,0,some (.nilFunc),none⟩
def t98:TI:=⟨.map 53 4,1,8,0,some (.map none),none⟩
def t100:TI:=t96
def t109:TI:=⟨.struct [⟨3,0,1,false⟩,⟨3,1,1,false⟩,⟨3,2,1,false⟩],3,24,0,some (.agg #[.int .i64 0,.int .i64 0,.int .i64 0]),some [.i,.i,.i]⟩
def t113:TI:=⟨.struct [⟨60,0,6,false⟩,⟨31,6,1,false⟩],7,88,0,some (.agg #[.int .i64 0,.int .i64 0,.int .i64 0,.slice none 0 0,.int .i64 0,.int .i64 0,.slice none 0 0]),none⟩
def t120:TI:=⟨.array 8 3,8,64,1,some (.agg #[.int .i64 0,.int .i64 0,.int .i64 0,.int .i64 0,.int .i64 0,.int .i64 0,.int .i64 0,.int .i64 0]),some [.i,.i,.i,.i,.i,.i,.i,.i]⟩
def t123:TI:=t96
def t126:TI:=t96
def t127:TI:=t96
def t131:TI:=t96
def t137:TI:=⟨.struct [⟨3,0,1,false⟩,⟨3,1,1,false⟩,⟨3,2,1,false⟩,⟨3,3,1,false⟩,⟨4,4,1,false⟩],5,40,0,some (.agg #[.int .i64 0,.int .i64 0,.int .i64 0,.int .i64 0,.bool false]),some [.i,.i,.i,.i,.b]⟩
def t138:TI:=⟨.slice 145,1,24,8,some (.slice none 0 0),none⟩
def t141:TI:=⟨.struct [⟨3,0,1,false⟩,⟨3,1,1,false⟩],2,16,0,some (.agg #[.int .i64 0,.int .i64 0]),some [.i,.i]⟩
def t143:TI:=⟨.struct [⟨141,0,2,false⟩,⟨141,2,2,false⟩],4,32,0,some (.agg #[.int .i64 0,.int .i64 0,.int .i64 0,.int .i64 0]),some [.i,.i,.i,.i]⟩
def t145:TI:=⟨.struct [⟨3,0,1,false⟩,⟨3,1,1,false⟩,⟨143,2,4,false⟩,⟨3,6,1,false⟩,⟨3,7,1,false⟩],8,64,0,some (.agg #[.int .i64 0,.int .i64 0,.int .i64 0,.int .i64 0,.int .i64 0,.int .i64 0,.int .i64 0,.int .i64 0]),some [.i,.i,.i,.i,.i,.i,.i,.i]⟩
def t146:TI:=⟨.slice 184,1,24,15,some (.slice none 0 0),none⟩
def t153:TI:=⟨.array 4 3,4,32,1,some (.agg #[.int .i64 0,.int .i64 0,.int .i64 0,.int .i64 0]),some [.i,.i,.i,.i]⟩
def t155:TI:=⟨.func,1,8,0,some (.nilFunc),none⟩
def t156:TI:=t96
def t159:TI:=⟨.int .u64,1,8,0,some (.int .u64 0),none⟩
def t170:TI:=t96
def t173:TI:=⟨.map 3 4,1,8,0,some (.map none),none⟩
def t174:TI:=⟨.func,1,8,0,some (.nilFunc),none⟩
def t175:TI:=t96
def t176:TI:=t96
def t178:TI:=t96
def t181:TI:=t96
def t184:TI:=⟨.struct [⟨3,0,1,false⟩,⟨60,1,6,false⟩,⟨3,7,1,false⟩,⟨3,8,1,false⟩,⟨3,9,1,false⟩,⟨137,10,5,false⟩],15,136,0,some (.agg #[.int .i64 0,.int .i64 0,.int .i64 0,.int .i64 0,.slice none 0 0,.int .i64 0,.int .i64 0,.int .i64 0,.int .i64 0,.int .i64 0,.int .i64 0,.int .i64 0,.int .i64 0,.int .i64 0,.bool false]),none⟩
def t192:TI:=⟨.slice 195,1,24,1,some (.slice none 0 0),none⟩
def t194:TI:=⟨.ptr 62,1,8,0,some (.pointer none),none⟩
def t195:TI:=⟨.ptr 3,1,8,0,some (.pointer none),none⟩
def t196:TI:=t96
def t210:TI:=t2
def t218:TI:=⟨.int .u32,1,4,0,some (.int .u32 0),none⟩
def t220:TI:=t159
def t227:TI:=t96
def t253:TI:=t96
def t264:TI:=t159
def t270:TI:=t96
def t275:TI:=t96
def t277:TI:=t96
def t298:TI:=⟨.struct [⟨3,0,1,false⟩,⟨3,1,1,false⟩,⟨3,2,1,false⟩,⟨3,3,1,false⟩,⟨3,4,1,false⟩],5,40,0,some (.agg #[.int .i64 0,.int .i64 0,.int .i64 0,.int .i64 0,.int .i64 0]),some [.i,.i,.i,.i,.i]⟩
def t309:TI:=t96
def t313:TI:=t96
def t337:TI:=⟨.slice 341,1,24,3,some (.slice none 0 0),none⟩
def t339:TI:=⟨.slice 343,1,24,3,some (.slice none 0 0),none⟩
def t341:TI:=⟨.struct [⟨3,0,1,false⟩,⟨3,1,1,false⟩,⟨3,2,1,false⟩],3,24,0,some (.agg #[.int .i64 0,.int .i64 0,.int .i64 0]),some [.i,.i,.i]⟩
def t343:TI:=⟨.struct [⟨3,0,1,false⟩,⟨3,1,1,false⟩,⟨3,2,1,false⟩],3,24,0,some (.agg #[.int .i64 0,.int .i64 0,.int .i64 0]),some [.i,.i,.i]⟩
def t344:TI:=⟨.slice 298,1,24,5,some (.slice none 0 0),none⟩
def Mv:Tr TI:=u (y t127 (u .e .e) (u .e .e)) (u (u .e .e) .e)
def LL:Tr TI:=u (y t159 (u .e .e) .e) (u (u .e .e) .e)
def aeF:Tr TI:=y t79 (y t143 (u .e .e) (u .e .e)) (u (u .e .e) .e)
def IQ:Tr TI:=u (y t175 (u .e .e) .e) (u (u .e .e) .e)
def ach:Tr TI:=u (u (u .e .e) (u .e .e)) (u (u .e .e) .e)
def IZ:Tr TI:=u (u (u .e .e) .e) (u (u .e .e) .e)
def LV:Tr TI:=u (u (u .e .e) (u .e .e)) (u (x t343) .e)
def IG:Tr TI:=u (u (u .e .e) .e) (u (u .e .e) .e)
def Td:Tr TI:=u (u (y t31 Mv LL) (u aeF IQ)) (y t23 (y t39 ach IZ) (y t55 LV IG))
def Mr:Tr TI:=u (y t131 (u .e .e) (u .e .e)) (y t195 (u .e .e) .e)
def LG:Tr TI:=u (u (u .e .e) .e) (y t227 (u .e .e) .e)
def abp:Tr TI:=u (u (x t275) (u .e .e)) (u (x t339) .e)
def IK:Tr TI:=u (u (u .e .e) .e) (u (u .e .e) .e)
def aeR:Tr TI:=y t75 (u (u .e .e) (u .e .e)) (u (u .e .e) .e)
def acY:Tr TI:=u (u (u .e .e) .e) (u (u .e .e) .e)
def aeE:Tr TI:=u (y t155 (u .e .e) .e) (u (u .e .e) .e)
def IC:Tr TI:=y t123 (u (u .e .e) .e) (u (u .e .e) .e)
def Qi:Tr TI:=u (u (y t35 Mr LG) (u abp IK)) (u (y t43 aeR acY) (u aeE IC))
def aeG:Tr TI:=u (u (u .e .e) (u .e .e)) (u (u .e .e) .e)
def LI:Tr TI:=u (u (u .e .e) .e) (u (u .e .e) .e)
def Mb:Tr TI:=u (y t145 (u .e .e) (u .e .e)) (u (x t337) .e)
def IM:Tr TI:=y t113 (u (u .e .e) .e) (u (u .e .e) .e)
def Mj:Tr TI:=u (y t137 (u .e .e) (u .e .e)) (u (u .e .e) .e)
def IX:Tr TI:=u (u (u .e .e) .e) (u (u .e .e) .e)
def LR:Tr TI:=y t89 (y t153 (u .e .e) (u .e .e)) (u (u .e .e) .e)
def IE:Tr TI:=u (u (x t313) .e) (u (u .e .e) .e)
def Tb:Tr TI:=y t9 (u (y t33 aeG LI) (u Mb IM)) (y t25 (y t41 Mj IX) (u LR IE))
def Mp:Tr TI:=y t69 (u (u .e .e) (u .e .e)) (u (u .e .e) .e)
def Jb:Tr TI:=u (u (u .e .e) .e) (u (u .e .e) .e)
def LX:Tr TI:=u (u (x t277) (u .e .e)) (u (x t341) .e)
def II:Tr TI:=u (y t181 (x t309) .e) (u (u .e .e) .e)
def Mf:Tr TI:=u (y t141 (u .e .e) (u .e .e)) (u (u .e .e) .e)
def IT:Tr TI:=y t109 (y t173 (u .e .e) .e) (u (u .e .e) .e)
def LN:Tr TI:=u (u (u .e .e) .e) (u (u .e .e) .e)
def IA:Tr TI:=u (u (u .e .e) .e) (y t253 (u .e .e) .e)
def Qg:Tr TI:=u (u (u Mp Jb) (y t53 LX II)) (u (y t45 Mf IT) (u LN IA))
def Mu:Tr TI:=u (u (u .e .e) (u .e .e)) (y t192 (u .e .e) .e)
def LJ:Tr TI:=y t96 (u (u .e .e) .e) (u (u .e .e) .e)
def Mc:Tr TI:=u (u (u .e .e) (u .e .e)) (u (u .e .e) .e)
def IN:Tr TI:=u (y t176 (u .e .e) .e) (u (u .e .e) .e)
def Ml:Tr TI:=u (u (x t264) (u .e .e)) (u (u .e .e) .e)
def IY:Tr TI:=u (u (u .e .e) .e) (u (u .e .e) .e)
def LU:Tr TI:=u (u (u .e .e) (u .e .e)) (u (x t344) .e)
def aex:Tr TI:=y t120 (y t184 (u .e .e) .e) (u (u .e .e) .e)
def Tc:Tr TI:=y t8 (u (u Mu LJ) (u Mc IN)) (u (y t40 Ml IY) (u LU aex))
def Mq:Tr TI:=u (u (u .e .e) (u .e .e)) (y t196 (u .e .e) .e)
def Jc:Tr TI:=y t100 (u (u .e .e) .e) (u (u .e .e) .e)
def ab0:Tr TI:=u (u (u .e .e) (u .e .e)) (u (u .e .e) .e)
def abf:Tr TI:=u (u (u .e .e) .e) (u (u .e .e) .e)
def Mg:Tr TI:=u (u (u .e .e) (u .e .e)) (u (u .e .e) .e)
def IU:Tr TI:=u (u (u .e .e) .e) (u (u .e .e) .e)
def LO:Tr TI:=u (y t156 (u .e .e) .e) (y t220 (u .e .e) .e)
def IB:Tr TI:=u (u (u .e .e) .e) (u (u .e .e) .e)
def Qh:Tr TI:=u (u (y t36 Mq Jc) (u ab0 abf)) (y t28 (u Mg IU) (y t60 LO IB))
def Ms:Tr TI:=u (u (u .e .e) (u .e .e)) (y t194 (u .e .e) .e)
def aa6:Tr TI:=y t98 (u (u .e .e) .e) (u (u .e .e) .e)
def Ma:Tr TI:=u (y t146 (u .e .e) (u .e .e)) (y t210 (u .e .e) .e)
def IL:Tr TI:=u (y t178 (u .e .e) .e) (u (u .e .e) .e)
def Mi:Tr TI:=u (y t138 (u .e .e) (u .e .e)) (u (u .e .e) .e)
def ada:Tr TI:=u (y t170 (x t298) .e) (u (u .e .e) .e)
def LQ:Tr TI:=u (u (u .e .e) (u .e .e)) (y t218 (u .e .e) .e)
def ID:Tr TI:=u (u (u .e .e) .e) (u (u .e .e) .e)
def Qj:Tr TI:=u (u (y t34 Ms aa6) (u Ma IL)) (y t26 (u Mi ada) (y t58 LQ ID))
def Mn:Tr TI:=u (u (u .e .e) (u .e .e)) (u (u .e .e) .e)
def abn:Tr TI:=u (u (u .e .e) .e) (u (u .e .e) .e)
def LW:Tr TI:=u (u (u .e .e) (u .e .e)) (u (u .e .e) .e)
def abz:Tr TI:=u (u (u .e .e) .e) (u (u .e .e) .e)
def aci:Tr TI:=u (u (x t270) (u .e .e)) (u (u .e .e) .e)
def IS:Tr TI:=u (y t174 (u .e .e) .e) (u (u .e .e) .e)
def LM:Tr TI:=u (u (u .e .e) .e) (u (u .e .e) .e)
def Iz:Tr TI:=y t126 (u (u .e .e) .e) (u (u .e .e) .e)
def acO:Tr TI:=u (y t22 (y t38 Mn abn) (u LW abz)) (y t30 (y t46 aci IS) (y t62 LM Iz))
def EZ:Tr TI:=u (u (y t3 Td Qi) (y t5 Tb Qg)) (y t2 (y t4 Tc Qh) (y t6 Qj acO))
noncomputable def ad6:Tr Func:=y f63 (y f127 (u .e .e) .e) (y f191 (u .e .e) .e)
noncomputable def aeM:Tr Func:=y f95 (u (u .e .e) .e) (y f223 (x f351) .e)
noncomputable def OM:Tr Func:=y f79 (u (u .e .e) .e) (u (x f335) .e)
noncomputable def Kk:Tr Func:=y f111 (y f175 (x f303) .e) (y f239 (u .e .e) .e)
noncomputable def OU:Tr Func:=y f71 (y f135 (u .e .e) .e) (y f199 (u .e .e) .e)
noncomputable def aeU:Tr Func:=y f103 (y f167 (u .e .e) .e) (y f231 (u .e .e) .e)
noncomputable def adS:Tr Func:=y f87 (y f151 (u .e .e) .e) (u (u .e .e) .e)
noncomputable def acH:Tr Func:=y f119 (y f183 (u .e .e) .e) (u (u .e .e) .e)
noncomputable def Ua:Tr Func:=y Tryz.f7 (y f15 (y f31 ad6 aeM) (y f47 OM Kk)) (y f23 (y f39 OU aeU) (y f55 adS acH))
noncomputable def abG:Tr Func:=y f67 (y f131 (u .e .e) .e) (y f195 (u .e .e) .e)
noncomputable def aep:Tr Func:=y f99 (u (u .e .e) .e) (y f227 (u .e .e) .e)
noncomputable def abJ:Tr Func:=y f83 (y f147 (u .e .e) .e) (u (x f339) .e)
noncomputable def abi:Tr Func:=y f115 (y f179 (u .e .e) .e) (u (u .e .e) .e)
noncomputable def OQ:Tr Func:=y f75 (y f139 (u .e .e) .e) (u (u .e .e) .e)
noncomputable def Kq:Tr Func:=u (y f171 (x f299) .e) (y f235 (u .e .e) .e)
noncomputable def Oz:Tr Func:=y f91 (u (u .e .e) .e) (y f219 (u .e .e) .e)
noncomputable def JX:Tr Func:=y f123 (u (u .e .e) .e) (u (u .e .e) .e)
noncomputable def RJ:Tr Func:=y f11 (y f19 (y f35 abG aep) (y f51 abJ abi)) (y f27 (y f43 OQ Kq) (y f59 Oz JX))
noncomputable def O9:Tr Func:=y f65 (y f129 (u .e .e) .e) (y f193 (u .e .e) .e)
noncomputable def aba:Tr Func:=y f97 (u (u .e .e) .e) (y f225 (u .e .e) .e)
noncomputable def abl:Tr Func:=y f81 (y f145 (u .e .e) .e) (u (x f337) .e)
noncomputable def Ki:Tr Func:=y f113 (y f177 (x f305) .e) (u (u .e .e) .e)
noncomputable def aek:Tr Func:=y f73 (y f137 (u .e .e) .e) (u (u .e .e) .e)
noncomputable def aeB:Tr Func:=u (y f169 (x f297) .e) (y f233 (u .e .e) .e)
noncomputable def OB:Tr Func:=y f89 (y f153 (u .e .e) .e) (y f217 (u .e .e) .e)
noncomputable def JZ:Tr Func:=y f121 (y f185 (u .e .e) .e) (u (u .e .e) .e)
noncomputable def aco:Tr Func:=y Tryz.f9 (u (y f33 O9 aba) (y f49 abl Ki)) (y f25 (y f41 aek aeB) (y f57 OB JZ))
noncomputable def OW:Tr Func:=y f69 (y f133 (u .e .e) .e) (y f197 (u .e .e) .e)
noncomputable def Kw:Tr Func:=y f101 (u (u .e .e) .e) (y f229 (u .e .e) .e)
noncomputable def OF:Tr Func:=y f85 (y f149 (u .e .e) .e) (u (u .e .e) .e)
noncomputable def aa9:Tr Func:=y f117 (y f181 (x f309) .e) (u (u .e .e) .e)
noncomputable def adb:Tr Func:=y f77 (y f141 (u .e .e) .e) (u (x f333) .e)
noncomputable def ac6:Tr Func:=u (y f173 (x f301) .e) (y f237 (u .e .e) .e)
noncomputable def abj:Tr Func:=y f93 (u (u .e .e) .e) (y f221 (x f349) .e)
noncomputable def ad5:Tr Func:=y f125 (y f189 (u .e .e) .e) (u (u .e .e) .e)
noncomputable def RH:Tr Func:=y f13 (y f21 (y f37 OW Kw) (y f53 OF aa9)) (y f29 (u adb ac6) (y f61 abj ad5))
noncomputable def Pb:Tr Func:=y f64 (y f128 (u .e .e) .e) (y f192 (u .e .e) .e)
noncomputable def Ot:Tr Func:=y f96 (u (u .e .e) .e) (y f224 (u .e .e) .e)
noncomputable def OL:Tr Func:=y f80 (y f144 (u .e .e) .e) (u (x f336) .e)
noncomputable def Kj:Tr Func:=y f112 (y f176 (x f304) .e) (y f240 (u .e .e) .e)
noncomputable def adF:Tr Func:=y f72 (y f136 (u .e .e) .e) (u (u .e .e) .e)
noncomputable def acZ:Tr Func:=y f104 (y f168 (u .e .e) .e) (y f232 (u .e .e) .e)
noncomputable def OC:Tr Func:=y f88 (y f152 (u .e .e) .e) (y f216 (u .e .e) .e)
noncomputable def Ka:Tr Func:=y f120 (y f184 (u .e .e) .e) (u (u .e .e) .e)
noncomputable def T9:Tr Func:=y Tryz.f8 (y f16 (y f32 Pb Ot) (y f48 OL Kj)) (y f24 (y f40 adF acZ) (y f56 OC Ka))
noncomputable def OX:Tr Func:=y f68 (y f132 (u .e .e) .e) (y f196 (u .e .e) .e)
noncomputable def Kx:Tr Func:=y f100 (u (u .e .e) .e) (y f228 (u .e .e) .e)
noncomputable def acs:Tr Func:=y f84 (y f148 (u .e .e) .e) (u (x f340) .e)
noncomputable def Kf:Tr Func:=y f116 (y f180 (x f308) .e) (u (u .e .e) .e)
noncomputable def OP:Tr Func:=y f76 (y f140 (u .e .e) .e) (u (x f332) .e)
noncomputable def Ko:Tr Func:=u (y f172 (x f300) .e) (y f236 (u .e .e) .e)
noncomputable def Oy:Tr Func:=y f92 (u (u .e .e) .e) (y f220 (u .e .e) .e)
noncomputable def abb:Tr Func:=y f124 (u (u .e .e) .e) (u (u .e .e) .e)
noncomputable def abh:Tr Func:=y f12 (y f20 (y f36 OX Kx) (y f52 acs Kf)) (y f28 (y f44 OP Ko) (y f60 Oy abb))
noncomputable def adj:Tr Func:=y f66 (y f130 (u .e .e) .e) (y f194 (u .e .e) .e)
noncomputable def Oo:Tr Func:=y f98 (u (u .e .e) .e) (y f226 (u .e .e) .e)
noncomputable def OI:Tr Func:=y f82 (y f146 (u .e .e) .e) (u (x f338) .e)
noncomputable def Kh:Tr Func:=y f114 (y f178 (u .e .e) .e) (u (u .e .e) .e)
noncomputable def OR:Tr Func:=y f74 (y f138 (u .e .e) .e) (u (u .e .e) .e)
noncomputable def Kr:Tr Func:=y f106 (y f170 (x f298) .e) (y f234 (u .e .e) .e)
noncomputable def OA:Tr Func:=y f90 (y f154 (u .e .e) .e) (y f218 (u .e .e) .e)
noncomputable def acu:Tr Func:=y f122 (y f186 (u .e .e) .e) (u (u .e .e) .e)
noncomputable def adl:Tr Func:=y f10 (y f18 (y f34 adj Oo) (y f50 OI Kh)) (y f26 (y f42 OR Kr) (y f58 OA acu))
noncomputable def aef:Tr Func:=y f70 (y f134 (u .e .e) .e) (y f198 (u .e .e) .e)
noncomputable def adW:Tr Func:=y f102 (y f166 (u .e .e) .e) (y f230 (x f358) .e)
noncomputable def OE:Tr Func:=y f86 (y f150 (u .e .e) .e) (u (u .e .e) .e)
noncomputable def Kc:Tr Func:=y f118 (y f182 (u .e .e) .e) (u (u .e .e) .e)
noncomputable def ON:Tr Func:=y f78 (y f142 (u .e .e) .e) (u (x f334) .e)
noncomputable def Kl:Tr Func:=u (y f174 (x f302) .e) (y f238 (u .e .e) .e)
noncomputable def Ov:Tr Func:=y f94 (u (u .e .e) .e) (y f222 (x f350) .e)
noncomputable def aez:Tr Func:=y f126 (y f190 (u .e .e) .e) (u .e .e)
noncomputable def RG:Tr Func:=y f14 (y f22 (y f38 aef adW) (y f54 OE Kc)) (y f30 (y f46 ON Kl) (y f62 Ov aez))
noncomputable def FV:Tr Func:=u (u (y Tryz.f3 Ua RJ) (u aco RH)) (u (u T9 abh) (y Tryz.f6 adl RG))
noncomputable def _root_.Go.Proofs.YtigpcbodmjjaiaaGreatDoor.TE:Env:={ty:=EZ,fn:=FV,G:=1}
set_option maxRecDepth 100000
theorem Qe:(EZ.zA 1 0).map (λp=>TS Tryz.prog p.1)=(EZ.zA 1 0).map (λp=>some p.2):=by kernel_rfl
theorem aeb:(FV.zA 1 0).map (λp=>Tryz.prog.funcs[p.1]?)=(FV.zA 1 0).map (λp=>some p.2):=by kernel_rfl
theorem kP{α:Type}{p:α->Bool}(n:Nat)(l:List α)(h1:(l.take n).all p=true)(H:(l.drop n).all p=true):l.all p=true:=by rw[<-Gw n l,VU,h1,H];rfl
theorem adX:((TE.fn.zA 1 0).take 40).all (λp=>yr TE.G p.2)=true:=by kernel_rfl
theorem We:(((TE.fn.zA 1 0).drop 40).take 40).all (λp=>yr TE.G p.2)=true:=by kernel_rfl
theorem aeo:((((TE.fn.zA 1 0).drop 40).drop 40).take 40).all (λp=>yr TE.G p.2)=true:=by kernel_rfl
theorem Wc:(((((TE.fn.zA 1 0).drop 40).drop 40).drop 40).take 40).all (λp=>yr TE.G p.2)=true:=by kernel_rfl
theorem abe:((((((TE.fn.zA 1 0).drop 40).drop 40).drop 40).drop 40).take 40).all (λp=>yr TE.G p.2)=true:=by kernel_rfl
theorem acE:(((((((TE.fn.zA 1 0).drop 40).drop 40).drop 40).drop 40).drop 40).take 40).all (λp=>yr TE.G p.2)=true:=by kernel_rfl
theorem YD:(((((((TE.fn.zA 1 0).drop 40).drop 40).drop 40).drop 40).drop 40).drop 40).all (λp=>yr TE.G p.2)=true:=by kernel_rfl
theorem abT:(TE.fn.zA 1 0).all (λp=>yr TE.G p.2)=true:=(kP 40 _ adX (kP 40 _ We (kP 40 _ aeo (kP 40 _ Wc (kP 40 _ abe (kP 40 _ acE YD))))))
theorem acg:((TE.ty.zA 1 0).all λp=>(match p.2.zero with|some z=>bA z|none=>true) && (match p.2.d with |.struct H=>H.all (λf=>match TE.ty.get f.ty with|some fi=>fi.size==f.size|none=>false)|_=>true))=true:=by kernel_rfl
theorem Le:TE.Le=true:=by unfold Env.Le;rw[JJ];exact⟨acg,abT⟩
theorem size:TE.G=Tryz.prog.globals.size:=by kernel_rfl
theorem ok:TE.OK Tryz.prog:=⟨λ_ _ h=>Tr.vV _ Qe h,λ_ _ h=>Tr.vV _ aeb h,size,Le,Checked.mixed Tryz.checked⟩
end ag
end Go.Proofs.YtigpcbodmjjaiaaGreatDoor
