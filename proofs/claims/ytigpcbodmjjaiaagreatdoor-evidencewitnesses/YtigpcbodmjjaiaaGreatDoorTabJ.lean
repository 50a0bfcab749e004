/- The tables of the program for D, .. -/
import Derived.Test.YtigpcbodmjjaiaaGreatDoorG0J
import Derived.Test.YtigpcbodmjjaiaaGreatDoorChecked
namespace Go.Proofs.YtigpcbodmjjaiaaGreatDoor
open Go Go.D Go.Proofs.Tryz
namespace ag
def y{α:Type}(i:α):Tr α:=.n (some i) .e .e
def u{α:Type}(i:α)(j k:Tr α):Tr α:=.n (some i) j k
def v{α:Type}(j k:Tr α):Tr α:=.n none j k
def t2:TI:=⟨.int .i64,1,8,0,some (.int .i64 0),none⟩
def t3:TI:=⟨.int .i64,1,8,0,some (.int .i64 0),none⟩
def t4:TI:=⟨.bool,1,1,0,some (.bool false),none⟩
def t5:TI:=⟨.int .u8,1,1,0,some (.int .u8 0),none⟩
def t6:TI:=t5
def t8:TI:=⟨.struct [⟨2,0,1,false⟩,⟨3,1,1,false⟩,⟨4,2,1,false⟩,⟨6,3,1,false⟩],4,24,0,some (.agg #[.int .i64 0,.int .i64 0,.bool false,.int .u8 0]),some [.i,.i,.b,.i]⟩
def t9:TI:=⟨.str,1,16,0,some (.string ⟨#[]⟩),none⟩
def t22:TI:=⟨.slice 89,1,24,6,some (.slice none 0 0),none⟩
def t23:TI:=⟨.slice 153,1,24,4,some (.slice none 0 0),none⟩
def t25:TI:=⟨.struct [⟨22,0,1,false⟩,⟨23,1,1,false⟩,⟨22,2,1,false⟩],3,72,0,some (.agg #[.slice none 0 0,.slice none 0 0,.slice none 0 0]),none⟩
def t26:TI:=⟨.slice 3,1,24,1,some (.slice none 0 0),none⟩
def t28:TI:=⟨.slice 60,1,24,6,some (.slice none 0 0),none⟩
def t30:TI:=⟨.struct [⟨28,0,1,false⟩],1,24,0,some (.agg #[.slice none 0 0]),none⟩
def t31:TI:=⟨.slice 137,1,24,5,some (.slice none 0 0),none⟩
def t33:TI:=⟨.struct [⟨30,0,1,false⟩,⟨31,1,1,false⟩],2,48,0,some (.agg #[.slice none 0 0,.slice none 0 0]),none⟩
def t34:TI:=⟨.slice 113,1,24,7,some (.slice none 0 0),none⟩
def t35:TI:=⟨.slice 53,1,24,2,some (.slice none 0 0),none⟩
def t36:TI:=⟨.slice 109,1,24,3,some (.slice none 0 0),none⟩
def t38:TI:=⟨.struct [⟨33,0,2,false⟩,⟨34,2,1,false⟩,⟨35,3,1,false⟩,⟨36,4,1,false⟩],5,120,0,some (.agg #[.slice none 0 0,.slice none 0 0,.slice none 0 0,.slice none 0 0,.slice none 0 0]),none⟩
def t39:TI:=⟨.slice 62,1,24,11,some (.slice none 0 0),none⟩
def t40:TI:=⟨.slice 69,1,24,2,some (.slice none 0 0),none⟩
def t41:TI:=⟨.slice 79,1,24,2,some (.slice none 0 0),none⟩
def t43:TI:=⟨.struct [⟨38,0,5,false⟩,⟨39,5,1,false⟩,⟨40,6,1,false⟩,⟨41,7,1,false⟩],8,192,0,some (.agg #[.slice none 0 0,.slice none 0 0,.slice none 0 0,.slice none 0 0,.slice none 0 0,.slice none 0 0,.slice none 0 0,.slice none 0 0]),none⟩
def t45:TI:=⟨.slice 55,1,24,4,some (.slice none 0 0),none⟩
def t46:TI:=t2
def t53:TI:=⟨.struct [⟨3,0,1,false⟩,⟨3,1,1,false⟩],2,16,0,some (.agg #[.int .i64 0,.int .i64 0]),some [.i,.i]⟩
def t55:TI:=⟨.struct [⟨3,0,1,false⟩,⟨53,1,2,false⟩,⟨3,3,1,false⟩],4,32,0,some (.agg #[.int .i64 0,.int .i64 0,.int .i64 0,.int .i64 0]),some [.i,.i,.i,.i]⟩
def t58:TI:=⟨.slice 141,1,24,2,some (.slice none 0 0),none⟩
def t60:TI:=⟨.struct [⟨3,0,1,false⟩,⟨3,1,1,false⟩,⟨3,2,1,false⟩,⟨58,3,1,false⟩,⟨3,4,1,false⟩,⟨3,5,1,false⟩],6,64,0,some (.agg #[.int .i64 0,.int .i64 0,.int .i64 0,.slice none 0 0,.int .i64 0,.int .i64 0]),none⟩
def t62:TI:=⟨.struct [⟨3,0,1,false⟩,⟨60,1,6,false⟩,⟨3,7,1,false⟩,⟨3,8,1,false⟩,⟨3,9,1,false⟩,⟨3,10,1,false⟩],11,104,0,some (.agg #[.int .i64 0,.int .i64 0,.int .i64 0,.int .i64 0,.slice none 0 0,.int .i64 0,.int .i64 0,.int .i64 0,.int .i64 0,.int .i64 0,.int .i64 0]),none⟩
def t69:TI:=⟨.array 2 3,2,16,1,some (.agg #[.int .i64 0,.int .i64 0]),some [.i,.i]⟩
def t75:TI:=⟨.struct [⟨3,0,1,false⟩,⟨40,1,1,false⟩],2,32,0,some (.agg #[.int .i64 0,.slice none 0 0]),none⟩
def t79:TI:=⟨.struct [⟨3,0,1,false⟩,⟨35,1,1,false⟩],2,32,0,some (.agg #[.int .i64 0,.slice none 0 0]),none⟩
def t89:TI:=⟨.array 6 3,6,48,1,some (.agg #[.int .i64 0,.int .i64 0,.int .i64 0,.int .i64 0,.int .i64 0,.int .i64 0]),some [.i,.i,.i,.i,.i,.i]⟩
def t96:TI:=⟨.func,1,8,0,some (.nilFunc),none⟩
def t98:TI:=⟨.map 53 4,1,8,0,some (.map none),none⟩
def t100:TI:=t96
def t109:TI:=⟨.struct [⟨3,0,1,false⟩,⟨3,1,1,false⟩,⟨3,2,1,false⟩],3,24,0,some (.agg #[.int .i64 0,.int .i64 0,.int .i64 0]),some [.i,.i,.i]⟩
def t113:TI:=⟨.struct [⟨60,0,6,false⟩,⟨31,6,1,false⟩],7,88,0,some (.agg #[.int .i64 0,.int .i64 0,.int .i64 0,.slice none 0 0,.int .i64 0,.int .i64 0,.slice none 0 0]),none⟩
def t120:TI:=⟨.array 8 3,8,64,1,some (.agg #[.int .i64 0,.int .i64 0,.int .i64 0,.int .i64 0,.int .i64 0,.int .i64 0,.int .i64 0,.int .i64 0]),some [.i,.i,.i,.i,.i,.i,.i,.i]⟩
def t123:TI:=t96
def t126:TI:=t96
def t127:TI:=t96
def t131:TI:=t96
def t137:TI:=⟨.struct [⟨3,0,1,false⟩,⟨3,1,1,false⟩,⟨3,2,1,false⟩,⟨3,3,1,false⟩,⟨4,4,1,false⟩],5,40,0,some (.agg #[.int .i64 0,.int .i64 0,.int .i64 0,.int .i64 0,.bool false]),some [.i,.i,.i,.i,.b]⟩
def t138:TI:=⟨.slice 145,1,24,8,some (.slice none 0 0),none⟩
def t141:TI:=⟨.struct [⟨3,0,1,false⟩,⟨3,1,1,false⟩],2,16,0,some (.agg #[.int .i64 0,.int .i64 0]),some [.i,.i]⟩
def t143:TI:=⟨.struct [⟨141,0,2,false⟩,⟨141,2,2,false⟩],4,32,0,some (.agg #[.int .i64 0,.int .i64 0,.int .i64 0,.int .i64 0]),some [.i,.i,.i,.i]⟩
def t145:TI:=⟨.struct [⟨3,0,1,false⟩,⟨3,1,1,false⟩,⟨143,2,4,false⟩,⟨3,6,1,false⟩,⟨3,7,1,false⟩],8,64,0,some (.agg #[.int .i64 0,.int .i64 0,.int .i64 0,.int .i64 0,.int .i64 0,.int .i64 0,.int .i64 0,.int .i64 0]),some [.i,.i,.i,.i,.i,.i,.i,.i]⟩
def t146:TI:=⟨.slice 184,1,24,15,some (.slice none 0 0),none⟩
def t153:TI:=⟨.array 4 3,4,32,1,some (.agg #[.int .i64 0,.int .i64 0,.int .i64 0,.int .i64 0]),some [.i,.i,.i,.i]⟩
def t155:TI:=⟨.func,1,8,0,some (.nilFunc),none⟩
def t156:TI:=t96
def t159:TI:=⟨.int .u64,1,8,0,some (.int .u64 0),none⟩
def t170:TI:=t96
def t173:TI:=⟨.map 3 4,1,8,0,some (.map none),none⟩
def t174:TI:=⟨.func,1,8,0,some (.nilFunc),none⟩
def t175:TI:=t96
def t176:TI:=t96
def t178:TI:=t96
def t181:TI:=t96
def t184:TI:=⟨.struct [⟨3,0,1,false⟩,⟨60,1,6,false⟩,⟨3,7,1,false⟩,⟨3,8,1,false⟩,⟨3,9,1,false⟩,⟨137,10,5,false⟩],15,136,0,some (.agg #[.int .i64 0,.int .i64 0,.int .i64 0,.int .i64 0,.slice none 0 0,.int .i64 0,.int .i64 0,.int .i64 0,.int .i64 0,.int .i64 0,.int .i64 0,.int .i64 0,.int .i64 0,.int .i64 0,.bool false]),none⟩
def t192:TI:=⟨.slice 195,1,24,1,some (.slice none 0 0),none⟩
def t194:TI:=⟨.ptr 62,1,8,0,some (.pointer none),none⟩
def t195:TI:=⟨.ptr 3,1,8,0,some (.pointer none),none⟩
def t196:TI:=t96
def t210:TI:=t2
def t218:TI:=⟨.int .u32,1,4,0,some (.int .u32 0),none⟩
def t220:TI:=t159
def t227:TI:=t96
def t253:TI:=t96
def t264:TI:=t159
def t270:TI:=t96
def t275:TI:=t96
def t277:TI:=t96
def t298:TI:=⟨.struct [⟨3,0,1,false⟩,⟨3,1,1,false⟩,⟨3,2,1,false⟩,⟨3,3,1,false⟩,⟨3,4,1,false⟩],5,40,0,some (.agg #[.int .i64 0,.int .i64 0,.int .i64 0,.int .i64 0,.int .i64 0]),some [.i,.i,.i,.i,.i]⟩
def t309:TI:=t96
def t313:TI:=t96
def t337:TI:=⟨.slice 341,1,24,3,some (.slice none 0 0),none⟩
def t339:TI:=⟨.slice 343,1,24,3,some (.slice none 0 0),none⟩
def t341:TI:=⟨.struct [⟨3,0,1,false⟩,⟨3,1,1,false⟩,⟨3,2,1,false⟩],3,24,0,some (.agg #[.int .i64 0,.int .i64 0,.int .i64 0]),some [.i,.i,.i]⟩
def t343:TI:=⟨.struct [⟨3,0,1,false⟩,⟨3,1,1,false⟩,⟨3,2,1,false⟩],3,24,0,some (.agg #[.int .i64 0,.int .i64 0,.int .i64 0]),some [.i,.i,.i]⟩
def t344:TI:=⟨.slice 298,1,24,5,some (.slice none 0 0),none⟩
def MP:Tr TI:=v (u t127 (v .e .e) (v .e .e)) (v (v .e .e) .e)
def Mh:Tr TI:=v (u t159 (v .e .e) .e) (v (v .e .e) .e)
def Mz:Tr TI:=u t79 (u t143 (v .e .e) (v .e .e)) (v (v .e .e) .e)
def Jm:Tr TI:=v (u t175 (v .e .e) .e) (v (v .e .e) .e)
def MH:Tr TI:=v (v (v .e .e) (v .e .e)) (v (v .e .e) .e)
def Ju:Tr TI:=v (v (v .e .e) .e) (v (v .e .e) .e)
def Mr:Tr TI:=v (v (v .e .e) (v .e .e)) (v (y t343) .e)
def Je:Tr TI:=v (v (v .e .e) .e) (v (v .e .e) .e)
def Tn:Tr TI:=v (v (u t31 MP Mh) (v Mz Jm)) (u t23 (u t39 MH Ju) (u t55 Mr Je))
def ML:Tr TI:=v (u t131 (v .e .e) (v .e .e)) (u t195 (v .e .e) .e)
def Md:Tr TI:=v (v (v .e .e) .e) (u t227 (v .e .e) .e)
def Mv:Tr TI:=v (v (y t275) (v .e .e)) (v (y t339) .e)
def Ji:Tr TI:=v (v (v .e .e) .e) (v (v .e .e) .e)
def MD:Tr TI:=u t75 (v (v .e .e) (v .e .e)) (v (v .e .e) .e)
def Jq:Tr TI:=v (v (v .e .e) .e) (v (v .e .e) .e)
def Mm:Tr TI:=v (u t155 (v .e .e) .e) (v (v .e .e) .e)
def Ja:Tr TI:=u t123 (v (v .e .e) .e) (v (v .e .e) .e)
def QB:Tr TI:=v (v (u t35 ML Md) (v Mv Ji)) (v (u t43 MD Jq) (v Mm Ja))
def MN:Tr TI:=v (v (v .e .e) (v .e .e)) (v (v .e .e) .e)
def Mf:Tr TI:=v (v (v .e .e) .e) (v (v .e .e) .e)
def Mx:Tr TI:=v (u t145 (v .e .e) (v .e .e)) (v (y t337) .e)
def Jk:Tr TI:=u t113 (v (v .e .e) .e) (v (v .e .e) .e)
def MF:Tr TI:=v (u t137 (v .e .e) (v .e .e)) (v (v .e .e) .e)
def Js:Tr TI:=v (v (v .e .e) .e) (v (v .e .e) .e)
def Mp:Tr TI:=u t89 (u t153 (v .e .e) (v .e .e)) (v (v .e .e) .e)
def Jc:Tr TI:=v (v (y t313) .e) (v (v .e .e) .e)
def Tl:Tr TI:=u t9 (v (u t33 MN Mf) (v Mx Jk)) (u t25 (u t41 MF Js) (v Mp Jc))
def MJ:Tr TI:=u t69 (v (v .e .e) (v .e .e)) (v (v .e .e) .e)
def Jw:Tr TI:=v (v (v .e .e) .e) (v (v .e .e) .e)
def Mt:Tr TI:=v (v (y t277) (v .e .e)) (v (y t341) .e)
def Jg:Tr TI:=v (u t181 (y t309) .e) (v (v .e .e) .e)
def MB:Tr TI:=v (u t141 (v .e .e) (v .e .e)) (v (v .e .e) .e)
def Jo:Tr TI:=u t109 (u t173 (v .e .e) .e) (v (v .e .e) .e)
def Mj:Tr TI:=v (v (v .e .e) .e) (v (v .e .e) .e)
def IY:Tr TI:=v (v (v .e .e) .e) (u t253 (v .e .e) .e)
def Qz:Tr TI:=v (v (v MJ Jw) (u t53 Mt Jg)) (v (u t45 MB Jo) (v Mj IY))
def MO:Tr TI:=v (v (v .e .e) (v .e .e)) (u t192 (v .e .e) .e)
def Mg:Tr TI:=u t96 (v (v .e .e) .e) (v (v .e .e) .e)
def My:Tr TI:=v (v (v .e .e) (v .e .e)) (v (v .e .e) .e)
def Jl:Tr TI:=v (u t176 (v .e .e) .e) (v (v .e .e) .e)
def MG:Tr TI:=v (v (y t264) (v .e .e)) (v (v .e .e) .e)
def Jt:Tr TI:=v (v (v .e .e) .e) (v (v .e .e) .e)
def Mq:Tr TI:=v (v (v .e .e) (v .e .e)) (v (y t344) .e)
def Jd:Tr TI:=u t120 (u t184 (v .e .e) .e) (v (v .e .e) .e)
def Tm:Tr TI:=u t8 (v (v MO Mg) (v My Jl)) (v (u t40 MG Jt) (v Mq Jd))
def MK:Tr TI:=v (v (v .e .e) (v .e .e)) (u t196 (v .e .e) .e)
def Jx:Tr TI:=u t100 (v (v .e .e) .e) (v (v .e .e) .e)
def Mu:Tr TI:=v (v (v .e .e) (v .e .e)) (v (v .e .e) .e)
def Jh:Tr TI:=v (v (v .e .e) .e) (v (v .e .e) .e)
def MC:Tr TI:=v (v (v .e .e) (v .e .e)) (v (v .e .e) .e)
def Jp:Tr TI:=v (v (v .e .e) .e) (v (v .e .e) .e)
def Ml:Tr TI:=v (u t156 (v .e .e) .e) (u t220 (v .e .e) .e)
def IZ:Tr TI:=v (v (v .e .e) .e) (v (v .e .e) .e)
def QA:Tr TI:=v (v (u t36 MK Jx) (v Mu Jh)) (u t28 (v MC Jp) (u t60 Ml IZ))
def MM:Tr TI:=v (v (v .e .e) (v .e .e)) (u t194 (v .e .e) .e)
def Me:Tr TI:=u t98 (v (v .e .e) .e) (v (v .e .e) .e)
def Mw:Tr TI:=v (u t146 (v .e .e) (v .e .e)) (u t210 (v .e .e) .e)
def Jj:Tr TI:=v (u t178 (v .e .e) .e) (v (v .e .e) .e)
def ME:Tr TI:=v (u t138 (v .e .e) (v .e .e)) (v (v .e .e) .e)
def Jr:Tr TI:=v (u t170 (y t298) .e) (v (v .e .e) .e)
def Mn:Tr TI:=v (v (v .e .e) (v .e .e)) (u t218 (v .e .e) .e)
def Jb:Tr TI:=v (v (v .e .e) .e) (v (v .e .e) .e)
def QC:Tr TI:=v (v (u t34 MM Me) (v Mw Jj)) (u t26 (v ME Jr) (u t58 Mn Jb))
def MI:Tr TI:=v (v (v .e .e) (v .e .e)) (v (v .e .e) .e)
def Jv:Tr TI:=v (v (v .e .e) .e) (v (v .e .e) .e)
def Ms:Tr TI:=v (v (v .e .e) (v .e .e)) (v (v .e .e) .e)
def Jf:Tr TI:=v (v (v .e .e) .e) (v (v .e .e) .e)
def MA:Tr TI:=v (v (y t270) (v .e .e)) (v (v .e .e) .e)
def Jn:Tr TI:=v (u t174 (v .e .e) .e) (v (v .e .e) .e)
def Mi:Tr TI:=v (v (v .e .e) .e) (v (v .e .e) .e)
def IX:Tr TI:=u t126 (v (v .e .e) .e) (v (v .e .e) .e)
def Qy:Tr TI:=v (u t22 (u t38 MI Jv) (v Ms Jf)) (u t30 (u t46 MA Jn) (u t62 Mi IX))
def Fq:Tr TI:=v (v (u t3 Tn QB) (u t5 Tl Qz)) (u t2 (u t4 Tm QA) (u t6 QC Qy))
noncomputable def Pv:Tr Func:=u f63 (u f127 (v .e .e) .e) (u f191 (v .e .e) .e)
noncomputable def OM:Tr Func:=u f95 (v (v .e .e) .e) (u f223 (y f351) .e)
noncomputable def Pc:Tr Func:=u f79 (v (v .e .e) .e) (v (y f335) .e)
noncomputable def KJ:Tr Func:=u f111 (u f175 (y f303) .e) (u f239 (v .e .e) .e)
noncomputable def Pm:Tr Func:=u f71 (u f135 (v .e .e) .e) (u f199 (v .e .e) .e)
noncomputable def KR:Tr Func:=u f103 (u f167 (v .e .e) .e) (u f231 (v .e .e) .e)
noncomputable def OU:Tr Func:=u f87 (u f151 (v .e .e) .e) (v (v .e .e) .e)
noncomputable def KB:Tr Func:=u f119 (u f183 (v .e .e) .e) (v (v .e .e) .e)
noncomputable def Um:Tr Func:=u Tryz.f7 (u f15 (u f31 Pv OM) (u f47 Pc KJ)) (u f23 (u f39 Pm KR) (u f55 OU KB))
noncomputable def Pq:Tr Func:=u f67 (u f131 (v .e .e) .e) (u f195 (v .e .e) .e)
noncomputable def OH:Tr Func:=u f99 (v (v .e .e) .e) (u f227 (v .e .e) .e)
noncomputable def OY:Tr Func:=u f83 (u f147 (v .e .e) .e) (v (y f339) .e)
noncomputable def KF:Tr Func:=u f115 (u f179 (v .e .e) .e) (v (v .e .e) .e)
noncomputable def Pg:Tr Func:=u f75 (u f139 (v .e .e) .e) (v (v .e .e) .e)
noncomputable def KN:Tr Func:=v (u f171 (y f299) .e) (u f235 (v .e .e) .e)
noncomputable def OQ:Tr Func:=u f91 (v (v .e .e) .e) (u f219 (v .e .e) .e)
noncomputable def Kw:Tr Func:=u f123 (v (v .e .e) .e) (v (v .e .e) .e)
noncomputable def RZ:Tr Func:=u f11 (u f19 (u f35 Pq OH) (u f51 OY KF)) (u f27 (u f43 Pg KN) (u f59 OQ Kw))
noncomputable def Ps:Tr Func:=u f65 (u f129 (v .e .e) .e) (u f193 (v .e .e) .e)
noncomputable def OJ:Tr Func:=u f97 (v (v .e .e) .e) (u f225 (v .e .e) .e)
noncomputable def O9:Tr Func:=u f81 (u f145 (v .e .e) .e) (v (y f337) .e)
noncomputable def KH:Tr Func:=u f113 (u f177 (y f305) .e) (v (v .e .e) .e)
noncomputable def Pj:Tr Func:=u f73 (u f137 (v .e .e) .e) (v (v .e .e) .e)
noncomputable def KP:Tr Func:=v (u f169 (y f297) .e) (u f233 (v .e .e) .e)
noncomputable def OS:Tr Func:=u f89 (u f153 (v .e .e) .e) (u f217 (v .e .e) .e)
noncomputable def Kz:Tr Func:=u f121 (u f185 (v .e .e) .e) (v (v .e .e) .e)
noncomputable def Uk:Tr Func:=u Tryz.f9 (u f17 (u f33 Ps OJ) (u f49 O9 KH)) (u f25 (u f41 Pj KP) (u f57 OS Kz))
noncomputable def Po:Tr Func:=u f69 (u f133 (v .e .e) .e) (u f197 (v .e .e) .e)
noncomputable def KU:Tr Func:=u f101 (v (v .e .e) .e) (u f229 (v .e .e) .e)
noncomputable def OW:Tr Func:=u f85 (u f149 (v .e .e) .e) (v (v .e .e) .e)
noncomputable def KD:Tr Func:=u f117 (u f181 (y f309) .e) (v (v .e .e) .e)
noncomputable def Pe:Tr Func:=u f77 (u f141 (v .e .e) .e) (v (y f333) .e)
noncomputable def KL:Tr Func:=v (u f173 (y f301) .e) (u f237 (v .e .e) .e)
noncomputable def OO:Tr Func:=u f93 (v (v .e .e) .e) (u f221 (y f349) .e)
noncomputable def Ku:Tr Func:=u f125 (u f189 (v .e .e) .e) (v (v .e .e) .e)
noncomputable def RX:Tr Func:=v (u f21 (u f37 Po KU) (u f53 OW KD)) (u f29 (v Pe KL) (u f61 OO Ku))
noncomputable def Pu:Tr Func:=u f64 (u f128 (v .e .e) .e) (u f192 (v .e .e) .e)
noncomputable def OL:Tr Func:=u f96 (v (v .e .e) .e) (u f224 (v .e .e) .e)
noncomputable def Pb:Tr Func:=u f80 (u f144 (v .e .e) .e) (v (y f336) .e)
noncomputable def KI:Tr Func:=u f112 (u f176 (y f304) .e) (u f240 (v .e .e) .e)
noncomputable def Pk:Tr Func:=u f72 (u f136 (v .e .e) .e) (v (v .e .e) .e)
noncomputable def KQ:Tr Func:=u f104 (u f168 (v .e .e) .e) (u f232 (v .e .e) .e)
noncomputable def OT:Tr Func:=u f88 (u f152 (y f280) .e) (u f216 (v .e .e) .e)
noncomputable def KA:Tr Func:=u f120 (u f184 (v .e .e) .e) (v (v .e .e) .e)
noncomputable def Ul:Tr Func:=u Tryz.f8 (u f16 (u f32 Pu OL) (u f48 Pb KI)) (u f24 (u f40 Pk KQ) (u f56 OT KA))
noncomputable def Pp:Tr Func:=u f68 (u f132 (v .e .e) .e) (u f196 (v .e .e) .e)
noncomputable def KX:Tr Func:=u f100 (v (v .e .e) .e) (u f228 (v .e .e) .e)
noncomputable def OX:Tr Func:=u f84 (u f148 (v .e .e) .e) (v (y f340) .e)
noncomputable def KE:Tr Func:=u f116 (u f180 (y f308) .e) (v (v .e .e) .e)
noncomputable def Pf:Tr Func:=u f76 (u f140 (v .e .e) .e) (v (y f332) .e)
noncomputable def KM:Tr Func:=v (u f172 (y f300) .e) (u f236 (v .e .e) .e)
noncomputable def OP:Tr Func:=u f92 (v (v .e .e) .e) (u f220 (v .e .e) .e)
noncomputable def Kv:Tr Func:=u f124 (v (v .e .e) .e) (v (v .e .e) .e)
noncomputable def RY:Tr Func:=u f12 (u f20 (u f36 Pp KX) (u f52 OX KE)) (u f28 (v Pf KM) (u f60 OP Kv))
noncomputable def Pr:Tr Func:=u f66 (u f130 (v .e .e) .e) (u f194 (v .e .e) .e)
noncomputable def OI:Tr Func:=u f98 (v (v .e .e) .e) (u f226 (v .e .e) .e)
noncomputable def OZ:Tr Func:=u f82 (u f146 (v .e .e) .e) (v (y f338) .e)
noncomputable def KG:Tr Func:=u f114 (u f178 (v .e .e) .e) (v (v .e .e) .e)
noncomputable def Ph:Tr Func:=u f74 (u f138 (v .e .e) .e) (v (v .e .e) .e)
noncomputable def KO:Tr Func:=u f106 (u f170 (y f298) .e) (u f234 (v .e .e) .e)
noncomputable def OR:Tr Func:=u f90 (u f154 (v .e .e) .e) (u f218 (v .e .e) .e)
noncomputable def Kx:Tr Func:=u f122 (u f186 (v .e .e) .e) (v (v .e .e) .e)
noncomputable def R0:Tr Func:=u f10 (u f18 (u f34 Pr OI) (u f50 OZ KG)) (u f26 (u f42 Ph KO) (u f58 OR Kx))
noncomputable def Pn:Tr Func:=u f70 (u f134 (v .e .e) .e) (u f198 (v .e .e) .e)
noncomputable def KS:Tr Func:=u f102 (u f166 (v .e .e) .e) (u f230 (y f358) .e)
noncomputable def OV:Tr Func:=u f86 (u f150 (v .e .e) .e) (v (v .e .e) .e)
noncomputable def KC:Tr Func:=u f118 (u f182 (v .e .e) .e) (v (v .e .e) .e)
noncomputable def Pd:Tr Func:=u f78 (u f142 (v .e .e) .e) (v (y f334) .e)
noncomputable def KK:Tr Func:=v (u f174 (y f302) .e) (u f238 (v .e .e) .e)
noncomputable def ON:Tr Func:=u f94 (v (v .e .e) .e) (u f222 (y f350) .e)
noncomputable def Kt:Tr Func:=u f126 (u f190 (v .e .e) .e) (v .e .e)
noncomputable def RW:Tr Func:=u f14 (u f22 (u f38 Pn KS) (u f54 OV KC)) (u f30 (u f46 Pd KK) (u f62 ON Kt))
noncomputable def Gj:Tr Func:=v (v (v Um RZ) (u Tryz.f5 Uk RX)) (v (v Ul RY) (u Tryz.f6 R0 RW))
noncomputable def df:Tr Tf:=.e
noncomputable def cl:Tr SA:=.e
noncomputable def _root_.Go.Proofs.YtigpcbodmjjaiaaGreatDoor.TE:Env:={ty:=Fq,fn:=Gj,G:=1,df:=df,cl:=cl}
set_option maxRecDepth 100000
theorem Qx:(Fq.sC 1 0).map (λp=>Ua Tryz.prog p.1)=(Fq.sC 1 0).map (λp=>some p.2):=by kernel_rfl
theorem RV:(Gj.sC 1 0).map (λp=>Tryz.prog.funcs[p.1]?)=(Gj.sC 1 0).map (λp=>some p.2):=by kernel_rfl
theorem R7:df.sC 1 0=[]:=by kernel_rfl
theorem V8:∀x∈([]:List (Nat×Tf)),Tryz.prog.funcs[x.1]?=some x.2.fn/\x.2.fn.body=some (mq x.2.pre (.seq (.region x.2.id #[x.2.mf,x.2.de] false) x.2.post)):=λx H=>by cases H
theorem Sc:cl.sC 1 0=[]:=by kernel_rfl
theorem We:∀x∈([]:List (Nat×SA)),Tryz.prog.funcs[x.1]?=some x.2.fn/\x.2.fn.body=some (.seq (.region x.2.id x.2.ops false) x.2.rest):=λx H=>by cases H
theorem kT{α:Type}{p:α->Bool}(n:Nat)(l:List α)(h1:(l.take n).all p=true)(H:(l.drop n).all p=true):l.all p=true:=by rw[<-ab5 n l,adV,h1,H];rfl
theorem Wm:((TE.fn.sC 1 0).take 40).all (λp=>mw TE.G p.2)=true:=by kernel_rfl
theorem Wl:(((TE.fn.sC 1 0).drop 40).take 40).all (λp=>mw TE.G p.2)=true:=by kernel_rfl
theorem Wk:((((TE.fn.sC 1 0).drop 40).drop 40).take 40).all (λp=>mw TE.G p.2)=true:=by kernel_rfl
theorem Wj:(((((TE.fn.sC 1 0).drop 40).drop 40).drop 40).take 40).all (λp=>mw TE.G p.2)=true:=by kernel_rfl
theorem Wi:((((((TE.fn.sC 1 0).drop 40).drop 40).drop 40).drop 40).take 40).all (λp=>mw TE.G p.2)=true:=by kernel_rfl
theorem Wh:(((((((TE.fn.sC 1 0).drop 40).drop 40).drop 40).drop 40).drop 40).take 40).all (λp=>mw TE.G p.2)=true:=by kernel_rfl
theorem Yz:(((((((TE.fn.sC 1 0).drop 40).drop 40).drop 40).drop 40).drop 40).drop 40).all (λp=>mw TE.G p.2)=true:=by kernel_rfl
theorem Wg:(TE.fn.sC 1 0).all (λp=>mw TE.G p.2)=true:=(kT 40 _ Wm (kT 40 _ Wl (kT 40 _ Wk (kT 40 _ Wj (kT 40 _ Wi (kT 40 _ Wh Yz))))))
theorem Wf:((TE.ty.sC 1 0).all λp=>(match p.2.zero with |some z=>bB z |none=>true) && (match p.2.d with |.struct H=>H.all (λf=>match TE.ty.get f.ty with |some fi=>fi.size==f.size |none=>false) |_=>true))=true:=by kernel_rfl
theorem Wn:((TE.df.sC 1 0).all (λp=>mw TE.G p.2.fn) && (TE.cl.sC 1 0).all λp=>mw TE.G p.2.fn)=true:=by kernel_rfl
theorem Fe:TE.Fe=true:=by unfold Env.Fe;rw[abc,abc];exact⟨Wf,Wg,Wn⟩
theorem size:TE.G=Tryz.prog.globals.size:=by kernel_rfl
theorem st1:TE.fn.get Dw=none:=by kernel_rfl
theorem st2:TE.df.get Dw=none:=by kernel_rfl
theorem ok:TE.OK Tryz.prog:=⟨⟨st1,st2⟩,λ_ _ h=>Tr.wG _ Qx h,λ_ _ h=>Tr.wG _ RV h,size,λ_ _ h=>Tr.HG (p:=λi d=>Tryz.prog.funcs[i]?=some d.fn/\d.fn.body=some (mq d.pre (.seq (.region d.id #[d.mf,d.de] false) d.post))) _ R7 V8 h,λ_ _ h=>Tr.HG (p:=λi d=>Tryz.prog.funcs[i]?=some d.fn/\d.fn.body=some (.seq (.region d.id d.ops false) d.rest)) _ Sc We h,Fe,Checked.mixed Tryz.checked⟩
end ag
end Go.Proofs.YtigpcbodmjjaiaaGreatDoor
