/- Part 6 of what the proof rests on: a machine that runs functions of the program on pure values, proved sound; the functions that the law reaches, what they compute, and plain laws of that. -/
import Derived.Test.YtjkijdhdbhooiaaGreatQ5
import Derived.Test.YtjkijdhdbhooiaaGreatProg
import Derived.Test.YtjkijdhdbhooiaaGreatRows
import Derived.WalkKit
import Derived.OpenShut
import Derived.ChangeOld
import Derived.ProofKit
set_option linter.all false
noncomputable section
namespace Go.Proofs
open Go Go.Pm
set_option maxRecDepth 100000
abbrev NK:Nat:=1000
def nD:au:=⟨.of [⟨1,1,0,0,10,10,0,⟨0,0⟩,⟨0,0⟩,2,0,.of [],.of []⟩,⟨1,2,50,0,10,10,0,⟨0,0⟩,⟨0,0⟩,2,0,.of [],.of []⟩,⟨1,1,100,0,10,10,0,⟨0,0⟩,⟨0,0⟩,2,0,.of [],.of []⟩,⟨1,2,150,0,10,10,0,⟨0,0⟩,⟨0,0⟩,2,0,.of [],.of []⟩,⟨1,1,200,0,10,10,0,⟨0,0⟩,⟨0,0⟩,2,0,.of [],.of []⟩]⟩
def zA0:Sl bC:=.of [⟨0,2,1,0,0,0⟩,⟨2,3,1,0,0,1⟩,⟨4,4,1,0,0,2⟩,⟨4,8,1,0,0,0⟩,⟨1,5,1,0,0,1⟩,⟨3,5,1,0,0,1⟩]
def zB0:Sl (Sl aC):=.of [.of [⟨0,20,30⟩],.of [⟨100,30,40⟩],.of [⟨200,40,50⟩],.of [⟨200,80,90⟩],.of [⟨50,50,60⟩],.of [⟨150,50,60⟩]]
def DU:Pt aW:=⟨⟨nD,zA0,zB0,⟨2,0⟩⟩⟩
abbrev TB:={T:Tabs // ay ax T}
def TB.m {δ ρ:Type} [dw δ] [dw ρ] (T:TB) (f:FuncId) (y:δ×ρ) (h:zhD ((dh T.1 []).fn f) y=true):TB:=⟨T.1.memo f y,ay.memo T.2 h⟩
theorem zfN:dX ax 253 (.sort 204 3 24):=KN Tryz.laysS253 rfl rfl rfl (ak (by kernel_rfl))
theorem zfO:dX ax 133 (.sort 43 3 56):=KN Tryz.laysS133 rfl rfl rfl (ak (by kernel_rfl))
theorem zfP:dX ax 181 (.clone 3 1 8):=KO Tryz.laysC181 rfl rfl rfl rfl rfl rfl rfl (by decide) (ak (by kernel_rfl))
theorem zfQ:dX ax 252 (.clone 204 3 24):=KO Tryz.laysC252 rfl rfl rfl rfl rfl rfl rfl (by decide) (ak (by kernel_rfl))
def K1 : TB := ⟨kZ ax NK Tabs.nil
  [.f 161 {},
   .f 232 {},
   .f 233 {},
   .f 234 {},
   .f 164 {},
   .f 235 {},
   .f 201 {},
   .f 160 {}],dO ay.nil (by kernel_rfl)⟩
def K2:TB:=K1.m 160 (((nD),true):(au)×(Bool)) (by kernel_rfl)
def K3 : TB := ⟨kZ ax NK K2.1
  [.f 122 {},
   .f 123 {},
   .f 60 {},
   .f 112 {},
   .f 188 {},
   .f 138 {},
   .f 223 {},
   .i 251 { yl:=[3] },
   .f 246 {},
   .f 224 {},
   .f 189 {},
   .f 139 {}],dO K2.2 (by kernel_rfl)⟩
def K4:TB:=K3.m 139 (((nD,⟨0,2,1,0,0,0⟩),((.of [⟨0,20,30⟩]),0)):(au×bC)×(Sl aC×Int)) (by kernel_rfl)
def K5:TB:=K4.m 139 (((nD,⟨2,3,1,0,0,1⟩),((.of [⟨100,30,40⟩]),0)):(au×bC)×(Sl aC×Int)) (by kernel_rfl)
def K6:TB:=K5.m 139 (((nD,⟨4,4,1,0,0,2⟩),((.of [⟨200,40,50⟩]),0)):(au×bC)×(Sl aC×Int)) (by kernel_rfl)
def K7:TB:=K6.m 139 (((nD,⟨4,8,1,0,0,0⟩),((.of [⟨200,80,90⟩]),0)):(au×bC)×(Sl aC×Int)) (by kernel_rfl)
def K8:TB:=K7.m 139 (((nD,⟨1,5,1,0,0,1⟩),((.of [⟨50,50,60⟩]),0)):(au×bC)×(Sl aC×Int)) (by kernel_rfl)
def K9:TB:=K8.m 139 (((nD,⟨3,5,1,0,0,1⟩),((.of [⟨150,50,60⟩]),0)):(au×bC)×(Sl aC×Int)) (by kernel_rfl)
def K10 : TB := ⟨kZ ax NK K9.1
  [.f 78 {}],dO K9.2 (by kernel_rfl)⟩
def K11:TB:=K10.m 78 (((nD,⟨2,0⟩,zA0),(DU,0)):(au×bP×Sl bC)×(Pt aW×Int)) (by kernel_rfl)
def K12 : TB := ⟨kZ ax NK K11.1
  [.f 176 {},
   .f 126 {},
   .f 140 {},
   .i 173 { yl:=[7] },
   .f 121 {},
   .f 180 {},
   .f 190 {},
   .f 210 {},
   .f 179 {}],dO K11.2 (by kernel_rfl)⟩
def K13:TB:=⟨K12.1.addO 181 (.clone 3 1 8),ay.addO K12.2 zfP⟩
def K14 : TB := ⟨kZ ax NK K13.1
  [.f 111 {}],dO K13.2 (by kernel_rfl)⟩
def K15:TB:=K14.m 111 (((nD,(.of [⟨0,2,1,0,0,0⟩])),0):(au×Sl bC)×(Int)) (by kernel_rfl)
def K16:TB:=K15.m 111 (((nD,(.of [⟨0,2,1,0,0,0⟩,⟨2,3,1,0,0,1⟩])),0):(au×Sl bC)×(Int)) (by kernel_rfl)
def K17:TB:=K16.m 111 (((nD,(.of [⟨0,2,1,0,0,0⟩,⟨2,3,1,0,0,1⟩,⟨4,4,1,0,0,2⟩])),0):(au×Sl bC)×(Int)) (by kernel_rfl)
def K18:TB:=K17.m 111 (((nD,(.of [⟨0,2,1,0,0,0⟩,⟨2,3,1,0,0,1⟩,⟨4,8,1,0,0,0⟩])),0):(au×Sl bC)×(Int)) (by kernel_rfl)
def K19:TB:=K18.m 111 (((nD,(.of [⟨0,2,1,0,0,0⟩,⟨4,4,1,0,0,2⟩])),0):(au×Sl bC)×(Int)) (by kernel_rfl)
def K20:TB:=K19.m 111 (((nD,(.of [⟨0,2,1,0,0,0⟩,⟨4,8,1,0,0,0⟩])),0):(au×Sl bC)×(Int)) (by kernel_rfl)
def K21:TB:=K20.m 111 (((nD,(.of [⟨2,3,1,0,0,1⟩])),0):(au×Sl bC)×(Int)) (by kernel_rfl)
def K22:TB:=K21.m 111 (((nD,(.of [⟨2,3,1,0,0,1⟩,⟨4,4,1,0,0,2⟩])),0):(au×Sl bC)×(Int)) (by kernel_rfl)
def K23:TB:=K22.m 111 (((nD,(.of [⟨2,3,1,0,0,1⟩,⟨4,8,1,0,0,0⟩])),0):(au×Sl bC)×(Int)) (by kernel_rfl)
def K24:TB:=K23.m 111 (((nD,(.of [⟨4,4,1,0,0,2⟩])),0):(au×Sl bC)×(Int)) (by kernel_rfl)
def K25:TB:=K24.m 111 (((nD,(.of [⟨4,8,1,0,0,0⟩])),0):(au×Sl bC)×(Int)) (by kernel_rfl)
def K26:TB:=K25.m 111 (((nD,(.of [⟨1,5,1,0,0,1⟩])),0):(au×Sl bC)×(Int)) (by kernel_rfl)
def K27:TB:=K26.m 111 (((nD,(.of [⟨1,5,1,0,0,1⟩,⟨3,5,1,0,0,1⟩])),0):(au×Sl bC)×(Int)) (by kernel_rfl)
def K28:TB:=K27.m 111 (((nD,(.of [⟨3,5,1,0,0,1⟩])),0):(au×Sl bC)×(Int)) (by kernel_rfl)
def K29 : TB := ⟨kZ ax NK K28.1
  [.f 113 {},
   .f 50 {}],dO K28.2 (by kernel_rfl)⟩
def K30:TB:=K29.m 50 (((nD,(.of [⟨0,2,1,0,0,0⟩])),(⟨(-2),2⟩,0)):(au×Sl bC)×(bZ×Int)) (by kernel_rfl)
def K31:TB:=K30.m 50 (((nD,(.of [⟨0,2,1,0,0,0⟩,⟨2,3,1,0,0,1⟩])),(⟨(-1),2⟩,0)):(au×Sl bC)×(bZ×Int)) (by kernel_rfl)
def K32:TB:=K31.m 50 (((nD,(.of [⟨0,2,1,0,0,0⟩,⟨2,3,1,0,0,1⟩,⟨4,4,1,0,0,2⟩])),(⟨0,2⟩,0)):(au×Sl bC)×(bZ×Int)) (by kernel_rfl)
def K33:TB:=K32.m 50 (((nD,(.of [⟨0,2,1,0,0,0⟩,⟨2,3,1,0,0,1⟩,⟨4,8,1,0,0,0⟩])),(⟨(-1),2⟩,0)):(au×Sl bC)×(bZ×Int)) (by kernel_rfl)
def K34:TB:=K33.m 50 (((nD,(.of [⟨0,2,1,0,0,0⟩,⟨4,4,1,0,0,2⟩])),(⟨0,2⟩,0)):(au×Sl bC)×(bZ×Int)) (by kernel_rfl)
def K35:TB:=K34.m 50 (((nD,(.of [⟨0,2,1,0,0,0⟩,⟨4,8,1,0,0,0⟩])),(⟨(-2),2⟩,0)):(au×Sl bC)×(bZ×Int)) (by kernel_rfl)
def K36:TB:=K35.m 50 (((nD,(.of [⟨2,3,1,0,0,1⟩])),(⟨(-1),3⟩,0)):(au×Sl bC)×(bZ×Int)) (by kernel_rfl)
def K37:TB:=K36.m 50 (((nD,(.of [⟨2,3,1,0,0,1⟩,⟨4,4,1,0,0,2⟩])),(⟨0,3⟩,0)):(au×Sl bC)×(bZ×Int)) (by kernel_rfl)
def K38:TB:=K37.m 50 (((nD,(.of [⟨2,3,1,0,0,1⟩,⟨4,8,1,0,0,0⟩])),(⟨(-1),2⟩,0)):(au×Sl bC)×(bZ×Int)) (by kernel_rfl)
def K39:TB:=K38.m 50 (((nD,(.of [⟨4,4,1,0,0,2⟩])),(⟨0,4⟩,0)):(au×Sl bC)×(bZ×Int)) (by kernel_rfl)
def K40:TB:=K39.m 50 (((nD,(.of [⟨4,8,1,0,0,0⟩])),(⟨(-2),2⟩,0)):(au×Sl bC)×(bZ×Int)) (by kernel_rfl)
def K41:TB:=K40.m 50 (((nD,(.of [⟨1,5,1,0,0,1⟩])),(⟨(-1),3⟩,0)):(au×Sl bC)×(bZ×Int)) (by kernel_rfl)
def K42:TB:=K41.m 50 (((nD,(.of [⟨1,5,1,0,0,1⟩,⟨3,5,1,0,0,1⟩])),(⟨(-1),3⟩,0)):(au×Sl bC)×(bZ×Int)) (by kernel_rfl)
def K43:TB:=K42.m 50 (((nD,(.of [⟨3,5,1,0,0,1⟩])),(⟨(-1),3⟩,0)):(au×Sl bC)×(bZ×Int)) (by kernel_rfl)
def K44 : TB := ⟨kZ ax NK K43.1
  [.f 93 {},
   .f 105 {},
   .f 118 {},
   .f 162 {},
   .f 157 {},
   .f 156 {},
   .f 109 {},
   .f 207 {},
   .f 231 {},
   .f 230 {},
   .f 257 {},
   .f 238 {},
   .f 206 {},
   .f 167 {},
   .f 229 {},
   .i 228 { yl:=[13] },
   .f 197 {},
   .f 209 {},
   .f 172 {}],dO K43.2 (by kernel_rfl)⟩
def K45:TB:=K44.m 172 (((10,100),(⟨1,10⟩)):(Int×Int)×(aS)) (by kernel_rfl)
def K46:TB:=K45.m 172 (((2000,100),(⟨20,1⟩)):(Int×Int)×(aS)) (by kernel_rfl)
def K47:TB:=K46.m 172 (((20,100),(⟨1,5⟩)):(Int×Int)×(aS)) (by kernel_rfl)
def K48:TB:=K47.m 172 (((0,100),(⟨0,1⟩)):(Int×Int)×(aS)) (by kernel_rfl)
def K49:TB:=K48.m 172 (((3000,100),(⟨30,1⟩)):(Int×Int)×(aS)) (by kernel_rfl)
def K50:TB:=K49.m 172 (((20,200),(⟨1,10⟩)):(Int×Int)×(aS)) (by kernel_rfl)
def K51:TB:=K50.m 172 (((4000,200),(⟨20,1⟩)):(Int×Int)×(aS)) (by kernel_rfl)
def K52:TB:=K51.m 172 (((30,200),(⟨3,20⟩)):(Int×Int)×(aS)) (by kernel_rfl)
def K53:TB:=K52.m 172 (((10,200),(⟨1,20⟩)):(Int×Int)×(aS)) (by kernel_rfl)
def K54:TB:=K53.m 172 (((6000,200),(⟨30,1⟩)):(Int×Int)×(aS)) (by kernel_rfl)
def K55:TB:=K54.m 172 (((1000,100),(⟨10,1⟩)):(Int×Int)×(aS)) (by kernel_rfl)
def K56:TB:=K55.m 172 (((4000,100),(⟨40,1⟩)):(Int×Int)×(aS)) (by kernel_rfl)
def K57:TB:=K56.m 172 (((60,200),(⟨3,10⟩)):(Int×Int)×(aS)) (by kernel_rfl)
def K58:TB:=K57.m 172 (((70,200),(⟨7,20⟩)):(Int×Int)×(aS)) (by kernel_rfl)
def K59:TB:=K58.m 172 (((50,200),(⟨1,4⟩)):(Int×Int)×(aS)) (by kernel_rfl)
def K60:TB:=K59.m 172 (((50,100),(⟨1,2⟩)):(Int×Int)×(aS)) (by kernel_rfl)
def K61:TB:=K60.m 172 ((((-2000),100),(⟨(-20),1⟩)):(Int×Int)×(aS)) (by kernel_rfl)
def K62:TB:=K61.m 172 (((60,100),(⟨3,5⟩)):(Int×Int)×(aS)) (by kernel_rfl)
def K63:TB:=K62.m 172 ((((-3000),100),(⟨(-30),1⟩)):(Int×Int)×(aS)) (by kernel_rfl)
def K64:TB:=K63.m 172 (((40,100),(⟨2,5⟩)):(Int×Int)×(aS)) (by kernel_rfl)
def K65:TB:=K64.m 172 ((((-1000),100),(⟨(-10),1⟩)):(Int×Int)×(aS)) (by kernel_rfl)
def K66:TB:=K65.m 172 (((6000,100),(⟨60,1⟩)):(Int×Int)×(aS)) (by kernel_rfl)
def K67:TB:=K66.m 172 (((8000,200),(⟨40,1⟩)):(Int×Int)×(aS)) (by kernel_rfl)
def K68:TB:=K67.m 172 (((10000,200),(⟨50,1⟩)):(Int×Int)×(aS)) (by kernel_rfl)
def K69:TB:=K68.m 172 (((12000,200),(⟨60,1⟩)):(Int×Int)×(aS)) (by kernel_rfl)
def K70:TB:=K69.m 172 (((5000,100),(⟨50,1⟩)):(Int×Int)×(aS)) (by kernel_rfl)
def K71:TB:=K70.m 172 (((4500,100),(⟨45,1⟩)):(Int×Int)×(aS)) (by kernel_rfl)
def K72:TB:=K71.m 172 ((((-10),100),(⟨(-1),10⟩)):(Int×Int)×(aS)) (by kernel_rfl)
def K73:TB:=K72.m 172 (((6500,100),(⟨65,1⟩)):(Int×Int)×(aS)) (by kernel_rfl)
def K74 : TB := ⟨kZ ax NK K73.1
  [.f 198 {}],dO K73.2 (by kernel_rfl)⟩
def K75:TB:=K74.m 198 (((⟨10,2000,100⟩),(⟨⟨1,10⟩,⟨20,1⟩⟩)):(straight)×(Line)) (by kernel_rfl)
def K76:TB:=K75.m 198 (((⟨20,2000,100⟩),(⟨⟨1,5⟩,⟨20,1⟩⟩)):(straight)×(Line)) (by kernel_rfl)
def K77:TB:=K76.m 198 (((⟨0,3000,100⟩),(⟨⟨0,1⟩,⟨30,1⟩⟩)):(straight)×(Line)) (by kernel_rfl)
def K78:TB:=K77.m 198 (((⟨10,3000,100⟩),(⟨⟨1,10⟩,⟨30,1⟩⟩)):(straight)×(Line)) (by kernel_rfl)
def K79:TB:=K78.m 198 (((⟨20,4000,200⟩),(⟨⟨1,10⟩,⟨20,1⟩⟩)):(straight)×(Line)) (by kernel_rfl)
def K80:TB:=K79.m 198 (((⟨30,4000,200⟩),(⟨⟨3,20⟩,⟨20,1⟩⟩)):(straight)×(Line)) (by kernel_rfl)
def K81:TB:=K80.m 198 (((⟨10,6000,200⟩),(⟨⟨1,20⟩,⟨30,1⟩⟩)):(straight)×(Line)) (by kernel_rfl)
def K82:TB:=K81.m 198 (((⟨20,6000,200⟩),(⟨⟨1,10⟩,⟨30,1⟩⟩)):(straight)×(Line)) (by kernel_rfl)
def K83:TB:=K82.m 198 (((⟨20,1000,100⟩),(⟨⟨1,5⟩,⟨10,1⟩⟩)):(straight)×(Line)) (by kernel_rfl)
def K84:TB:=K83.m 198 (((⟨0,4000,100⟩),(⟨⟨0,1⟩,⟨40,1⟩⟩)):(straight)×(Line)) (by kernel_rfl)
def K85:TB:=K84.m 198 (((⟨60,4000,200⟩),(⟨⟨3,10⟩,⟨20,1⟩⟩)):(straight)×(Line)) (by kernel_rfl)
def K86:TB:=K85.m 198 (((⟨70,4000,200⟩),(⟨⟨7,20⟩,⟨20,1⟩⟩)):(straight)×(Line)) (by kernel_rfl)
def K87:TB:=K86.m 198 (((⟨50,6000,200⟩),(⟨⟨1,4⟩,⟨30,1⟩⟩)):(straight)×(Line)) (by kernel_rfl)
def K88:TB:=K87.m 198 (((⟨60,6000,200⟩),(⟨⟨3,10⟩,⟨30,1⟩⟩)):(straight)×(Line)) (by kernel_rfl)
def K89:TB:=K88.m 198 (((⟨50,(-2000),100⟩),(⟨⟨1,2⟩,⟨(-20),1⟩⟩)):(straight)×(Line)) (by kernel_rfl)
def K90:TB:=K89.m 198 (((⟨60,(-3000),100⟩),(⟨⟨3,5⟩,⟨(-30),1⟩⟩)):(straight)×(Line)) (by kernel_rfl)
def K91:TB:=K90.m 198 (((⟨40,0,100⟩),(⟨⟨2,5⟩,⟨0,1⟩⟩)):(straight)×(Line)) (by kernel_rfl)
def K92:TB:=K91.m 198 (((⟨50,(-1000),100⟩),(⟨⟨1,2⟩,⟨(-10),1⟩⟩)):(straight)×(Line)) (by kernel_rfl)
def K93:TB:=K92.m 198 (((⟨0,5000,100⟩),(⟨⟨0,1⟩,⟨50,1⟩⟩)):(straight)×(Line)) (by kernel_rfl)
def K94:TB:=K93.m 198 (((⟨10,4500,100⟩),(⟨⟨1,10⟩,⟨45,1⟩⟩)):(straight)×(Line)) (by kernel_rfl)
def K95:TB:=K94.m 198 (((⟨(-10),6500,100⟩),(⟨⟨(-1),10⟩,⟨65,1⟩⟩)):(straight)×(Line)) (by kernel_rfl)
def K96:TB:=K95.m 198 (((⟨0,6000,100⟩),(⟨⟨0,1⟩,⟨60,1⟩⟩)):(straight)×(Line)) (by kernel_rfl)
def K97 : TB := ⟨kZ ax NK K96.1
  [.f 199 {},
   .f 158 { vv:=[14] }],dO K96.2 (by kernel_rfl)⟩
def K98:TB:=K97.m 158 ((((.of [⟨0,20,30⟩])),(⟨⟨.of [⟨0,20,30⟩]⟩,.of []⟩)):(Sl aC)×(set)) (by kernel_rfl)
def K99:TB:=K98.m 158 ((((.of [⟨0,20,30⟩,⟨100,30,40⟩])),(⟨⟨.of [⟨0,20,30⟩,⟨100,30,40⟩]⟩,.of [⟨10,2000,100⟩,⟨20,2000,100⟩,⟨0,3000,100⟩,⟨10,3000,100⟩]⟩)):(Sl aC)×(set)) (by kernel_rfl)
def zL6:TB:=K99.m 158 ((((.of [⟨0,20,30⟩,⟨100,30,40⟩,⟨200,40,50⟩])),(⟨⟨.of [⟨0,20,30⟩,⟨100,30,40⟩,⟨200,40,50⟩]⟩,.of [⟨10,2000,100⟩,⟨10,3000,100⟩,⟨30,4000,200⟩,⟨10,6000,200⟩]⟩)):(Sl aC)×(set)) (by kernel_rfl)
def zL7:TB:=zL6.m 158 ((((.of [⟨0,20,30⟩,⟨100,30,40⟩,⟨200,80,90⟩])),(⟨⟨.of [⟨0,20,30⟩,⟨100,30,40⟩,⟨200,80,90⟩]⟩,.of []⟩)):(Sl aC)×(set)) (by kernel_rfl)
def zL8:TB:=zL7.m 158 ((((.of [⟨0,20,30⟩,⟨200,40,50⟩])),(⟨⟨.of [⟨0,20,30⟩,⟨200,40,50⟩]⟩,.of [⟨20,4000,200⟩,⟨30,4000,200⟩,⟨10,6000,200⟩,⟨20,6000,200⟩]⟩)):(Sl aC)×(set)) (by kernel_rfl)
def zL9:TB:=zL8.m 158 ((((.of [⟨0,20,30⟩,⟨200,80,90⟩])),(⟨⟨.of [⟨0,20,30⟩,⟨200,80,90⟩]⟩,.of [⟨60,4000,200⟩,⟨70,4000,200⟩,⟨50,6000,200⟩,⟨60,6000,200⟩]⟩)):(Sl aC)×(set)) (by kernel_rfl)
def zMa:TB:=zL9.m 158 ((((.of [⟨100,30,40⟩])),(⟨⟨.of [⟨100,30,40⟩]⟩,.of []⟩)):(Sl aC)×(set)) (by kernel_rfl)
def zMb:TB:=zMa.m 158 ((((.of [⟨100,30,40⟩,⟨200,40,50⟩])),(⟨⟨.of [⟨100,30,40⟩,⟨200,40,50⟩]⟩,.of [⟨10,2000,100⟩,⟨20,1000,100⟩,⟨0,4000,100⟩,⟨10,3000,100⟩]⟩)):(Sl aC)×(set)) (by kernel_rfl)
def zMc:TB:=zMb.m 158 ((((.of [⟨100,30,40⟩,⟨200,80,90⟩])),(⟨⟨.of [⟨100,30,40⟩,⟨200,80,90⟩]⟩,.of [⟨50,(-2000),100⟩,⟨60,(-3000),100⟩,⟨40,0,100⟩,⟨50,(-1000),100⟩]⟩)):(Sl aC)×(set)) (by kernel_rfl)
def zMd:TB:=zMc.m 158 ((((.of [⟨200,40,50⟩])),(⟨⟨.of [⟨200,40,50⟩]⟩,.of []⟩)):(Sl aC)×(set)) (by kernel_rfl)
def zMe:TB:=zMd.m 158 ((((.of [⟨200,80,90⟩])),(⟨⟨.of [⟨200,80,90⟩]⟩,.of []⟩)):(Sl aC)×(set)) (by kernel_rfl)
def zMf:TB:=zMe.m 158 ((((.of [⟨50,50,60⟩])),(⟨⟨.of [⟨50,50,60⟩]⟩,.of []⟩)):(Sl aC)×(set)) (by kernel_rfl)
def zMg:TB:=zMf.m 158 ((((.of [⟨50,50,60⟩,⟨150,50,60⟩])),(⟨⟨.of [⟨50,50,60⟩,⟨150,50,60⟩]⟩,.of [⟨0,5000,100⟩,⟨10,4500,100⟩,⟨(-10),6500,100⟩,⟨0,6000,100⟩]⟩)):(Sl aC)×(set)) (by kernel_rfl)
def zyG:TB:=zMg.m 158 ((((.of [⟨150,50,60⟩])),(⟨⟨.of [⟨150,50,60⟩]⟩,.of []⟩)):(Sl aC)×(set)) (by kernel_rfl)
def zyH : TB := ⟨kZ ax NK zyG.1
  [.f 200 {},
   .f 159 {},
   .f 117 {}],dO zyG.2 (by kernel_rfl)⟩
def zyI:TB:=⟨zyH.1.addO 252 (.clone 204 3 24),ay.addO zyH.2 zfQ⟩
def zyJ:TB:=⟨zyI.1.addO 253 (.sort 204 3 24),ay.addO zyI.2 zfN⟩
def zyK : TB := ⟨kZ ax NK zyJ.1
  [.f 239 {},
   .f 208 {},
   .f 170 {},
   .f 255 {},
   .f 254 {}],dO zyJ.2 (by kernel_rfl)⟩
def zMh:Tabs:=kZ ax NK Tabs.nil [.f 239 {},.f 208 {},.f 170 {},.f 209 {},.f 172 {},.f 118 {},.f 162 {},.f 207 {},.f 157 {},.f 231 {},.f 230 {},.f 257 {},.f 238 {},.f 206 {},.f 255 {}]
def zyL:TB:=⟨zyK.1.addC 254 (aF ax NK (dh zMh []) (aU ax 254 [] {}) 254),ay.addC zyK.2 (zcW (@dO ⟨1⟩ _ _ _ _ (@ay.nil ⟨1⟩ _) (by kernel_rfl)) (ak (by kernel_rfl)))⟩
def zMi : TB := ⟨kZ ax NK zyL.1
  [.f 249 {},
   .f 240 {},
   .f 211 {}],dO zyL.2 (by kernel_rfl)⟩
def zMj:TB:=zMi.m 211 ((((.of [⟨0,20,30⟩])),(⟨⟨0,0⟩,⟨0,0⟩⟩,6)):(Sl aC)×(Line×Int)) (by kernel_rfl)
def zMk:TB:=zMj.m 211 ((((.of [⟨0,20,30⟩,⟨100,30,40⟩])),(⟨⟨0,1⟩,⟨30,1⟩⟩,0)):(Sl aC)×(Line×Int)) (by kernel_rfl)
def zMl:TB:=zMk.m 211 ((((.of [⟨0,20,30⟩,⟨100,30,40⟩,⟨200,40,50⟩])),(⟨⟨1,20⟩,⟨30,1⟩⟩,0)):(Sl aC)×(Line×Int)) (by kernel_rfl)
def zMm:TB:=zMl.m 211 ((((.of [⟨0,20,30⟩,⟨100,30,40⟩,⟨200,80,90⟩])),(⟨⟨0,0⟩,⟨0,0⟩⟩,5)):(Sl aC)×(Line×Int)) (by kernel_rfl)
def zMn:TB:=zMm.m 211 ((((.of [⟨0,20,30⟩,⟨200,40,50⟩])),(⟨⟨1,20⟩,⟨30,1⟩⟩,0)):(Sl aC)×(Line×Int)) (by kernel_rfl)
def zMo:TB:=zMn.m 211 ((((.of [⟨0,20,30⟩,⟨200,80,90⟩])),(⟨⟨1,4⟩,⟨30,1⟩⟩,0)):(Sl aC)×(Line×Int)) (by kernel_rfl)
def zMp:TB:=zMo.m 211 ((((.of [⟨100,30,40⟩])),(⟨⟨0,0⟩,⟨0,0⟩⟩,6)):(Sl aC)×(Line×Int)) (by kernel_rfl)
def zMq:TB:=zMp.m 211 ((((.of [⟨100,30,40⟩,⟨200,40,50⟩])),(⟨⟨0,1⟩,⟨40,1⟩⟩,0)):(Sl aC)×(Line×Int)) (by kernel_rfl)
def zMr:TB:=zMq.m 211 ((((.of [⟨100,30,40⟩,⟨200,80,90⟩])),(⟨⟨2,5⟩,⟨0,1⟩⟩,0)):(Sl aC)×(Line×Int)) (by kernel_rfl)
def zMs:TB:=zMr.m 211 ((((.of [⟨200,40,50⟩])),(⟨⟨0,0⟩,⟨0,0⟩⟩,6)):(Sl aC)×(Line×Int)) (by kernel_rfl)
def zMt:TB:=zMs.m 211 ((((.of [⟨200,80,90⟩])),(⟨⟨0,0⟩,⟨0,0⟩⟩,6)):(Sl aC)×(Line×Int)) (by kernel_rfl)
def zMu:TB:=zMt.m 211 ((((.of [⟨50,50,60⟩])),(⟨⟨0,0⟩,⟨0,0⟩⟩,6)):(Sl aC)×(Line×Int)) (by kernel_rfl)
def zMv:TB:=zMu.m 211 ((((.of [⟨50,50,60⟩,⟨150,50,60⟩])),(⟨⟨(-1),10⟩,⟨65,1⟩⟩,0)):(Sl aC)×(Line×Int)) (by kernel_rfl)
def zyM:TB:=zMv.m 211 ((((.of [⟨150,50,60⟩])),(⟨⟨0,0⟩,⟨0,0⟩⟩,6)):(Sl aC)×(Line×Int)) (by kernel_rfl)
def zMw : TB := ⟨kZ ax NK zyM.1
  [.f 182 {}],dO zyM.2 (by kernel_rfl)⟩
def zMx:TB:=zMw.m 182 (((DU,⟨1,.of [0],.of [0]⟩),true):(Pt aW×ai)×(Bool)) (by kernel_rfl)
def zMy:TB:=zMx.m 182 (((DU,⟨1,.of [0,1],.of [0,0]⟩),true):(Pt aW×ai)×(Bool)) (by kernel_rfl)
def zMz:TB:=zMy.m 182 (((DU,⟨1,.of [0,1,2],.of [0,0,0]⟩),true):(Pt aW×ai)×(Bool)) (by kernel_rfl)
def zMA:TB:=zMz.m 182 (((DU,⟨1,.of [0,1,3],.of [0,0,0]⟩),false):(Pt aW×ai)×(Bool)) (by kernel_rfl)
def zMB:TB:=zMA.m 182 (((DU,⟨1,.of [0,2],.of [0,0]⟩),true):(Pt aW×ai)×(Bool)) (by kernel_rfl)
def zMC:TB:=zMB.m 182 (((DU,⟨1,.of [0,3],.of [0,0]⟩),true):(Pt aW×ai)×(Bool)) (by kernel_rfl)
def zMD:TB:=zMC.m 182 (((DU,⟨1,.of [1],.of [0]⟩),true):(Pt aW×ai)×(Bool)) (by kernel_rfl)
def zME:TB:=zMD.m 182 (((DU,⟨1,.of [1,2],.of [0,0]⟩),true):(Pt aW×ai)×(Bool)) (by kernel_rfl)
def zMF:TB:=zME.m 182 (((DU,⟨1,.of [1,3],.of [0,0]⟩),true):(Pt aW×ai)×(Bool)) (by kernel_rfl)
def zMG:TB:=zMF.m 182 (((DU,⟨1,.of [2],.of [0]⟩),true):(Pt aW×ai)×(Bool)) (by kernel_rfl)
def zMH:TB:=zMG.m 182 (((DU,⟨1,.of [3],.of [0]⟩),true):(Pt aW×ai)×(Bool)) (by kernel_rfl)
def zMI:TB:=zMH.m 182 (((DU,⟨2,.of [4],.of [0]⟩),true):(Pt aW×ai)×(Bool)) (by kernel_rfl)
def zMJ:TB:=zMI.m 182 (((DU,⟨2,.of [4,5],.of [0,0]⟩),true):(Pt aW×ai)×(Bool)) (by kernel_rfl)
def zyN:TB:=zMJ.m 182 (((DU,⟨2,.of [5],.of [0]⟩),true):(Pt aW×ai)×(Bool)) (by kernel_rfl)
def zkI : TB := ⟨kZ ax NK zyN.1
  [.r 178 64 { clo:=[180] }],dO zyN.2 (by kernel_rfl)⟩
def zyO:TB:=⟨zkI.1.addF 127 (aD ax (dh zkI.1 []) NK zdf 177 (aU ax 127 [] { ks:=[(0,3,⟨[],[],[(4,0,5000,43)],[],[],[],[]⟩)] }) 127),ay.addF zkI.2 (zdc zkI.2 (ak (by kernel_rfl)) zdg)⟩
def zMK : TB := ⟨kZ ax NK zyO.1
  [.f 120 {},
   .f 203 {},
   .f 202 {},
   .f 169 {},
   .f 171 {},
   .f 168 {},
   .f 119 {},
   .f 163 {},
   .f 114 {},
   .f 236 {},
   .f 237 {},
   .f 205 {},
   .i 204 { yl:=[9] },
   .f 165 {},
   .f 115 {}],dO zyO.2 (by kernel_rfl)⟩
def zML:TB:=zMK.m 115 (((nD,4,⟨30,60⟩),(true,true,0)):(au×Int×bZ)×(Bool×Bool×Int)) (by kernel_rfl)
def zMM:TB:=zML.m 115 (((nD,2,⟨30,40⟩),(true,true,0)):(au×Int×bZ)×(Bool×Bool×Int)) (by kernel_rfl)
def zMN:TB:=zMM.m 115 (((nD,2,⟨50,60⟩),(true,true,0)):(au×Int×bZ)×(Bool×Bool×Int)) (by kernel_rfl)
def zMO:TB:=zMN.m 115 (((nD,0,⟨10,40⟩),(true,true,0)):(au×Int×bZ)×(Bool×Bool×Int)) (by kernel_rfl)
def zyP:TB:=zMO.m 115 (((nD,0,⟨(-30),0⟩),(false,true,0)):(au×Int×bZ)×(Bool×Bool×Int)) (by kernel_rfl)
def zMP : TB := ⟨kZ ax NK zyP.1
  [.f 191 {},
   .f 192 {},
   .f 141 { clo:=[190] }],dO zyP.2 (by kernel_rfl)⟩
def zMQ:TB:=zMP.m 141 (((DU,⟨1,.of [0,1],.of [0,0]⟩),(.of [4])):(Pt aW×ai)×(Sl Int)) (by kernel_rfl)
def zMR:TB:=zMQ.m 141 (((DU,⟨1,.of [0,1,2],.of [0,0,0]⟩),(.of [])):(Pt aW×ai)×(Sl Int)) (by kernel_rfl)
def zMS:TB:=zMR.m 141 (((DU,⟨1,.of [0,2],.of [0,0]⟩),(.of [2])):(Pt aW×ai)×(Sl Int)) (by kernel_rfl)
def zMT:TB:=zMS.m 141 (((DU,⟨1,.of [0,3],.of [0,0]⟩),(.of [2])):(Pt aW×ai)×(Sl Int)) (by kernel_rfl)
def zMU:TB:=zMT.m 141 (((DU,⟨1,.of [1,2],.of [0,0]⟩),(.of [0])):(Pt aW×ai)×(Sl Int)) (by kernel_rfl)
def zMV:TB:=zMU.m 141 (((DU,⟨1,.of [1,3],.of [0,0]⟩),(.of [])):(Pt aW×ai)×(Sl Int)) (by kernel_rfl)
def zyQ:TB:=zMV.m 141 (((DU,⟨2,.of [4,5],.of [0,0]⟩),(.of [])):(Pt aW×ai)×(Sl Int)) (by kernel_rfl)
def zyR : TB := ⟨kZ ax NK zyQ.1
  [.f 129 {},
   .f 98 {},
   .f 152 {},
   .f 92 {},
   .f 132 {},
   .f 97 {},
   .f 131 {},
   .f 130 {},
   .k 128 43 3 56 {}],dO zyQ.2 (by kernel_rfl)⟩
def zyS:TB:=⟨zyR.1.addO 133 (.sort 43 3 56),ay.addO zyR.2 zfO⟩
def zyT : TB := ⟨kZ ax NK zyS.1
  [.f 185 {},
   .f 222 {},
   .f 186 {},
   .f 187 {},
   .f 134 {}],dO zyS.2 (by kernel_rfl)⟩
def zMW:Tabs:=kZ ax NK Tabs.nil [.f 185 {},.f 222 {},.f 186 {},.f 239 {},.f 208 {},.f 187 {}]
def zyU:TB:=⟨zyT.1.addC 134 (aF ax NK (dh zMW []) (aU ax 134 [] {}) 134),ay.addC zyT.2 (zcW (@dO ⟨1⟩ _ _ _ _ (@ay.nil ⟨1⟩ _) (by kernel_rfl)) (ak (by kernel_rfl)))⟩
def zMX : TB := ⟨kZ ax NK zyU.1
  [.f 72 { clo:=[130],cut:=[15],ks:=[(0,6,⟨[],[],[(35,2,5001,43)],[],[],[],[]⟩),(2,15,⟨[],[],[],[],[57,5001],[],[]⟩)] }],dO zyU.2 (by kernel_rfl)⟩
def zMY:TB:=zMX.m 72 (((nD,⟨2,0⟩,zA0,(.of [])),(⟨⟨DU,.of [⟨1,.of [0,1,2],.of [0,0,0]⟩,⟨1,.of [1,3],.of [0,0]⟩,⟨2,.of [4,5],.of [0,0]⟩],.of [⟨1,.of [0,1,2],.of [0,0,0]⟩,⟨1,.of [1,3],.of [0,0]⟩,⟨2,.of [4,5],.of [0,0]⟩]⟩⟩,0)):(au×bP×Sl bC×Sl Bool)×(Pt found×Int)) (by kernel_rfl)
def zyV:TB:=zMY.m 72 (((nD,⟨2,0⟩,zA0,(.of [true])),(⟨⟨DU,.of [⟨1,.of [0,1,2],.of [0,0,0]⟩,⟨1,.of [1,3],.of [0,0]⟩,⟨2,.of [4,5],.of [0,0]⟩],.of [⟨1,.of [0,1,2],.of [0,0,0]⟩,⟨1,.of [1,3],.of [0,0]⟩,⟨2,.of [4,5],.of [0,0]⟩]⟩⟩,0)):(au×bP×Sl bC×Sl Bool)×(Pt found×Int)) (by kernel_rfl)
def zMZ : TB := ⟨kZ ax NK zyV.1
  [.f 20 {},
   .f 96 {},
   .f 79 { vv:=[8] },
   .f 110 {},
   .f 49 {},
   .f 80 {},
   .f 81 {},
   .f 82 {},
   .f 83 {},
   .f 142 {},
   .f 84 {},
   .f 25 {}],dO zyV.2 (by kernel_rfl)⟩
def zyW:TB:=zMZ.m 25 (((nD,⟨2,0⟩,zA0,⟨1,.of [0,1],.of [0,0]⟩),(⟨5,.of [],.of [4],⟨0,.of [],.of []⟩⟩,0)):(au×bP×Sl bC×ai)×(ML×Int)) (by kernel_rfl)
def zM0 : TB := ⟨kZ ax NK zyW.1
  [.f 38 {},
   .f 52 {},
   .f 29 {},
   .f 31 { ks:=[(0,16,⟨[],[],[],[],[],[10],[]⟩)],vv:=[41] }],dO zyW.2 (by kernel_rfl)⟩
def zyX:TB:=zM0.m 31 (((nD,⟨2,0⟩,zA0),((.of [⟨0,2⟩,⟨1,2⟩]),0)):(au×bP×Sl bC)×(Sl zhP×Int)) (by kernel_rfl)
def zM1 : TB := ⟨kZ ax NK zyX.1
  [.f 32 {},
   .f 99 {},
   .r 100 64 {},
   .r 101 64 {},
   .f 36 { ks:=[(0,16,⟨[],[],[],[],[1000896],[],[]⟩)],vv:=[73,75] }],dO zyX.2 (by kernel_rfl)⟩
def zyY:TB:=zM1.m 36 (((nD,⟨2,0⟩,zA0,1),((.of [0,1]),(.of [0]),0)):(au×bP×Sl bC×Int)×(Sl Int×Sl Int×Int)) (by kernel_rfl)
def zM2 : TB := ⟨kZ ax NK zyY.1
  [.f 58 {},
   .f 103 {},
   .f 104 {},
   .f 42 {}],dO zyY.2 (by kernel_rfl)⟩
def zyZ:TB:=zM2.m 42 (((nD,⟨2,0⟩,zA0,(.of [⟨1,⟨0,1⟩,⟨1,5⟩⟩,⟨1,⟨1,10⟩,⟨1,2⟩⟩])),((.of [⟨1,1⟩,⟨0,2⟩]),0)):(au×bP×Sl bC×Sl Bin)×(Sl Tally×Int)) (by kernel_rfl)
def zr7 : TB := ⟨kZ ax NK zyZ.1
  [.f 44 {},
   .f 67 {},
   .f 69 {},
   .f 70 {},
   .f 125 {},
   .f 71 {},
   .f 19 {}],dO zyZ.2 (by kernel_rfl)⟩
theorem k19:((dh zr7.1 []).fn 19 []).o=some [.one (.bool true)]:=by kernel_rfl
theorem zM3:ay ax zr7.1:=zr7.2
def N0:Nat:=1000000000
theorem bQ:100000 < N0:=by decide
abbrev d23:E23:=⟨N0⟩
def D23:=F23 d23
theorem zM6:Ok ax 23 (ae.un D23):=o23 d23
theorem zM7:Q23 D23:=s23 (E:=d23) bQ
abbrev d73:E73:=⟨N0⟩
def D73:=F73 d73
theorem zfR:Ok ax 73 (ae.un D73):=o73 d73
theorem zfS:yO D73:=s73 (E:=d73)
abbrev zr9:Y1:=⟨N0,D73⟩
def zsa:=zhU zr9
theorem zy0:Ok ax 174 (ae.un zsa):=zEn zr9 zfR
theorem zy1:zoZ zsa:=zFs (E:=zr9) zfS
abbrev zsb:Ur:=⟨N0,D73⟩
def zsc:=zhV zsb
theorem zy2:Ok ax 175 (ae.un zsc):=zEp zsb zfR
theorem zy3:zo0 zsc:=zFt (E:=zsb) bQ zfS
abbrev zsd:Jg:=⟨N0,D73,zsa,zsc⟩
def zse:=zhQ zsd
theorem zy4:Ok ax 124 (ae.un zse):=zEf zsd zfR zy0 zy2
theorem zy5:zo1 zse:=zFu (E:=zsd) bQ zfS zy1 zy3
abbrev d61:E61:=⟨N0,D73,zse⟩
def D61:=F61 d61
theorem zNb:Ok ax 61 (ae.un D61):=o61 d61 zfR zy4
theorem zNc:QSe D61:=s61 (E:=d61) bQ zfS zy5
abbrev d86:E86:=⟨N0⟩
def D86:=F86 d86
theorem zy6:Ok ax 86 (ae.un D86):=o86 d86
theorem zy7:yO D86:=s86 (E:=d86)
abbrev d62:E62:=⟨N0,D86⟩
def D62:=F62 d62
theorem zNg:Ok ax 62 (ae.un D62):=o62 d62 zy6
theorem zNh:Q62 D62:=s62 (E:=d62) zy7
abbrev zsf:Um:=⟨N0⟩
def zkJ:=zhS zsf
theorem zmH:Ok ax 137 (ae.un zkJ):=zEi zsf
theorem zmI:zin zkJ:=zFD (E:=zsf) bQ
abbrev zsg:Un:=⟨N0,D73,zkJ⟩
def zsh:=zhT zsg
theorem zy8:Ok ax 143 (ae.un zsh):=zEj zsg zfR zmH
theorem zy9:zo6 zsh:=zFE (E:=zsg) bQ zfS zmI
abbrev d85:E85:=⟨N0,zsh⟩
def D85:=F85 d85
theorem zNk:Ok ax 85 (ae.un D85):=o85 d85 zy8
theorem zNl:Q85 D85:=s85 (E:=d85) bQ zy9
abbrev d26:E26:=⟨N0,D61,D62,D85⟩
def D26:=F26 d26
theorem zNo:Ok ax 26 (ae.un D26):=o26 d26 zNb zNg zNk
theorem zNp:Q26 D26:=s26 (E:=d26) zNc zNh zNl
abbrev d87:E87:=⟨N0⟩
def D87:=F87 d87
theorem zza:Ok ax 87 (ae.un D87):=o87 d87
theorem zzb:Q87 D87:=s87 (E:=d87) bQ
abbrev zsi:Qj:=⟨N0⟩
def zsj:=zhR zsi
theorem zzc:Ok ax 135 (ae.un zsj):=zEh zsi
theorem zzd:zo8 zsj:=zFI (E:=zsi) bQ
abbrev d75:E75:=⟨N0,zsj⟩
def D75:=F75 d75
theorem zze:Ok ax 75 (ae.un D75):=o75 d75 zzc
theorem zzf:Q75 D75:=s75 (E:=d75) zzd
abbrev zsk:zad:=⟨N0⟩
def zfT:=zjT zsk
theorem zzg:Ok ax 227 (ae.un zfT):=zJn zsk
theorem zzh:zrx zfT:=zLg (E:=zsk)
abbrev d65:E65:=⟨N0,D75⟩
def D65:=F65 d65
theorem zzi:Ok ax 65 (ae.un D65):=o65 d65 zze
theorem zzj:Q65 D65:=s65 (E:=d65) bQ zzf
abbrev zsl:UY:=⟨N0⟩
def zfU:=zi0 zsl
theorem zfV:Ok ax 149 (ae.un zfU):=zG8 zsl
theorem zfW:zfk zfU:=zKD (E:=zsl) bQ
abbrev zsm:Va:=⟨N0⟩
def zkK:=zjy zsm
theorem zmJ:Ok ax 193 (ae.un zkK):=zIA zsm
theorem zmK:zkk zkK:=zKE (E:=zsm) bQ
abbrev zsn:zam:=⟨N0⟩
def zso:=zj0 zsn
theorem zzk:Ok ax 247 (ae.un zso):=zJM zsn
theorem zzl:zqV zso:=zKI (E:=zsn)
abbrev zsp:UM:=⟨N0⟩
def zkL:=ziL zsp
theorem zmL:Ok ax 125 (ae.un zkL):=zGo zsp
theorem zmM:Vm zkL:=zJ5 (E:=zsp) bQ
abbrev d71:E71:=⟨N0,zkL⟩
def D71:=F71 d71
theorem zsq:Ok ax 71 (ae.un D71):=o71 d71 zmL
theorem zsr:Ha D71:=s71 (E:=d71) zmM
abbrev d55:E55:=⟨N0,D71⟩
def D55:=F55 d55
theorem zNw:Ok ax 55 (ae.un D55):=o55 d55 zsq
theorem zNx:Q55 D55:=s55 (E:=d55) zsr
abbrev zss:Nv:=⟨N0,zso,D55⟩
def zst:=zjP zss
theorem zzn:Ok ax 225 (ae.un zst):=zJg zss zzk zNw
theorem zzo:zq4 zst:=zKL (E:=zss) bQ zzl zNx
abbrev zsu:ZK:=⟨N0⟩
def zkM:=zje zsu
theorem zmN:Ok ax 166 (ae.un zkM):=zHL zsu
theorem zmO:zkl zkM:=zKF (E:=zsu)
abbrev zsv:Zn:=⟨N0,zkM⟩
def zsw:=ziG zsv
theorem zzp:Ok ax 116 (ae.un zsw):=zGj zsv zmN
theorem zzq:zqU zsw:=zKG (E:=zsv) zmO
abbrev d57:E57:=⟨N0,zsw⟩
def D57:=F57 d57
theorem zNA:Ok ax 57 (ae.un D57):=o57 d57 zzp
theorem zNB:Q57 D57:=s57 (E:=d57) bQ zzq
abbrev zsx:Vk:=⟨N0,zkM⟩
def zsy:=zj1 zsx
theorem zzr:Ok ax 248 (ae.un zsy):=zJN zsx zmN
theorem zzs:zq5 zsy:=zKM (E:=zsx) bQ zmO
abbrev d56:E56:=⟨N0⟩
def D56:=F56 d56
theorem zzt:Ok ax 56 (ae.un D56):=o56 d56
theorem zzu:Q56 D56:=s56 (E:=d56)
abbrev zsz:zac:=⟨N0,zsy,D56⟩
def zsA:=zjR zsz
theorem zzv:Ok ax 226 (ae.un zsA):=zJk zsz zzr zzt
theorem zzw:zq6 zsA:=zKN (E:=zsz) zzs zzu
abbrev zsB:Ji:=⟨N0,zst,D57,zsA⟩
def zkN:=zjz zsB
theorem zmP:Ok ax 194 (ae.un zkN):=zIC zsB zzn zNA zzv
theorem zmQ:zkt zkN:=zKO (E:=zsB) bQ zzo zNB zzw
abbrev zsC:Zz:=⟨N0,zfU,zkK,zkN⟩
def zsD:=ziX zsC
theorem zzx:Ok ax 145 (ae.un zsD):=zG2 zsC zfV zmJ zmP
theorem zzy:zq7 zsD:=zKP (E:=zsC) zfW zmK zmQ
abbrev zsE:UX:=⟨N0⟩
def zsF:=ziZ zsE
theorem zzz:Ok ax 148 (ae.un zsF):=zG6 zsE
theorem zzA:zro zsF:=zK6 (E:=zsE) bQ
abbrev d74:E74:=⟨N0⟩
def D74:=F74 d74
theorem zNF:Ok ax 74 (ae.un D74):=o74 d74
theorem zNG:Q74 D74:=s74 (E:=d74)
abbrev zsG:UW:=⟨N0,D74⟩
def zsH:=ziY zsG
theorem zzB:Ok ax 147 (ae.un zsH):=zG4 zsG zNF
theorem zzC:zrl zsH:=zK2 (E:=zsG) bQ zNG
abbrev d90:E90:=⟨N0,zsF,zsH⟩
def D90:=F90 d90
theorem zNJ:Ok ax 90 (ae.un D90):=o90 d90 zzz zzB
theorem zNK:Q90 D90:=s90 (E:=d90) zzA zzC
abbrev zsI:ZY:=⟨N0,D65,zsD,D90⟩
def zaD:=zjB zsI
theorem zmR:Ok ax 196 (ae.un zaD):=zIH zsI zzi zzx zNJ
theorem zmS:zku zaD:=zK9 (E:=zsI) zzj zzy zNK
def zaE : Nat → (au × (Sl bC) × ai × Int) × Sl ai → ae (Sl ai)
  | 0=>λ _=>.no
  | n+1=>zjA ⟨N0,D87,D75,zfT,zaD,(zaE n)⟩
theorem zmT : ∀ n, dX ax 195 (.grow 43 3 56 (ae.unW (zaE n)))
  | 0=>λ w h base az vs v n get m jw hh=>by
    obtain⟨_,h2⟩:=ae.chk_o hh;cases h2
  | n+1=>zID ⟨N0,D87,D75,zfT,zaD,(zaE n)⟩ zza zze zzg zmR (zmT n)
theorem zmU : ∀ n, QW n (zaE n)
  | 0=>λ s l x t c i w he hv hc ht hf=>absurd hf (by have:=hv.le;omega)
  | n+1=>zLh (E:=⟨N0,D87,D75,zfT,zaD,(zaE n)⟩) bQ zzb zzf zzh zmS (zmU n)
abbrev zsJ:ZB:=⟨N0,(zaE 30)⟩
def zsK:=zi5 zsJ
theorem zzD:Ok ax 153 (ae.un zsK):=zHi zsJ (zmT 30)
theorem zzE:zry zsK:=zLi (E:=zsJ) (zmU 30)
abbrev d76:E76:=⟨N0,zkL,D71⟩
def D76:=F76 d76
theorem zNN:Ok ax 76 (ae.un D76):=o76 d76 zmL zsq
theorem zNO:Q76 D76:=s76 (E:=d76) zmM zsr
abbrev zsL:QA:=⟨N0,zfU,zkK,D71,zkN,D76,D56⟩
def zsM:=zi1 zsL
theorem zzF:Ok ax 150 (ae.un zsM):=zG9 zsL zfV zmJ zsq zmP zNN zzt
theorem zzG:zrZ zsM:=zLP (E:=zsL) bQ zfW zmK zsr zmQ zNO zzu
abbrev zsN:ZA:=⟨N0⟩
def zsO:=zi3 zsN
theorem zzH:Ok ax 151 (ae.un zsO):=zHe zsN
theorem zzI:zr0 zsO:=zLQ (E:=zsN)
abbrev zsP:Zx:=⟨N0⟩
def zsQ:=ziU zsP
theorem zzJ:Ok ax 136 (ae.un zsQ):=zGS zsP
theorem zzK:zr1 zsQ:=zLR (E:=zsP)
abbrev d77:E77:=⟨N0,zsQ,zkJ⟩
def D77:=F77 d77
theorem zNR:Ok ax 77 (ae.un D77):=o77 d77 zzJ zmH
theorem zNS:Q77 D77:=s77 (E:=d77) bQ zzK zmI
abbrev d91:E91:=⟨N0,D65,D87,zfU,zsM,zsO,D86,D77⟩
def D91:=F91 d91
theorem zNV:Ok ax 91 (ae.un D91):=o91 d91 zzi zza zfV zzF zzH zy6 zNR
theorem zNW:Q91 D91:=s91 (E:=d91) bQ zzj zzb zfW zzG zzI zy7 zNS
abbrev zsR:ZC:=⟨N0,zaD,D91⟩
def zsS:=zi6 zsR
theorem zzL:Ok ax 154 (ae.un zsS):=zHl zsR zmR zNV
theorem zzM:zr2 zsS:=zLU (E:=zsR) zmS zNW
abbrev d94:E94:=⟨N0,zsK,zsS⟩
def D94:=F94 d94
theorem zNZ:Ok ax 94 (ae.un D94):=o94 d94 zzD zzL
theorem zN0:Q94 D94:=s94 (E:=d94) bQ zzE zzM
abbrev d53:E53:=⟨N0⟩
def D53:=F53 d53
theorem zzN:Ok ax 53 (ae.un D53):=o53 d53
theorem zzO:Q53 D53:=s53 (E:=d53) bQ
abbrev d38:E38:=⟨N0⟩
def D38:=F38 d38
theorem zN4:Ok ax 38 (ae.un D38):=o38 d38
theorem zN5:zaA D38:=s38 (E:=d38) bQ
abbrev zsU:Zy:=⟨N0,D38⟩
def zsV:=ziW zsU
theorem zzQ:Ok ax 144 (ae.un zsV):=zGY zsU zN4
theorem zzR:zr3 zsV:=zLV (E:=zsU) zN5
abbrev d88:E88:=⟨N0,D94,D53,zsV⟩
def D88:=F88 d88
theorem zN8:dX ax 88 (.mkv 43 3 56 (ae.unV D88)):=o88 d88 zNZ zzN zzQ
theorem zN9:Q88 D88:=s88 (E:=d88) bQ zN0 zzO zzR
abbrev d28:E28:=⟨N0,D88⟩
def D28:=F28 d28
theorem zOc:Ok ax 28 (ae.un D28):=o28 d28 zN8
theorem zOd:Q28 D28:=s28 (E:=d28) zN9
abbrev d17:E17:=⟨N0,D23,D26,D28⟩
def D17:=F17 d17
theorem zOg:Ok ax 17 (ae.un D17):=o17 d17 zM6 zNo zOc
theorem zOh:Q17 D17:=s17 (E:=d17) zM7 zNp zOd
def D19:Unit->ae Bool:=λ _=>.ok true
theorem zOj:Q19 D19:=rfl
theorem zOk:Ok ax 19 (ae.un D19):=λ args rs hr w h0 vs hvs hw=>by
 obtain⟨h1,h2⟩:=ae.chk_o hr;cases args with
 | nil =>
  cases ae.ok_o h2;exact (zM3.all []).fn 19 [] _ k19 w h0 vs hvs hw
 | cons=>cases h1
abbrev zsW:Y7:=⟨N0⟩
def N8:=zh3 zsW
theorem H6:Ok ax 161 (ae.un N8):=zET zsW
theorem H7:yO N8:=zFr (E:=zsW)
abbrev zsX:Y8:=⟨N0,N8⟩
def zkO:=zh5 zsX
theorem zmV:Ok ax 164 (ae.un zkO):=zEY zsX H6
theorem zmW:zim zkO:=zFv (E:=zsX) H7
abbrev zsY:Zb:=⟨N0,N8,zkO⟩
def zsZ:=zie zsY
theorem zzS:Ok ax 235 (ae.un zsZ):=zFc zsY H6 zmV
theorem zzT:zo2 zsZ:=zFw (E:=zsY) H7 zmW
abbrev zs3:Y9:=⟨N0⟩
def zs4:=zib zs3
theorem zzU:Ok ax 232 (ae.un zs4):=zE4 zs3
theorem zzV:Zh zs4:=zFx (E:=zs3)
abbrev zs5:Uy:=⟨N0,N8⟩
def zs6:=zic zs5
theorem zzW:Ok ax 233 (ae.un zs6):=zE5 zs5 H6
theorem zzX:zo3 zs6:=zFz (E:=zs5) bQ H7
abbrev zs7:Za:=⟨N0⟩
def zs8:=zid zs7
theorem zzY:Ok ax 234 (ae.un zs8):=zE8 zs7
theorem zzZ:Zh zs8:=zFy (E:=zs7)
abbrev zs9:Qm:=⟨N0,N8,zsZ,zs4,zs6,zs8⟩
def zta:=zh6 zs9
theorem zz0:Ok ax 201 (ae.un zta):=zE1 zs9 H6 zzS zzU zzW zzY
theorem zz1:zo4 zta:=zFA (E:=zs9) bQ H7 zzT zzV zzX zzZ
abbrev ztb:Uw:=⟨N0,zta,N8⟩
def zaF:=zh4 ztb
theorem X4:Ok ax 160 (ae.un zaF):=zEU ztb zz0 H6
theorem X5:QSe zaF:=zFB (E:=ztb) bQ zz1 H7
abbrev ztc:Y3:=⟨N0,zaF⟩
def ztd:=zhY ztc
theorem zz2:Ok ax 122 (ae.un ztd):=zED ztc X4
theorem zz3:zo5 ztd:=zFC (E:=ztc) X5
abbrev zte:Y4:=⟨N0⟩
def ztf:=zhZ zte
theorem zz4:Ok ax 123 (ae.un ztf):=zEH zte
theorem zz5:yO ztf:=zFq (E:=zte)
abbrev d60:E60:=⟨N0,ztd,ztf⟩
def D60:=F60 d60
theorem zOn:Ok ax 60 (ae.un D60):=o60 d60 zz2 zz4
theorem zOo:Q60 D60:=s60 (E:=d60) zz3 zz5
abbrev ztg:Uu:=⟨N0,N8⟩
def zaG:=zh2 ztg
theorem X6:Ok ax 112 (ae.un zaG):=zEQ ztg H6
theorem X7:Zi zaG:=zFF (E:=ztg) bQ H7
abbrev zth:Zc:=⟨N0,zaF,zaG⟩
def zkP:=zif zth
theorem zmX:Ok ax 188 (ae.un zkP):=zFg zth X4 X6
theorem zmY:zio zkP:=zFG (E:=zth) X5 X7
abbrev zti:Y5:=⟨N0,zkP⟩
def ztj:=zh0 zti
theorem zz6:Ok ax 138 (ae.un ztj):=zEK zti zmX
theorem zz7:zo7 ztj:=zFH (E:=zti) zmY
abbrev ztk:Ze:=⟨N0⟩
def ztl:=zii ztk
theorem zz8:Ok ax 223 (ae.un ztl):=zFm ztk
theorem zz9:zpb ztl:=zFM (E:=ztk)
abbrev ztm:Qp:=⟨N0⟩
def ztn:=zoY ztm
theorem zAa:qB ax 251 (ae.unI ztn):=zFp ztm
theorem zAb:zo9 ztn:=zFJ (E:=ztm) bQ
abbrev zto:Qo:=⟨N0,ztn⟩
def ztp:=zij zto
theorem zAc:Ok ax 224 (ae.un ztp):=zFn zto zAa
theorem zAd:zpa ztp:=zFK (E:=zto) bQ zAb
abbrev ztq:Zd:=⟨N0,ztl,ztp⟩
def ztr:=zih ztq
theorem zAe:Ok ax 189 (ae.un ztr):=zFj ztq zz8 zAc
theorem zAf:zpc ztr:=zFN (E:=ztq) zz9 zAd
abbrev zts:Y6:=⟨N0,zkP,zaG,ztr⟩
def ztt:=zh1 zts
theorem zAg:Ok ax 139 (ae.un ztt):=zEO zts zmX X6 zAe
theorem zAh:zpd ztt:=zFO (E:=zts) zmY X7 zAf
abbrev d78:E78:=⟨N0,D60,ztj,ztt⟩
def D78:=F78 d78
theorem zOr:Ok ax 78 (ae.unA D78):=o78 d78 zOn zz6 zAg
theorem zOs:Q78 D78:=s78 (E:=d78) bQ zOo zz7 zAh
abbrev ztu:U6:=⟨N0⟩
def ztv:=zjk ztu
theorem zAi:Ok ax 176 (ae.un ztv):=zH4 ztu
theorem zAj:zrU ztv:=zLJ (E:=ztu) bQ
abbrev ztw:Zp:=⟨N0,ztv⟩
def ztx:=ziM ztw
theorem zAk:Ok ax 126 (ae.un ztx):=zGr ztw zAi
theorem zAl:zrV ztx:=zLK (E:=ztw) zAj
abbrev zty:ZR:=⟨N0⟩
def ztz:=zjo zty
theorem zAm:Ok ax 180 (ae.un ztz):=zIc zty
theorem zAn:zrq ztz:=zLa (E:=zty)
abbrev ztA:ZV:=⟨N0⟩
def ztB:=zjv ztA
theorem zAo:Ok ax 190 (ae.un ztB):=zIq ztA
theorem zAp:zrr ztB:=zLb (E:=ztA)
abbrev H8:oh:=⟨N0,ztz⟩
def H9:=zl H8
theorem zaH:Ok ax 210 (ae.un H9):=zeI H8 zAm
theorem zaI:QUx .inl H9:=zfv (E:=H8) bQ zAn
abbrev Ia:oq:=⟨N0,ztB⟩
def Ib:=zn Ia
theorem zaJ:Ok ax 210 (ae.un Ib):=zeK Ia zAo
theorem zaK:QUx .inr Ib:=zfw (E:=Ia) bQ zAp
def zkQ:=ae.two H9 Ib
theorem zmZ:Ok ax 210 (ae.un zkQ):=uX zaH zaJ
theorem zm0:zkw zkQ:=zLc zaI zaK
abbrev Ic:qW:=⟨N0,zkQ⟩
def Ie:=zf Ic
theorem zaL:Ok ax 179 (ae.un Ie):=zef Ic zmZ
theorem zaM:QUa .inl Ie:=zfx (E:=Ic) zm0
abbrev Ig:qX:=⟨N0,zkQ⟩
def Ih:=zg Ig
theorem zaN:Ok ax 179 (ae.un Ih):=zej Ig zmZ
theorem zaO:QUa .inr Ih:=zfy (E:=Ig) zm0
def zaP:=ae.two Ie Ih
theorem zm1:Ok ax 179 (ae.un zaP):=uX zaL zaN
theorem zm2:zkx zaP:=zLd zaM zaO
abbrev ztC:UE:=⟨N0,zaF,zaG⟩
def ztD:=ziB ztC
theorem zAq:Ok ax 111 (ae.un ztD):=o111 ztC X4 X6
theorem zAr:zrm ztD:=zK3 (E:=ztC) bQ X5 X7
abbrev ztE:Zl:=⟨N0⟩
def ztF:=ziC ztE
theorem zAs:Ok ax 113 (ae.un ztF):=zGa ztE
theorem zAt:zrk ztF:=zKZ (E:=ztE)
abbrev d50:E50:=⟨N0,ztD,zaG,ztF⟩
def D50:=F50 d50
theorem zOv:Ok ax 50 (ae.un D50):=o50 d50 zAq X6 zAs
theorem zOw:Q50 D50:=s50 (E:=d50) bQ zAr X7 zAt
abbrev d93:E93:=⟨N0,D50⟩
def D93:=F93 d93
theorem zOz:Ok ax 93 (ae.un D93):=o93 d93 zOv
theorem zOA:Q93 D93:=s93 (E:=d93) bQ zOw
abbrev ztG:Us:=⟨N0⟩
def zkR:=zhW ztG
theorem zm3:Ok ax 105 (ae.un zkR):=zEt ztG
theorem zm4:zit zkR:=zFV (E:=ztG) bQ
abbrev ztH:ZF:=⟨N0⟩
def zaQ:=zi8 ztH
theorem X8 [aJ]:Ok ax 157 (ae.un zaQ):=zHu ztH
theorem X9:yO zaQ:=zJ7 (E:=ztH)
abbrev ztI:ZE:=⟨N0,zaQ⟩
def ztJ:=zi7 ztI
theorem zAu:Ok ax 156 (ae.un ztJ):=zHq ztI X8
theorem zAv:zqB ztJ:=zKa (E:=ztI) X9
abbrev ztK:UD:=⟨N0,ztJ,zaQ⟩
def zkS:=ziA ztK
theorem zm5:Ok ax 109 (ae.un zkS):=zF5 ztK zAu X8
theorem zm6:zj7 zkS:=zKb (E:=ztK) bQ zAv X9
abbrev ztL:Z8:=⟨N0⟩
def ztM:=zjI ztL
theorem zAw [aJ]:Ok ax 207 (ae.un ztM):=zI4 ztL
theorem zAx:zqF ztM:=zKf (E:=ztL)
abbrev ztN:zai:=⟨N0,zaQ⟩
def ztO:=zjW ztN
theorem zAy [aJ]:Ok ax 231 (ae.un ztO):=zJx ztN X8
theorem zAz:zqC ztO:=zKc (E:=ztN) X9
abbrev ztP:zah:=⟨N0,ztO⟩
def ztQ:=zjV ztP
theorem zAA [aJ]:Ok ax 230 (ae.un ztQ):=zJu ztP zAy
theorem zAB:zqD ztQ:=zKd (E:=ztP) zAz
abbrev ztR:zar:=⟨N0⟩
def ztS:=zj6 ztR
theorem zAC [aJ]:Ok ax 257 (ae.un ztS):=zJ3 ztR
theorem zAD:zqE ztS:=zKe (E:=ztR)
abbrev Ii:ou:=⟨N0,ztM⟩
def Ij:=zo Ii
theorem zaR [aJ]:Ok ax 238 (ae.un Ij):=zeQ Ii zAw
theorem zaS:QIx .inl Ij:=ze2 (E:=Ii) bQ zAx
abbrev Ik:oz:=⟨N0,ztQ⟩
def Il:=zq Ik
theorem zaT [aJ]:Ok ax 238 (ae.un Il):=zeS Ik zAA
theorem zaU:QIx (λ c=>.inr (.inl c)) Il:=ze3 (E:=Ik) bQ zAB
abbrev Io:oC:=⟨N0,ztS⟩
def Ip:=zu Io
theorem zaV [aJ]:Ok ax 238 (ae.un Ip):=zeU Io zAC
theorem zaW:QIx (λ c=>.inr (.inr c)) Ip:=ze4 (E:=Io) bQ zAD
def zfX:=ae.two Ij (ae.two Il Ip)
theorem zfY [aJ]:Ok ax 238 (ae.un zfX):=uX zaR (uX zaT zaV)
theorem zfZ:ze1 zfX:=zKg zaS zaU zaW
abbrev Iq:qY:=⟨N0,zfX⟩
def Ir:=zh Iq
theorem zaX [aJ]:Ok ax 206 (ae.un Ir):=zey Iq zfY
theorem zaY:Jl .inl Ir:=ze5 (E:=Iq) zfZ
abbrev Iu:qZ:=⟨N0,zfX⟩
def Iw:=zi Iu
theorem zaZ [aJ]:Ok ax 206 (ae.un Iw):=zeC Iu zfY
theorem za0:Jl (λ c=>.inr (.inl c)) Iw:=ze6 (E:=Iu) zfZ
abbrev Iy:rq:=⟨N0,zfX⟩
def Iz:=zk Iy
theorem za1 [aJ]:Ok ax 206 (ae.un Iz):=zeG Iy zfY
theorem za2:Jl (λ c=>.inr (.inr c)) Iz:=ze7 (E:=Iy) zfZ
def zf0:=ae.two Ir (ae.two Iw Iz)
theorem zf1 [aJ]:Ok ax 206 (ae.un zf0):=uX zaX (uX zaZ za1)
theorem zf2:QX zf0:=zKh zaY za0 za2
abbrev ztT:ZL:=⟨N0,zf0⟩
def VE:=zjf ztT
theorem RP:Ok ax 167 (ae.un VE):=zHO ztT zf1
theorem RQ:Vo VE:=zKi (E:=ztT) zf2
abbrev ztU:Vg:=⟨N0⟩
def ztV:=zjK ztU
theorem zAE [aJ]:Ok ax 209 (ae.un ztV):=zI8 ztU
theorem zAF:Vm ztV:=zJ4 (E:=ztU) bQ
abbrev ztW:ZP:=⟨N0,ztV⟩
def za3:=zjj ztW
theorem Ya [aJ]:Ok ax 172 (ae.un za3):=zH2 ztW zAE
theorem Yb:Ha za3:=zJ6 (E:=ztW) zAF
abbrev ztX:ZZ:=⟨N0,za3⟩
def zkT:=zjC ztX
theorem zm7:Ok ax 198 (ae.un zkT):=zIM ztX Ya
theorem zm8:zka zkT:=zKm (E:=ztX) Yb
abbrev ztY:Z4:=⟨N0,zf0⟩
def ztZ:=zjD ztY
theorem zAG:Ok ax 199 (ae.un ztZ):=zIP ztY zf1
theorem zAH:zqG ztZ:=zKj (E:=ztY) zf2
abbrev zt0:zaf:=⟨N0⟩
def zt1:=zjU zt0
theorem zAI:Ok ax 229 (ae.un zt1):=zJr zt0
theorem zAJ:zqz zt1:=zJ8 (E:=zt0)
abbrev zt2:Nw:=⟨N0,zt1⟩
def zt3:=zqs zt2
theorem zAK:qB ax 228 (ae.unI zt3):=zJo zt2 zAI
theorem zAL:zqA zt3:=zJ9 (E:=zt2) bQ zAJ
abbrev zt4:U2:=⟨N0,VE,zkT,ztZ,zt3⟩
def zkU:=zi9 zt4
theorem zm9:Ok ax 158 (ae.un zkU):=zHw zt4 RP zm7 zAG zAK
theorem zna:zkb zkU:=zKn (E:=zt4) RQ zAL zm8 zAH
abbrev zt5:Ve:=⟨N0⟩
def zkV:=zjE zt5
theorem znb:Ok ax 200 (ae.un zkV):=zIR zt5
theorem znc:zj9 zkV:=zKl (E:=zt5) bQ
abbrev zt6:ZH:=⟨N0,zkV,VE⟩
def zkW:=zjb zt6
theorem znd:Ok ax 159 (ae.un zkW):=zHB zt6 znb RP
theorem zne:zkd zkW:=zKo (E:=zt6) znc RQ
abbrev zt7:Zo:=⟨N0⟩
def zt8:=ziH zt7
theorem zAM:Ok ax 118 (ae.un zt8):=zGm zt7
theorem zAN:zqJ zt8:=zKp (E:=zt7)
abbrev zt9:ZI:=⟨N0⟩
def zua:=zjc zt9
theorem zAO:Ok ax 162 (ae.un zua):=zHE zt9
theorem zAP:zqK zua:=zKq (E:=zt9)
abbrev IA:qR:=⟨N0,zkS,zkU,zkW,VE,zt8⟩
def IB:=yS IA
theorem za4:Ok ax 117 (ae.un IB):=zdQ IA zm5 zm9 znd RP zAM
theorem za5:QOp .inl IB:=zfa (E:=IA) zm6 zna zne RQ zAN
abbrev IC:qU:=⟨N0,zkS,zkU,zkW,VE,zua⟩
def IE:=yU IC
theorem za6:Ok ax 117 (ae.un IE):=zdU IC zm5 zm9 znd RP zAO
theorem za7:QOp .inr IE:=zfb (E:=IC) zm6 zna zne RQ zAP
def zkX:=ae.two IB IE
theorem znf:Ok ax 117 (ae.un zkX):=uX za4 za6
theorem zng:zke zkX:=zKs za5 za7
abbrev zue:zaq:=⟨N0,zf0⟩
def zuf:=zj5 zue
theorem zAQ [aJ]:Ok ax 255 (ae.un zuf):=zJ0 zue zf1
theorem zAR:zqH zuf:=zKk (E:=zue) zf2
abbrev zug:zal:=⟨N0⟩
def zkY:=zjZ zug
theorem znh [aJ]:Ok ax 239 (ae.un zkY):=zJI zug
theorem zni:zkh zkY:=zKt (E:=zug)
abbrev zuh:Z9:=⟨N0,zkY⟩
def zkZ:=zjJ zuh
theorem znj [aJ]:Ok ax 208 (ae.un zkZ):=zI7 zuh znh
theorem znk:Vr zkZ:=zKu (E:=zuh) zni
abbrev zui:ZN:=⟨N0,zkZ⟩
def zf3:=zjh zui
theorem zf4 [aJ]:Ok ax 170 (ae.un zf3):=zHU zui znj
theorem zf5:zfe zf3:=zKw (E:=zui) znk
abbrev zuj:zao:=⟨N0,zuf,za3,zf3⟩
def zuk:=zj3 zuj
theorem zAS [aJ]:Ok ax 254 (ae.un zuk):=zJW zuj zAQ Ya zf4
theorem zAT:zqP zuk:=zKx (E:=zuj) zAR Yb zf5
abbrev zul:zan:=⟨N0,zuk⟩
def zum:=zj2 zul
theorem zAU:Ok ax 249 (ae.un zum):=zJQ zul zfQ zfN (@zAS ⟨1⟩)
theorem zAV:zqQ zum:=zKz (E:=zul) zAT
abbrev zun:Vj:=⟨N0,zkX,zum,zkT⟩
def zuo:=zeV zun
theorem zAW:Ok ax 240 (ae.un zuo):=zJJ zun znf zAU zm7
theorem zAX:zqR zuo:=zKB (E:=zun) bQ zng zAV zm8
abbrev zup:zaa:=⟨N0,zuo⟩
def zuq:=zjL zup
theorem zAY:Ok ax 211 (ae.un zuq):=zJb zup zAW
theorem zAZ:zqS zuq:=zKC (E:=zup) zAX
abbrev zur:ZT:=⟨N0,D93,zkR,zuq⟩
def zf6:=zjq zur
theorem zA1:Ok ax 182 (ae.un zf6):=zIg zur zOz zm3 zAY
theorem zA2:zrp zf6:=zK8 (E:=zur) zOA zm4 zAZ
abbrev zus:Y2:=⟨N0⟩
def zut:=zhX zus
theorem zA3:Ok ax 140 (ae.un zut):=zEz zus
theorem zA4:zpg zut:=zFU (E:=zus)
abbrev zuu:MP:=⟨N0,zut⟩
def zf7:=zoK zuu
theorem zA5:qB ax 173 (ae.unI zf7):=zEv zuu zA3
theorem zA6:zpi zf7:=zFY (E:=zuu) bQ zA4
def za8 : Nat → ai × Int × Bc 143 (Pt aW) × Bc 38 Int × Bw 30 43 3 56 ai × Bs 255 178 2 4 × Unit → ae ((Unit) × (Unit × Unit × (Pt aW) × Int × Sl ai × Unit × Unit))
  | 0=>λ _=>.no
  | n+1=>zjm ⟨N0,zaP,zf6,zf7,(za8 n)⟩
theorem znl : ∀ n, nK ax 178 (ae.unM (za8 n))
  | 0=>λ xs ys rs h=>by
    obtain⟨_,h2⟩:=ae.chk_o h;cases h2
  | n+1=>zH6 ⟨N0,zaP,zf6,zf7,(za8 n)⟩ zm1 zA1 zA5 zfP (znl n)
theorem znm : ∀ n, QM n (za8 n)
  | 0=>λ s l r x t c i w he hv hc ht hf=>absurd hf (by have:=hv.le;omega)
  | n+1=>zLe (E:=⟨N0,zaP,zf6,zf7,(za8 n)⟩) zm2 zA2 zA6 (znm n)
abbrev zuv:Zq:=⟨N0,(za8 30)⟩
def zuw:=ziN zuv
theorem zA7:Ok ax 127 (ae.un zuw):=zGu zuv (znl 30)
theorem zA8:zrv zuw:=zLf (E:=zuv) (znm 30)
abbrev zux:Z7:=⟨N0⟩
def zuy:=zjG zux
theorem zA9:Ok ax 203 (ae.un zuy):=zIY zux
theorem zBa:zq8 zuy:=zKQ (E:=zux)
abbrev zuz:Z5:=⟨N0,zuy⟩
def zuA:=zjF zuz
theorem zBb:Ok ax 202 (ae.un zuA):=zIV zuz zA9
theorem zBc:zq9 zuA:=zKR (E:=zuz) zBa
abbrev zuB:ZM:=⟨N0,zf3⟩
def zuC:=zjg zuB
theorem zBd:Ok ax 169 (ae.un zuC):=zHR zuB zf4
theorem zBe:zra zuC:=zKS (E:=zuB) zf5
abbrev zuD:ZO:=⟨N0,zf3⟩
def zuE:=zji zuD
theorem zBf:Ok ax 171 (ae.un zuE):=zHY zuD zf4
theorem zBg:zrb zuE:=zKT (E:=zuD) zf5
abbrev IG:nY:=⟨N0,zuC⟩
def II:=yY IG
theorem za9:Ok ax 168 (ae.un II):=zd7 IG zBd
theorem zba:QEx .inl II:=zfs (E:=IG) bQ zBe
abbrev IJ:nZ:=⟨N0,zuE⟩
def IK:=yZ IJ
theorem zbb:Ok ax 168 (ae.un IK):=zd9 IJ zBf
theorem zbc:QEx .inr IK:=zft (E:=IJ) bQ zBg
def zuF:=ae.two II IK
theorem zBh:Ok ax 168 (ae.un zuF):=uX za9 zbb
theorem zBi:zrf zuF:=zKU zba zbc
abbrev zuG:UL:=⟨N0,zuA,zuF,za3⟩
def zuH:=ziI zuG
theorem zBj:Ok ax 119 (ae.un zuH):=zGn zuG zBb zBh Ya
theorem zBk:zrg zuH:=zKV (E:=zuG) bQ zBc zBi Yb
abbrev zuI:ZJ:=⟨N0,VE,zkV,za3,zuH⟩
def zuJ:=zjd zuI
theorem zBl:Ok ax 163 (ae.un zuJ):=zHI zuI RP znb Ya zBj
theorem zBm:zrh zuJ:=zKX (E:=zuI) RQ znc Yb zBk
abbrev zuK:Zm:=⟨N0,zaQ,zkX,zuJ⟩
def zuL:=ziD zuK
theorem zBn:Ok ax 114 (ae.un zuL):=zGe zuK X8 znf zBl
theorem zBo:zri zuL:=zKY (E:=zuK) X9 zng zBm
abbrev zuM:ZW:=⟨N0⟩
def zk0:=zjw zuM
theorem znn:Ok ax 191 (ae.un zk0):=zIu zuM
theorem zno:zkC zk0:=zLq (E:=zuM)
abbrev zuN:ZX:=⟨N0,zk0⟩
def zuO:=zjx zuN
theorem zBp:Ok ax 192 (ae.un zuO):=zIy zuN znn
theorem zBq:zrG zuO:=zLr (E:=zuN) zno
abbrev zuP:zaj:=⟨N0,zkY⟩
def zuQ:=zjX zuP
theorem zBr:Ok ax 236 (ae.un zuQ):=zJB zuP znh
theorem zBs:zrA zuQ:=zLk (E:=zuP) zni
abbrev zuR:zak:=⟨N0⟩
def zuS:=zjY zuR
theorem zBt:Ok ax 237 (ae.un zuS):=zJE zuR
theorem zBu:zrz zuS:=zLj (E:=zuR)
abbrev zuT:Vf:=⟨N0,zuQ,zuS⟩
def zuU:=zjH zuT
theorem zBv:Ok ax 205 (ae.un zuU):=zI1 zuT zBr zBt
theorem zBw:zrC zuU:=zLl (E:=zuT) bQ zBs zBu
abbrev zuV:QG:=⟨N0,zuU⟩
def zuW:=zqi zuV
theorem zBx:qB ax 204 (ae.unI zuW):=zIZ zuV zBv
theorem zBy:zrD zuW:=zLn (E:=zuV) bQ zBw
abbrev zuX:Qv:=⟨N0,zaF,N8,zkO,zuW⟩
def zuY:=ziE zuX
theorem zBz:Ok ax 115 (ae.un zuY):=zGf zuX X4 H6 zmV zBx
theorem zBA:zrE zuY:=zLp (E:=zuX) X5 H7 zmW zBy
abbrev zuZ:UN:=⟨N0,zkR,zaP,zuL,zk0,zuO,zuY⟩
def zu0:=ziV zuZ
theorem zBB:Ok ax 141 (ae.un zu0):=zGU zuZ zm3 zm1 zBn znn zBp zBz
theorem zBC:zrJ zu0:=zLu (E:=zuZ) bQ zm4 zm2 zBo zno zBq zBA
abbrev zu1:Zr:=⟨N0,zu0⟩
def zu3:=ziO zu1
theorem zBD:Ok ax 129 (ae.un zu3):=zGx zu1 zBB
theorem zBE:zrK zu3:=zLv (E:=zu1) zBC
abbrev zu4:U0:=⟨N0⟩
def zu5:=zi4 zu4
theorem zBF:Ok ax 152 (ae.un zu5):=zHf zu4
theorem zBG:zrL zu5:=zLw (E:=zu4) bQ
abbrev d92:E92:=⟨N0,zu5⟩
def D92:=F92 d92
theorem zOD:Ok ax 92 (ae.un D92):=o92 d92 zBF
theorem zOE:Q92 D92:=s92 (E:=d92) bQ zBG
abbrev zu6:Zv:=⟨N0,D92⟩
def zu7:=ziR zu6
theorem zBH:Ok ax 132 (ae.un zu7):=zGJ zu6 zOD
theorem zBI:zrM zu7:=zLy (E:=zu6) zOE
abbrev d97:E97:=⟨N0,zu7⟩
def D97:=F97 d97
theorem zOH:Ok ax 97 (ae.un D97):=o97 d97 zBH
theorem zOI:Q97 D97:=s97 (E:=d97) bQ zBI
abbrev zu8:Zu:=⟨N0,D97⟩
def zu9:=ziQ zu8
theorem zBJ:Ok ax 131 (ae.un zu9):=zGF zu8 zOH
theorem zBK:zrN zu9:=zLA (E:=zu8) zOI
abbrev zva:Zt:=⟨N0,zu9⟩
def zvb:=ziP zva
theorem zBL:Ok ax 130 (ae.un zvb):=zGB zva zBJ
theorem zBM:zrO zvb:=zLB (E:=zva) zBK
abbrev IL:nT:=⟨N0,zu3⟩
def IM:=yV IL
theorem zbd:dX ax 128 (.mkv 43 3 56 (ae.unV IM)):=zdX IL zBD
theorem zbe:QFi .inl IM:=zfH (E:=IL) bQ zBE
abbrev IP:nV:=⟨N0,zvb⟩
def IQ:=yX IP
theorem zbf:dX ax 128 (.mkv 43 3 56 (ae.unV IQ)):=zdZ IP zBL
theorem zbg:QFi .inr IQ:=zfI (E:=IP) bQ zBM
def zvc:=ae.two IM IQ
theorem zBN:dX ax 128 (.mkv 43 3 56 (ae.unV zvc)):=zhJ zbd zbf
theorem zBO:zrQ zvc:=zLC zbe zbg
abbrev zvd:zab:=⟨N0⟩
def zve:=zjM zvd
theorem zBP [aJ]:Ok ax 222 (ae.un zve):=zJe zvd
theorem zBQ:zrR zve:=zLD (E:=zvd)
abbrev zvf:ZU:=⟨N0,zve⟩
def zvg:=zjs zvf
theorem zBR [aJ]:Ok ax 186 (ae.un zvg):=zIm zvf zBP
theorem zBS:Vr zvg:=zLE (E:=zvf) zBQ
abbrev zvh:U9:=⟨N0,zkZ⟩
def zvi:=zju zvh
theorem zBT [aJ]:Ok ax 187 (ae.un zvi):=zIn zvh znj
theorem zBU:zaA zvi:=zLF (E:=zvh) bQ znk
abbrev zvj:U8:=⟨N0⟩
def zvk:=zjr zvj
theorem zBV [aJ]:Ok ax 185 (ae.un zvk):=zIi zvj
theorem zBW:zrS zvk:=zLH (E:=zvj) bQ
abbrev zvl:Zw:=⟨N0,zvg,zvi,zvk⟩
def zvm:=ziS zvl
theorem zBX [aJ]:Ok ax 134 (ae.un zvm):=zGO zvl zBR zBT zBV
theorem zBY:zrT zvm:=zLI (E:=zvl) zBS zBU zBW
abbrev d72:E72:=⟨N0,D78,ztx,zuw,zvc,zvm⟩
def D72:=F72 d72
theorem zOL:Ok ax 72 (ae.unA D72):=o72 d72 zOr zAk zA7 zBN zfO (@zBX ⟨1⟩)
theorem zOM:Q72 D72:=s72 (E:=d72) zOs zAl zA8 zBO zBY
abbrev d20:E20:=⟨N0,D72⟩
def D20:=F20 d20
theorem zOP:Ok ax 20 (ae.un D20):=o20 d20 zOL
theorem zOQ:Q20 D20:=s20 (E:=d20) zOM
abbrev d46:E46:=⟨N0,D53⟩
def D46:=F46 d46
theorem zOT:Ok ax 46 (ae.un D46):=o46 d46 zzN
theorem zOU:Q46 D46:=s46 (E:=d46) bQ zzO
abbrev d11:E11:=⟨N0,D17,D19,D20,D46⟩
def D11:=F11 d11
theorem zOV:Ok ax 11 (ae.un D11):=o11 d11 zOg zOk zOP zOT
theorem zOW:Q11 D11:=s11 (E:=d11) zOh zOj zOQ zOU
theorem zOX {δ ρ:Type} [dw δ] [dw ρ] {F:δ->ae ρ}{a:δ}{r:ρ}(hc:dw.ck (α:=δ) (dw.enc a)=true) (hd:dw.dec (dw.enc a)=a) (h:F a=.ok r):(ae.un F (dw.enc a)).o=some (dw.enc r):=by
 unfold ae.un;rw[hc,hd,h];rfl
end Go.Proofs
namespace Go.Proofs.YtjkijdhdbhooiaaGreat
set_option maxRecDepth 100000
def dc : Nat → Nat → List Char
  | 0,_=>[]
  | k+1,n=>Char.ofNat (n % 128) :: dc k (n / 128)
def ioR:List (List Char):=[dc 2 14945,dc 35 45019731839301669745199096094014757347713743838262223150477152386253683567,dc 34 420377978748125055740877229337914779690535202023532228586777341826005871,dc 36 6550971710285934913754052784167232504664614938228495552548125985273808517999,dc 37 729461727561750118551056160028214191605660185564422184735309847620634057210735,dc 37 830772752598413053766828580736873493486916948856955428203985110704856283839343,dc 37 846039670449084468774387244088358248202427724899131661281249209823569867537263,dc 35 51179294023049743501667742572912222775214732381401055866039370168307121007,dc 35 45009296865569399087797946188323693179256993798839364341239407728733551471,dc 37 830780268438003779521215029671213750534782202343527674838098051362097095867247,dc 38 107331119686939743456630664922862568562027744964707129139922504835010957783169903,dc 36 6550077393460720109370983476171913501904522994409179701070095258754267839343,dc 35 48939868791262458989610581110577656928740303271215203627173391395041409903,dc 37 838349406564167396116242431067385471964016398604997842927764345145510690650991,dc 37 838349393033854787123352198492273111221406595137993776056015629414144918780783]
def ioN:List Char:=dc 599 149771092015852491278000662115128137748269599194581860494294778261301651447965370062645304741743729477171988600934799727326517975522812478602000462062741437383719700469441320225746001460657778919864702789185877727655633384756976915120483667267389003774318074344898749855352565971438052119468579606834274369754786466833197740569138863177439610707078849369185453345527529660045569842755503891534211525146045868530953689090964949867816695296345068916719713389224171554417522039179151544735265211004436216097918169509036553218766076260083794299680425243321104884652801756935939016856612808890681403713245564864003766772582403997404693715256366145143767382394449050497631406600169134111017758420705379181155399036702826495772349138224361597591141153214596847427732622443000331392581117708063194127217598752738628016573330186096707239904130243791293223266344009164320459711360917953739697093488615153066332379337541176729581439867139231308816545570621442575900426155419574959597509166851618974720944858788987333755451277637880095378589630688375170213056367090535571658338605777263539845461211124236505614769845380929544309814139208243656161387198222242061066521483984326294839656717673867435632142724742576645662295495695963786797012817486377421718128934313825440411880
theorem ioS:Tryz.prog.initOrder=String.ofList ioN:=by kernel_rfl
theorem ioL:Tryz.prog.initOrder.toList=ioN:=(congrArg String.toList ioS).trans String.toList_ofList
theorem ioW:wordsSigns Tryz.prog.initOrder.toList=(dc 7 509754063237352) :: (dc 64 572163061260696105970074307196347989822506933787247010369012457204266251338368704666046318255463753418979972205211827874765770452792118) :: (dc 3 1915619) :: ioR:=(congrArg wordsSigns ioL).trans (by kernel_rfl)
theorem ioB:behindMainWord (wordsSigns Tryz.prog.initOrder.toList)=(dc 3 1915619) :: ioR:=(congrArg behindMainWord ioW).trans (by kernel_rfl)
theorem N9 {P : Program} {l : List (List Char)} (h : behindMainWord (wordsSigns P.initOrder.toList) = l) : P.headLifts = (if (stripLifts liftWords l).2.head? == some "cut".toList then (stripLifts liftWords l).1 else []) := by subst h; rfl
theorem zk1 {P:Program}{rest:List (List Char)}(h:behindMainWord (wordsSigns P.initOrder.toList)=(dc 3 1915619) :: rest):P.make=some .cut:=by unfold Program.make;rw[h];rfl
theorem zf8 {P:Program}{rest:List (List Char)}(h:behindMainWord (wordsSigns P.initOrder.toList)=(dc 3 1915619) :: rest) (hl:P.headLifts=[]):P.liftsFinal=false:=by unfold Program.liftsFinal;rw[h,hl];rfl
theorem zf9 {P : Program} {c : List Char} {rest : List (List Char)} (h : behindMainWord (wordsSigns P.initOrder.toList) = c :: rest) (hst : (stripLifts liftWords (c :: rest)).2.head? = some "cut".toList)
    (hs1:(stripLifts liftWords (c :: rest)).1=[]) (zOY:P.laysLater=false) (hb:P.bearsReflect=false) (hd:P.doorFits []=true):P.mayEnter=true:=by
  unfold Program.mayEnter;rw[h];simp[hst,hs1,zOY,hb,hd]
theorem ioH:Tryz.prog.headLifts=[]:=(N9 ioB).trans (by kernel_rfl)
theorem ioK:Tryz.prog.make=some .cut:=zk1 ioB
theorem ioF:Tryz.prog.liftsFinal=false:=zf8 ioB ioH
theorem ioE:Tryz.prog.mayEnter=true:=zf9 ioB (by kernel_rfl) (by kernel_rfl) (by kernel_rfl) (by kernel_rfl) (by kernel_rfl)
end Go.Proofs.YtjkijdhdbhooiaaGreat
