/- Part 6 of what the proof rests on: a machine that runs functions of the program on pure values, proved sound; the functions that the law reaches, what they compute, and plain laws of that. -/
import Derived.Test.YtjkijdhdbhooiaaGreatQ5
import Derived.Test.YtjkijdhdbhooiaaGreatProg
import Derived.Test.YtjkijdhdbhooiaaGreatRows
import Derived.WalkKit
import Derived.OpenShut
import Derived.ChangeOld
import Derived.ProofKit
import Derived.SizedLaws
set_option linter.all false
noncomputable section
namespace Go.Proofs
open Go Go.Pm
set_option maxRecDepth 100000
abbrev NK:Nat:=1000
def nC:au:=⟨.of [⟨1,1,0,0,10,10,0,⟨0,0⟩,⟨0,0⟩,2,0,.of [],.of []⟩,⟨1,2,50,0,10,10,0,⟨0,0⟩,⟨0,0⟩,2,0,.of [],.of []⟩,⟨1,1,100,0,10,10,0,⟨0,0⟩,⟨0,0⟩,2,0,.of [],.of []⟩,⟨1,2,150,0,10,10,0,⟨0,0⟩,⟨0,0⟩,2,0,.of [],.of []⟩,⟨1,1,200,0,10,10,0,⟨0,0⟩,⟨0,0⟩,2,0,.of [],.of []⟩]⟩
def zA0:Sl bz:=.of [⟨0,2,1,0,0,0⟩,⟨2,3,1,0,0,1⟩,⟨4,4,1,0,0,2⟩,⟨4,8,1,0,0,0⟩,⟨1,5,1,0,0,1⟩,⟨3,5,1,0,0,1⟩]
def zB0:Sl (Sl aC):=.of [.of [⟨0,20,30⟩],.of [⟨100,30,40⟩],.of [⟨200,40,50⟩],.of [⟨200,80,90⟩],.of [⟨50,50,60⟩],.of [⟨150,50,60⟩]]
def D9:Pt aW:=⟨⟨nC,zA0,zB0,⟨2,0⟩⟩⟩
abbrev TB:={T:Tabs // ay ax T}
def TB.m {δ ρ:Type} [dw δ] [dw ρ] (T:TB) (f:FuncId) (y:δ×ρ) (h:zhL ((dh T.1 []).fn f) y=true):TB:=⟨T.1.memo f y,ay.memo T.2 h⟩
theorem zfW:dX ax 253 (.sort 204 3 24):=KY Tryz.laysS253 rfl rfl rfl (ak (by kernel_rfl))
theorem zfX:dX ax 133 (.sort 43 3 56):=KY Tryz.laysS133 rfl rfl rfl (ak (by kernel_rfl))
theorem zfY:dX ax 181 (.clone 3 1 8):=KZ Tryz.laysC181 rfl rfl rfl rfl rfl rfl rfl (by decide) (ak (by kernel_rfl))
theorem zfZ:dX ax 252 (.clone 204 3 24):=KZ Tryz.laysC252 rfl rfl rfl rfl rfl rfl rfl (by decide) (ak (by kernel_rfl))
def K1 : TB := ⟨kX ax NK Tabs.nil
  [.f 161 {},
   .f 232 {},
   .f 233 {},
   .f 234 {},
   .f 164 {},
   .f 235 {},
   .f 201 {},
   .f 160 {}],dO ay.nil (by kernel_rfl)⟩
def K2:TB:=K1.m 160 (((nC),true):(au)×(Bool)) (by kernel_rfl)
def K3 : TB := ⟨kX ax NK K2.1
  [.f 122 {},
   .f 123 {},
   .f 60 {},
   .f 112 {},
   .f 188 {},
   .f 138 {},
   .f 223 {},
   .i 251 { yl:=[3] },
   .f 246 {},
   .f 224 {},
   .f 189 {},
   .f 139 {}],dO K2.2 (by kernel_rfl)⟩
def K4:TB:=K3.m 139 (((nC,⟨0,2,1,0,0,0⟩),((.of [⟨0,20,30⟩]),0)):(au×bz)×(Sl aC×Int)) (by kernel_rfl)
def K5:TB:=K4.m 139 (((nC,⟨2,3,1,0,0,1⟩),((.of [⟨100,30,40⟩]),0)):(au×bz)×(Sl aC×Int)) (by kernel_rfl)
def K6:TB:=K5.m 139 (((nC,⟨4,4,1,0,0,2⟩),((.of [⟨200,40,50⟩]),0)):(au×bz)×(Sl aC×Int)) (by kernel_rfl)
def K7:TB:=K6.m 139 (((nC,⟨4,8,1,0,0,0⟩),((.of [⟨200,80,90⟩]),0)):(au×bz)×(Sl aC×Int)) (by kernel_rfl)
def K8:TB:=K7.m 139 (((nC,⟨1,5,1,0,0,1⟩),((.of [⟨50,50,60⟩]),0)):(au×bz)×(Sl aC×Int)) (by kernel_rfl)
def K9:TB:=K8.m 139 (((nC,⟨3,5,1,0,0,1⟩),((.of [⟨150,50,60⟩]),0)):(au×bz)×(Sl aC×Int)) (by kernel_rfl)
def K10 : TB := ⟨kX ax NK K9.1
  [.f 78 {}],dO K9.2 (by kernel_rfl)⟩
def K11:TB:=K10.m 78 (((nC,⟨2,0⟩,zA0),(D9,0)):(au×bP×Sl bz)×(Pt aW×Int)) (by kernel_rfl)
def K12 : TB := ⟨kX ax NK K11.1
  [.f 176 {},
   .f 126 {},
   .f 140 {},
   .i 173 { yl:=[7] },
   .f 121 {},
   .f 180 {},
   .f 190 {},
   .f 210 {},
   .f 179 {}],dO K11.2 (by kernel_rfl)⟩
def K13:TB:=⟨K12.1.addO 181 (.clone 3 1 8),ay.addO K12.2 zfY⟩
def K14 : TB := ⟨kX ax NK K13.1
  [.f 111 {}],dO K13.2 (by kernel_rfl)⟩
def K15:TB:=K14.m 111 (((nC,(.of [⟨0,2,1,0,0,0⟩])),0):(au×Sl bz)×(Int)) (by kernel_rfl)
def K16:TB:=K15.m 111 (((nC,(.of [⟨0,2,1,0,0,0⟩,⟨2,3,1,0,0,1⟩])),0):(au×Sl bz)×(Int)) (by kernel_rfl)
def K17:TB:=K16.m 111 (((nC,(.of [⟨0,2,1,0,0,0⟩,⟨2,3,1,0,0,1⟩,⟨4,4,1,0,0,2⟩])),0):(au×Sl bz)×(Int)) (by kernel_rfl)
def K18:TB:=K17.m 111 (((nC,(.of [⟨0,2,1,0,0,0⟩,⟨2,3,1,0,0,1⟩,⟨4,8,1,0,0,0⟩])),0):(au×Sl bz)×(Int)) (by kernel_rfl)
def K19:TB:=K18.m 111 (((nC,(.of [⟨0,2,1,0,0,0⟩,⟨4,4,1,0,0,2⟩])),0):(au×Sl bz)×(Int)) (by kernel_rfl)
def K20:TB:=K19.m 111 (((nC,(.of [⟨0,2,1,0,0,0⟩,⟨4,8,1,0,0,0⟩])),0):(au×Sl bz)×(Int)) (by kernel_rfl)
def K21:TB:=K20.m 111 (((nC,(.of [⟨2,3,1,0,0,1⟩])),0):(au×Sl bz)×(Int)) (by kernel_rfl)
def K22:TB:=K21.m 111 (((nC,(.of [⟨2,3,1,0,0,1⟩,⟨4,4,1,0,0,2⟩])),0):(au×Sl bz)×(Int)) (by kernel_rfl)
def K23:TB:=K22.m 111 (((nC,(.of [⟨2,3,1,0,0,1⟩,⟨4,8,1,0,0,0⟩])),0):(au×Sl bz)×(Int)) (by kernel_rfl)
def K24:TB:=K23.m 111 (((nC,(.of [⟨4,4,1,0,0,2⟩])),0):(au×Sl bz)×(Int)) (by kernel_rfl)
def K25:TB:=K24.m 111 (((nC,(.of [⟨4,8,1,0,0,0⟩])),0):(au×Sl bz)×(Int)) (by kernel_rfl)
def K26:TB:=K25.m 111 (((nC,(.of [⟨1,5,1,0,0,1⟩])),0):(au×Sl bz)×(Int)) (by kernel_rfl)
def K27:TB:=K26.m 111 (((nC,(.of [⟨1,5,1,0,0,1⟩,⟨3,5,1,0,0,1⟩])),0):(au×Sl bz)×(Int)) (by kernel_rfl)
def K28:TB:=K27.m 111 (((nC,(.of [⟨3,5,1,0,0,1⟩])),0):(au×Sl bz)×(Int)) (by kernel_rfl)
def K29 : TB := ⟨kX ax NK K28.1
  [.f 113 {},
   .f 50 {}],dO K28.2 (by kernel_rfl)⟩
def K30:TB:=K29.m 50 (((nC,(.of [⟨0,2,1,0,0,0⟩])),(⟨(-2),2⟩,0)):(au×Sl bz)×(bZ×Int)) (by kernel_rfl)
def K31:TB:=K30.m 50 (((nC,(.of [⟨0,2,1,0,0,0⟩,⟨2,3,1,0,0,1⟩])),(⟨(-1),2⟩,0)):(au×Sl bz)×(bZ×Int)) (by kernel_rfl)
def K32:TB:=K31.m 50 (((nC,(.of [⟨0,2,1,0,0,0⟩,⟨2,3,1,0,0,1⟩,⟨4,4,1,0,0,2⟩])),(⟨0,2⟩,0)):(au×Sl bz)×(bZ×Int)) (by kernel_rfl)
def K33:TB:=K32.m 50 (((nC,(.of [⟨0,2,1,0,0,0⟩,⟨2,3,1,0,0,1⟩,⟨4,8,1,0,0,0⟩])),(⟨(-1),2⟩,0)):(au×Sl bz)×(bZ×Int)) (by kernel_rfl)
def K34:TB:=K33.m 50 (((nC,(.of [⟨0,2,1,0,0,0⟩,⟨4,4,1,0,0,2⟩])),(⟨0,2⟩,0)):(au×Sl bz)×(bZ×Int)) (by kernel_rfl)
def K35:TB:=K34.m 50 (((nC,(.of [⟨0,2,1,0,0,0⟩,⟨4,8,1,0,0,0⟩])),(⟨(-2),2⟩,0)):(au×Sl bz)×(bZ×Int)) (by kernel_rfl)
def K36:TB:=K35.m 50 (((nC,(.of [⟨2,3,1,0,0,1⟩])),(⟨(-1),3⟩,0)):(au×Sl bz)×(bZ×Int)) (by kernel_rfl)
def K37:TB:=K36.m 50 (((nC,(.of [⟨2,3,1,0,0,1⟩,⟨4,4,1,0,0,2⟩])),(⟨0,3⟩,0)):(au×Sl bz)×(bZ×Int)) (by kernel_rfl)
def K38:TB:=K37.m 50 (((nC,(.of [⟨2,3,1,0,0,1⟩,⟨4,8,1,0,0,0⟩])),(⟨(-1),2⟩,0)):(au×Sl bz)×(bZ×Int)) (by kernel_rfl)
def K39:TB:=K38.m 50 (((nC,(.of [⟨4,4,1,0,0,2⟩])),(⟨0,4⟩,0)):(au×Sl bz)×(bZ×Int)) (by kernel_rfl)
def K40:TB:=K39.m 50 (((nC,(.of [⟨4,8,1,0,0,0⟩])),(⟨(-2),2⟩,0)):(au×Sl bz)×(bZ×Int)) (by kernel_rfl)
def K41:TB:=K40.m 50 (((nC,(.of [⟨1,5,1,0,0,1⟩])),(⟨(-1),3⟩,0)):(au×Sl bz)×(bZ×Int)) (by kernel_rfl)
def K42:TB:=K41.m 50 (((nC,(.of [⟨1,5,1,0,0,1⟩,⟨3,5,1,0,0,1⟩])),(⟨(-1),3⟩,0)):(au×Sl bz)×(bZ×Int)) (by kernel_rfl)
def K43:TB:=K42.m 50 (((nC,(.of [⟨3,5,1,0,0,1⟩])),(⟨(-1),3⟩,0)):(au×Sl bz)×(bZ×Int)) (by kernel_rfl)
def K44 : TB := ⟨kX ax NK K43.1
  [.f 93 {},
   .f 105 {},
   .f 118 {},
   .f 162 {},
   .f 157 {},
   .f 156 {},
   .f 109 {},
   .f 207 {},
   .f 231 {},
   .f 230 {},
   .f 257 {},
   .f 238 {},
   .f 206 {},
   .f 167 {},
   .f 229 {},
   .i 228 { yl:=[13] },
   .f 197 {},
   .f 209 {},
   .f 172 {}],dO K43.2 (by kernel_rfl)⟩
def K45:TB:=K44.m 172 (((10,100),(⟨1,10⟩)):(Int×Int)×(aS)) (by kernel_rfl)
def K46:TB:=K45.m 172 (((2000,100),(⟨20,1⟩)):(Int×Int)×(aS)) (by kernel_rfl)
def K47:TB:=K46.m 172 (((20,100),(⟨1,5⟩)):(Int×Int)×(aS)) (by kernel_rfl)
def K48:TB:=K47.m 172 (((0,100),(⟨0,1⟩)):(Int×Int)×(aS)) (by kernel_rfl)
def K49:TB:=K48.m 172 (((3000,100),(⟨30,1⟩)):(Int×Int)×(aS)) (by kernel_rfl)
def K50:TB:=K49.m 172 (((20,200),(⟨1,10⟩)):(Int×Int)×(aS)) (by kernel_rfl)
def K51:TB:=K50.m 172 (((4000,200),(⟨20,1⟩)):(Int×Int)×(aS)) (by kernel_rfl)
def K52:TB:=K51.m 172 (((30,200),(⟨3,20⟩)):(Int×Int)×(aS)) (by kernel_rfl)
def K53:TB:=K52.m 172 (((10,200),(⟨1,20⟩)):(Int×Int)×(aS)) (by kernel_rfl)
def K54:TB:=K53.m 172 (((6000,200),(⟨30,1⟩)):(Int×Int)×(aS)) (by kernel_rfl)
def K55:TB:=K54.m 172 (((1000,100),(⟨10,1⟩)):(Int×Int)×(aS)) (by kernel_rfl)
def K56:TB:=K55.m 172 (((4000,100),(⟨40,1⟩)):(Int×Int)×(aS)) (by kernel_rfl)
def K57:TB:=K56.m 172 (((60,200),(⟨3,10⟩)):(Int×Int)×(aS)) (by kernel_rfl)
def K58:TB:=K57.m 172 (((70,200),(⟨7,20⟩)):(Int×Int)×(aS)) (by kernel_rfl)
def K59:TB:=K58.m 172 (((50,200),(⟨1,4⟩)):(Int×Int)×(aS)) (by kernel_rfl)
def K60:TB:=K59.m 172 (((50,100),(⟨1,2⟩)):(Int×Int)×(aS)) (by kernel_rfl)
def K61:TB:=K60.m 172 ((((-2000),100),(⟨(-20),1⟩)):(Int×Int)×(aS)) (by kernel_rfl)
def K62:TB:=K61.m 172 (((60,100),(⟨3,5⟩)):(Int×Int)×(aS)) (by kernel_rfl)
def K63:TB:=K62.m 172 ((((-3000),100),(⟨(-30),1⟩)):(Int×Int)×(aS)) (by kernel_rfl)
def K64:TB:=K63.m 172 (((40,100),(⟨2,5⟩)):(Int×Int)×(aS)) (by kernel_rfl)
def K65:TB:=K64.m 172 ((((-1000),100),(⟨(-10),1⟩)):(Int×Int)×(aS)) (by kernel_rfl)
def K66:TB:=K65.m 172 (((6000,100),(⟨60,1⟩)):(Int×Int)×(aS)) (by kernel_rfl)
def K67:TB:=K66.m 172 (((8000,200),(⟨40,1⟩)):(Int×Int)×(aS)) (by kernel_rfl)
def K68:TB:=K67.m 172 (((10000,200),(⟨50,1⟩)):(Int×Int)×(aS)) (by kernel_rfl)
def K69:TB:=K68.m 172 (((12000,200),(⟨60,1⟩)):(Int×Int)×(aS)) (by kernel_rfl)
def K70:TB:=K69.m 172 (((5000,100),(⟨50,1⟩)):(Int×Int)×(aS)) (by kernel_rfl)
def K71:TB:=K70.m 172 (((4500,100),(⟨45,1⟩)):(Int×Int)×(aS)) (by kernel_rfl)
def K72:TB:=K71.m 172 ((((-10),100),(⟨(-1),10⟩)):(Int×Int)×(aS)) (by kernel_rfl)
def K73:TB:=K72.m 172 (((6500,100),(⟨65,1⟩)):(Int×Int)×(aS)) (by kernel_rfl)
def K74 : TB := ⟨kX ax NK K73.1
  [.f 198 {}],dO K73.2 (by kernel_rfl)⟩
def K75:TB:=K74.m 198 (((⟨10,2000,100⟩),(⟨⟨1,10⟩,⟨20,1⟩⟩)):(straight)×(Line)) (by kernel_rfl)
def K76:TB:=K75.m 198 (((⟨20,2000,100⟩),(⟨⟨1,5⟩,⟨20,1⟩⟩)):(straight)×(Line)) (by kernel_rfl)
def K77:TB:=K76.m 198 (((⟨0,3000,100⟩),(⟨⟨0,1⟩,⟨30,1⟩⟩)):(straight)×(Line)) (by kernel_rfl)
def K78:TB:=K77.m 198 (((⟨10,3000,100⟩),(⟨⟨1,10⟩,⟨30,1⟩⟩)):(straight)×(Line)) (by kernel_rfl)
def K79:TB:=K78.m 198 (((⟨20,4000,200⟩),(⟨⟨1,10⟩,⟨20,1⟩⟩)):(straight)×(Line)) (by kernel_rfl)
def K80:TB:=K79.m 198 (((⟨30,4000,200⟩),(⟨⟨3,20⟩,⟨20,1⟩⟩)):(straight)×(Line)) (by kernel_rfl)
def K81:TB:=K80.m 198 (((⟨10,6000,200⟩),(⟨⟨1,20⟩,⟨30,1⟩⟩)):(straight)×(Line)) (by kernel_rfl)
def K82:TB:=K81.m 198 (((⟨20,6000,200⟩),(⟨⟨1,10⟩,⟨30,1⟩⟩)):(straight)×(Line)) (by kernel_rfl)
def K83:TB:=K82.m 198 (((⟨20,1000,100⟩),(⟨⟨1,5⟩,⟨10,1⟩⟩)):(straight)×(Line)) (by kernel_rfl)
def K84:TB:=K83.m 198 (((⟨0,4000,100⟩),(⟨⟨0,1⟩,⟨40,1⟩⟩)):(straight)×(Line)) (by kernel_rfl)
def K85:TB:=K84.m 198 (((⟨60,4000,200⟩),(⟨⟨3,10⟩,⟨20,1⟩⟩)):(straight)×(Line)) (by kernel_rfl)
def K86:TB:=K85.m 198 (((⟨70,4000,200⟩),(⟨⟨7,20⟩,⟨20,1⟩⟩)):(straight)×(Line)) (by kernel_rfl)
def K87:TB:=K86.m 198 (((⟨50,6000,200⟩),(⟨⟨1,4⟩,⟨30,1⟩⟩)):(straight)×(Line)) (by kernel_rfl)
def K88:TB:=K87.m 198 (((⟨60,6000,200⟩),(⟨⟨3,10⟩,⟨30,1⟩⟩)):(straight)×(Line)) (by kernel_rfl)
def K89:TB:=K88.m 198 (((⟨50,(-2000),100⟩),(⟨⟨1,2⟩,⟨(-20),1⟩⟩)):(straight)×(Line)) (by kernel_rfl)
def K90:TB:=K89.m 198 (((⟨60,(-3000),100⟩),(⟨⟨3,5⟩,⟨(-30),1⟩⟩)):(straight)×(Line)) (by kernel_rfl)
def K91:TB:=K90.m 198 (((⟨40,0,100⟩),(⟨⟨2,5⟩,⟨0,1⟩⟩)):(straight)×(Line)) (by kernel_rfl)
def K92:TB:=K91.m 198 (((⟨50,(-1000),100⟩),(⟨⟨1,2⟩,⟨(-10),1⟩⟩)):(straight)×(Line)) (by kernel_rfl)
def K93:TB:=K92.m 198 (((⟨0,5000,100⟩),(⟨⟨0,1⟩,⟨50,1⟩⟩)):(straight)×(Line)) (by kernel_rfl)
def K94:TB:=K93.m 198 (((⟨10,4500,100⟩),(⟨⟨1,10⟩,⟨45,1⟩⟩)):(straight)×(Line)) (by kernel_rfl)
def K95:TB:=K94.m 198 (((⟨(-10),6500,100⟩),(⟨⟨(-1),10⟩,⟨65,1⟩⟩)):(straight)×(Line)) (by kernel_rfl)
def K96:TB:=K95.m 198 (((⟨0,6000,100⟩),(⟨⟨0,1⟩,⟨60,1⟩⟩)):(straight)×(Line)) (by kernel_rfl)
def K97 : TB := ⟨kX ax NK K96.1
  [.f 199 {},
   .f 158 { vv:=[14] }],dO K96.2 (by kernel_rfl)⟩
def K98:TB:=K97.m 158 ((((.of [⟨0,20,30⟩])),(⟨⟨.of [⟨0,20,30⟩]⟩,.of []⟩)):(Sl aC)×(set)) (by kernel_rfl)
def K99:TB:=K98.m 158 ((((.of [⟨0,20,30⟩,⟨100,30,40⟩])),(⟨⟨.of [⟨0,20,30⟩,⟨100,30,40⟩]⟩,.of [⟨10,2000,100⟩,⟨20,2000,100⟩,⟨0,3000,100⟩,⟨10,3000,100⟩]⟩)):(Sl aC)×(set)) (by kernel_rfl)
def zMl:TB:=K99.m 158 ((((.of [⟨0,20,30⟩,⟨100,30,40⟩,⟨200,40,50⟩])),(⟨⟨.of [⟨0,20,30⟩,⟨100,30,40⟩,⟨200,40,50⟩]⟩,.of [⟨10,2000,100⟩,⟨10,3000,100⟩,⟨30,4000,200⟩,⟨10,6000,200⟩]⟩)):(Sl aC)×(set)) (by kernel_rfl)
def zMm:TB:=zMl.m 158 ((((.of [⟨0,20,30⟩,⟨100,30,40⟩,⟨200,80,90⟩])),(⟨⟨.of [⟨0,20,30⟩,⟨100,30,40⟩,⟨200,80,90⟩]⟩,.of []⟩)):(Sl aC)×(set)) (by kernel_rfl)
def zMn:TB:=zMm.m 158 ((((.of [⟨0,20,30⟩,⟨200,40,50⟩])),(⟨⟨.of [⟨0,20,30⟩,⟨200,40,50⟩]⟩,.of [⟨20,4000,200⟩,⟨30,4000,200⟩,⟨10,6000,200⟩,⟨20,6000,200⟩]⟩)):(Sl aC)×(set)) (by kernel_rfl)
def zMo:TB:=zMn.m 158 ((((.of [⟨0,20,30⟩,⟨200,80,90⟩])),(⟨⟨.of [⟨0,20,30⟩,⟨200,80,90⟩]⟩,.of [⟨60,4000,200⟩,⟨70,4000,200⟩,⟨50,6000,200⟩,⟨60,6000,200⟩]⟩)):(Sl aC)×(set)) (by kernel_rfl)
def zMp:TB:=zMo.m 158 ((((.of [⟨100,30,40⟩])),(⟨⟨.of [⟨100,30,40⟩]⟩,.of []⟩)):(Sl aC)×(set)) (by kernel_rfl)
def zMq:TB:=zMp.m 158 ((((.of [⟨100,30,40⟩,⟨200,40,50⟩])),(⟨⟨.of [⟨100,30,40⟩,⟨200,40,50⟩]⟩,.of [⟨10,2000,100⟩,⟨20,1000,100⟩,⟨0,4000,100⟩,⟨10,3000,100⟩]⟩)):(Sl aC)×(set)) (by kernel_rfl)
def zMr:TB:=zMq.m 158 ((((.of [⟨100,30,40⟩,⟨200,80,90⟩])),(⟨⟨.of [⟨100,30,40⟩,⟨200,80,90⟩]⟩,.of [⟨50,(-2000),100⟩,⟨60,(-3000),100⟩,⟨40,0,100⟩,⟨50,(-1000),100⟩]⟩)):(Sl aC)×(set)) (by kernel_rfl)
def zMs:TB:=zMr.m 158 ((((.of [⟨200,40,50⟩])),(⟨⟨.of [⟨200,40,50⟩]⟩,.of []⟩)):(Sl aC)×(set)) (by kernel_rfl)
def zMt:TB:=zMs.m 158 ((((.of [⟨200,80,90⟩])),(⟨⟨.of [⟨200,80,90⟩]⟩,.of []⟩)):(Sl aC)×(set)) (by kernel_rfl)
def zMu:TB:=zMt.m 158 ((((.of [⟨50,50,60⟩])),(⟨⟨.of [⟨50,50,60⟩]⟩,.of []⟩)):(Sl aC)×(set)) (by kernel_rfl)
def zMv:TB:=zMu.m 158 ((((.of [⟨50,50,60⟩,⟨150,50,60⟩])),(⟨⟨.of [⟨50,50,60⟩,⟨150,50,60⟩]⟩,.of [⟨0,5000,100⟩,⟨10,4500,100⟩,⟨(-10),6500,100⟩,⟨0,6000,100⟩]⟩)):(Sl aC)×(set)) (by kernel_rfl)
def zyW:TB:=zMv.m 158 ((((.of [⟨150,50,60⟩])),(⟨⟨.of [⟨150,50,60⟩]⟩,.of []⟩)):(Sl aC)×(set)) (by kernel_rfl)
def zyX : TB := ⟨kX ax NK zyW.1
  [.f 200 {},
   .f 159 {},
   .f 117 {}],dO zyW.2 (by kernel_rfl)⟩
def zyY:TB:=⟨zyX.1.addO 252 (.clone 204 3 24),ay.addO zyX.2 zfZ⟩
def zyZ:TB:=⟨zyY.1.addO 253 (.sort 204 3 24),ay.addO zyY.2 zfW⟩
def zy0 : TB := ⟨kX ax NK zyZ.1
  [.f 239 {},
   .f 208 {},
   .f 170 {},
   .f 255 {},
   .f 254 {}],dO zyZ.2 (by kernel_rfl)⟩
def zMw:Tabs:=kX ax NK Tabs.nil [.f 239 {},.f 208 {},.f 170 {},.f 209 {},.f 172 {},.f 118 {},.f 162 {},.f 207 {},.f 157 {},.f 231 {},.f 230 {},.f 257 {},.f 238 {},.f 206 {},.f 255 {}]
def zy1:TB:=⟨zy0.1.addC 254 (aF ax NK (dh zMw []) (aU ax 254 [] {}) 254),ay.addC zy0.2 (zc5 (@dO ⟨1⟩ _ _ _ _ (@ay.nil ⟨1⟩ _) (by kernel_rfl)) (ak (by kernel_rfl)))⟩
def zMx : TB := ⟨kX ax NK zy1.1
  [.f 249 {},
   .f 240 {},
   .f 211 {}],dO zy1.2 (by kernel_rfl)⟩
def zMy:TB:=zMx.m 211 ((((.of [⟨0,20,30⟩])),(⟨⟨0,0⟩,⟨0,0⟩⟩,6)):(Sl aC)×(Line×Int)) (by kernel_rfl)
def zMz:TB:=zMy.m 211 ((((.of [⟨0,20,30⟩,⟨100,30,40⟩])),(⟨⟨0,1⟩,⟨30,1⟩⟩,0)):(Sl aC)×(Line×Int)) (by kernel_rfl)
def zMA:TB:=zMz.m 211 ((((.of [⟨0,20,30⟩,⟨100,30,40⟩,⟨200,40,50⟩])),(⟨⟨1,20⟩,⟨30,1⟩⟩,0)):(Sl aC)×(Line×Int)) (by kernel_rfl)
def zMB:TB:=zMA.m 211 ((((.of [⟨0,20,30⟩,⟨100,30,40⟩,⟨200,80,90⟩])),(⟨⟨0,0⟩,⟨0,0⟩⟩,5)):(Sl aC)×(Line×Int)) (by kernel_rfl)
def zMC:TB:=zMB.m 211 ((((.of [⟨0,20,30⟩,⟨200,40,50⟩])),(⟨⟨1,20⟩,⟨30,1⟩⟩,0)):(Sl aC)×(Line×Int)) (by kernel_rfl)
def zMD:TB:=zMC.m 211 ((((.of [⟨0,20,30⟩,⟨200,80,90⟩])),(⟨⟨1,4⟩,⟨30,1⟩⟩,0)):(Sl aC)×(Line×Int)) (by kernel_rfl)
def zME:TB:=zMD.m 211 ((((.of [⟨100,30,40⟩])),(⟨⟨0,0⟩,⟨0,0⟩⟩,6)):(Sl aC)×(Line×Int)) (by kernel_rfl)
def zMF:TB:=zME.m 211 ((((.of [⟨100,30,40⟩,⟨200,40,50⟩])),(⟨⟨0,1⟩,⟨40,1⟩⟩,0)):(Sl aC)×(Line×Int)) (by kernel_rfl)
def zMG:TB:=zMF.m 211 ((((.of [⟨100,30,40⟩,⟨200,80,90⟩])),(⟨⟨2,5⟩,⟨0,1⟩⟩,0)):(Sl aC)×(Line×Int)) (by kernel_rfl)
def zMH:TB:=zMG.m 211 ((((.of [⟨200,40,50⟩])),(⟨⟨0,0⟩,⟨0,0⟩⟩,6)):(Sl aC)×(Line×Int)) (by kernel_rfl)
def zMI:TB:=zMH.m 211 ((((.of [⟨200,80,90⟩])),(⟨⟨0,0⟩,⟨0,0⟩⟩,6)):(Sl aC)×(Line×Int)) (by kernel_rfl)
def zMJ:TB:=zMI.m 211 ((((.of [⟨50,50,60⟩])),(⟨⟨0,0⟩,⟨0,0⟩⟩,6)):(Sl aC)×(Line×Int)) (by kernel_rfl)
def zMK:TB:=zMJ.m 211 ((((.of [⟨50,50,60⟩,⟨150,50,60⟩])),(⟨⟨(-1),10⟩,⟨65,1⟩⟩,0)):(Sl aC)×(Line×Int)) (by kernel_rfl)
def zy2:TB:=zMK.m 211 ((((.of [⟨150,50,60⟩])),(⟨⟨0,0⟩,⟨0,0⟩⟩,6)):(Sl aC)×(Line×Int)) (by kernel_rfl)
def zML : TB := ⟨kX ax NK zy2.1
  [.f 182 {}],dO zy2.2 (by kernel_rfl)⟩
def zMM:TB:=zML.m 182 (((D9,⟨1,.of [0],.of [0]⟩),true):(Pt aW×ai)×(Bool)) (by kernel_rfl)
def zMN:TB:=zMM.m 182 (((D9,⟨1,.of [0,1],.of [0,0]⟩),true):(Pt aW×ai)×(Bool)) (by kernel_rfl)
def zMO:TB:=zMN.m 182 (((D9,⟨1,.of [0,1,2],.of [0,0,0]⟩),true):(Pt aW×ai)×(Bool)) (by kernel_rfl)
def zMP:TB:=zMO.m 182 (((D9,⟨1,.of [0,1,3],.of [0,0,0]⟩),false):(Pt aW×ai)×(Bool)) (by kernel_rfl)
def zMQ:TB:=zMP.m 182 (((D9,⟨1,.of [0,2],.of [0,0]⟩),true):(Pt aW×ai)×(Bool)) (by kernel_rfl)
def zMR:TB:=zMQ.m 182 (((D9,⟨1,.of [0,3],.of [0,0]⟩),true):(Pt aW×ai)×(Bool)) (by kernel_rfl)
def zMS:TB:=zMR.m 182 (((D9,⟨1,.of [1],.of [0]⟩),true):(Pt aW×ai)×(Bool)) (by kernel_rfl)
def zMT:TB:=zMS.m 182 (((D9,⟨1,.of [1,2],.of [0,0]⟩),true):(Pt aW×ai)×(Bool)) (by kernel_rfl)
def zMU:TB:=zMT.m 182 (((D9,⟨1,.of [1,3],.of [0,0]⟩),true):(Pt aW×ai)×(Bool)) (by kernel_rfl)
def zMV:TB:=zMU.m 182 (((D9,⟨1,.of [2],.of [0]⟩),true):(Pt aW×ai)×(Bool)) (by kernel_rfl)
def zMW:TB:=zMV.m 182 (((D9,⟨1,.of [3],.of [0]⟩),true):(Pt aW×ai)×(Bool)) (by kernel_rfl)
def zMX:TB:=zMW.m 182 (((D9,⟨2,.of [4],.of [0]⟩),true):(Pt aW×ai)×(Bool)) (by kernel_rfl)
def zMY:TB:=zMX.m 182 (((D9,⟨2,.of [4,5],.of [0,0]⟩),true):(Pt aW×ai)×(Bool)) (by kernel_rfl)
def zy3:TB:=zMY.m 182 (((D9,⟨2,.of [5],.of [0]⟩),true):(Pt aW×ai)×(Bool)) (by kernel_rfl)
def zkT : TB := ⟨kX ax NK zy3.1
  [.r 178 64 { clo:=[180] }],dO zy3.2 (by kernel_rfl)⟩
def zy4:TB:=⟨zkT.1.addF 127 (aD ax (dh zkT.1 []) NK zdo 177 (aU ax 127 [] { ks:=[(0,3,⟨[],[],[(4,0,5000,43)],[],[],[],[]⟩)] }) 127),ay.addF zkT.2 (zdl zkT.2 (ak (by kernel_rfl)) zdp)⟩
def zMZ : TB := ⟨kX ax NK zy4.1
  [.f 120 {},
   .f 203 {},
   .f 202 {},
   .f 169 {},
   .f 171 {},
   .f 168 {},
   .f 119 {},
   .f 163 {},
   .f 114 {},
   .f 236 {},
   .f 237 {},
   .f 205 {},
   .i 204 { yl:=[9] },
   .f 165 {},
   .f 115 {}],dO zy4.2 (by kernel_rfl)⟩
def zM0:TB:=zMZ.m 115 (((nC,4,⟨30,60⟩),(true,true,0)):(au×Int×bZ)×(Bool×Bool×Int)) (by kernel_rfl)
def zM1:TB:=zM0.m 115 (((nC,2,⟨30,40⟩),(true,true,0)):(au×Int×bZ)×(Bool×Bool×Int)) (by kernel_rfl)
def zM2:TB:=zM1.m 115 (((nC,2,⟨50,60⟩),(true,true,0)):(au×Int×bZ)×(Bool×Bool×Int)) (by kernel_rfl)
def zM3:TB:=zM2.m 115 (((nC,0,⟨10,40⟩),(true,true,0)):(au×Int×bZ)×(Bool×Bool×Int)) (by kernel_rfl)
def zy5:TB:=zM3.m 115 (((nC,0,⟨(-30),0⟩),(false,true,0)):(au×Int×bZ)×(Bool×Bool×Int)) (by kernel_rfl)
def zM4 : TB := ⟨kX ax NK zy5.1
  [.f 191 {},
   .f 192 {},
   .f 141 { clo:=[190] }],dO zy5.2 (by kernel_rfl)⟩
def zM5:TB:=zM4.m 141 (((D9,⟨1,.of [0,1],.of [0,0]⟩),(.of [4])):(Pt aW×ai)×(Sl Int)) (by kernel_rfl)
def zM6:TB:=zM5.m 141 (((D9,⟨1,.of [0,1,2],.of [0,0,0]⟩),(.of [])):(Pt aW×ai)×(Sl Int)) (by kernel_rfl)
def zM7:TB:=zM6.m 141 (((D9,⟨1,.of [0,2],.of [0,0]⟩),(.of [2])):(Pt aW×ai)×(Sl Int)) (by kernel_rfl)
def zM8:TB:=zM7.m 141 (((D9,⟨1,.of [0,3],.of [0,0]⟩),(.of [2])):(Pt aW×ai)×(Sl Int)) (by kernel_rfl)
def zM9:TB:=zM8.m 141 (((D9,⟨1,.of [1,2],.of [0,0]⟩),(.of [0])):(Pt aW×ai)×(Sl Int)) (by kernel_rfl)
def zNa:TB:=zM9.m 141 (((D9,⟨1,.of [1,3],.of [0,0]⟩),(.of [])):(Pt aW×ai)×(Sl Int)) (by kernel_rfl)
def zy6:TB:=zNa.m 141 (((D9,⟨2,.of [4,5],.of [0,0]⟩),(.of [])):(Pt aW×ai)×(Sl Int)) (by kernel_rfl)
def zy7 : TB := ⟨kX ax NK zy6.1
  [.f 129 {},
   .f 98 {},
   .f 152 {},
   .f 92 {},
   .f 132 {},
   .f 97 {},
   .f 131 {},
   .f 130 {},
   .k 128 43 3 56 {}],dO zy6.2 (by kernel_rfl)⟩
def zy8:TB:=⟨zy7.1.addO 133 (.sort 43 3 56),ay.addO zy7.2 zfX⟩
def zy9 : TB := ⟨kX ax NK zy8.1
  [.f 185 {},
   .f 222 {},
   .f 186 {},
   .f 187 {},
   .f 134 {}],dO zy8.2 (by kernel_rfl)⟩
def zNb:Tabs:=kX ax NK Tabs.nil [.f 185 {},.f 222 {},.f 186 {},.f 239 {},.f 208 {},.f 187 {}]
def zza:TB:=⟨zy9.1.addC 134 (aF ax NK (dh zNb []) (aU ax 134 [] {}) 134),ay.addC zy9.2 (zc5 (@dO ⟨1⟩ _ _ _ _ (@ay.nil ⟨1⟩ _) (by kernel_rfl)) (ak (by kernel_rfl)))⟩
def zNc : TB := ⟨kX ax NK zza.1
  [.f 72 { clo:=[130],cut:=[15],ks:=[(0,6,⟨[],[],[(35,2,5001,43)],[],[],[],[]⟩),(2,15,⟨[],[],[],[],[57,5001],[],[]⟩)] }],dO zza.2 (by kernel_rfl)⟩
def zNd:TB:=zNc.m 72 (((nC,⟨2,0⟩,zA0,(.of [])),(⟨⟨D9,.of [⟨1,.of [0,1,2],.of [0,0,0]⟩,⟨1,.of [1,3],.of [0,0]⟩,⟨2,.of [4,5],.of [0,0]⟩],.of [⟨1,.of [0,1,2],.of [0,0,0]⟩,⟨1,.of [1,3],.of [0,0]⟩,⟨2,.of [4,5],.of [0,0]⟩]⟩⟩,0)):(au×bP×Sl bz×Sl Bool)×(Pt found×Int)) (by kernel_rfl)
def zzb:TB:=zNd.m 72 (((nC,⟨2,0⟩,zA0,(.of [true])),(⟨⟨D9,.of [⟨1,.of [0,1,2],.of [0,0,0]⟩,⟨1,.of [1,3],.of [0,0]⟩,⟨2,.of [4,5],.of [0,0]⟩],.of [⟨1,.of [0,1,2],.of [0,0,0]⟩,⟨1,.of [1,3],.of [0,0]⟩,⟨2,.of [4,5],.of [0,0]⟩]⟩⟩,0)):(au×bP×Sl bz×Sl Bool)×(Pt found×Int)) (by kernel_rfl)
def zNe : TB := ⟨kX ax NK zzb.1
  [.f 20 {},
   .f 96 {},
   .f 79 { vv:=[8] },
   .f 110 {},
   .f 49 {},
   .f 80 {},
   .f 81 {},
   .f 82 {},
   .f 83 {},
   .f 142 {},
   .f 84 {},
   .f 25 {}],dO zzb.2 (by kernel_rfl)⟩
def zzc:TB:=zNe.m 25 (((nC,⟨2,0⟩,zA0,⟨1,.of [0,1],.of [0,0]⟩),(⟨5,.of [],.of [4],⟨0,.of [],.of []⟩⟩,0)):(au×bP×Sl bz×ai)×(MW×Int)) (by kernel_rfl)
def zNf : TB := ⟨kX ax NK zzc.1
  [.f 38 {},
   .f 52 {},
   .f 29 {},
   .f 31 { ks:=[(0,16,⟨[],[],[],[],[],[10],[]⟩)],vv:=[41] }],dO zzc.2 (by kernel_rfl)⟩
def zzd:TB:=zNf.m 31 (((nC,⟨2,0⟩,zA0),((.of [⟨0,2⟩,⟨1,2⟩]),0)):(au×bP×Sl bz)×(Sl zhX×Int)) (by kernel_rfl)
def zNg : TB := ⟨kX ax NK zzd.1
  [.f 32 {},
   .f 99 {},
   .r 100 64 {},
   .r 101 64 {},
   .f 36 { ks:=[(0,16,⟨[],[],[],[],[1000896],[],[]⟩)],vv:=[73,75] }],dO zzd.2 (by kernel_rfl)⟩
def zze:TB:=zNg.m 36 (((nC,⟨2,0⟩,zA0,1),((.of [0,1]),(.of [0]),0)):(au×bP×Sl bz×Int)×(Sl Int×Sl Int×Int)) (by kernel_rfl)
def zNh : TB := ⟨kX ax NK zze.1
  [.f 58 {},
   .f 103 {},
   .f 104 {},
   .f 42 {}],dO zze.2 (by kernel_rfl)⟩
def zzf:TB:=zNh.m 42 (((nC,⟨2,0⟩,zA0,(.of [⟨1,⟨0,1⟩,⟨1,5⟩⟩,⟨1,⟨1,10⟩,⟨1,2⟩⟩])),((.of [⟨1,1⟩,⟨0,2⟩]),0)):(au×bP×Sl bz×Sl Bin)×(Sl Tally×Int)) (by kernel_rfl)
def zsm : TB := ⟨kX ax NK zzf.1
  [.f 44 {},
   .f 67 {},
   .f 69 {},
   .f 70 {},
   .f 125 {},
   .f 71 {},
   .f 19 {}],dO zzf.2 (by kernel_rfl)⟩
theorem k19:((dh zsm.1 []).fn 19 []).o=some [.one (.bool true)]:=by kernel_rfl
theorem zNi:ay ax zsm.1:=zsm.2
def N0:Nat:=1000000000
theorem bQ:100000 < N0:=by decide
abbrev d23:E23:=⟨N0⟩
def D23:=F23 d23
theorem zNl:Ok ax 23 (ae.un D23):=o23 d23
theorem zNm:Q23 D23:=s23 (E:=d23) bQ
abbrev d73:E73:=⟨N0⟩
def D73:=F73 d73
theorem zf0:Ok ax 73 (ae.un D73):=o73 d73
theorem zf1:yX D73:=s73 (E:=d73)
abbrev zso:Y7:=⟨N0,D73⟩
def zsp:=zh2 zso
theorem zzg:Ok ax 174 (ae.un zsp):=zED zso zf0
theorem zzh:zpd zsp:=zFI (E:=zso) zf1
abbrev zsq:UA:=⟨N0,D73⟩
def zsr:=zh3 zsq
theorem zzi:Ok ax 175 (ae.un zsr):=zEF zsq zf0
theorem zzj:zpe zsr:=zFJ (E:=zsq) bQ zf1
abbrev zss:Jo:=⟨N0,D73,zsp,zsr⟩
def zst:=zhY zss
theorem zzk:Ok ax 124 (ae.un zst):=zEv zss zf0 zzg zzi
theorem zzl:zpf zst:=zFK (E:=zss) bQ zf1 zzh zzj
abbrev d61:E61:=⟨N0,D73,zst⟩
def D61:=F61 d61
theorem zNq:Ok ax 61 (ae.un D61):=o61 d61 zf0 zzk
theorem zNr:QSe D61:=s61 (E:=d61) bQ zf1 zzl
abbrev d86:E86:=⟨N0⟩
def D86:=F86 d86
theorem zzm:Ok ax 86 (ae.un D86):=o86 d86
theorem zzn:yX D86:=s86 (E:=d86)
abbrev d62:E62:=⟨N0,D86⟩
def D62:=F62 d62
theorem zNv:Ok ax 62 (ae.un D62):=o62 d62 zzm
theorem zNw:Q62 D62:=s62 (E:=d62) zzn
abbrev zsu:Ux:=⟨N0⟩
def zkU:=zh0 zsu
theorem zmU:Ok ax 137 (ae.un zkU):=zEy zsu
theorem zmV:ziw zkU:=zFT (E:=zsu) bQ
abbrev zsv:Uy:=⟨N0,D73,zkU⟩
def zsw:=zh1 zsv
theorem zzo:Ok ax 143 (ae.un zsw):=zEz zsv zf0 zmU
theorem zzp:zpk zsw:=zFU (E:=zsv) bQ zf1 zmV
abbrev d85:E85:=⟨N0,zsw⟩
def D85:=F85 d85
theorem zNz:Ok ax 85 (ae.un D85):=o85 d85 zzo
theorem zNA:Q85 D85:=s85 (E:=d85) bQ zzp
abbrev d26:E26:=⟨N0,D61,D62,D85⟩
def D26:=F26 d26
theorem zND:Ok ax 26 (ae.un D26):=o26 d26 zNq zNv zNz
theorem zNE:Q26 D26:=s26 (E:=d26) zNr zNw zNA
abbrev d87:E87:=⟨N0⟩
def D87:=F87 d87
theorem zzq:Ok ax 87 (ae.un D87):=o87 d87
theorem zzr:Q87 D87:=s87 (E:=d87) bQ
abbrev zsx:Qs:=⟨N0⟩
def zsy:=zhZ zsx
theorem zzs:Ok ax 135 (ae.un zsy):=zEx zsx
theorem zzt:zpm zsy:=zFY (E:=zsx) bQ
abbrev d75:E75:=⟨N0,zsy⟩
def D75:=F75 d75
theorem zzu:Ok ax 75 (ae.un D75):=o75 d75 zzs
theorem zzv:Q75 D75:=s75 (E:=d75) zzt
abbrev zsz:zak:=⟨N0⟩
def zf2:=zj1 zsz
theorem zzw:Ok ax 227 (ae.un zf2):=zJD zsz
theorem zzx:zrL zf2:=zLw (E:=zsz)
abbrev d65:E65:=⟨N0,D75⟩
def D65:=F65 d65
theorem zzy:Ok ax 65 (ae.un D65):=o65 d65 zzu
theorem zzz:Q65 D65:=s65 (E:=d65) bQ zzv
abbrev zsA:U6:=⟨N0⟩
def zf3:=zi8 zsA
theorem zf4:Ok ax 149 (ae.un zf3):=zHo zsA
theorem zf5:zfs zf3:=zKT (E:=zsA) bQ
abbrev zsB:Vk:=⟨N0⟩
def zkV:=zjG zsB
theorem zmW:Ok ax 193 (ae.un zkV):=zIQ zsB
theorem zmX:zks zkV:=zKU (E:=zsB) bQ
abbrev zsC:zat:=⟨N0⟩
def zsD:=zj8 zsC
theorem zzA:Ok ax 247 (ae.un zsD):=zJ2 zsC
theorem zzB:zq9 zsD:=zKY (E:=zsC)
abbrev zsE:UW:=⟨N0⟩
def zkW:=ziT zsE
theorem zmY:Ok ax 125 (ae.un zkW):=zGE zsE
theorem zmZ:Vw zkW:=zKl (E:=zsE) bQ
abbrev d71:E71:=⟨N0,zkW⟩
def D71:=F71 d71
theorem zsF:Ok ax 71 (ae.un D71):=o71 d71 zmY
theorem zsG:Hq D71:=s71 (E:=d71) zmZ
abbrev d55:E55:=⟨N0,D71⟩
def D55:=F55 d55
theorem zNL:Ok ax 55 (ae.un D55):=o55 d55 zsF
theorem zNM:Q55 D55:=s55 (E:=d55) zsG
abbrev zsH:NG:=⟨N0,zsD,D55⟩
def zsI:=zjX zsH
theorem zzD:Ok ax 225 (ae.un zsI):=zJw zsH zzA zNL
theorem zzE:zrj zsI:=zK2 (E:=zsH) bQ zzB zNM
abbrev zsJ:ZQ:=⟨N0⟩
def zkX:=zjm zsJ
theorem zm0:Ok ax 166 (ae.un zkX):=zH1 zsJ
theorem zm1:zkt zkX:=zKV (E:=zsJ)
abbrev zsK:Zu:=⟨N0,zkX⟩
def zsL:=ziO zsK
theorem zzF:Ok ax 116 (ae.un zsL):=zGz zsK zm0
theorem zzG:zq8 zsL:=zKW (E:=zsK) zm1
abbrev d57:E57:=⟨N0,zsL⟩
def D57:=F57 d57
theorem zNP:Ok ax 57 (ae.un D57):=o57 d57 zzF
theorem zNQ:Q57 D57:=s57 (E:=d57) bQ zzG
abbrev zsM:Vt:=⟨N0,zkX⟩
def zsN:=zj9 zsM
theorem zzH:Ok ax 248 (ae.un zsN):=zJ3 zsM zm0
theorem zzI:zrk zsN:=zK3 (E:=zsM) bQ zm1
abbrev d56:E56:=⟨N0⟩
def D56:=F56 d56
theorem zzJ:Ok ax 56 (ae.un D56):=o56 d56
theorem zzK:Q56 D56:=s56 (E:=d56)
abbrev zsO:zaj:=⟨N0,zsN,D56⟩
def zsP:=zjZ zsO
theorem zzL:Ok ax 226 (ae.un zsP):=zJA zsO zzH zzJ
theorem zzM:zrl zsP:=zK4 (E:=zsO) zzI zzK
abbrev zsQ:Jq:=⟨N0,zsI,D57,zsP⟩
def zkY:=zjH zsQ
theorem zm2:Ok ax 194 (ae.un zkY):=zIS zsQ zzD zNP zzL
theorem zm3:zkC zkY:=zK5 (E:=zsQ) bQ zzE zNQ zzM
abbrev zsR:ZG:=⟨N0,zf3,zkV,zkY⟩
def zsS:=zi5 zsR
theorem zzN:Ok ax 145 (ae.un zsS):=zHi zsR zf4 zmW zm2
theorem zzO:zrm zsS:=zK6 (E:=zsR) zf5 zmX zm3
abbrev zsU:U5:=⟨N0⟩
def zsV:=zi7 zsU
theorem zzQ:Ok ax 148 (ae.un zsV):=zHm zsU
theorem zzR:zrE zsV:=zLm (E:=zsU) bQ
abbrev d74:E74:=⟨N0⟩
def D74:=F74 d74
theorem zNU:Ok ax 74 (ae.un D74):=o74 d74
theorem zNV:Q74 D74:=s74 (E:=d74)
abbrev zsW:U4:=⟨N0,D74⟩
def zsX:=zi6 zsW
theorem zzS:Ok ax 147 (ae.un zsX):=zHk zsW zNU
theorem zzT:zrB zsX:=zLi (E:=zsW) bQ zNV
abbrev d90:E90:=⟨N0,zsV,zsX⟩
def D90:=F90 d90
theorem zNY:Ok ax 90 (ae.un D90):=o90 d90 zzQ zzS
theorem zNZ:Q90 D90:=s90 (E:=d90) zzR zzT
abbrev zsY:Z9:=⟨N0,D65,zsS,D90⟩
def zaK:=zjJ zsY
theorem zm4:Ok ax 196 (ae.un zaK):=zIX zsY zzy zzN zNY
theorem zm5:zkD zaK:=zLp (E:=zsY) zzz zzO zNZ
def zaL : Nat → (au × (Sl bz) × ai × Int) × Sl ai → ae (Sl ai)
  | 0=>λ _=>.no
  | n+1=>zjI ⟨N0,D87,D75,zf2,zaK,(zaL n)⟩
theorem zm6 : ∀ n, dX ax 195 (.grow 43 3 56 (ae.unW (zaL n)))
  | 0=>λ w h base az vs v n get m jy hh=>by
    obtain⟨_,h2⟩:=ae.chk_o hh;cases h2
  | n+1=>zIT ⟨N0,D87,D75,zf2,zaK,(zaL n)⟩ zzq zzu zzw zm4 (zm6 n)
theorem zm7 : ∀ n, QW n (zaL n)
  | 0=>λ s l x t c i w he hv hc ht hf=>absurd hf (by have:=hv.le;omega)
  | n+1=>zLx (E:=⟨N0,D87,D75,zf2,zaK,(zaL n)⟩) bQ zzr zzv zzx zm5 (zm7 n)
abbrev zsZ:ZI:=⟨N0,(zaL 30)⟩
def zs3:=zjd zsZ
theorem zzU:Ok ax 153 (ae.un zs3):=zHy zsZ (zm6 30)
theorem zzV:zrM zs3:=zLy (E:=zsZ) (zm7 30)
abbrev d76:E76:=⟨N0,zkW,D71⟩
def D76:=F76 d76
theorem zN2:Ok ax 76 (ae.un D76):=o76 d76 zmY zsF
theorem zN3:Q76 D76:=s76 (E:=d76) zmZ zsG
abbrev zs4:QI:=⟨N0,zf3,zkV,D71,zkY,D76,D56⟩
def zs5:=zi9 zs4
theorem zzW:Ok ax 150 (ae.un zs5):=zHp zs4 zf4 zmW zsF zm2 zN2 zzJ
theorem zzX:zse zs5:=zL4 (E:=zs4) bQ zf5 zmX zsG zm3 zN3 zzK
abbrev zs6:ZH:=⟨N0⟩
def zs7:=zjb zs6
theorem zzY:Ok ax 151 (ae.un zs7):=zHu zs6
theorem zzZ:zsf zs7:=zL5 (E:=zs6)
abbrev zs8:ZE:=⟨N0⟩
def zs9:=zi2 zs8
theorem zz0:Ok ax 136 (ae.un zs9):=zG8 zs8
theorem zz1:zsg zs9:=zL6 (E:=zs8)
abbrev d77:E77:=⟨N0,zs9,zkU⟩
def D77:=F77 d77
theorem zN6:Ok ax 77 (ae.un D77):=o77 d77 zz0 zmU
theorem zN7:Q77 D77:=s77 (E:=d77) bQ zz1 zmV
abbrev d91:E91:=⟨N0,D65,D87,zf3,zs5,zs7,D86,D77⟩
def D91:=F91 d91
theorem zOa:Ok ax 91 (ae.un D91):=o91 d91 zzy zzq zf4 zzW zzY zzm zN6
theorem zOb:Q91 D91:=s91 (E:=d91) bQ zzz zzr zf5 zzX zzZ zzn zN7
abbrev zta:ZJ:=⟨N0,zaK,D91⟩
def ztb:=zje zta
theorem zz2:Ok ax 154 (ae.un ztb):=zHB zta zm4 zOa
theorem zz3:zsh ztb:=zL9 (E:=zta) zm5 zOb
abbrev d94:E94:=⟨N0,zs3,ztb⟩
def D94:=F94 d94
theorem zOe:Ok ax 94 (ae.un D94):=o94 d94 zzU zz2
theorem zOf:Q94 D94:=s94 (E:=d94) bQ zzV zz3
abbrev d53:E53:=⟨N0⟩
def D53:=F53 d53
theorem zz4:Ok ax 53 (ae.un D53):=o53 d53
theorem zz5:Q53 D53:=s53 (E:=d53) bQ
abbrev d38:E38:=⟨N0⟩
def D38:=F38 d38
theorem zOj:Ok ax 38 (ae.un D38):=o38 d38
theorem zOk:zaG D38:=s38 (E:=d38) bQ
abbrev ztc:ZF:=⟨N0,D38⟩
def ztd:=zi4 ztc
theorem zz6:Ok ax 144 (ae.un ztd):=zHe ztc zOj
theorem zz7:zsi ztd:=zMa (E:=ztc) zOk
abbrev d88:E88:=⟨N0,D94,D53,ztd⟩
def D88:=F88 d88
theorem zOn:dX ax 88 (.mkv 43 3 56 (ae.unV D88)):=o88 d88 zOe zz4 zz6
theorem zOo:Q88 D88:=s88 (E:=d88) bQ zOf zz5 zz7
abbrev d28:E28:=⟨N0,D88⟩
def D28:=F28 d28
theorem zOr:Ok ax 28 (ae.un D28):=o28 d28 zOn
theorem zOs:Q28 D28:=s28 (E:=d28) zOo
abbrev d17:E17:=⟨N0,D23,D26,D28⟩
def D17:=F17 d17
theorem zOv:Ok ax 17 (ae.un D17):=o17 d17 zNl zND zOr
theorem zOw:Q17 D17:=s17 (E:=d17) zNm zNE zOs
def D19:Unit->ae Bool:=λ _=>.ok true
theorem zOy:Q19 D19:=rfl
theorem zOz:Ok ax 19 (ae.un D19):=λ args rs hr w h0 vs hvs hw=>by
 obtain⟨h1,h2⟩:=ae.chk_o hr;cases args with
 | nil =>
  cases ae.ok_o h2;exact (zNi.all []).fn 19 [] _ k19 w h0 vs hvs hw
 | cons=>cases h1
abbrev zte:Zd:=⟨N0⟩
def Oj:=zib zte
theorem Ig:Ok ax 161 (ae.un Oj):=zFa zte
theorem Ih:yX Oj:=zFH (E:=zte)
abbrev ztf:Ze:=⟨N0,Oj⟩
def zkZ:=zid ztf
theorem zm8:Ok ax 164 (ae.un zkZ):=zFf ztf Ig
theorem zm9:ziv zkZ:=zFL (E:=ztf) Ih
abbrev ztg:Zh:=⟨N0,Oj,zkZ⟩
def zth:=zin ztg
theorem zz8:Ok ax 235 (ae.un zth):=zFs ztg Ig zm8
theorem zz9:zpg zth:=zFM (E:=ztg) Ih zm9
abbrev zti:Zf:=⟨N0⟩
def ztj:=zik zti
theorem zAa:Ok ax 232 (ae.un ztj):=zFk zti
theorem zAb:Zn ztj:=zFN (E:=zti)
abbrev ztk:UG:=⟨N0,Oj⟩
def ztl:=zil ztk
theorem zAc:Ok ax 233 (ae.un ztl):=zFl ztk Ig
theorem zAd:zph ztl:=zFP (E:=ztk) bQ Ih
abbrev ztm:Zg:=⟨N0⟩
def ztn:=zim ztm
theorem zAe:Ok ax 234 (ae.un ztn):=zFo ztm
theorem zAf:Zn ztn:=zFO (E:=ztm)
abbrev zto:Qw:=⟨N0,Oj,zth,ztj,ztl,ztn⟩
def ztp:=zie zto
theorem zAg:Ok ax 201 (ae.un ztp):=zFh zto Ig zz8 zAa zAc zAe
theorem zAh:zpi ztp:=zFQ (E:=zto) bQ Ih zz9 zAb zAd zAf
abbrev ztq:UE:=⟨N0,ztp,Oj⟩
def zaM:=zic ztq
theorem Ya:Ok ax 160 (ae.un zaM):=zFb ztq zAg Ig
theorem Yb:QSe zaM:=zFR (E:=ztq) bQ zAh Ih
abbrev ztr:Y9:=⟨N0,zaM⟩
def zts:=zh6 ztr
theorem zAi:Ok ax 122 (ae.un zts):=zET ztr Ya
theorem zAj:zpj zts:=zFS (E:=ztr) Yb
abbrev ztt:Za:=⟨N0⟩
def ztu:=zh7 ztt
theorem zAk:Ok ax 123 (ae.un ztu):=zEX ztt
theorem zAl:yX ztu:=zFG (E:=ztt)
abbrev d60:E60:=⟨N0,zts,ztu⟩
def D60:=F60 d60
theorem zOC:Ok ax 60 (ae.un D60):=o60 d60 zAi zAk
theorem zOD:Q60 D60:=s60 (E:=d60) zAj zAl
abbrev ztv:UD:=⟨N0,Oj⟩
def zaN:=zia ztv
theorem Yc:Ok ax 112 (ae.un zaN):=zE7 ztv Ig
theorem Yd:Zo zaN:=zFV (E:=ztv) bQ Ih
abbrev ztw:Zi:=⟨N0,zaM,zaN⟩
def zk0:=zio ztw
theorem zna:Ok ax 188 (ae.un zk0):=zFw ztw Ya Yc
theorem znb:zix zk0:=zFW (E:=ztw) Yb Yd
abbrev ztx:Zb:=⟨N0,zk0⟩
def zty:=zh8 ztx
theorem zAm:Ok ax 138 (ae.un zty):=zE1 ztx zna
theorem zAn:zpl zty:=zFX (E:=ztx) znb
abbrev ztz:Zk:=⟨N0⟩
def ztA:=zir ztz
theorem zAo:Ok ax 223 (ae.un ztA):=zFC ztz
theorem zAp:zpp ztA:=zF2 (E:=ztz)
abbrev ztB:Qz:=⟨N0⟩
def ztC:=zpc ztB
theorem zAq:qx ax 251 (ae.unI ztC):=zFF ztB
theorem zAr:zpn ztC:=zFZ (E:=ztB) bQ
abbrev ztD:Qy:=⟨N0,ztC⟩
def ztE:=zis ztD
theorem zAs:Ok ax 224 (ae.un ztE):=zFD ztD zAq
theorem zAt:zpo ztE:=zF0 (E:=ztD) bQ zAr
abbrev ztF:Zj:=⟨N0,ztA,ztE⟩
def ztG:=ziq ztF
theorem zAu:Ok ax 189 (ae.un ztG):=zFz ztF zAo zAs
theorem zAv:zpq ztG:=zF3 (E:=ztF) zAp zAt
abbrev ztH:Zc:=⟨N0,zk0,zaN,ztG⟩
def ztI:=zh9 ztH
theorem zAw:Ok ax 139 (ae.un ztI):=zE5 ztH zna Yc zAu
theorem zAx:zpr ztI:=zF4 (E:=ztH) znb Yd zAv
abbrev d78:E78:=⟨N0,D60,zty,ztI⟩
def D78:=F78 d78
theorem zOG:Ok ax 78 (ae.unA D78):=o78 d78 zOC zAm zAw
theorem zOH:Q78 D78:=s78 (E:=d78) bQ zOD zAn zAx
abbrev ztJ:Vf:=⟨N0⟩
def ztK:=zjt ztJ
theorem zAy:Ok ax 176 (ae.un ztK):=zIk ztJ
theorem zAz:zr9 ztK:=zLY (E:=ztJ) bQ
abbrev ztL:Zw:=⟨N0,ztK⟩
def ztM:=ziU ztL
theorem zAA:Ok ax 126 (ae.un ztM):=zGH ztL zAy
theorem zAB:zsa ztM:=zLZ (E:=ztL) zAz
abbrev ztN:ZY:=⟨N0⟩
def ztO:=zjx ztN
theorem zAC:Ok ax 180 (ae.un ztO):=zIs ztN
theorem zAD:zrG ztO:=zLq (E:=ztN)
abbrev ztP:Z5:=⟨N0⟩
def ztQ:=zjD ztP
theorem zAE:Ok ax 190 (ae.un ztQ):=zIG ztP
theorem zAF:zrH ztQ:=zLr (E:=ztP)
abbrev Ii:og:=⟨N0,ztO⟩
def Ij:=zA Ii
theorem zaO:Ok ax 210 (ae.un Ij):=zeQ Ii zAC
theorem zaP:QUx .inl Ij:=zfD (E:=Ii) bQ zAD
abbrev Ik:oh:=⟨N0,ztQ⟩
def Il:=zB Ik
theorem zaQ:Ok ax 210 (ae.un Il):=zeS Ik zAE
theorem zaR:QUx .inr Il:=zfE (E:=Ik) bQ zAF
def zk1:=ae.two Ij Il
theorem znc:Ok ax 210 (ae.un zk1):=uV zaO zaQ
theorem znd:zkF zk1:=zLs zaP zaR
abbrev Io:qR:=⟨N0,zk1⟩
def Ip:=zo Io
theorem zaS:Ok ax 179 (ae.un Ip):=zen Io znc
theorem zaT:QUa .inl Ip:=zfF (E:=Io) znd
abbrev Iq:qU:=⟨N0,zk1⟩
def Ir:=zq Iq
theorem zaU:Ok ax 179 (ae.un Ir):=zer Iq znc
theorem zaV:QUa .inr Ir:=zfG (E:=Iq) znd
def zaW:=ae.two Ip Ir
theorem zne:Ok ax 179 (ae.un zaW):=uV zaS zaU
theorem znf:zkG zaW:=zLt zaT zaV
abbrev ztR:UM:=⟨N0,zaM,zaN⟩
def ztS:=ziJ ztR
theorem zAG:Ok ax 111 (ae.un ztS):=o111 ztR Ya Yc
theorem zAH:zrC ztS:=zLj (E:=ztR) bQ Yb Yd
abbrev ztT:Zr:=⟨N0⟩
def ztU:=ziK ztT
theorem zAI:Ok ax 113 (ae.un ztU):=zGq ztT
theorem zAJ:zrA ztU:=zLg (E:=ztT)
abbrev d50:E50:=⟨N0,ztS,zaN,ztU⟩
def D50:=F50 d50
theorem zOK:Ok ax 50 (ae.un D50):=o50 d50 zAG Yc zAI
theorem zOL:Q50 D50:=s50 (E:=d50) bQ zAH Yd zAJ
abbrev d93:E93:=⟨N0,D50⟩
def D93:=F93 d93
theorem zOO:Ok ax 93 (ae.un D93):=o93 d93 zOK
theorem zOP:Q93 D93:=s93 (E:=d93) bQ zOL
abbrev ztV:UB:=⟨N0⟩
def zk2:=zh4 ztV
theorem zng:Ok ax 105 (ae.un zk2):=zEJ ztV
theorem znh:ziB zk2:=zGb (E:=ztV) bQ
abbrev ztW:ZL:=⟨N0⟩
def zaX:=zjg ztW
theorem Ye [aJ]:Ok ax 157 (ae.un zaX):=zHK ztW
theorem Yf:yX zaX:=zKn (E:=ztW)
abbrev ztX:ZK:=⟨N0,zaX⟩
def ztY:=zjf ztX
theorem zAK:Ok ax 156 (ae.un ztY):=zHG ztX Ye
theorem zAL:zqP ztY:=zKq (E:=ztX) Yf
abbrev ztZ:UL:=⟨N0,ztY,zaX⟩
def zk3:=ziI ztZ
theorem zni:Ok ax 109 (ae.un zk3):=zGl ztZ zAK Ye
theorem znj:zkf zk3:=zKr (E:=ztZ) bQ zAL Yf
abbrev zt0:zae:=⟨N0⟩
def zt1:=zjQ zt0
theorem zAM [aJ]:Ok ax 207 (ae.un zt1):=zJk zt0
theorem zAN:zqT zt1:=zKv (E:=zt0)
abbrev zt2:zao:=⟨N0,zaX⟩
def zt3:=zj4 zt2
theorem zAO [aJ]:Ok ax 231 (ae.un zt3):=zJN zt2 Ye
theorem zAP:zqQ zt3:=zKs (E:=zt2) Yf
abbrev zt4:zan:=⟨N0,zt3⟩
def zt5:=zj3 zt4
theorem zAQ [aJ]:Ok ax 230 (ae.un zt5):=zJK zt4 zAO
theorem zAR:zqR zt5:=zKt (E:=zt4) zAP
abbrev zt6:zax:=⟨N0⟩
def zt7:=zke zt6
theorem zAS [aJ]:Ok ax 257 (ae.un zt7):=zKj zt6
theorem zAT:zqS zt7:=zKu (E:=zt6)
abbrev Iu:oq:=⟨N0,zt1⟩
def Iw:=zC Iu
theorem zaY [aJ]:Ok ax 238 (ae.un Iw):=zeY Iu zAM
theorem zaZ:QIx .inl Iw:=zfa (E:=Iu) bQ zAN
abbrev Iy:ou:=⟨N0,zt5⟩
def Iz:=zD Iy
theorem za0 [aJ]:Ok ax 238 (ae.un Iz):=ze0 Iy zAQ
theorem za1:QIx (λ c=>.inr (.inl c)) Iz:=zfb (E:=Iy) bQ zAR
abbrev IA:oz:=⟨N0,zt7⟩
def IB:=zF IA
theorem za2 [aJ]:Ok ax 238 (ae.un IB):=ze2 IA zAS
theorem za3:QIx (λ c=>.inr (.inr c)) IB:=zfc (E:=IA) bQ zAT
def zf6:=ae.two Iw (ae.two Iz IB)
theorem zf7 [aJ]:Ok ax 238 (ae.un zf6):=uV zaY (uV za0 za2)
theorem zf8:ze9 zf6:=zKw zaZ za1 za3
abbrev IC:qV:=⟨N0,zf6⟩
def IE:=zu IC
theorem za4 [aJ]:Ok ax 206 (ae.un IE):=zeG IC zf7
theorem za5:Jt .inl IE:=zfd (E:=IC) zf8
abbrev IG:qW:=⟨N0,zf6⟩
def II:=zx IG
theorem za6 [aJ]:Ok ax 206 (ae.un II):=zeK IG zf7
theorem za7:Jt (λ c=>.inr (.inl c)) II:=zfe (E:=IG) zf8
abbrev IJ:qX:=⟨N0,zf6⟩
def IK:=zy IJ
theorem za8 [aJ]:Ok ax 206 (ae.un IK):=zeO IJ zf7
theorem za9:Jt (λ c=>.inr (.inr c)) IK:=zff (E:=IJ) zf8
def zf9:=ae.two IE (ae.two II IK)
theorem zga [aJ]:Ok ax 206 (ae.un zf9):=uV za4 (uV za6 za8)
theorem zgb:Q9 zf9:=zKx za5 za7 za9
abbrev zt8:ZR:=⟨N0,zf9⟩
def VK:=zjn zt8
theorem Sj:Ok ax 167 (ae.un VK):=zH4 zt8 zga
theorem Su:Vx VK:=zKz (E:=zt8) zgb
abbrev zt9:Vq:=⟨N0⟩
def zua:=zjS zt9
theorem zAU [aJ]:Ok ax 209 (ae.un zua):=zJo zt9
theorem zAV:Vw zua:=zKk (E:=zt9) bQ
abbrev zue:ZW:=⟨N0,zua⟩
def zba:=zjs zue
theorem Yg [aJ]:Ok ax 172 (ae.un zba):=zIi zue zAU
theorem Yh:Hq zba:=zKm (E:=zue) zAV
abbrev zuf:zaa:=⟨N0,zba⟩
def zk4:=zjK zuf
theorem znk:Ok ax 198 (ae.un zk4):=zI2 zuf Yg
theorem znl:zki zk4:=zKD (E:=zuf) Yh
abbrev zug:zab:=⟨N0,zf9⟩
def zuh:=zjL zug
theorem zAW:Ok ax 199 (ae.un zuh):=zI5 zug zga
theorem zAX:zqU zuh:=zKA (E:=zug) zgb
abbrev zui:zam:=⟨N0⟩
def zuj:=zj2 zui
theorem zAY:Ok ax 229 (ae.un zuj):=zJH zui
theorem zAZ:zqN zuj:=zKo (E:=zui)
abbrev zuk:NH:=⟨N0,zuj⟩
def zul:=zqH zuk
theorem zA1:qx ax 228 (ae.unI zul):=zJE zuk zAY
theorem zA2:zqO zul:=zKp (E:=zuk) bQ zAZ
abbrev zum:Va:=⟨N0,VK,zk4,zuh,zul⟩
def zk5:=zjh zum
theorem znm:Ok ax 158 (ae.un zk5):=zHM zum Sj znk zAW zA1
theorem znn:zkj zk5:=zKE (E:=zum) Su zA2 znl zAX
abbrev zun:Vo:=⟨N0⟩
def zk6:=zjM zun
theorem zno:Ok ax 200 (ae.un zk6):=zI7 zun
theorem znp:zkh zk6:=zKC (E:=zun) bQ
abbrev zuo:ZN:=⟨N0,zk6,VK⟩
def zk7:=zjj zuo
theorem znq:Ok ax 159 (ae.un zk7):=zHR zuo zno Sj
theorem znr:zkl zk7:=zKF (E:=zuo) znp Su
abbrev zup:Zv:=⟨N0⟩
def zuq:=ziP zup
theorem zA3:Ok ax 118 (ae.un zuq):=zGC zup
theorem zA4:zqX zuq:=zKG (E:=zup)
abbrev zur:ZO:=⟨N0⟩
def zus:=zjk zur
theorem zA5:Ok ax 162 (ae.un zus):=zHU zur
theorem zA6:zqY zus:=zKH (E:=zur)
abbrev IL:qO:=⟨N0,zk3,zk5,zk7,VK,zuq⟩
def IM:=zg IL
theorem zbb:Ok ax 117 (ae.un IM):=zdY IL zni znm znq Sj zA3
theorem zbc:QOp .inl IM:=zfi (E:=IL) znj znn znr Su zA4
abbrev IP:qP:=⟨N0,zk3,zk5,zk7,VK,zus⟩
def IQ:=zh IP
theorem zbd:Ok ax 117 (ae.un IQ):=zd2 IP zni znm znq Sj zA5
theorem zbe:QOp .inr IQ:=zfj (E:=IP) znj znn znr Su zA6
def zk8:=ae.two IM IQ
theorem zns:Ok ax 117 (ae.un zk8):=uV zbb zbd
theorem znt:zkm zk8:=zKJ zbc zbe
abbrev zut:zaw:=⟨N0,zf9⟩
def zuu:=zkd zut
theorem zA7 [aJ]:Ok ax 255 (ae.un zuu):=zKg zut zga
theorem zA8:zqV zuu:=zKB (E:=zut) zgb
abbrev zuv:zas:=⟨N0⟩
def zk9:=zj7 zuv
theorem znu [aJ]:Ok ax 239 (ae.un zk9):=zJY zuv
theorem znv:zkp zk9:=zKK (E:=zuv)
abbrev zuw:zaf:=⟨N0,zk9⟩
def zla:=zjR zuw
theorem znw [aJ]:Ok ax 208 (ae.un zla):=zJn zuw znu
theorem znx:VA zla:=zKL (E:=zuw) znv
abbrev zux:ZU:=⟨N0,zla⟩
def zgc:=zjq zux
theorem zgd [aJ]:Ok ax 170 (ae.un zgc):=zIa zux znw
theorem zge:zfm zgc:=zKN (E:=zux) znx
abbrev zuy:zav:=⟨N0,zuu,zba,zgc⟩
def zuz:=zkb zuy
theorem zA9 [aJ]:Ok ax 254 (ae.un zuz):=zKc zuy zA7 Yg zgd
theorem zBa:zq3 zuz:=zKO (E:=zuy) zA8 Yh zge
abbrev zuA:zau:=⟨N0,zuz⟩
def zuB:=zka zuA
theorem zBb:Ok ax 249 (ae.un zuB):=zJ6 zuA zfZ zfW (@zA9 ⟨1⟩)
theorem zBc:zq4 zuB:=zKP (E:=zuA) zBa
abbrev zuC:Vs:=⟨N0,zk8,zuB,zk4⟩
def zuD:=ze3 zuC
theorem zBd:Ok ax 240 (ae.un zuD):=zJZ zuC zns zBb znk
theorem zBe:zq5 zuD:=zKR (E:=zuC) bQ znt zBc znl
abbrev zuE:zah:=⟨N0,zuD⟩
def zuF:=zjT zuE
theorem zBf:Ok ax 211 (ae.un zuF):=zJr zuE zBd
theorem zBg:zq6 zuF:=zKS (E:=zuE) zBe
abbrev zuG:ZZ:=⟨N0,D93,zk2,zuF⟩
def zgf:=zjy zuG
theorem zBh:Ok ax 182 (ae.un zgf):=zIw zuG zOO zng zBf
theorem zBi:zrF zgf:=zLo (E:=zuG) zOP znh zBg
abbrev zuH:Y8:=⟨N0⟩
def zuI:=zh5 zuH
theorem zBj:Ok ax 140 (ae.un zuI):=zEP zuH
theorem zBk:zpu zuI:=zGa (E:=zuH)
abbrev zuJ:Nb:=⟨N0,zuI⟩
def zgg:=zoY zuJ
theorem zBl:qx ax 173 (ae.unI zgg):=zEL zuJ zBj
theorem zBm:zpw zgg:=zGe (E:=zuJ) bQ zBk
def zbf : Nat → ai × Int × Bc 143 (Pt aW) × Bc 38 Int × Bw 30 43 3 56 ai × Bs 255 178 2 4 × Unit → ae ((Unit) × (Unit × Unit × (Pt aW) × Int × Sl ai × Unit × Unit))
  | 0=>λ _=>.no
  | n+1=>zjv ⟨N0,zaW,zgf,zgg,(zbf n)⟩
theorem zny : ∀ n, nJ ax 178 (ae.unM (zbf n))
  | 0=>λ xs ys rs h=>by
    obtain⟨_,h2⟩:=ae.chk_o h;cases h2
  | n+1=>zIm ⟨N0,zaW,zgf,zgg,(zbf n)⟩ zne zBh zBl zfY (zny n)
theorem znz : ∀ n, QM n (zbf n)
  | 0=>λ s l r x t c i w he hv hc ht hf=>absurd hf (by have:=hv.le;omega)
  | n+1=>zLu (E:=⟨N0,zaW,zgf,zgg,(zbf n)⟩) znf zBi zBm (znz n)
abbrev zuK:Zx:=⟨N0,(zbf 30)⟩
def zuL:=ziV zuK
theorem zBn:Ok ax 127 (ae.un zuL):=zGK zuK (zny 30)
theorem zBo:zrK zuL:=zLv (E:=zuK) (znz 30)
abbrev zuM:zad:=⟨N0⟩
def zuN:=zjO zuM
theorem zBp:Ok ax 203 (ae.un zuN):=zJe zuM
theorem zBq:zrn zuN:=zK7 (E:=zuM)
abbrev zuO:zac:=⟨N0,zuN⟩
def zuP:=zjN zuO
theorem zBr:Ok ax 202 (ae.un zuP):=zJb zuO zBp
theorem zBs:zro zuP:=zK8 (E:=zuO) zBq
abbrev zuQ:ZT:=⟨N0,zgc⟩
def zuR:=zjo zuQ
theorem zBt:Ok ax 169 (ae.un zuR):=zH7 zuQ zgd
theorem zBu:zrp zuR:=zK9 (E:=zuQ) zge
abbrev zuS:ZV:=⟨N0,zgc⟩
def zuT:=zjr zuS
theorem zBv:Ok ax 171 (ae.un zuT):=zIe zuS zgd
theorem zBw:zrq zuT:=zLa (E:=zuS) zge
abbrev IR:nX:=⟨N0,zuR⟩
def IU:=zl IR
theorem zbg:Ok ax 168 (ae.un IU):=zef IR zBt
theorem zbh:QEx .inl IU:=zfA (E:=IR) bQ zBu
abbrev IV:nY:=⟨N0,zuT⟩
def IW:=zn IV
theorem zbi:Ok ax 168 (ae.un IW):=zeh IV zBv
theorem zbj:QEx .inr IW:=zfB (E:=IV) bQ zBw
def zuU:=ae.two IU IW
theorem zBx:Ok ax 168 (ae.un zuU):=uV zbg zbi
theorem zBy:zru zuU:=zLb zbh zbj
abbrev zuV:UV:=⟨N0,zuP,zuU,zba⟩
def zuW:=ziQ zuV
theorem zBz:Ok ax 119 (ae.un zuW):=zGD zuV zBr zBx Yg
theorem zBA:zrv zuW:=zLc (E:=zuV) bQ zBs zBy Yh
abbrev zuX:ZP:=⟨N0,VK,zk6,zba,zuW⟩
def zuY:=zjl zuX
theorem zBB:Ok ax 163 (ae.un zuY):=zHY zuX Sj zno Yg zBz
theorem zBC:zrx zuY:=zLe (E:=zuX) Su znp Yh zBA
abbrev zuZ:Zt:=⟨N0,zaX,zk8,zuY⟩
def zu0:=ziL zuZ
theorem zBD:Ok ax 114 (ae.un zu0):=zGu zuZ Ye zns zBB
theorem zBE:zry zu0:=zLf (E:=zuZ) Yf znt zBC
abbrev zu1:Z7:=⟨N0⟩
def zlb:=zjE zu1
theorem znA:Ok ax 191 (ae.un zlb):=zIK zu1
theorem znB:zkL zlb:=zLG (E:=zu1)
abbrev zu3:Z8:=⟨N0,zlb⟩
def zu4:=zjF zu3
theorem zBF:Ok ax 192 (ae.un zu4):=zIO zu3 znA
theorem zBG:zrU zu4:=zLH (E:=zu3) znB
abbrev zu5:zaq:=⟨N0,zk9⟩
def zu6:=zj5 zu5
theorem zBH:Ok ax 236 (ae.un zu6):=zJR zu5 znu
theorem zBI:zrO zu6:=zLA (E:=zu5) znv
abbrev zu7:zar:=⟨N0⟩
def zu8:=zj6 zu7
theorem zBJ:Ok ax 237 (ae.un zu8):=zJU zu7
theorem zBK:zrN zu8:=zLz (E:=zu7)
abbrev zu9:Vp:=⟨N0,zu6,zu8⟩
def zva:=zjP zu9
theorem zBL:Ok ax 205 (ae.un zva):=zJh zu9 zBH zBJ
theorem zBM:zrQ zva:=zLB (E:=zu9) bQ zBI zBK
abbrev zvb:QP:=⟨N0,zva⟩
def zvc:=zqx zvb
theorem zBN:qx ax 204 (ae.unI zvc):=zJf zvb zBL
theorem zBO:zrR zvc:=zLD (E:=zvb) bQ zBM
abbrev zvd:QD:=⟨N0,zaM,Oj,zkZ,zvc⟩
def zve:=ziM zvd
theorem zBP:Ok ax 115 (ae.un zve):=zGv zvd Ya Ig zm8 zBN
theorem zBQ:zrS zve:=zLF (E:=zvd) Yb Ih zm9 zBO
abbrev zvf:UX:=⟨N0,zk2,zaW,zu0,zlb,zu4,zve⟩
def zvg:=zi3 zvf
theorem zBR:Ok ax 141 (ae.un zvg):=zHa zvf zng zne zBD znA zBF zBP
theorem zBS:zrY zvg:=zLJ (E:=zvf) bQ znh znf zBE znB zBG zBQ
abbrev zvh:Zy:=⟨N0,zvg⟩
def zvi:=ziW zvh
theorem zBT:Ok ax 129 (ae.un zvi):=zGN zvh zBR
theorem zBU:zrZ zvi:=zLK (E:=zvh) zBS
abbrev zvj:U8:=⟨N0⟩
def zvk:=zjc zvj
theorem zBV:Ok ax 152 (ae.un zvk):=zHv zvj
theorem zBW:zr0 zvk:=zLL (E:=zvj) bQ
abbrev d92:E92:=⟨N0,zvk⟩
def D92:=F92 d92
theorem zOS:Ok ax 92 (ae.un D92):=o92 d92 zBV
theorem zOT:Q92 D92:=s92 (E:=d92) bQ zBW
abbrev zvl:ZB:=⟨N0,D92⟩
def zvm:=ziZ zvl
theorem zBX:Ok ax 132 (ae.un zvm):=zGZ zvl zOS
theorem zBY:zr1 zvm:=zLN (E:=zvl) zOT
abbrev d97:E97:=⟨N0,zvm⟩
def D97:=F97 d97
theorem zOW:Ok ax 97 (ae.un D97):=o97 d97 zBX
theorem zOX:Q97 D97:=s97 (E:=d97) bQ zBY
abbrev zvn:ZA:=⟨N0,D97⟩
def zvo:=ziY zvn
theorem zBZ:Ok ax 131 (ae.un zvo):=zGV zvn zOW
theorem zB1:zr2 zvo:=zLP (E:=zvn) zOX
abbrev zvp:Zz:=⟨N0,zvo⟩
def zvq:=ziX zvp
theorem zB2:Ok ax 130 (ae.un zvq):=zGR zvp zBZ
theorem zB3:zr3 zvq:=zLQ (E:=zvp) zB1
abbrev IX:nS:=⟨N0,zvi⟩
def IY:=zi IX
theorem zbk:dX ax 128 (.mkv 43 3 56 (ae.unV IY)):=zd5 IX zBT
theorem zbl:QFi .inl IY:=zfO (E:=IX) bQ zBU
abbrev IZ:nU:=⟨N0,zvq⟩
def I4:=zk IZ
theorem zbm:dX ax 128 (.mkv 43 3 56 (ae.unV I4)):=zd7 IZ zB2
theorem zbn:QFi .inr I4:=zfP (E:=IZ) bQ zB3
def zvr:=ae.two IY I4
theorem zB4:dX ax 128 (.mkv 43 3 56 (ae.unV zvr)):=zhR zbk zbm
theorem zB5:zr5 zvr:=zLR zbl zbn
abbrev zvs:zai:=⟨N0⟩
def zvt:=zjU zvs
theorem zB6 [aJ]:Ok ax 222 (ae.un zvt):=zJu zvs
theorem zB7:zr6 zvt:=zLS (E:=zvs)
abbrev zvu:Z4:=⟨N0,zvt⟩
def zvv:=zjA zvu
theorem zB8 [aJ]:Ok ax 186 (ae.un zvv):=zIC zvu zB6
theorem zB9:VA zvv:=zLT (E:=zvu) zB7
abbrev zvw:Vj:=⟨N0,zla⟩
def zvx:=zjC zvw
theorem zCa [aJ]:Ok ax 187 (ae.un zvx):=zID zvw znw
theorem zCb:zaG zvx:=zLU (E:=zvw) bQ znx
abbrev zvy:Vh:=⟨N0⟩
def zvz:=zjz zvy
theorem zCc [aJ]:Ok ax 185 (ae.un zvz):=zIy zvy
theorem zCd:zr7 zvz:=zLW (E:=zvy) bQ
abbrev zvA:ZC:=⟨N0,zvv,zvx,zvz⟩
def zvB:=zi0 zvA
theorem zCe [aJ]:Ok ax 134 (ae.un zvB):=zG4 zvA zB8 zCa zCc
theorem zCf:zr8 zvB:=zLX (E:=zvA) zB9 zCb zCd
abbrev d72:E72:=⟨N0,D78,ztM,zuL,zvr,zvB⟩
def D72:=F72 d72
theorem zO0:Ok ax 72 (ae.unA D72):=o72 d72 zOG zAA zBn zB4 zfX (@zCe ⟨1⟩)
theorem zO1:Q72 D72:=s72 (E:=d72) zOH zAB zBo zB5 zCf
abbrev d20:E20:=⟨N0,D72⟩
def D20:=F20 d20
theorem zO4:Ok ax 20 (ae.un D20):=o20 d20 zO0
theorem zO5:Q20 D20:=s20 (E:=d20) zO1
abbrev d46:E46:=⟨N0,D53⟩
def D46:=F46 d46
theorem zO8:Ok ax 46 (ae.un D46):=o46 d46 zz4
theorem zO9:Q46 D46:=s46 (E:=d46) bQ zz5
abbrev d10:E10:=⟨N0,D17,D19,D20,D46⟩
def D10:=F10 d10
theorem zPa:Ok ax 10 (ae.un D10):=o10 d10 zOv zOz zO4 zO8
theorem zPb:Q10 D10:=s10 (E:=d10) zOw zOy zO5 zO9
theorem zPc {δ ρ:Type} [dw δ] [dw ρ] {F:δ->ae ρ}{a:δ}{r:ρ}(hc:dw.ck (α:=δ) (dw.enc a)=true) (hd:dw.dec (dw.enc a)=a) (h:F a=.ok r):(ae.un F (dw.enc a)).o=some (dw.enc r):=by
 unfold ae.un;rw[hc,hd,h];rfl
end Go.Proofs
namespace Go.Proofs.YtjkijdhdbhooiaaGreat
set_option maxRecDepth 100000
def dc : Nat → Nat → List Char
  | 0,_=>[]
  | k+1,n=>Char.ofNat (n % 128) :: dc k (n / 128)
def ioR:List (List Char):=[dc 2 14945,dc 35 45019731839301669745199096094014757347713743838262223150477152386253683567,dc 34 420377978748125055740877229337914779690535202023532228586777341826005871,dc 36 6550971710285934913754052784167232504664614938228495552548125985273808517999,dc 37 729461727561750118551056160028214191605660185564422184735309847620634057210735,dc 37 830772752598413053766828580736873493486916948856955428203985110704856283839343,dc 37 846039670449084468774387244088358248202427724899131661281249209823569867537263,dc 35 51179294023049743501667742572912222775214732381401055866039370168307121007,dc 35 45009296865569399087797946188323693179256993798839364341239407728733551471,dc 37 830780268438003779521215029671213750534782202343527674838098051362097095867247,dc 38 107331119686939743456630664922862568562027744964707129139922504835010957783169903,dc 36 6550077393460720109370983476171913501904522994409179701070095258754267839343,dc 35 48939868791262458989610581110577656928740303271215203627173391395041409903,dc 37 838349406564167396116242431067385471964016398604997842927764345145510690650991,dc 37 838349393033854787123352198492273111221406595137993776056015629414144918780783]
def ioN:List Char:=dc 599 149771092015852491278000662115128137748269599194581860494294778261301651447965370062645304741743729477171988600934799727326517975522812478602000462062741437383719700469441320225746001460657778919864702789185877727655633384756976915120483667267389003774318074344898749855352565971438052119468579606834274369754786466833197740569138863177439610707078849369185453345527529660045569842755503891534211525146045868530953689090964949867816695296345068916719713389224171554417522039179151544735265211004436216097918169509036553218766076260083794299680425243321104884652801756935939016856612808890681403713245564864003766772582403997404693715256366145143767382394449050497631406600169134111017758420705379181155399036702826495772349138224361597591141153214596847427732622443000331392581117708063194127217598752738628016573330186096707239904130243791293223266344009164320459711360917953739697093488615153066332379337541176729581439867139231308816545570621442575900426155419574959597509166851618974720944858788987333755451277637880095378589630688375170213056367090535571658338605777263539845461211124236505614769845380929544309814139208243656161387198222242061066521483984326294839656717673867435632142724742576645662295495695963786797012817486377421718128934313825440411880
theorem ioS:Tryz.prog.initOrder=String.ofList ioN:=by kernel_rfl
theorem ioL:Tryz.prog.initOrder.toList=ioN:=(congrArg String.toList ioS).trans String.toList_ofList
theorem ioW:wordsSigns Tryz.prog.initOrder.toList=(dc 7 509754063237352) :: (dc 64 572163061260696105970074307196347989822506933787247010369012457204266251338368704666046318255463753418979972205211827874765770452792118) :: (dc 3 1915619) :: ioR:=(congrArg wordsSigns ioL).trans (by kernel_rfl)
theorem ioB:behindMainWord (wordsSigns Tryz.prog.initOrder.toList)=(dc 3 1915619) :: ioR:=(congrArg behindMainWord ioW).trans (by kernel_rfl)
theorem Ol {P : Program} {l : List (List Char)} (h : behindMainWord (wordsSigns P.initOrder.toList) = l) : P.headLifts = (if (stripLifts liftWords l).2.head? == some "cut".toList then (stripLifts liftWords l).1 else []) := by subst h; rfl
theorem zlc {P:Program}{rest:List (List Char)}(h:behindMainWord (wordsSigns P.initOrder.toList)=(dc 3 1915619) :: rest):P.make=some .cut:=by unfold Program.make;rw[h];rfl
theorem zgh {P:Program}{rest:List (List Char)}(h:behindMainWord (wordsSigns P.initOrder.toList)=(dc 3 1915619) :: rest) (hl:P.headLifts=[]):P.liftsFinal=false:=by unfold Program.liftsFinal;rw[h,hl];rfl
theorem zgi {P : Program} {c : List Char} {rest : List (List Char)} (h : behindMainWord (wordsSigns P.initOrder.toList) = c :: rest) (hst : (stripLifts liftWords (c :: rest)).2.head? = some "cut".toList)
    (hs1:(stripLifts liftWords (c :: rest)).1=[]) (zPd:P.laysLater=false) (hb:P.bearsReflect=false) (hd:P.doorFits []=true):P.mayEnter=true:=by
  unfold Program.mayEnter;rw[h];simp[hst,hs1,zPd,hb,hd]
theorem ioH:Tryz.prog.headLifts=[]:=(Ol ioB).trans (by kernel_rfl)
theorem ioK:Tryz.prog.make=some .cut:=zlc ioB
theorem ioF:Tryz.prog.liftsFinal=false:=zgh ioB ioH
theorem ioE:Tryz.prog.mayEnter=true:=zgi ioB (by kernel_rfl) (by kernel_rfl) (by kernel_rfl) (by kernel_rfl) (by kernel_rfl)
end Go.Proofs.YtjkijdhdbhooiaaGreat
namespace Go.Pm
variable [aJ]
open Go Go.Deep
section
variable {H:Type}{en:TypeId×Value->H}{P:Program}{w:World}{sp:Nat->Bool}{held:Bool}
theorem I5 {h:Fz}{n s len cap:Nat}{g:Nat->List PV}{a:Option Addr}(r:Rep h (.sl n s g) (.slice a len cap)):n=len:=by
 cases r <;> rfl
theorem zbo {t e : TypeId} {n s : Nat} {g : Nat → List PV} {fuel : Nat} {cs : List Value} {d : DataW H} {p : List MemPlace} (ht : P.underlying t = some (.slice e))
    (h:DataW.trod en P w 0 sp held fuel t cs=some (d,p)) (r:RL (Rep (H0 w)) [.sl n s g] cs) (hz:∀ k∈d.weights P t,k<=reachBytes):n * P.bytesOf e<=reachBytes:=by
  rcases open_slice ht h with ⟨rfl,_⟩ | ⟨a,len,cap,m,k,D,Pl,rfl,_,_,_,_,hx,_⟩
  · have := I5 r.1;subst this;simp
  · have e1 := I5 r.1;cases hx;have h2:=hz ((((List.range len).map D).length+((List.range (m - len)).map λ j=>D (len+j)).length) * P.bytesOf e) (by simp[DataW.weights,ht]);simp only[List.length_map,List.length_range] at h2;rw[e1];exact xZ (JA _ (Nat.le_add_right _ _)) h2
end
end Go.Pm
