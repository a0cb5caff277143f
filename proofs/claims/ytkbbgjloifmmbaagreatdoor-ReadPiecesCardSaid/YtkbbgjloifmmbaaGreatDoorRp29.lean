/- What ReadPiecesP leans on, part 29. -/
import Derived.Test.YtkbbgjloifmmbaaGreatDoorRp23
import Derived.Test.YtkbbgjloifmmbaaGreatDoorRp28
import Derived.Shelf.Sort.Plain
import Derived.Shelf.Slices.In.SortNone
import Derived.Shelf.Slices.CompactS
import Derived.Shelf.SlSortCmp.NoneTotal
import Derived.Shelf.SlicesE.Clone
import Derived.Shelf.Strings.Repeat
import Derived.Lib.Builder
import Derived.Lib.AppendStr
import Derived.Lib.UnsafeStr
import Derived.Lib.OthersKept
import Derived.Laws.Externs
set_option linter.unusedVariables false
set_option maxRecDepth 100000
set_option maxHeartbeats 6400000
namespace Go.Proofs.YtkbbgjloifmmbaaGreatDoor
open Go.RowKit Go.Sort
theorem Own.st{w w':World}{B E size n c rb:Nat}{a:Option Addr}{xs:List Value}(h:Own w B E size a n c xs)(s:St w w' rb)(hr:rb<B):Own w' B E size a n c xs:=by
 refine Own.kept h s.grown ?_
 by_cases ha:a=none
 ·exact .inl ha
 ·have:=(Own.lt h ha).1
  right
  simp;omega
structure OwnTs(w:World)(B:Nat)(t:Tst):Prop where
 name:t.name.length<=262144
 cycle:t.cycle.length<=262144
 sm: ∀x∈t.init,SmI x
 few:t.init.length<=1000000
 init:OwnIni w B t.ia t.init.length t.ic t.init
 smc: ∀x∈t.code,∀i∈x.l,SmC i
 fewc:t.code.length<=1000000/\ ∀x∈t.code,x.l.length<=1000000
 code:OwnCs w B t.ca t.cc t.code
 node:NdW w B t.node
 nd:(blkN t.node).Nodup
section
variable {w w':World} {B:Nat} {t:Tst}
theorem OwnTs.inn(h:OwnTs w B t):TsIn w t where
 name:=by have:=h.name;omega
 cycle:=by have:=h.cycle;omega
 init:=⟨Own.row h.init,by have:=h.few;omega⟩
 icap:=(Own.cap h.init).1
 locs:=fun x hx=>by obtain⟨-, -, a,b⟩:=h.sm x hx;exact⟨by omega,by omega⟩
 wide:=fun x hx=>by obtain⟨a,b,-, -⟩:=h.sm x hx;unfold I64;omega
 code:=⟨Own.row h.code.row,by have:=h.fewc.1;omega⟩
 ccap:=by have:=h.code.len;omega
 rows:=fun x hx=>⟨⟨Own.row (h.code.own x hx),by have:=h.fewc.2 x hx;omega⟩,(Own.cap (h.code.own x hx)).1,fun i hi=>by obtain⟨a,b⟩:=h.smc x hx i hi;exact⟨by omega,by omega⟩⟩
 node:=h.node.inn
theorem OwnTs.kept{r:Option Nat}(h:OwnTs w B t)(hg:w.grownBy w' r)(hr: ∀b,r=Option.some b->b<B):OwnTs w' B t:=by
 refine⟨h.name,h.cycle,h.sm,h.few,Own.kept h.init hg ?_,h.smc,h.fewc,h.code.kept hg hr,h.node.kept hg fun b hb e=>?_,h.nd⟩
 ·by_cases ha:t.ia=none
  ·exact .inl ha
  ·have:=(Own.lt h.init ha).1
   right;intro e
   have:=hr _ e.symm;omega
 ·have:=(h.node.lt b hb).1
  have:=hr _ e.symm;omega
theorem OwnTs.below(h:OwnTs w B t)(hb:Below w.heap.size w w'):OwnTs w' B t:=
 ⟨h.name,h.cycle,h.sm,h.few,Own.below h.init hb,h.smc,h.fewc,h.code.below hb,h.node.keep hb,h.nd⟩
theorem OwnTs.mono{B':Nat}(h:OwnTs w B t)(hB:B'<=B):OwnTs w B' t:=
 ⟨h.name,h.cycle,h.sm,h.few,Own.mono h.init hB,h.smc,h.fewc,h.code.mono hB,h.node.mono hB,h.nd⟩
end
abbrev zTL:List Value:=[.int .i64 0,.string ⟨#[]⟩,.string ⟨#[]⟩,.slice none 0 0,.slice none 0 0,.int .i64 0,.int .i64 0,.int .i64 0,.int .i64 0,.string ⟨#[]⟩,.int .i64 0,.slice none 0 0]
abbrev zTo:Obj:=.cells #[.int .i64 0,.string ⟨#[]⟩,.string ⟨#[]⟩,.slice none 0 0,.slice none 0 0,.int .i64 0,.int .i64 0,.int .i64 0,.int .i64 0,.string ⟨#[]⟩,.int .i64 0,.slice none 0 0] 32
abbrev zTv:Value:=.agg #[.int .i64 0,.string ⟨#[]⟩,.string ⟨#[]⟩,.slice none 0 0,.slice none 0 0,.int .i64 0,.int .i64 0,.int .i64 0,.int .i64 0,.string ⟨#[]⟩,.int .i64 0,.slice none 0 0]
def t0:Tst:=⟨0,[],[],none,0,[],none,0,[],0,.mk 0 ⟨0,0,[]⟩ 0 none 0 []⟩
abbrev zErr:Obj:=.cells #[.int .i64 0] 33
abbrev zInt:Obj:=.cells #[.int .i64 0] 3
abbrev w3F(w:World):World:=((w.alloc zTo).alloc zErr).alloc zInt
theorem below_w3F(w:World):Below w.heap.size w (w3F w):=blN
abbrev rdO14(s:Tx):Obj:=.cells #[.string (tx s),.int .i64 0,.int .i64 0,.string ⟨#[]⟩,.string ⟨#[]⟩,.slice none 0 0,.slice none 0 0,.int .i64 0,.int .i64 0,.int .i64 0,.int .i64 0,.string ⟨#[]⟩,.int .i64 0,.slice none 0 0] 68
theorem RdS.new{w:World}{s:Tx}(hs:s.length<=262144)(g:Gl w):RdS w (w.alloc (rdO14 s)) s 0 t0:=
 ⟨World.ownsRow_lit w (e:=68) #[.string (tx s),.int .i64 0,.int .i64 0,.string ⟨#[]⟩,.string ⟨#[]⟩,.slice none 0 0,.slice none 0 0,.int .i64 0,.int .i64 0,.int .i64 0,.int .i64 0,.string ⟨#[]⟩,.int .i64 0,.slice none 0 0] 1 (Nat.le_refl w.heap.size) (size:=14) (by unfold maxLen;omega) (by simp),al w _,g,hs,Nat.zero_le _⟩
theorem w3F_vars{w w4:World}(S:Below (w3F w).heap.size (w3F w) w4):BxL w4 w.heap.size zTL/\w4.cell? ⟨w.heap.size+1,0,none⟩=some (.int .i64 0)/\w4.cell? ⟨w.heap.size+1+1,0,none⟩=some (.int .i64 0)/\(∀j,w4.frozen? ⟨w.heap.size,j,none⟩=false)/\(∀j,w4.frozen? ⟨w.heap.size+1,j,none⟩=false)/\(∀j,w4.frozen? ⟨w.heap.size+1+1,j,none⟩=false):=by
 have a1:=al w zTo;have a2:=al (w.alloc zTo) zErr;have a3:=al ((w.alloc zTo).alloc zErr) zInt;have b1:=(((BxL.new w #[.int .i64 0,.string ⟨#[]⟩,.string ⟨#[]⟩,.slice none 0 0,.slice none 0 0,.int .i64 0,.int .i64 0,.int .i64 0,.int .i64 0,.string ⟨#[]⟩,.int .i64 0,.slice none 0 0] 32).below a2).below a3).below S;have b2:=((BxL.new (w.alloc zTo) #[.int .i64 0] 33).below a3).below S;have b3:=(BxL.new ((w.alloc zTo).alloc zErr) #[.int .i64 0] 3).below S;have c2:=b2.get 0 _ rfl;have c3:=b3.get 0 _ rfl;simp only[alloc_size]at c2 c3;refine⟨b1,c2,c3,fun j=>?_,fun j=>?_,fun j=>?_⟩
 ·rw[S.frozen (p:=⟨w.heap.size,j,none⟩) (by first|(simp;done)|(simp;omega)),a3.frozen (p:=⟨w.heap.size,j,none⟩) (by first|(simp;done)|(simp;omega)),a2.frozen (p:=⟨w.heap.size,j,none⟩) (by simp)]
  exact frz_new w _ _ j
 ·rw[S.frozen (p:=⟨w.heap.size+1,j,none⟩) (by first|(simp;done)|(simp;omega)),a3.frozen (p:=⟨w.heap.size+1,j,none⟩) (by simp)]
  have:=frz_new (w.alloc zTo) #[.int .i64 0] 33 j;rw[alloc_size]at this;exact this
 ·rw[S.frozen (p:=⟨w.heap.size+1+1,j,none⟩) (by simp)]
  have:=frz_new ((w.alloc zTo).alloc zErr) #[.int .i64 0] 3 j;rw[alloc_size,alloc_size]at this;exact this
def RetFP(p:EP Tst)(w:World)(e:Ending)(w':World):Prop:=Below w.heap.size w w'/\match p with
 | .error (n,k)=>e= .returned (.tuple #[zTv,.int .i64 n,.int .i64 k])
 | .ok t=> ∃y,bareT y=t/\e= .returned (.tuple #[vT y,.int .i64 0,.int .i64 0])/\OwnTs w' w.heap.size y
theorem put3F{w w5 w6 w7 w8:World}{B:Nat}(h0:Below B w w5)(h3:PutB w7 w8 (B+1+1))(h2:PutB w6 w7 (B+1))(h1:PutB w5 w6 B)(hB:B<=w5.heap.size):Below B w w8:=by
 have a1:=h0.grown h1.grown hB (fun r hr=>by simp at hr;omega);have a2:=a1.grown h2.grown (by rw[h1.size];exact hB) (fun r hr=>by simp at hr;omega);exact a2.grown h3.grown (by rw[h2.size,h1.size];exact hB) (fun r hr=>by simp at hr;omega)
theorem OwnTs.put3{w5 w6 w7 w8:World}{B:Nat}{y:Tst}(h0:OwnTs w5 (B+3) y)(h3:PutB w7 w8 (B+1+1))(h2:PutB w6 w7 (B+1))(h1:PutB w5 w6 B):OwnTs w8 B y:=by
 have a1:=h0.kept h1.grown (fun r hr=>by simp at hr;omega);have a2:=a1.kept h2.grown (fun r hr=>by simp at hr;omega);exact(a2.kept h3.grown (fun r hr=>by simp at hr;omega)).mono (by omega)
theorem finF{w w5 w6 w7 w8:World}{t y:Tst}{e:Ending}(h0:Below w.heap.size w w5)(hO:OwnTs w5 (w.heap.size+3) y)(hy:bareT y=t)(he:e= .returned (.tuple #[vT y,.int .i64 0,.int .i64 0]))(h3:PutB w7 w8 (w.heap.size+1+1))(h2:PutB w6 w7 (w.heap.size+1))(h1:PutB w5 w6 w.heap.size):RetFP (.ok t) w e w8:=
 ⟨put3F h0 h3 h2 h1 h0.size,y,hy,he,hO.put3 h3 h2 h1⟩
theorem finE{w w5 w6 w7 w8:World}{er:Int}{k:Nat}{e:Ending}(h0:Below w.heap.size w w5)(he:e= .returned (.tuple #[zTv,.int .i64 er,.int .i64 k]))(h3:PutB w7 w8 (w.heap.size+1+1))(h2:PutB w6 w7 (w.heap.size+1))(h1:PutB w5 w6 w.heap.size):RetFP (.error (er,k)) w e w8:=
 ⟨put3F h0 h3 h2 h1 h0.size,he⟩
theorem body_1{s:Tx}{e:Int × Nat}(h:headP s.length s= .error e):bodyP s.length s= .error e:=by
 unfold bodyP;rw[h];rfl
theorem body_2{s n r1:Tx}{a:Int}{e:Int × Nat}(h:headP s.length s= .ok (a,n,r1))(h2:cycleP s.length r1= .error e):bodyP s.length s= .error e:=by
 unfold bodyP;rw[h];change (cycleP s.length r1 >>= _)=_;rw[h2];rfl
theorem body_3{s n r1 c r2:Tx}{a:Int}{e:Int × Nat}(h:headP s.length s= .ok (a,n,r1))(h2:cycleP s.length r1= .ok (c,r2))(h3:initsP a s.length r2= .error e):bodyP s.length s= .error e:=by
 unfold bodyP;rw[h];change (cycleP s.length r1 >>= _)=_;rw[h2];change (initsP a s.length r2 >>= _)=_;rw[h3];rfl
theorem body_4{s n r1 c r2 r3:Tx}{a:Int}{i:List Ini}{e:Int × Nat}(h:headP s.length s= .ok (a,n,r1))(h2:cycleP s.length r1= .ok (c,r2))(h3:initsP a s.length r2= .ok (i,r3))(h4:tableP a s.length r3= .error e):bodyP s.length s= .error e:=by
 unfold bodyP;rw[h];change (cycleP s.length r1 >>= _)=_;rw[h2];change (initsP a s.length r2 >>= _)=_;rw[h3];change (tableP a s.length r3 >>= _)=_;rw[h4];rfl
theorem body_5{s n r1 c r2 r3 r4:Tx}{a:Int}{i:List Ini}{l:List (List Ins)}{e:Int × Nat}(h:headP s.length s= .ok (a,n,r1))(h2:cycleP s.length r1= .ok (c,r2))(h3:initsP a s.length r2= .ok (i,r3))(h4:tableP a s.length r3= .ok (l,r4))(h5:condP a s.length r4= .error e):bodyP s.length s= .error e:=by
 unfold bodyP;rw[h];change (cycleP s.length r1 >>= _)=_;rw[h2];change (initsP a s.length r2 >>= _)=_;rw[h3];change (tableP a s.length r3 >>= _)=_;rw[h4];change (condP a s.length r4 >>= _)=_;rw[h5];rfl
theorem parseF_e{s:Tx}{e:Int × Nat}(hl:s.length<=262144)(h:bodyP s.length s= .error e):parseF s= .error e:=by
 unfold parseF;rw[if_neg (by omega),h]
theorem parseF_t{s:Tx}{t:Tst}(hl:s.length<=262144)(h:bodyP s.length s= .ok t):parseF s=if tstE t=0 then .ok t else .error (tstE t,0):=by
 unfold parseF;rw[if_neg (by omega),h]
end Go.Proofs.YtkbbgjloifmmbaaGreatDoor
namespace Go.Proofs.YtkbbgjloifmmbaaGreatDoor
open Go.Shelf
def Tryz.l190_ren:Go.Shelf.Ren:=⟨fun|190=>145|125=>231|258=>230|128=>294|129=>295|302=>285|303=>286|304=>287|305=>288|306=>289|307=>290|308=>291|309=>292|310=>293|333=>326|329=>327|330=>328|334=>329|335=>330|336=>331|344=>349|n=>n,fun|31=>42|9=>9|3=>3|46=>45|0=>0|51=>265|53=>244|4=>4|183=>259|182=>258|131=>85|5=>5|218=>288|222=>292|228=>305|229=>306|n=>n,fun|n=>n⟩
theorem Tryz.l190:Go.Proofs.Lays.n190 Tryz.prog Tryz.l190_ren:={
 mixed:=by kernel_rfl
 f125:=Tryz.func231.trans (congrArg some (by kernel_rfl))
 f128:=Tryz.func294.trans (congrArg some (by kernel_rfl))
 f129:=Tryz.func295.trans (congrArg some (by kernel_rfl))
 f190:=Tryz.func145.trans (congrArg some (by kernel_rfl))
 f258:=Tryz.func230.trans (congrArg some (by kernel_rfl))
 f302:=Tryz.func285.trans (congrArg some (by kernel_rfl))
 f303:=Tryz.func286.trans (congrArg some (by kernel_rfl))
 f304:=Tryz.func287.trans (congrArg some (by kernel_rfl))
 f305:=Tryz.func288.trans (congrArg some (by kernel_rfl))
 f306:=Tryz.func289.trans (congrArg some (by kernel_rfl))
 f307:=Tryz.func290.trans (congrArg some (by kernel_rfl))
 f308:=Tryz.func291.trans (congrArg some (by kernel_rfl))
 f309:=Tryz.func292.trans (congrArg some (by kernel_rfl))
 f310:=Tryz.func293.trans (congrArg some (by kernel_rfl))
 f329:=Tryz.func327.trans (congrArg some (by kernel_rfl))
 f330:=Tryz.func328.trans (congrArg some (by kernel_rfl))
 f333:=Tryz.func326.trans (congrArg some (by kernel_rfl))
 f334:=Tryz.func329.trans (congrArg some (by kernel_rfl))
 f335:=Tryz.func330.trans (congrArg some (by kernel_rfl))
 f336:=Tryz.func331.trans (congrArg some (by kernel_rfl))
 f344:=Tryz.func349.trans (congrArg some (by kernel_rfl))
 t0:=Tryz.underlying0
 a0:=Tryz.isAgg0
 z0:=Tryz.sizeOf0
 v0:=Tryz.zeroValue0
 t3:=Tryz.underlying3
 a3:=Tryz.isAgg3
 z3:=Tryz.sizeOf3
 v3:=Tryz.zeroValue3
 t4:=Tryz.underlying4
 a4:=Tryz.isAgg4
 z4:=Tryz.sizeOf4
 v4:=Tryz.zeroValue4
 t5:=Tryz.underlying5
 a5:=Tryz.isAgg5
 z5:=Tryz.sizeOf5
 v5:=Tryz.zeroValue5
 t9:=Tryz.underlying9
 a9:=Tryz.isAgg9
 z9:=Tryz.sizeOf9
 v9:=Tryz.zeroValue9
 t31:=Tryz.underlying42
 a31:=Tryz.isAgg42
 z31:=Tryz.sizeOf42
 v31:=Tryz.zeroValue42
 t46:=Tryz.underlying45
 a46:=Tryz.isAgg45
 z46:=Tryz.sizeOf45
 v46:=Tryz.zeroValue45
 t51:=Tryz.underlying265
 a51:=Tryz.isAgg265
 z51:=Tryz.sizeOf265
 v51:=Tryz.zeroValue265
 t53:=Tryz.underlying244
 a53:=Tryz.isAgg244
 z53:=Tryz.sizeOf244
 v53:=Tryz.zeroValue244
 t131:=Tryz.underlying85
 a131:=Tryz.isAgg85
 z131:=Tryz.sizeOf85
 v131:=Tryz.zeroValue85
 t182:=Tryz.underlying258
 a182:=Tryz.isAgg258
 z182:=Tryz.sizeOf258
 v182:=Tryz.zeroValue258
 t183:=Tryz.underlying259
 a183:=Tryz.isAgg259
 z183:=Tryz.sizeOf259
 v183:=Tryz.zeroValue259
 t218:=Tryz.underlying288
 a218:=Tryz.isAgg288
 z218:=Tryz.sizeOf288
 v218:=Tryz.zeroValue288
 t222:=Tryz.underlying292
 a222:=Tryz.isAgg292
 z222:=Tryz.sizeOf292
 v222:=Tryz.zeroValue292
 t228:=Tryz.underlying305
 a228:=Tryz.isAgg305
 z228:=Tryz.sizeOf305
 v228:=Tryz.zeroValue305
 t229:=Tryz.underlying306
 a229:=Tryz.isAgg306
 z229:=Tryz.sizeOf306
 v229:=Tryz.zeroValue306 }
def Tryz.l194_ren:Go.Shelf.Ren:=⟨fun|194=>146|n=>n,fun|31=>42|9=>9|3=>3|4=>4|0=>0|n=>n,fun|n=>n⟩
theorem Tryz.l194:Go.Proofs.Lays.n194 Tryz.prog Tryz.l194_ren:={
 mixed:=by kernel_rfl
 f194:=Tryz.func146.trans (congrArg some (by kernel_rfl))
 t0:=Tryz.underlying0
 a0:=Tryz.isAgg0
 z0:=Tryz.sizeOf0
 v0:=Tryz.zeroValue0
 t3:=Tryz.underlying3
 a3:=Tryz.isAgg3
 z3:=Tryz.sizeOf3
 v3:=Tryz.zeroValue3
 t4:=Tryz.underlying4
 a4:=Tryz.isAgg4
 z4:=Tryz.sizeOf4
 v4:=Tryz.zeroValue4
 t9:=Tryz.underlying9
 a9:=Tryz.isAgg9
 z9:=Tryz.sizeOf9
 v9:=Tryz.zeroValue9
 t31:=Tryz.underlying42
 a31:=Tryz.isAgg42
 z31:=Tryz.sizeOf42
 v31:=Tryz.zeroValue42 }
def Tryz.lsfT_ren:Go.Shelf.Ren:=⟨fun|6=>282|15=>231|14=>324|28=>294|29=>295|20=>340|21=>341|22=>342|23=>343|24=>344|25=>345|26=>346|27=>347|46=>352|47=>327|48=>328|49=>353|50=>354|57=>358|n=>n,fun|22=>112|24=>25|25=>256|3=>3|39=>45|0=>0|53=>265|55=>244|4=>4|46=>259|45=>258|50=>85|5=>5|9=>9|66=>288|70=>292|76=>305|77=>306|n=>n,fun|n=>n⟩
theorem Tryz.lsfT:Go.Proofs.SlLaysF0.n6 Tryz.prog Tryz.lsfT_ren:={
 mixed:=by kernel_rfl
 f6:=⟨Tryz.f282.name,by decide,Tryz.func282.trans (congrArg some (by kernel_rfl))⟩
 f14:=⟨Tryz.f324.name,by decide,Tryz.func324.trans (congrArg some (by kernel_rfl))⟩
 f15:=Tryz.func231.trans (congrArg some (by kernel_rfl))
 f20:=⟨Tryz.f340.name,by decide,Tryz.func340.trans (congrArg some (by kernel_rfl))⟩
 f21:=⟨Tryz.f341.name,by decide,Tryz.func341.trans (congrArg some (by kernel_rfl))⟩
 f22:=⟨Tryz.f342.name,by decide,Tryz.func342.trans (congrArg some (by kernel_rfl))⟩
 f23:=⟨Tryz.f343.name,by decide,Tryz.func343.trans (congrArg some (by kernel_rfl))⟩
 f24:=⟨Tryz.f344.name,by decide,Tryz.func344.trans (congrArg some (by kernel_rfl))⟩
 f25:=⟨Tryz.f345.name,by decide,Tryz.func345.trans (congrArg some (by kernel_rfl))⟩
 f26:=⟨Tryz.f346.name,by decide,Tryz.func346.trans (congrArg some (by kernel_rfl))⟩
 f27:=⟨Tryz.f347.name,by decide,Tryz.func347.trans (congrArg some (by kernel_rfl))⟩
 f28:=Tryz.func294.trans (congrArg some (by kernel_rfl))
 f29:=Tryz.func295.trans (congrArg some (by kernel_rfl))
 f46:=⟨Tryz.f352.name,by decide,Tryz.func352.trans (congrArg some (by kernel_rfl))⟩
 f47:=Tryz.func327.trans (congrArg some (by kernel_rfl))
 f48:=Tryz.func328.trans (congrArg some (by kernel_rfl))
 f49:=⟨Tryz.f353.name,by decide,Tryz.func353.trans (congrArg some (by kernel_rfl))⟩
 f50:=⟨Tryz.f354.name,by decide,Tryz.func354.trans (congrArg some (by kernel_rfl))⟩
 f57:=⟨Tryz.f358.name,by decide,Tryz.func358.trans (congrArg some (by kernel_rfl))⟩
 t0:=Tryz.underlying0
 a0:=Tryz.isAgg0
 z0:=Tryz.sizeOf0
 v0:=Tryz.zeroValue0
 t3:=Tryz.underlying3
 a3:=Tryz.isAgg3
 z3:=Tryz.sizeOf3
 v3:=Tryz.zeroValue3
 t4:=Tryz.underlying4
 a4:=Tryz.isAgg4
 z4:=Tryz.sizeOf4
 v4:=Tryz.zeroValue4
 t5:=Tryz.underlying5
 a5:=Tryz.isAgg5
 z5:=Tryz.sizeOf5
 v5:=Tryz.zeroValue5
 t9:=Tryz.underlying9
 a9:=Tryz.isAgg9
 z9:=Tryz.sizeOf9
 v9:=Tryz.zeroValue9
 t22:=Tryz.underlying112
 a22:=Tryz.isAgg112
 z22:=Tryz.sizeOf112
 v22:=Tryz.zeroValue112
 t25:=Tryz.underlying256
 a25:=Tryz.isAgg256
 z25:=Tryz.sizeOf256
 v25:=Tryz.zeroValue256
 t39:=Tryz.underlying45
 a39:=Tryz.isAgg45
 z39:=Tryz.sizeOf45
 v39:=Tryz.zeroValue45
 t45:=Tryz.underlying258
 a45:=Tryz.isAgg258
 z45:=Tryz.sizeOf258
 v45:=Tryz.zeroValue258
 t46:=Tryz.underlying259
 a46:=Tryz.isAgg259
 z46:=Tryz.sizeOf259
 v46:=Tryz.zeroValue259
 t50:=Tryz.underlying85
 a50:=Tryz.isAgg85
 z50:=Tryz.sizeOf85
 v50:=Tryz.zeroValue85
 t53:=Tryz.underlying265
 a53:=Tryz.isAgg265
 z53:=Tryz.sizeOf265
 v53:=Tryz.zeroValue265
 t55:=Tryz.underlying244
 a55:=Tryz.isAgg244
 z55:=Tryz.sizeOf244
 v55:=Tryz.zeroValue244
 t66:=Tryz.underlying288
 a66:=Tryz.isAgg288
 z66:=Tryz.sizeOf288
 v66:=Tryz.zeroValue288
 t70:=Tryz.underlying292
 a70:=Tryz.isAgg292
 z70:=Tryz.sizeOf292
 v70:=Tryz.zeroValue292
 t76:=Tryz.underlying305
 a76:=Tryz.isAgg305
 z76:=Tryz.sizeOf305
 v76:=Tryz.zeroValue305
 t77:=Tryz.underlying306
 a77:=Tryz.isAgg306
 z77:=Tryz.sizeOf306
 v77:=Tryz.zeroValue306 }
end Go.Proofs.YtkbbgjloifmmbaaGreatDoor
namespace Go.Proofs.YtkbbgjloifmmbaaGreatDoor
open Go.RowKit Go.Sort
theorem cmp_tx(a b:Tx)(w:World):Calls Tryz.prog 325 #[.string (tx a),.string (tx b)] w fun e w'=>e= .returned (.int .i64 (Lib.compareBytes a b))/\w=w':=by
 refine(Any.strings_Compare Tryz.l106 (tx a) (tx b) w).mono fun e w' hh=>⟨?_,hh.2.symm⟩
 rw[hh.1,tx_data,tx_data]
theorem condStand(x y:VTh)(w:World):Calls Tryz.prog 283 #[vTh x.1,vTh y.1] w fun e w'=>e= .returned (.int .i64 (cfT x.1 y.1))/\w'=(w.alloc (mkTh x.1)).alloc (mkTh y.1):=by
 have hx:=vth_cases x;have hy:=vth_cases y;obtain⟨⟨t1,r1,l1⟩,p1⟩:=x;obtain⟨⟨t2,r2,l2⟩,p2⟩:=y;simp only at hx hy⊢;clear p1 p2;rcases hx with⟨a1,a2⟩|⟨a1,a2,a3,a4,a5⟩
 ·subst a1
  rcases hy with⟨b1,b2⟩|⟨b1,b2,b3,b4,b5⟩
  ·subst b1
   clear a2 b2;have E:=hid (show cfT ⟨-1,r1,l1⟩ ⟨-1,r2,l2⟩=Lib.compareBytes l1 l2 from rfl);go_enter Tryz.func283,Tryz.ntmps283
   go_wp2_with (go_at_call 325;refine(cmp_tx _ _ _).mono ?_;rintro e w' ⟨rfl,rfl⟩)
   go_ret;exact⟨ret_int (by rw[E.out]),rfl⟩
  ·clear a2 b5
   have z2:(t2== -1)=false:=by simp;omega
   have E:=hid (show cfT ⟨-1,r1,l1⟩ ⟨t2,r2,l2⟩=1 by unfold cfT;simp only;rw[if_neg (by omega),if_pos trivial]);go_enter Tryz.func283,Tryz.ntmps283;go_wp2_with fail;go_ret;exact⟨ret_int (by rw[E.out]),rfl⟩
 ·clear a5
  have z1:(t1== -1)=false:=by simp;omega
  rcases hy with⟨b1,b2⟩|⟨b1,b2,b3,b4,b5⟩
  ·subst b1
   clear b2;have E:=hid (show cfT ⟨t1,r1,l1⟩ ⟨-1,r2,l2⟩= -1 by unfold cfT;simp only;rw[if_neg (by omega),if_neg (by omega),if_pos trivial]);go_enter Tryz.func283,Tryz.ntmps283;go_wp2_with fail;go_ret;exact⟨ret_int (by rw[E.out]),rfl⟩
  ·clear b5
   have z2:(t2== -1)=false:=by simp;omega
   by_cases h:t1=t2
   ·have z3:(t1 != t2)=false:=by simpa using h
    have E:=hid (show cfT ⟨t1,r1,l1⟩ ⟨t2,r2,l2⟩=r1-r2 by unfold cfT;simp only;rw[if_neg (by omega),if_neg (by omega),if_neg (by omega),if_neg (by omega)]);clear h;go_enter Tryz.func283,Tryz.ntmps283;go_wp2_with fail;go_ret;exact⟨ret_int (by rw[E.out]),rfl⟩
   ·have z3:(t1 != t2)=true:=by simpa using h
    have E:=hid (show cfT ⟨t1,r1,l1⟩ ⟨t2,r2,l2⟩=t1-t2 by unfold cfT;simp only;rw[if_neg (by omega),if_neg (by omega),if_neg (by omega),if_pos h]);clear h;go_enter Tryz.func283,Tryz.ntmps283;go_wp2_with fail;go_ret;exact⟨ret_int (by rw[E.out]),rfl⟩
@[reducible] def eV(v:VTh):List Value:=cTh v.1
abbrev cfV(a b:VTh):Int:=cfT a.1 b.1
theorem ltOf_bef(a b:VTh):ltOf cfV a b=befT a.1 b.1:=cf_bef a b
theorem swoV:SWO (ltOf cfV) where
 irrefl a:=by rw[ltOf_bef,Bool.eq_false_iff];exact ltV_irr a
 trans a b c h h':=by rw[ltOf_bef]at *; exact ltV_tr a b c h h'
 ntrans a b c h h':=by
  rw[ltOf_bef,Bool.eq_false_iff]at*;intro hac
  by_cases h1:ltV b a
  ·exact h' (ltV_tr b a c h1 hac)
  ·have:=ltV_tri a b h h1;subst this;exact h' hac
theorem lays(blk off size:Nat)(w:World):CmpLays Tryz.prog 283 #[] eV 3 cfV blk off size w:=by
 intro m os dk _ x y;refine(condStand x y _).mono fun e w' ⟨he,hw⟩=>⟨he,0,#[mkTh x.1,mkTh y.1],?_⟩
 rw[hw,alloc_eq_grow,alloc_eq_grow,grow_grow];rfl
theorem holdsK{w:World}{B E n c g:Nat}{d:List VTh}(h:Own w B E 3 (some ⟨g,0,none⟩) n c (flat eV d)):HoldsK eV 3 w g 0 d.toArray:=by
 intro j hj;simp only[size_flatK,List.size_toArray]at hj;have hl:=flat_length (enc:=eV) (m:=3) (fun _=>rfl) d;have hlt:j<(flat eV d).length:=by rw[hl];exact hj
 have h1:=h.row.cell j hlt;have h2:=Own.frozen h (by simp) j;simp only[bk_some,fo_some]at h1 h2;refine⟨?_,h2⟩;rw[h1,id];have h3:j/3<d.length:=by omega
 have hg:=flat_get (enc:=eV) (m:=3) (fun _=>rfl) d (j/3) (j%3) d[j/3] (List.getElem?_eq_getElem h3) (by omega);rw[show j/3*3+j%3=j by omega]at hg;rw[hg,get_flatK _ _ _ _ (by simpa using hj)];have h4:d.toArray[j/3]! =d[j/3]:=by rw[getElem!_pos _ _ (by simpa using h3)];simp
 rw[h4];have h5:j%3<(eV d[j/3]).length:=by show j%3<3;omega
 rw[List.getElem?_eq_getElem h5,List.getElem!_eq_getElem?_getD,List.getElem?_eq_getElem h5];rfl
theorem flatK_flat(d:List VTh):flatK eV 3 d.toArray=(flat eV d).toArray:=by
 have hl:=flat_length (enc:=eV) (m:=3) (fun _=>rfl) d;refine ext_get! (by simp[hl]) fun t ht=>?_
 simp only[size_flatK,List.size_toArray]at ht;have h3:t/3<d.length:=by omega
 have hg:=flat_get (enc:=eV) (m:=3) (fun _=>rfl) d (t/3) (t%3) d[t/3] (List.getElem?_eq_getElem h3) (by omega);rw[show t/3*3+t%3=t by omega]at hg;rw[get_flatK _ _ _ _ (by simpa using ht)];have h4:d.toArray[t/3]! =d[t/3]:=by rw[getElem!_pos _ _ (by simpa using h3)];simp
 have hlt:t<(flat eV d).length:=by rw[hl];exact ht
 have h5:t%3<(eV d[t/3]).length:=by show t%3<3;omega
 rw[h4,List.getElem!_eq_getElem?_getD,List.getElem?_eq_getElem h5];rw[getElem!_pos (flat eV d).toArray t (by simpa using hlt)];rw[List.getElem?_eq_getElem hlt,List.getElem?_eq_getElem h5]at hg;exact(Option.some.inj hg).symm
theorem putK_cells{w:World}{g:Nat}{d d':List VTh}(h:HoldsK eV 3 w g 0 d.toArray)(hl:d'.length=d.length):putRowK eV 3 w g 0 d'.toArray=w.setCells g 0 (flat eV d'):=by
 have h0:=sortWorldK_start eV 3 w g 0 d.toArray h;unfold sortWorldK at h0;rw[grow_empty]at h0;have h1:=setCells_putRow w g 0 (flat eV d') 0 (flatK eV 3 d.toArray) (by rw[Nat.zero_add,flat_length (m:=3) (fun _=>rfl)];simp[hl]);unfold putRowK at h0⊢;rw[ahead_zero]at h0;rw[h0]at h1;rw[h1,flatK_flat d']
 congr 1
 refine ext_get! (by simp[hl,flat_length (enc:=eV) (m:=3) (fun _=>rfl)]) fun t ht=>?_
 simp only[List.size_toArray]at ht;have hlt:t<d.length*3:=by rw[flat_length (m:=3) (fun _=>rfl),hl]at ht;exact ht
 rw[get_setMany _ _ _ _ (by simpa using hlt),if_pos ⟨Nat.zero_le _,by omega⟩,Nat.sub_zero,getElem!_pos _ _ (by simpa using ht),List.getElem!_eq_getElem?_getD,List.getElem?_eq_getElem ht];simp
abbrev sortV(d:List VTh):List VTh:=d.mergeSort fun x y=> !ltOf cfV y x
theorem sortTh(d:List VTh)(w:World)(B:Nat)(a:Option Addr)(c:Nat)(h:Own w B 25 3 a d.length c (flat eV d))(hl:d.length<=1000000):
 Calls Tryz.prog 282 #[.slice a d.length c,.func (.func 283) #[] #[]] w fun e w'=>e= .returned (.tuple #[])/\Own w' B 25 3 a d.length c (flat eV (sortV d))/\Step w w' a a:=by
 have hlen:(sortV d).length=d.length:=List.length_mergeSort d;rcases h.2 with⟨h2,h0⟩|⟨g,cap,cur,hv,hg,hh,hn,hc,hs,hx⟩
 ·simp only[Value.slice.injEq]at h2
  obtain⟨rfl,-, rfl⟩:=h2;have hz:d=[]:=List.eq_nil_of_length_eq_zero h0;subst hz;refine(AnyF.slices_SortFunc_none { Tryz.lsfT with } none 0 _ w).mono fun e w' ⟨he,hw⟩=>?_
  subst hw;have e0:sortV []=[]:=List.eq_nil_of_length_eq_zero hlen;rw[e0];exact⟨he,h,Step.refl _ _⟩
 ·cases hv
  have hH:=holdsK h;refine(AnyQ.slices_SortFunc_total Tryz.lsfT 3 Tryz.isAgg25 Tryz.sizeOf25 eV (fun _=>rfl) (fun x=>cTh_one x.1) cfV swoV 283 #[] g 0 c d.toArray w (enters_of Tryz.func283 (by kernel_rfl) rfl) (lays _ _ _ _) hH (Array.getElem?_eq_some_iff.1 hh).1 (by simp;omega) (fun x y hxy hyx=>ltV_tri x y (by rw[ltOf_bef,Bool.eq_false_iff]at hxy;exact hxy) (by rw[ltOf_bef,Bool.eq_false_iff]at hyx;exact hyx))).mono fun e w' ⟨he,n,os,hw⟩=>?_
  have hA:Below w.heap.size w (Sort.ahead w n):=⟨rfl,rfl,rfl,Nat.le_refl _,fun _ _=>rfl⟩;have hHa:HoldsK eV 3 (Sort.ahead w n) g 0 d.toArray:=hH;have hoA:=Own.below h hA;unfold sortWorldK at hw;rw[putK_cells (d:=d) (d':=sortV d) hHa hlen]at hw;obtain⟨o2,s2⟩:=Own.sets (by simp) (flat eV (sortV d)) 0 (Sort.ahead w n) (flat eV d) hoA (by rw[Nat.zero_add,flat_length (m:=3) (fun _=>rfl),flat_length (m:=3) (fun _=>rfl),hlen];exact Nat.le_refl _)
  have e1:layL (flat eV d) 0 (flat eV (sortV d))=flat eV (sortV d):=by
   unfold layL;rw[List.take_zero,List.nil_append,Nat.zero_add,List.drop_of_length_le (by rw[flat_length (m:=3) (fun _=>rfl),flat_length (m:=3) (fun _=>rfl),hlen];exact Nat.le_refl _),List.append_nil]
  rw[e1]at o2;simp only[bk_some,fo_some,Nat.add_zero]at o2 s2;have hA2:Step w (Sort.ahead w n) (some ⟨g,0,none⟩) (some ⟨g,0,none⟩):=⟨⟨rfl,rfl,rfl,Nat.le_refl _,fun _ _ _=>rfl⟩,.inl rfl⟩;have s3:=hA2.trans s2;generalize hW:(Sort.ahead w n).setCells g 0 (flat eV (sortV d))=W at*;have hG:Below W.heap.size W (grow W os):=⟨rfl,rfl,rfl,by simp[grow],fun j hj=>by simp[grow,Array.getElem?_append,hj]⟩;rw[hw];exact⟨he,Own.below o2 hG,s3.trans ⟨⟨hG.os,hG.tape,hG.output,hG.size,fun k hk _=>hG.block k hk⟩,.inl rfl⟩⟩
attribute [local go_sem high] eqTh neqTh
theorem cmpct_take{α:Type}[DecidableEq α]{l:List α}{k:Nat}(hk:k+1<l.length):cmpct (l.take (k+2))=if l[k+1]=l[k]then cmpct (l.take (k+1))else cmpct (l.take (k+1))++[l[k+1]]:=by
 have h1:l.take (k+2)=l.take k++[l[k]]++[l[k+1]]:=by
  rw[List.take_succ_eq_append_getElem (show k+1<l.length from hk),List.take_succ_eq_append_getElem (show k<l.length by omega)]
 have h2:l.take (k+1)=l.take k++[l[k]]:=List.take_succ_eq_append_getElem (by omega);rw[h1,h2,cmpct_snoc]
def Apa(l:List Th)(k:Nat):Prop:= ∀i (h:i+1<l.length),i+1<k->l[i+1]≠l[i]
theorem Apa.all{l:List Th}(h:Apa l l.length):cmpct l=l:=cmpct_self fun i h1=>h i h1 h1
theorem Apa.take{l:List Th}{k:Nat}(h:Apa l (k+1))(hk:k+1<l.length)(e:l[k+1]=l[k]):cmpct (l.take (k+2))=l.take (k+1):=by
 rw[cmpct_take hk,if_pos e];refine cmpct_self fun i h1=>?_
 simp only[List.length_take]at h1;rw[List.getElem_take,List.getElem_take];exact h i (by omega) (by omega)
structure Prs(l L:List Th)(i q:Nat):Prop where
 len:L.length=l.length
 lt:i<q
 le:q<=l.length
 front:L.take i=cmpct (l.take q)
 rest: ∀j,q-1<=j->L[j]? =l[j]?
theorem Prs.start{l:List Th}{k:Nat}(h:Apa l (k+1))(hk:k+1<l.length)(e:l[k+1]=l[k]):Prs l l (k+1) (k+2):=
 ⟨rfl,by omega,by omega,(h.take hk e).symm,fun _ _=>rfl⟩
theorem Prs.skip{l L:List Th}{i q:Nat}(h:Prs l L i (q+1))(hq:q+1<l.length)(e:l[q+1]=l[q]):Prs l L i (q+2):=
 ⟨h.len,by have:=h.lt;omega,by omega,by rw[h.front,cmpct_take hq,if_pos e],fun j hj=>h.rest j (by omega)⟩
theorem Prs.keep{l L:List Th}{i q:Nat}(h:Prs l L i (q+1))(hq:q+1<l.length)(e:l[q+1]≠l[q]):Prs l (L.set i l[q+1]) (i+1) (q+2):=by
 have hl:=h.len;have hlt:=h.lt;refine⟨by rw[List.length_set];exact hl,by omega,by omega,?_,fun j hj=>?_⟩
 ·rw[cmpct_take hq,if_neg e,<-h.front]
  have hi:i<L.length:=by omega
  rw[List.take_succ_eq_append_getElem (by rw[List.length_set];exact hi),List.getElem_set_self,List.take_set_of_le (Nat.le_refl i)]
 ·rw[List.getElem?_set_ne (by omega)];exact h.rest j (by omega)
theorem Prs.done{l L:List Th}{i:Nat}(h:Prs l L i l.length):L.take i=cmpct l/\(cmpct l).length=i:=by
 have h1:=h.front;rw[List.take_length]at h1;have h2:=congrArg List.length h1;rw[List.length_take]at h2;have:=h.len;have:=h.lt;have:=h.le;exact⟨h1,by omega⟩
theorem setCells3(w:World)(b o:Nat)(e:Th):w.setCells b o (cTh e)=((w.setCell ⟨b,o,none⟩ (.int .i64 e.thread)).setCell ⟨b,o+1,none⟩ (.int .i64 e.reg)).setCell ⟨b,o+2,none⟩ (.string (tx e.loc)):=rfl
abbrev OwnT(w:World)(B:Nat)(a:Option Addr)(n c:Nat)(l:List Th):Prop:=Own w B 25 3 a n c (flat cTh l)
theorem OwnT.frz{w:World}{B n c:Nat}{a:Option Addr}{l:List Th}(h:OwnT w B a n c l)(hn:0<n)(k:Nat):
 w.frozen? ⟨bk a,fo a+k*3,none⟩=false/\w.frozen? ⟨bk a,fo a+k*3+1,none⟩=false/\w.frozen? ⟨bk a,fo a+k*3+2,none⟩=false:=by
 have f:=fun j=>Own.frozen h (Own.some h hn) j
 exact⟨f (k*3),by have:=f (k*3+1);rwa[<-Nat.add_assoc]at this,by have:=f (k*3+2);rwa[<-Nat.add_assoc]at this⟩
theorem OwnT.idx{w:World}{B c:Nat}{a:Option Addr}{l:List Th}{n:Nat}(h:OwnT w B a n c l)(hl:l.length<=1000000)(k:Nat)(hk:k<n):
 ∀w',(Instr.indexAt 112 (.slice a n c) (.int .i64 k)).run Tryz.prog w'= .ok (.pointer (some ⟨bk a,fo a+k*3,none⟩)) w':=by
 obtain⟨h1,rfl⟩:=Own.els h cTh_len (by omega) (by omega);exact h1.idx thl cTh_len k hk c
theorem step_drewN(w:World)(k:Nat)(a:Option Addr):Step w (w.drewN k) a a:=⟨⟨rfl,rfl,rfl,Nat.le_refl _,fun _ _ _=>rfl⟩,.inl rfl⟩
theorem compactTh(l:List Th)(w:World)(B:Nat)(a:Option Addr)(c:Nat)(h:OwnT w B a l.length c l)(hB:B<=w.heap.size)(hl:l.length<=1000000):
 Calls Tryz.prog 284 #[.slice a l.length c] w fun e w'=>e= .returned (.slice a (cmpct l).length c)/\OwnT w' B a (cmpct l).length c (cmpct l)/\Step w w' a a:=by
 obtain⟨n,hn⟩: ∃n,l.length=n:=⟨_,rfl⟩;have HN:=hid hn;have hcap:=h.cap.1;rw[hn]at h hl hcap⊢;have H:=hid h
 by_cases h2:n<2
 ·have E:=hid (show cmpct l=l by
   have:=HN.out
   match l,this with
   |[],_=>rfl
   |[x],_=>rfl
   |x::y::r,h=>simp at h;omega)
  clear h hn;go_enter Tryz.func284,Tryz.ntmps284;go_wp2_with fail;go_ret;rw[E.out,HN.out];exact⟨rfl,H.out,Step.refl _ _⟩
 ·clear h hn
  go_enter Tryz.func284,Tryz.ntmps284;go_wp2_with fail
  go_loopw [3] (fun i wr=> ∃k:Nat,k+1<=n/\i= .int .i64 ((k:Int)+1)/\QW w wr/\Hid (Apa l (k+1))) (fun i _=>n-(intOf i).toNat)
  case atStart=>exact⟨0,by omega,by go_num,QW.refl _,fun i h1 h2=>by omega⟩
  case round=>
   obtain⟨k,hk,rfl,⟨nd,rfl⟩,HA⟩:=hrel;have o1:OwnT (w.drewN nd) B a n c l:=Own.below H.out (below_drewN w nd)
   by_cases hlt:k+1<n
   ·have hlt':k+1<l.length:=by rw[HN.out];exact hlt
    obtain⟨x,hx⟩: ∃x,l[k]'(by omega)=x:=⟨_,rfl⟩;obtain⟨y,hy⟩: ∃y,l[k+1]=y:=⟨_,rfl⟩;have hxo:l[k]? =some x:=by rw[<-hx];exact List.getElem?_eq_getElem _
    have hyo:l[k+1]? =some y:=by rw[<-hy];exact List.getElem?_eq_getElem _
    have els:=(Own.els H.out cTh_len (by omega) (by have:=HN.out;omega)).1;obtain⟨p0,p1,p2⟩:=els.th hxo;obtain⟨q0,q1,q2⟩:=els.th hyo;have i1:=OwnT.idx o1 (by rw[HN.out];exact hl) k (by omega);have i2:=OwnT.idx o1 (by rw[HN.out];exact hl) (k+1) hlt;rw[show((k+1:Nat):Int)=(k:Int)+1 by omega]at i2;have hlen:(1:Int)<=(k:Int)+1:=by omega
    clear els hxo hyo
    by_cases e:y=x
    ·have hd:decide (y=x)=true:=decide_eq_true e
     have PS:=hid (Prs.start HA.out hlt' (by rw[hy,hx];exact e));clear hx hy HA e;go_wp2_with fail
     go_quiet (fail)
     go_wp2_with fail;have oA:OwnT (w.drewN (nd+nq)) B a n c l:=Own.below H.out (below_drewN w (nd+nq));have sA:Step w (w.drewN (nd+nq)) a a:=⟨⟨rfl,rfl,rfl,Nat.le_refl _,fun _ _ _=>rfl⟩,.inl rfl⟩;clear o1;generalize w.drewN (nd+nq)=W at*
     have hsome:a=some ⟨bk a,fo a,none⟩:=by
      refine oA.row.head ?_;intro e0;have:=congrArg List.length e0;rw[flat_length cTh_len]at this;simp only[List.length_nil]at this;have:=HN.out;omega
     have hcutA:Option.map (fun x:Addr=>x.add ((k+1)*3)) a=some ⟨bk a,fo a+(k+1)*3,none⟩:=by
      conv=>lhs;rw[hsome]
      rw[Option.map_some,Addr.add_lit]
     simp only[hcutA];clear hcutA hsome p0 p1 p2 q0 q1 q2 i1 i2 hd nd nq;obtain⟨i0,hi0⟩: ∃i0,k+1=i0:=⟨_,rfl⟩;have hi0':(k:Int)+1=(i0:Int):=by omega
     rw[show k+2=i0+1 by omega]at PS;simp only[hi0,hi0']at*;have h1i:1<=i0:=by omega
     clear hi0 hi0' hlt' hlen hk
     go_loopw [3,5] (fun s t wr=> ∃(i j:Nat) (L:List Th),s= .int .i64 i/\t= .int .i64 ((j:Int)+1)/\i0+j+1<=n/\Hid (Prs l L i (i0+j+1))/\OwnT wr B a n c L/\Step w wr a a) (fun _ t _=>n-(intOf t).toNat)
     case atStart=>exact⟨i0,0,l,rfl,by go_num,by omega,PS,oA,sA⟩
     case round=>
      clear oA sA PS;obtain⟨i,j,L,rfl,rfl,hj,PS,oR,sR⟩:=hrel;have hPl:=PS.out.len;have hPi:=PS.out.lt;have hLn:L.length=n:=by rw[hPl,HN.out]
      clear hPl
      by_cases hq:i0+j+1<n
      ·have hql:i0+j+1<l.length:=by rw[HN.out];exact hq
       obtain⟨u,hu⟩: ∃u,l[i0+j]'(by omega)=u:=⟨_,rfl⟩;obtain⟨v,hv⟩: ∃v,l[i0+j+1]=v:=⟨_,rfl⟩;have hLu:(L.drop i0)[j]? =some u:=by rw[List.getElem?_drop,PS.out.rest _ (by omega),<-hu];exact List.getElem?_eq_getElem _
       have hLv:(L.drop i0)[j+1]? =some v:=by rw[List.getElem?_drop,show i0+(j+1)=i0+j+1 by omega,PS.out.rest _ (by omega),<-hv];exact List.getElem?_eq_getElem _
       have els:=(Own.els oR cTh_len (by omega) (by omega)).1
       have hsomeR:a=some ⟨bk a,fo a,none⟩:=by
        refine oR.row.head ?_;intro e0;have:=congrArg List.length e0;rw[flat_length cTh_len]at this;simp only[List.length_nil]at this;omega
       have els2:Els cTh wr (some ⟨bk a,fo a+i0*3,none⟩) (L.drop i0):=by
        have h9:=els.drop cTh_len (by omega) i0 (c=i0) (fun hc=>by omega)
        have h8:cutA a (c=i0) (i0*3)=some ⟨bk a,fo a+i0*3,none⟩:=by
         unfold cutA;rw[if_neg (by omega)];conv=>lhs;rw[hsomeR];rw[Option.map_some,Addr.add_lit]
        rwa[h8]at h9
       obtain⟨p0,p1,p2⟩:=els2.th hLu;obtain⟨q0,q1,q2⟩:=els2.th hLv;have hdl:(L.drop i0).length=n-i0:=by rw[List.length_drop,hLn]
       have i1:=els2.idx thl cTh_len j (by omega) (c-i0);have i2:=els2.idx thl cTh_len (j+1) (by omega) (c-i0);rw[hdl]at i1 i2;rw[show((j+1:Nat):Int)=(j:Int)+1 by omega]at i2;simp only[bk_some,fo_some]at p0 p1 p2 q0 q1 q2 i1 i2;have hM:(j:Int)+1<((n-i0:Nat):Int):=by omega
       have hj1:(1:Int)<=(j:Int)+1:=by omega
       by_cases e:v=u
       ·have hd:decide (v=u)=true:=decide_eq_true e
        have hd2:(!decide (v=u))=false:=by rw[hd];rfl
        have PS2:=hid (PS.out.skip hql (by rw[hv,hu];exact e));have HO2:=hid (And.intro oR sR);clear hu hv e hLu hLv els els2 hsomeR PS;go_wp2_with fail
        go_quiet (fail)
        obtain⟨oR,sR⟩:=HO2.out;have dB:=below_drewN wr nq;have oR:=Own.below oR dB;have sR:=sR.trans (step_drewN wr nq a);go_wp2_with fail
        go_roundw
        case rel=>exact⟨i,j+1,L,rfl,by go_num,by omega,PS2,oR,sR⟩
        case measure=>simp[intOf];omega
       ·have hd:decide (v=u)=false:=decide_eq_false e
        have hd2:(!decide (v=u))=true:=by rw[hd];rfl
        have PS2:=PS.out.keep hql (by rw[hv,hu];exact e);rw[hv]at PS2;have PS2:=hid PS2;have HO2:=hid (And.intro oR sR);have HLn:=hid hLn;clear hu hv e hLu hLv els els2 hsomeR PS hLn;go_wp2_with fail
        go_quiet (fail)
        obtain⟨oR,sR⟩:=HO2.out;have dB:=below_drewN wr nq;have oR:=Own.below oR dB;have sR:=sR.trans (step_drewN wr nq a);have q0:(wr.drewN nq).cell? ⟨bk a,fo a+i0*3+(j+1)*3,none⟩=some (.int .i64 v.thread):=by rw[cell?_drewN];exact q0
        have q1:(wr.drewN nq).cell? ⟨bk a,fo a+i0*3+(j+1)*3+1,none⟩=some (.int .i64 v.reg):=by rw[cell?_drewN];exact q1
        have q2:(wr.drewN nq).cell? ⟨bk a,fo a+i0*3+(j+1)*3+2,none⟩=some (.string (tx v.loc)):=by rw[cell?_drewN];exact q2
        clear p0 p1 p2;generalize wr.drewN nq=wq at*;have ii:=OwnT.idx oR (by rw[HLn.out];exact hl) i (by omega);have els:=(Own.els oR cTh_len (by omega) (by have:=HLn.out;omega)).1;obtain⟨z,hz⟩: ∃z,L[i]? =some z:=⟨_,List.getElem?_eq_getElem (by have:=HLn.out;omega)⟩;obtain⟨r0,r1,r2⟩:=els.th hz;obtain⟨f0,f1,f2⟩:=OwnT.frz oR (by omega) i;obtain⟨o2,s2⟩:=Own.storeE cTh_len oR (by omega) i (by have:=HLn.out;omega) v;have s3:=sR.trans s2;rw[setCells3]at o2 s3;have HO3:=hid (And.intro o2 s3);clear hz els oR sR o2 s2 s3 HO2;go_wp2_with fail;obtain⟨o2,s3⟩:=HO3.out
        go_roundw
        case rel=>exact⟨i+1,j+1,L.set i v,by go_num,by go_num,by omega,PS2,o2,s3⟩
        case measure=>simp[intOf];omega
      ·have hqn:i0+j+1=n:=by omega
       have hq2:i0+j+1=l.length:=by rw[HN.out];exact hqn
       have PSn:=PS.out;rw[hq2]at PSn;obtain⟨hd1,hd2⟩:=PSn.done;have hi:i<n:=by omega
       have hM:((n-i0:Nat):Int)<=(j:Int)+1:=by omega
       have sc:=run_cut_from thl a n c i (by omega) .i64;have st:=run_cut_to thl a n c i (by omega) .i64;obtain⟨w9,hrun,o9,s9⟩:=run_clear_end thl Tryz.zeroValue25 (cTh_one ⟨0,0,[]⟩) oR i hi;have o10:=Own.frontE cTh_len o9 hLn.symm (by omega);rw[hd1]at o10;have s10:=sR.trans s9;have HD:=hid hd2;have HO3:=hid (And.intro o10 s10);clear hd1 hd2 PSn PS o9 s9 o10 s10 oR sR hq2 hqn hLn;go_wp2_with fail;go_ret;rw[HD.out];exact⟨rfl,HO3.out.1,HO3.out.2⟩
    ·have hd:decide (y=x)=false:=decide_eq_false e
     have HA2:=hid (show Apa l (k+2)from fun i h1 h2=>by
      by_cases hik:i=k
      ·subst hik;rw[hy,hx];exact e
      ·exact HA.out i h1 (by omega))
     clear hx hy HA e o1;go_wp2_with fail
     go_quiet (fail)
     go_wp2_with fail
     go_roundw
     case rel=>exact⟨k+1,by omega,by go_num,⟨nd+nq,rfl⟩,HA2⟩
     case measure=>simp[intOf];omega
   ·have hkn:k+1=n:=by omega
    have E:=hid (show cmpct l=l from Apa.all (by rw[HN.out,<-hkn];exact HA.out));clear HA hkn;go_wp2_with fail;go_ret;rw[E.out,HN.out];exact⟨rfl,o1,step_drewN w nd a⟩
end Go.Proofs.YtkbbgjloifmmbaaGreatDoor
namespace Go.Proofs.YtkbbgjloifmmbaaGreatDoor
open Go.RowKit
abbrev u8T:TypeId:=5
def Blk(w:World)(b:Nat)(l:List Value)(T:TypeId):Prop:=w.heap[b]? =some (.cells l.toArray T (0,0))
theorem Blk.new(w:World)(us:Array Value)(T:TypeId):Blk (w.alloc (.cells us T)) w.heap.size us.toList T:=heap_alloc_new w _
theorem Blk.lt{w:World}{b:Nat}{l:List Value}{T:TypeId}(h:Blk w b l T):b<w.heap.size:=(Array.getElem?_eq_some_iff.1 h).1
theorem Blk.below{w w':World}{b:Nat}{l:List Value}{T:TypeId}(h:Blk w b l T)(hb:Below w.heap.size w w'):Blk w' b l T:=by
 unfold Blk;rw[hb.block b h.lt];exact h
theorem Blk.get{w:World}{b:Nat}{l:List Value}{T:TypeId}(h:Blk w b l T)(k:Nat)(v:Value)(hk:l[k]? =some v):w.cell? ⟨b,k,none⟩=some v:=by
 rw[Lib.cell_of_heap h k];simpa using hk
theorem Blk.frozen{w:World}{b:Nat}{l:List Value}{T:TypeId}(h:Blk w b l T)(k:Nat):w.frozen? ⟨b,k,none⟩=false:=Lib.frozen_of_heap h k
theorem Blk.others{w w':World}{b b':Nat}{l:List Value}{T:TypeId}(h:Blk w b l T)(hk:Lib.OthersKept u8T (some b') w w')(hne:b≠b')(hT:T≠u8T):Blk w' b l T:=
 hk b _ h (by simpa using hne) (fun c fz e=>by cases e;exact hT rfl)
def BldAt(w:World)(B b:Nat)(T:TypeId)(R:List Value)(p:Value)(l:Tx):Prop:=
 B<=b/\ ∃v,w.heap[b]? =some (.cells (p::v::R).toArray T (0,0))/\w.ownsRow B u8T 1 v l.length (Lib.byteCells l)/\v.ownBlock≠some b
def Bld(w:World)(B b:Nat)(T:TypeId)(R:List Value)(l:Tx):Prop:=BldAt w B b T R (.pointer none) l\/BldAt w B b T R (.pointer (some ⟨b,0,none⟩)) l
theorem Bld.at{w:World}{B b:Nat}{T:TypeId}{R:List Value}{l:Tx}(h:Bld w B b T R l): ∃p,BldAt w B b T R p l:=by
 rcases h with h|h
 ·exact⟨_,h⟩
 ·exact⟨_,h⟩
theorem BldAt.below{w w':World}{B b:Nat}{T:TypeId}{R:List Value}{p:Value}{l:Tx}(h:BldAt w B b T R p l)(hb:Below w.heap.size w w'):BldAt w' B b T R p l:=by
 obtain⟨h1,v,h2,h3,h4⟩:=h;have hlt:=(Array.getElem?_eq_some_iff.1 h2).1;refine⟨h1,v,by rw[hb.block b hlt];exact h2,?_,h4⟩;rcases h3.2 with⟨hv,h0⟩|⟨g,cap,cur,hv,hbg,hg,r⟩
 ·exact⟨h3.1,.inl ⟨hv,h0⟩⟩
 ·exact⟨h3.1,.inr ⟨g,cap,cur,hv,hbg,by rw[hb.block g (Array.getElem?_eq_some_iff.1 hg).1];exact hg,r⟩⟩
theorem Bld.below{w w':World}{B b:Nat}{T:TypeId}{R:List Value}{l:Tx}(h:Bld w B b T R l)(hb:Below w.heap.size w w'):Bld w' B b T R l:=
 h.elim (fun x=>.inl (x.below hb)) (fun x=>.inr (x.below hb))
theorem Bld.base{w:World}{B b:Nat}{T:TypeId}{R:List Value}{l:Tx}(h:Bld w B b T R l):B<=b/\b<w.heap.size:=by
 obtain⟨p,h1,v,h2,_⟩:=h.at;exact⟨h1,(Array.getElem?_eq_some_iff.1 h2).1⟩
theorem Bld.rest{w:World}{B b:Nat}{T:TypeId}{R:List Value}{l:Tx}(h:Bld w B b T R l)(k:Nat)(v:Value)(hk:R[k]? =some v):w.cell? ⟨b,k+2,none⟩=some v:=by
 obtain⟨p,h1,u,h2,_⟩:=h.at;rw[Lib.cell_of_heap h2];simpa using hk
theorem ownBlock_neB{w:World}{B:Nat}{T:TypeId}{v:Value}{n:Nat}{xs:List Value}{b:Nat}{cs:Array Value}{fr:Nat × Nat}(hown:w.ownsRow B u8T 1 v n xs)(hb:w.heap[b]? =some (.cells cs T fr))(hT:T≠u8T):v.ownBlock≠some b:=by
 rcases hown.2 with⟨rfl,_⟩|⟨g,cap,cur,rfl,hg,hh,_⟩
 ·simp[Value.ownBlock]
 ·intro e
  simp[Value.ownBlock]at e;rw[e,hb]at hh;simp at hh;exact hT hh.2.1
theorem Bld.new(w:World)(T:TypeId)(R:List Value):Bld (w.alloc (.cells (Value.pointer none:: .slice none 0 0::R).toArray T)) w.heap.size w.heap.size T R []:=
 .inl ⟨Nat.le_refl _,.slice none 0 0,heap_alloc_new w _,World.ownsRow_nil _ _ _ _,by simp[Value.ownBlock]⟩
theorem BldAt.put{w:World}{B b:Nat}{T:TypeId}{R:List Value}{p v v':Value}{l':Tx}(hB:B<=b)(hb:w.heap[b]? =some (.cells (p::v::R).toArray T (0,0)))(hown:w.ownsRow B u8T 1 v' l'.length (Lib.byteCells l'))(hT:T≠u8T):BldAt (w.setCell ⟨b,1,none⟩ v') B b T R p l':=by
 have hne:v'.ownBlock≠some b:=ownBlock_neB hown hb hT;refine⟨hB,v',?_,?_,hne⟩
 ·simp[World.setCell,Array.getElem?_modify,hb]
 ·refine hown.kept (row:=some b) ⟨rfl,rfl,rfl,by simp[World.setCell],fun k _ hk=>Below.heap_setCell _ _ _ _ (fun e=>hk (by simp[e]))⟩ ?_
  exact Or.inr hne
end Go.Proofs.YtkbbgjloifmmbaaGreatDoor
