/- What ReadBackP leans on, part 30. -/
import Derived.Test.YtkbbgjloifmmbaaGreatDoorRb24
import Derived.Test.YtkbbgjloifmmbaaGreatDoorRb29
import Derived.Shelf.Sort.Plain
import Derived.Shelf.Slices.In.SortNone
import Derived.Shelf.Slices.CompactS
import Derived.Shelf.SlSortCmp.NoneTotal
import Derived.Shelf.SlicesE.Clone
import Derived.Shelf.Strings.Repeat
import Derived.Lib.Builder
import Derived.Lib.AppendStr
import Derived.Lib.UnsafeStr
import Derived.Lib.OthersKept
import Derived.Laws.Externs
set_option linter.unusedVariables false
set_option maxRecDepth 100000
set_option maxHeartbeats 6400000
namespace Go.Proofs.YtkbbgjloifmmbaaGreatDoor
open _root_.Go.Proofs.Tryz
open _root_.List renaming getElem?_eq_getElem->amK,take_succ_eq_append_getElem->ao5,getElem!_eq_getElem?_getD->apF,eq_nil_of_length_eq_zero->amN,size_toArray->apK,getElem?_drop->aoi,getElem_take->apP,length->aoQ,length_take->aoc,length_set->apR,length_nil->anX
open _root_.Array renaming getElem?_eq_some_iff->apD,getElem?_modify->apN
open _root_.Go.Lib renaming cell_of_heap->apE,byteCells->apG,OthersKept->apH,frozen_of_heap->apI
open _root_.Nat renaming le_refl->amS,zero_add->amZ
open _root_.Bool renaming eq_false_iff->aol
open _root_.And renaming intro->aov
open _root_.Go.World renaming setCell->apJ
open _root_.Go.Sort renaming ahead->apL
open _root_.Go.Shelf renaming Ren->aoR
open _root_.Go.Oper renaming upon_value->apM
open _root_.Go.Value renaming ownBlock->anb
open _root_.Go.Result renaming andThen->aoU
open _root_.Go.Lib.OthersKept renaming refl->apO
open _root_.Option renaming map_some->am7
open Go.RowKit Go.Sort
theorem Own.st{w w':World}{B E size n c rb:Nat}{a:Option Addr}{xs:List Value}(h:Own w B E size a n c xs)(s:St w w' rb)(hr:rb<B):Own w' B E size a n c xs:=by
 refine Own.kept h s.grown ?_
 by_cases ha:a=none
 ·exact .inl ha
 ·have:=(Own.lt h ha).1
  right
  simp;omega
structure j7(w:World)(B:Nat)(t:ak):Prop where
 name:t.name.length<=262144
 aC:t.aC.length<=262144
 sm: ∀x∈t.init,uW x
 few:t.init.length<=1000000
 init:zM w B t.ia t.init.length t.ic t.init
 Fo: ∀x∈t.code,∀i∈x.l,sZ i
 Ao:t.code.length<=1000000/\ ∀x∈t.code,x.l.length<=1000000
 code:eo w B t.ca t.cc t.code
 node:bz w B t.node
 nd:(gA t.node).Nodup
section
variable {w w':World} {B:Nat} {t:ak}
theorem j7.vO(h:j7 w B t):dw w t where
 name:=by have:=h.name;omega
 aC:=by have:=h.aC;omega
 init:=⟨Own.row h.init,by have:=h.few;omega⟩
 Q5:=(Own.cap h.init).1
 nY:=fun x hx=>by obtain⟨-, -, a,b⟩:=h.sm x hx;exact⟨by omega,by omega⟩
 wide:=fun x hx=>by obtain⟨a,b,-, -⟩:=h.sm x hx;unfold fT;omega
 code:=⟨Own.row h.code.row,by have:=h.Ao.1;omega⟩
 NG:=by have:=h.code.len;omega
 rows:=fun x hx=>⟨⟨Own.row (h.code.own x hx),by have:=h.Ao.2 x hx;omega⟩,(Own.cap (h.code.own x hx)).1,fun i hi=>by obtain⟨a,b⟩:=h.Fo x hx i hi;exact⟨by omega,by omega⟩⟩
 node:=h.node.vO
theorem j7.kept{r:Option Nat}(h:j7 w B t)(hg:w.grownBy w' r)(hr: ∀b,r=Option.some b->b<B):j7 w' B t:=by
 refine⟨h.name,h.aC,h.sm,h.few,Own.kept h.init hg ?_,h.Fo,h.Ao,h.code.kept hg hr,h.node.kept hg fun b hb e=>?_,h.nd⟩
 ·by_cases ha:t.ia=none
  ·exact .inl ha
  ·have:=(Own.lt h.init ha).1
   right;intro e
   have:=hr _ e.symm;omega
 ·have:=(h.node.lt b hb).1
  have:=hr _ e.symm;omega
theorem j7.below(h:j7 w B t)(hb:Below w.heap.size w w'):j7 w' B t:=
 ⟨h.name,h.aC,h.sm,h.few,Own.below h.init hb,h.Fo,h.Ao,h.code.below hb,h.node.keep hb,h.nd⟩
theorem j7.mono{B':Nat}(h:j7 w B t)(hB:B'<=B):j7 w B' t:=
 ⟨h.name,h.aC,h.sm,h.few,Own.mono h.init hB,h.Fo,h.Ao,h.code.mono hB,h.node.mono hB,h.nd⟩
end
abbrev zTL:List Value:=[.int .i64 0,.string ⟨#[]⟩,.string ⟨#[]⟩,.slice none 0 0,.slice none 0 0,.int .i64 0,.int .i64 0,.int .i64 0,.int .i64 0,.string ⟨#[]⟩,.int .i64 0,.slice none 0 0]
abbrev pO:Obj:=.cells #[.int .i64 0,.string ⟨#[]⟩,.string ⟨#[]⟩,.slice none 0 0,.slice none 0 0,.int .i64 0,.int .i64 0,.int .i64 0,.int .i64 0,.string ⟨#[]⟩,.int .i64 0,.slice none 0 0] 32
abbrev FO:Value:=.agg #[.int .i64 0,.string ⟨#[]⟩,.string ⟨#[]⟩,.slice none 0 0,.slice none 0 0,.int .i64 0,.int .i64 0,.int .i64 0,.int .i64 0,.string ⟨#[]⟩,.int .i64 0,.slice none 0 0]
def t0:ak:=⟨0,[],[],none,0,[],none,0,[],0,.mk 0 ⟨0,0,[]⟩ 0 none 0 []⟩
abbrev Cj:Obj:=.cells #[.int .i64 0] 33
abbrev WO:Obj:=.cells #[.int .i64 0] 3
abbrev y9(w:World):World:=((w.alloc pO).alloc Cj).alloc WO
theorem GJ(w:World):Below w.heap.size w (y9 w):=aN
abbrev ahT(s:Tx):Obj:=.cells #[.string (tx s),.int .i64 0,.int .i64 0,.string ⟨#[]⟩,.string ⟨#[]⟩,.slice none 0 0,.slice none 0 0,.int .i64 0,.int .i64 0,.int .i64 0,.int .i64 0,.string ⟨#[]⟩,.int .i64 0,.slice none 0 0] 68
theorem bQ.new{w:World}{s:Tx}(hs:s.length<=262144)(g:Gl w):bQ w (w.alloc (ahT s)) s 0 t0:=
 ⟨World.ownsRow_lit w (e:=68) #[.string (tx s),.int .i64 0,.int .i64 0,.string ⟨#[]⟩,.string ⟨#[]⟩,.slice none 0 0,.slice none 0 0,.int .i64 0,.int .i64 0,.int .i64 0,.int .i64 0,.string ⟨#[]⟩,.int .i64 0,.slice none 0 0] 1 (amS w.heap.size) (size:=14) (by unfold maxLen;omega) (by simp),al w _,g,hs,Nat.zero_le _⟩
theorem Wu{w w4:World}(S:Below (y9 w).heap.size (y9 w) w4):aG w4 w.heap.size zTL/\w4.cell? ⟨w.heap.size+1,0,none⟩=some (.int .i64 0)/\w4.cell? ⟨w.heap.size+1+1,0,none⟩=some (.int .i64 0)/\(∀j,w4.frozen? ⟨w.heap.size,j,none⟩=false)/\(∀j,w4.frozen? ⟨w.heap.size+1,j,none⟩=false)/\(∀j,w4.frozen? ⟨w.heap.size+1+1,j,none⟩=false):=by
 have a1:=al w pO;have a2:=al (w.alloc pO) Cj;have a3:=al ((w.alloc pO).alloc Cj) WO;have b1:=(((aG.new w #[.int .i64 0,.string ⟨#[]⟩,.string ⟨#[]⟩,.slice none 0 0,.slice none 0 0,.int .i64 0,.int .i64 0,.int .i64 0,.int .i64 0,.string ⟨#[]⟩,.int .i64 0,.slice none 0 0] 32).below a2).below a3).below S;have b2:=((aG.new (w.alloc pO) #[.int .i64 0] 33).below a3).below S;have b3:=(aG.new ((w.alloc pO).alloc Cj) #[.int .i64 0] 3).below S;have c2:=b2.get 0 _ rfl;have c3:=b3.get 0 _ rfl;simp only[lz]at c2 c3;refine⟨b1,c2,c3,fun j=>?_,fun j=>?_,fun j=>?_⟩
 ·rw[S.frozen (p:=⟨w.heap.size,j,none⟩) (by simp<;>omega),a3.frozen (p:=⟨w.heap.size,j,none⟩) (by simp<;>omega),a2.frozen (p:=⟨w.heap.size,j,none⟩) (by simp)]
  exact ew w _ _ j
 ·rw[S.frozen (p:=⟨w.heap.size+1,j,none⟩) (by simp<;>omega),a3.frozen (p:=⟨w.heap.size+1,j,none⟩) (by simp)]
  have:=ew (w.alloc pO) #[.int .i64 0] 33 j;rw[lz]at this;exact this
 ·rw[S.frozen (p:=⟨w.heap.size+1+1,j,none⟩) (by simp)]
  have:=ew ((w.alloc pO).alloc Cj) #[.int .i64 0] 3 j;rw[lz,lz]at this;exact this
def zQ(p:EP ak)(w:World)(e:Ending)(w':World):Prop:=Below w.heap.size w w'/\match p with
 | .error (n,k)=>e= .returned (.tuple #[FO,.int .i64 n,.int .i64 k])
 | .ok t=> ∃y,lA y=t/\e= .returned (.tuple #[vT y,.int .i64 0,.int .i64 0])/\j7 w' w.heap.size y
theorem UB{w w5 w6 w7 w8:World}{B:Nat}(h0:Below B w w5)(h3:aM w7 w8 (B+1+1))(h2:aM w6 w7 (B+1))(h1:aM w5 w6 B)(hB:B<=w5.heap.size):Below B w w8:=by
 have a1:=h0.grown h1.grown hB (fun r hr=>by simp at hr;omega);have a2:=a1.grown h2.grown (by rw[h1.size];exact hB) (fun r hr=>by simp at hr;omega);exact a2.grown h3.grown (by rw[h2.size,h1.size];exact hB) (fun r hr=>by simp at hr;omega)
theorem j7.yI{w5 w6 w7 w8:World}{B:Nat}{y:ak}(h0:j7 w5 (B+3) y)(h3:aM w7 w8 (B+1+1))(h2:aM w6 w7 (B+1))(h1:aM w5 w6 B):j7 w8 B y:=by
 have a1:=h0.kept h1.grown (fun r hr=>by simp at hr;omega);have a2:=a1.kept h2.grown (fun r hr=>by simp at hr;omega);exact(a2.kept h3.grown (fun r hr=>by simp at hr;omega)).mono (by omega)
theorem abr{w w5 w6 w7 w8:World}{t y:ak}{e:Ending}(h0:Below w.heap.size w w5)(hO:j7 w5 (w.heap.size+3) y)(hy:lA y=t)(he:e= .returned (.tuple #[vT y,.int .i64 0,.int .i64 0]))(h3:aM w7 w8 (w.heap.size+1+1))(h2:aM w6 w7 (w.heap.size+1))(h1:aM w5 w6 w.heap.size):zQ (.ok t) w e w8:=
 ⟨UB h0 h3 h2 h1 h0.size,y,hy,he,hO.yI h3 h2 h1⟩
theorem abq{w w5 w6 w7 w8:World}{er:Int}{k:Nat}{e:Ending}(h0:Below w.heap.size w w5)(he:e= .returned (.tuple #[FO,.int .i64 er,.int .i64 k]))(h3:aM w7 w8 (w.heap.size+1+1))(h2:aM w6 w7 (w.heap.size+1))(h1:aM w5 w6 w.heap.size):zQ (.error (er,k)) w e w8:=
 ⟨UB h0 h3 h2 h1 h0.size,he⟩
theorem YW{s:Tx}{e:Int × Nat}(h:gE s.length s= .error e):jO s.length s= .error e:=by
 unfold jO;rw[h];rfl
theorem YX{s n r1:Tx}{a:Int}{e:Int × Nat}(h:gE s.length s= .ok (a,n,r1))(h2:eP s.length r1= .error e):jO s.length s= .error e:=by
 unfold jO;rw[h];change (eP s.length r1 >>= _)=_;rw[h2];rfl
theorem YY{s n r1 c r2:Tx}{a:Int}{e:Int × Nat}(h:gE s.length s= .ok (a,n,r1))(h2:eP s.length r1= .ok (c,r2))(h3:fD a s.length r2= .error e):jO s.length s= .error e:=by
 unfold jO;rw[h];change (eP s.length r1 >>= _)=_;rw[h2];change (fD a s.length r2 >>= _)=_;rw[h3];rfl
theorem YZ{s n r1 c r2 r3:Tx}{a:Int}{i:List aF}{e:Int × Nat}(h:gE s.length s= .ok (a,n,r1))(h2:eP s.length r1= .ok (c,r2))(h3:fD a s.length r2= .ok (i,r3))(h4:gu a s.length r3= .error e):jO s.length s= .error e:=by
 unfold jO;rw[h];change (eP s.length r1 >>= _)=_;rw[h2];change (fD a s.length r2 >>= _)=_;rw[h3];change (gu a s.length r3 >>= _)=_;rw[h4];rfl
theorem Y1{s n r1 c r2 r3 r4:Tx}{a:Int}{i:List aF}{l:List (List Ins)}{e:Int × Nat}(h:gE s.length s= .ok (a,n,r1))(h2:eP s.length r1= .ok (c,r2))(h3:fD a s.length r2= .ok (i,r3))(h4:gu a s.length r3= .ok (l,r4))(h5:kK a s.length r4= .error e):jO s.length s= .error e:=by
 unfold jO;rw[h];change (eP s.length r1 >>= _)=_;rw[h2];change (fD a s.length r2 >>= _)=_;rw[h3];change (gu a s.length r3 >>= _)=_;rw[h4];change (kK a s.length r4 >>= _)=_;rw[h5];rfl
theorem Bt{s:Tx}{e:Int × Nat}(hl:s.length<=262144)(h:jO s.length s= .error e):gL s= .error e:=by
 unfold gL;rw[if_neg (by omega),h]
theorem afH{s:Tx}{t:ak}(hl:s.length<=262144)(h:jO s.length s= .ok t):gL s=if bI t=0 then .ok t else .error (bI t,0):=by
 unfold gL;rw[if_neg (by omega),h]
end Go.Proofs.YtkbbgjloifmmbaaGreatDoor
namespace Go.Proofs.YtkbbgjloifmmbaaGreatDoor
open _root_.Go.Proofs.Tryz
open _root_.List renaming getElem?_eq_getElem->amK,take_succ_eq_append_getElem->ao5,getElem!_eq_getElem?_getD->apF,eq_nil_of_length_eq_zero->amN,size_toArray->apK,getElem?_drop->aoi,getElem_take->apP,length->aoQ,length_take->aoc,length_set->apR,length_nil->anX
open _root_.Array renaming getElem?_eq_some_iff->apD,getElem?_modify->apN
open _root_.Go.Lib renaming cell_of_heap->apE,byteCells->apG,OthersKept->apH,frozen_of_heap->apI
open _root_.Nat renaming le_refl->amS,zero_add->amZ
open _root_.Bool renaming eq_false_iff->aol
open _root_.And renaming intro->aov
open _root_.Go.World renaming setCell->apJ
open _root_.Go.Sort renaming ahead->apL
open _root_.Go.Shelf renaming Ren->aoR
open _root_.Go.Oper renaming upon_value->apM
open _root_.Go.Value renaming ownBlock->anb
open _root_.Go.Result renaming andThen->aoU
open _root_.Go.Lib.OthersKept renaming refl->apO
open _root_.Option renaming map_some->am7
open Go.Shelf
def Tryz.amI:aoR:=⟨fun|190=>145|125=>231|258=>230|128=>294|129=>295|302=>285|303=>286|304=>287|305=>288|306=>289|307=>290|308=>291|309=>292|310=>293|333=>326|329=>327|330=>328|334=>329|335=>330|336=>331|344=>349|n=>n,fun|31=>42|9=>9|3=>3|46=>45|0=>0|51=>265|53=>244|4=>4|183=>259|182=>258|131=>85|5=>5|218=>288|222=>292|228=>305|229=>306|n=>n,fun|n=>n⟩
theorem Tryz.adY:Go.Proofs.Lays.n190 prog Tryz.amI:={
 mixed:=by kernel_rfl
 f125:=func231.trans (congrArg some (by kernel_rfl))
 f128:=func294.trans (congrArg some (by kernel_rfl))
 f129:=func295.trans (congrArg some (by kernel_rfl))
 f190:=func145.trans (congrArg some (by kernel_rfl))
 f258:=func230.trans (congrArg some (by kernel_rfl))
 f302:=func285.trans (congrArg some (by kernel_rfl))
 f303:=func286.trans (congrArg some (by kernel_rfl))
 f304:=func287.trans (congrArg some (by kernel_rfl))
 f305:=func288.trans (congrArg some (by kernel_rfl))
 f306:=func289.trans (congrArg some (by kernel_rfl))
 f307:=func290.trans (congrArg some (by kernel_rfl))
 f308:=func291.trans (congrArg some (by kernel_rfl))
 f309:=func292.trans (congrArg some (by kernel_rfl))
 f310:=func293.trans (congrArg some (by kernel_rfl))
 f329:=func327.trans (congrArg some (by kernel_rfl))
 f330:=func328.trans (congrArg some (by kernel_rfl))
 f333:=func326.trans (congrArg some (by kernel_rfl))
 f334:=func329.trans (congrArg some (by kernel_rfl))
 f335:=func330.trans (congrArg some (by kernel_rfl))
 f336:=func331.trans (congrArg some (by kernel_rfl))
 f344:=func349.trans (congrArg some (by kernel_rfl))
 t0:=underlying0
 a0:=isAgg0
 z0:=sizeOf0
 v0:=zeroValue0
 t3:=underlying3
 a3:=isAgg3
 z3:=sizeOf3
 v3:=zeroValue3
 t4:=underlying4
 a4:=isAgg4
 z4:=sizeOf4
 v4:=zeroValue4
 t5:=underlying5
 a5:=isAgg5
 z5:=sizeOf5
 v5:=zeroValue5
 t9:=underlying9
 a9:=isAgg9
 z9:=sizeOf9
 v9:=zeroValue9
 t31:=underlying42
 a31:=isAgg42
 z31:=sizeOf42
 v31:=zeroValue42
 t46:=underlying45
 a46:=isAgg45
 z46:=sizeOf45
 v46:=zeroValue45
 t51:=underlying265
 a51:=isAgg265
 z51:=sizeOf265
 v51:=zeroValue265
 t53:=underlying244
 a53:=isAgg244
 z53:=sizeOf244
 v53:=zeroValue244
 t131:=underlying85
 a131:=isAgg85
 z131:=sizeOf85
 v131:=zeroValue85
 t182:=underlying258
 a182:=isAgg258
 z182:=sizeOf258
 v182:=zeroValue258
 t183:=underlying259
 a183:=isAgg259
 z183:=sizeOf259
 v183:=zeroValue259
 t218:=underlying288
 a218:=isAgg288
 z218:=sizeOf288
 v218:=zeroValue288
 t222:=underlying292
 a222:=isAgg292
 z222:=sizeOf292
 v222:=zeroValue292
 t228:=underlying305
 a228:=isAgg305
 z228:=sizeOf305
 v228:=zeroValue305
 t229:=underlying306
 a229:=isAgg306
 z229:=sizeOf306
 v229:=zeroValue306 }
def Tryz.aqN:aoR:=⟨fun|194=>146|n=>n,fun|31=>42|9=>9|3=>3|4=>4|0=>0|n=>n,fun|n=>n⟩
theorem Tryz.adZ:Go.Proofs.Lays.n194 prog Tryz.aqN:={
 mixed:=by kernel_rfl
 f194:=func146.trans (congrArg some (by kernel_rfl))
 t0:=underlying0
 a0:=isAgg0
 z0:=sizeOf0
 v0:=zeroValue0
 t3:=underlying3
 a3:=isAgg3
 z3:=sizeOf3
 v3:=zeroValue3
 t4:=underlying4
 a4:=isAgg4
 z4:=sizeOf4
 v4:=zeroValue4
 t9:=underlying9
 a9:=isAgg9
 z9:=sizeOf9
 v9:=zeroValue9
 t31:=underlying42
 a31:=isAgg42
 z31:=sizeOf42
 v31:=zeroValue42 }
def Tryz.aqO:aoR:=⟨fun|6=>282|15=>231|14=>324|28=>294|29=>295|20=>340|21=>341|22=>342|23=>343|24=>344|25=>345|26=>346|27=>347|46=>352|47=>327|48=>328|49=>353|50=>354|57=>358|n=>n,fun|22=>112|24=>25|25=>256|3=>3|39=>45|0=>0|53=>265|55=>244|4=>4|46=>259|45=>258|50=>85|5=>5|9=>9|66=>288|70=>292|76=>305|77=>306|n=>n,fun|n=>n⟩
theorem Tryz.aev:Go.Proofs.SlLaysF0.n6 prog Tryz.aqO:={
 mixed:=by kernel_rfl
 f6:=⟨f282.name,by decide,func282.trans (congrArg some (by kernel_rfl))⟩
 f14:=⟨f324.name,by decide,func324.trans (congrArg some (by kernel_rfl))⟩
 f15:=func231.trans (congrArg some (by kernel_rfl))
 f20:=⟨f340.name,by decide,func340.trans (congrArg some (by kernel_rfl))⟩
 f21:=⟨f341.name,by decide,func341.trans (congrArg some (by kernel_rfl))⟩
 f22:=⟨f342.name,by decide,func342.trans (congrArg some (by kernel_rfl))⟩
 f23:=⟨f343.name,by decide,func343.trans (congrArg some (by kernel_rfl))⟩
 f24:=⟨f344.name,by decide,func344.trans (congrArg some (by kernel_rfl))⟩
 f25:=⟨f345.name,by decide,func345.trans (congrArg some (by kernel_rfl))⟩
 f26:=⟨f346.name,by decide,func346.trans (congrArg some (by kernel_rfl))⟩
 f27:=⟨f347.name,by decide,func347.trans (congrArg some (by kernel_rfl))⟩
 f28:=func294.trans (congrArg some (by kernel_rfl))
 f29:=func295.trans (congrArg some (by kernel_rfl))
 f46:=⟨f352.name,by decide,func352.trans (congrArg some (by kernel_rfl))⟩
 f47:=func327.trans (congrArg some (by kernel_rfl))
 f48:=func328.trans (congrArg some (by kernel_rfl))
 f49:=⟨f353.name,by decide,func353.trans (congrArg some (by kernel_rfl))⟩
 f50:=⟨f354.name,by decide,func354.trans (congrArg some (by kernel_rfl))⟩
 f57:=⟨f358.name,by decide,func358.trans (congrArg some (by kernel_rfl))⟩
 t0:=underlying0
 a0:=isAgg0
 z0:=sizeOf0
 v0:=zeroValue0
 t3:=underlying3
 a3:=isAgg3
 z3:=sizeOf3
 v3:=zeroValue3
 t4:=underlying4
 a4:=isAgg4
 z4:=sizeOf4
 v4:=zeroValue4
 t5:=underlying5
 a5:=isAgg5
 z5:=sizeOf5
 v5:=zeroValue5
 t9:=underlying9
 a9:=isAgg9
 z9:=sizeOf9
 v9:=zeroValue9
 t22:=underlying112
 a22:=isAgg112
 z22:=sizeOf112
 v22:=zeroValue112
 t25:=underlying256
 a25:=isAgg256
 z25:=sizeOf256
 v25:=zeroValue256
 t39:=underlying45
 a39:=isAgg45
 z39:=sizeOf45
 v39:=zeroValue45
 t45:=underlying258
 a45:=isAgg258
 z45:=sizeOf258
 v45:=zeroValue258
 t46:=underlying259
 a46:=isAgg259
 z46:=sizeOf259
 v46:=zeroValue259
 t50:=underlying85
 a50:=isAgg85
 z50:=sizeOf85
 v50:=zeroValue85
 t53:=underlying265
 a53:=isAgg265
 z53:=sizeOf265
 v53:=zeroValue265
 t55:=underlying244
 a55:=isAgg244
 z55:=sizeOf244
 v55:=zeroValue244
 t66:=underlying288
 a66:=isAgg288
 z66:=sizeOf288
 v66:=zeroValue288
 t70:=underlying292
 a70:=isAgg292
 z70:=sizeOf292
 v70:=zeroValue292
 t76:=underlying305
 a76:=isAgg305
 z76:=sizeOf305
 v76:=zeroValue305
 t77:=underlying306
 a77:=isAgg306
 z77:=sizeOf306
 v77:=zeroValue306 }
def Tryz.amw:aoR:=⟨fun|105=>209|212=>269|99=>94|165=>270|166=>56|170=>61|169=>62|263=>318|264=>319|206=>172|240=>120|241=>320|276=>205|277=>339|n=>n,fun|9=>9|3=>3|4=>4|20=>20|0=>0|46=>45|109=>249|5=>5|72=>96|76=>99|51=>265|146=>270|53=>244|148=>281|70=>93|37=>94|75=>98|127=>154|164=>205|80=>106|n=>n,fun|n=>n⟩
theorem Tryz.amv:Go.Proofs.Lays.n105 prog Tryz.amw:={
 mixed:=by kernel_rfl
 f99:=func94.trans (congrArg some (by kernel_rfl))
 f105:=func209.trans (congrArg some (by kernel_rfl))
 f165:=func270.trans (congrArg some (by kernel_rfl))
 f166:=func56.trans (congrArg some (by kernel_rfl))
 f169:=func62.trans (congrArg some (by kernel_rfl))
 f170:=func61.trans (congrArg some (by kernel_rfl))
 f206:=func172.trans (congrArg some (by kernel_rfl))
 f212:=func269.trans (congrArg some (by kernel_rfl))
 f240:=func120.trans (congrArg some (by kernel_rfl))
 f241:=func320.trans (congrArg some (by kernel_rfl))
 f263:=func318.trans (congrArg some (by kernel_rfl))
 f264:=func319.trans (congrArg some (by kernel_rfl))
 f276:=func205.trans (congrArg some (by kernel_rfl))
 f277:=func339.trans (congrArg some (by kernel_rfl))
 t0:=underlying0
 a0:=isAgg0
 z0:=sizeOf0
 v0:=zeroValue0
 t3:=underlying3
 a3:=isAgg3
 z3:=sizeOf3
 v3:=zeroValue3
 t4:=underlying4
 a4:=isAgg4
 z4:=sizeOf4
 v4:=zeroValue4
 t5:=underlying5
 a5:=isAgg5
 z5:=sizeOf5
 v5:=zeroValue5
 t9:=underlying9
 a9:=isAgg9
 z9:=sizeOf9
 v9:=zeroValue9
 t20:=underlying20
 a20:=isAgg20
 z20:=sizeOf20
 v20:=zeroValue20
 t37:=underlying94
 a37:=isAgg94
 z37:=sizeOf94
 v37:=zeroValue94
 t46:=underlying45
 a46:=isAgg45
 z46:=sizeOf45
 v46:=zeroValue45
 t51:=underlying265
 a51:=isAgg265
 z51:=sizeOf265
 v51:=zeroValue265
 t53:=underlying244
 a53:=isAgg244
 z53:=sizeOf244
 v53:=zeroValue244
 t70:=underlying93
 a70:=isAgg93
 z70:=sizeOf93
 v70:=zeroValue93
 t72:=underlying96
 a72:=isAgg96
 z72:=sizeOf96
 v72:=zeroValue96
 t75:=underlying98
 a75:=isAgg98
 z75:=sizeOf98
 v75:=zeroValue98
 t76:=underlying99
 a76:=isAgg99
 z76:=sizeOf99
 v76:=zeroValue99
 t109:=underlying249
 a109:=isAgg249
 z109:=sizeOf249
 v109:=zeroValue249
 t127:=underlying154
 a127:=isAgg154
 z127:=sizeOf154
 v127:=zeroValue154
 t146:=underlying270
 a146:=isAgg270
 z146:=sizeOf270
 v146:=zeroValue270
 t148:=underlying281
 a148:=isAgg281
 z148:=sizeOf281
 v148:=zeroValue281
 t164:=underlying205
 a164:=isAgg205
 z164:=sizeOf205
 v164:=zeroValue205 }
end Go.Proofs.YtkbbgjloifmmbaaGreatDoor
namespace Go.Proofs.YtkbbgjloifmmbaaGreatDoor
open _root_.Go.Proofs.Tryz
open _root_.List renaming getElem?_eq_getElem->amK,take_succ_eq_append_getElem->ao5,getElem!_eq_getElem?_getD->apF,eq_nil_of_length_eq_zero->amN,size_toArray->apK,getElem?_drop->aoi,getElem_take->apP,length->aoQ,length_take->aoc,length_set->apR,length_nil->anX
open _root_.Array renaming getElem?_eq_some_iff->apD,getElem?_modify->apN
open _root_.Go.Lib renaming cell_of_heap->apE,byteCells->apG,OthersKept->apH,frozen_of_heap->apI
open _root_.Nat renaming le_refl->amS,zero_add->amZ
open _root_.Bool renaming eq_false_iff->aol
open _root_.And renaming intro->aov
open _root_.Go.World renaming setCell->apJ
open _root_.Go.Sort renaming ahead->apL
open _root_.Go.Shelf renaming Ren->aoR
open _root_.Go.Oper renaming upon_value->apM
open _root_.Go.Value renaming ownBlock->anb
open _root_.Go.Result renaming andThen->aoU
open _root_.Go.Lib.OthersKept renaming refl->apO
open _root_.Option renaming map_some->am7
open Go.RowKit Go.Sort
theorem Zy(a b:Tx)(w:World):Calls prog 325 #[.string (tx a),.string (tx b)] w fun e w'=>e= .returned (.int .i64 (Lib.compareBytes a b))/\w=w':=by
 refine(Any.strings_Compare Tryz.adI (tx a) (tx b) w).mono fun e w' hh=>⟨?_,hh.2.symm⟩
 rw[hh.1,gO,gO]
theorem aat(x y:fh)(w:World):Calls prog 283 #[iu x.1,iu y.1] w fun e w'=>e= .returned (.int .i64 (mV x.1 y.1))/\w'=(w.alloc (jW x.1)).alloc (jW y.1):=by
 have hx:=mc x;have hy:=mc y;obtain⟨⟨t1,r1,l1⟩,p1⟩:=x;obtain⟨⟨t2,r2,l2⟩,p2⟩:=y;simp only at hx hy⊢;clear p1 p2;rcases hx with⟨a1,a2⟩|⟨a1,a2,a3,a4,a5⟩
 ·subst a1
  rcases hy with⟨b1,b2⟩|⟨b1,b2,b3,b4,b5⟩
  ·subst b1
   clear a2 b2;have E:=hid (show mV ⟨-1,r1,l1⟩ ⟨-1,r2,l2⟩=Lib.compareBytes l1 l2 from rfl);go_in
   go_wp2_with (go_at_call 325;refine(Zy _ _ _).mono ?_;rintro e w' ⟨rfl,rfl⟩)
   go_ret;exact⟨bJ (by rw[E.out]),rfl⟩
  ·clear a2 b5
   have z2:(t2== -1)=false:=by simp;omega
   have E:=hid (show mV ⟨-1,r1,l1⟩ ⟨t2,r2,l2⟩=1 by unfold mV;simp only;rw[if_neg (by omega),if_pos trivial]);go_in;go_wp2_with fail;go_ret;exact⟨bJ (by rw[E.out]),rfl⟩
 ·clear a5
  have z1:(t1== -1)=false:=by simp;omega
  rcases hy with⟨b1,b2⟩|⟨b1,b2,b3,b4,b5⟩
  ·subst b1
   clear b2;have E:=hid (show mV ⟨t1,r1,l1⟩ ⟨-1,r2,l2⟩= -1 by unfold mV;simp only;rw[if_neg (by omega),if_neg (by omega),if_pos trivial]);go_in;go_wp2_with fail;go_ret;exact⟨bJ (by rw[E.out]),rfl⟩
  ·clear b5
   have z2:(t2== -1)=false:=by simp;omega
   by_cases h:t1=t2
   ·have z3:(t1 != t2)=false:=by simpa using h
    have E:=hid (show mV ⟨t1,r1,l1⟩ ⟨t2,r2,l2⟩=r1-r2 by unfold mV;simp only;rw[if_neg (by omega),if_neg (by omega),if_neg (by omega),if_neg (by omega)]);clear h;go_in;go_wp2_with fail;go_ret;exact⟨bJ (by rw[E.out]),rfl⟩
   ·have z3:(t1 != t2)=true:=by simpa using h
    have E:=hid (show mV ⟨t1,r1,l1⟩ ⟨t2,r2,l2⟩=t1-t2 by unfold mV;simp only;rw[if_neg (by omega),if_neg (by omega),if_neg (by omega),if_pos h]);clear h;go_in;go_wp2_with fail;go_ret;exact⟨bJ (by rw[E.out]),rfl⟩
@[reducible] def eV(v:fh):List Value:=jP v.1
abbrev xC(a b:fh):Int:=mV a.1 b.1
theorem yy(a b:fh):ltOf xC a b=cK a.1 b.1:=Zn a b
theorem aka:SWO (ltOf xC) where
 irrefl a:=by rw[yy,aol];exact JY a
 trans a b c h h':=by rw[yy]at *; exact yz a b c h h'
 ntrans a b c h h':=by
  rw[yy,aol]at*;intro hac
  by_cases h1:jw b a
  ·exact h' (yz b a c h1 hac)
  ·have:=Bi a b h h1;subst this;exact h' hac
theorem lays(blk off size:Nat)(w:World):CmpLays prog 283 #[] eV 3 xC blk off size w:=by
 intro m os dk _ x y;refine(aat x y _).mono fun e w' ⟨he,hw⟩=>⟨he,0,#[jW x.1,jW y.1],?_⟩
 rw[hw,alloc_eq_grow,alloc_eq_grow,grow_grow];rfl
theorem acB{w:World}{B E n c g:Nat}{d:List fh}(h:Own w B E 3 (some ⟨g,0,none⟩) n c (flat eV d)):HoldsK eV 3 w g 0 d.toArray:=by
 intro j hj;simp only[size_flatK,apK]at hj;have hl:=fL (enc:=eV) (m:=3) (fun _=>rfl) d;have hlt:j<(flat eV d).length:=by rw[hl];exact hj
 have h1:=h.row.cell j hlt;have h2:=Own.frozen h (by simp) j;simp only[fk,gb]at h1 h2;refine⟨?_,h2⟩;rw[h1,id];have h3:j/3<d.length:=by omega
 have hg:=Aq (enc:=eV) (m:=3) (fun _=>rfl) d (j/3) (j%3) d[j/3] (amK h3) (by omega);rw[show j/3*3+j%3=j by omega]at hg;rw[hg,get_flatK _ _ _ _ (by simpa using hj)];have h4:d.toArray[j/3]! =d[j/3]:=by rw[getElem!_pos _ _ (by simpa using h3)];simp
 rw[h4];have h5:j%3<(eV d[j/3]).length:=by show j%3<3;omega
 rw[amK h5,apF,amK h5];rfl
theorem abw(d:List fh):flatK eV 3 d.toArray=(flat eV d).toArray:=by
 have hl:=fL (enc:=eV) (m:=3) (fun _=>rfl) d;refine ext_get! (by simp[hl]) fun t ht=>?_
 simp only[size_flatK,apK]at ht;have h3:t/3<d.length:=by omega
 have hg:=Aq (enc:=eV) (m:=3) (fun _=>rfl) d (t/3) (t%3) d[t/3] (amK h3) (by omega);rw[show t/3*3+t%3=t by omega]at hg;rw[get_flatK _ _ _ _ (by simpa using ht)];have h4:d.toArray[t/3]! =d[t/3]:=by rw[getElem!_pos _ _ (by simpa using h3)];simp
 have hlt:t<(flat eV d).length:=by rw[hl];exact ht
 have h5:t%3<(eV d[t/3]).length:=by show t%3<3;omega
 rw[h4,apF,amK h5];rw[getElem!_pos (flat eV d).toArray t (by simpa using hlt)];rw[amK hlt,amK h5]at hg;exact(Option.some.inj hg).symm
theorem agQ{w:World}{g:Nat}{d d':List fh}(h:HoldsK eV 3 w g 0 d.toArray)(hl:d'.length=d.length):putRowK eV 3 w g 0 d'.toArray=w.setCells g 0 (flat eV d'):=by
 have h0:=sortWorldK_start eV 3 w g 0 d.toArray h;unfold sortWorldK at h0;rw[grow_empty]at h0;have h1:=setCells_putRow w g 0 (flat eV d') 0 (flatK eV 3 d.toArray) (by rw[amZ,fL (m:=3) (fun _=>rfl)];simp[hl]);unfold putRowK at h0⊢;rw[ahead_zero]at h0;rw[h0]at h1;rw[h1,abw d']
 congr 1
 refine ext_get! (by simp[hl,fL (enc:=eV) (m:=3) (fun _=>rfl)]) fun t ht=>?_
 simp only[apK]at ht;have hlt:t<d.length*3:=by rw[fL (m:=3) (fun _=>rfl),hl]at ht;exact ht
 rw[get_setMany _ _ _ _ (by simpa using hlt),if_pos ⟨Nat.zero_le _,by omega⟩,Nat.sub_zero,getElem!_pos _ _ (by simpa using ht),apF,amK ht];simp
abbrev qG(d:List fh):List fh:=d.mergeSort fun x y=> !ltOf xC y x
theorem ajP(d:List fh)(w:World)(B:Nat)(a:Option Addr)(c:Nat)(h:Own w B 25 3 a d.length c (flat eV d))(hl:d.length<=1000000):
 Calls prog 282 #[.slice a d.length c,.func (.func 283) #[] #[]] w fun e w'=>e= .returned (.tuple #[])/\Own w' B 25 3 a d.length c (flat eV (qG d))/\Step w w' a a:=by
 have hlen:(qG d).length=d.length:=List.length_mergeSort d;rcases h.2 with⟨h2,h0⟩|⟨g,cap,cur,hv,hg,hh,hn,hc,hs,hx⟩
 ·simp only[Value.slice.injEq]at h2
  obtain⟨rfl,-, rfl⟩:=h2;have hz:d=[]:=amN h0;subst hz;refine(AnyF.slices_SortFunc_none { Tryz.aev with } none 0 _ w).mono fun e w' ⟨he,hw⟩=>?_
  subst hw;have e0:qG []=[]:=amN hlen;rw[e0];exact⟨he,h,Step.refl _ _⟩
 ·cases hv
  have hH:=acB h;refine(AnyQ.slices_SortFunc_total Tryz.aev 3 isAgg25 sizeOf25 eV (fun _=>rfl) (fun x=>GR x.1) xC aka 283 #[] g 0 c d.toArray w (enters_of func283 (by kernel_rfl) rfl) (lays _ _ _ _) hH (apD.1 hh).1 (by simp;omega) (fun x y hxy Q4=>Bi x y (by rw[yy,aol]at hxy;exact hxy) (by rw[yy,aol]at Q4;exact Q4))).mono fun e w' ⟨he,n,os,hw⟩=>?_
  have hA:Below w.heap.size w (apL w n):=⟨rfl,rfl,rfl,amS _,fun _ _=>rfl⟩;have hHa:HoldsK eV 3 (apL w n) g 0 d.toArray:=hH;have hoA:=Own.below h hA;unfold sortWorldK at hw;rw[agQ (d:=d) (d':=qG d) hHa hlen]at hw;obtain⟨o2,s2⟩:=Own.sets (by simp) (flat eV (qG d)) 0 (apL w n) (flat eV d) hoA (by rw[amZ,fL (m:=3) (fun _=>rfl),fL (m:=3) (fun _=>rfl),hlen];exact amS _)
  have e1:nh (flat eV d) 0 (flat eV (qG d))=flat eV (qG d):=by
   unfold nh;rw[List.take_zero,List.nil_append,amZ,List.drop_of_length_le (by rw[fL (m:=3) (fun _=>rfl),fL (m:=3) (fun _=>rfl),hlen];exact amS _),List.append_nil]
  rw[e1]at o2;simp only[fk,gb,Nat.add_zero]at o2 s2;have hA2:Step w (apL w n) (some ⟨g,0,none⟩) (some ⟨g,0,none⟩):=⟨⟨rfl,rfl,rfl,amS _,fun _ _ _=>rfl⟩,.inl rfl⟩;have s3:=hA2.trans s2;generalize hW:(apL w n).setCells g 0 (flat eV (qG d))=W at*;have hG:Below W.heap.size W (grow W os):=⟨rfl,rfl,rfl,by simp[grow],fun j hj=>by simp[grow,Array.getElem?_append,hj]⟩;rw[hw];exact⟨he,Own.below o2 hG,s3.trans ⟨⟨hG.os,hG.tape,hG.output,hG.size,fun k hk _=>hG.block k hk⟩,.inl rfl⟩⟩
attribute [local go_sem high] xN vZ
theorem Hg{α:Type}[DecidableEq α]{l:List α}{k:Nat}(hk:k+1<l.length):cF (l.take (k+2))=if l[k+1]=l[k]then cF (l.take (k+1))else cF (l.take (k+1))++[l[k+1]]:=by
 have h1:l.take (k+2)=l.take k++[l[k]]++[l[k+1]]:=by
  rw[ao5 (show k+1<l.length from hk),ao5 (show k<l.length by omega)]
 have h2:l.take (k+1)=l.take k++[l[k]]:=ao5 (by omega);rw[h1,h2,Hf]
def sN(l:List Th)(k:Nat):Prop:= ∀i (h:i+1<l.length),i+1<k->l[i+1]≠l[i]
theorem sN.all{l:List Th}(h:sN l l.length):cF l=l:=Og fun i h1=>h i h1 h1
theorem sN.take{l:List Th}{k:Nat}(h:sN l (k+1))(hk:k+1<l.length)(e:l[k+1]=l[k]):cF (l.take (k+2))=l.take (k+1):=by
 rw[Hg hk,if_pos e];refine Og fun i h1=>?_
 simp only[aoc]at h1;rw[apP,apP];exact h i (by omega) (by omega)
structure nE(l L:List Th)(i q:Nat):Prop where
 len:L.length=l.length
 lt:i<q
 le:q<=l.length
 front:L.take i=cF (l.take q)
 rest: ∀j,q-1<=j->L[j]? =l[j]?
theorem nE.start{l:List Th}{k:Nat}(h:sN l (k+1))(hk:k+1<l.length)(e:l[k+1]=l[k]):nE l l (k+1) (k+2):=
 ⟨rfl,by omega,by omega,(h.take hk e).symm,fun _ _=>rfl⟩
theorem nE.skip{l L:List Th}{i q:Nat}(h:nE l L i (q+1))(hq:q+1<l.length)(e:l[q+1]=l[q]):nE l L i (q+2):=
 ⟨h.len,by have:=h.lt;omega,by omega,by rw[h.front,Hg hq,if_pos e],fun j hj=>h.rest j (by omega)⟩
theorem nE.keep{l L:List Th}{i q:Nat}(h:nE l L i (q+1))(hq:q+1<l.length)(e:l[q+1]≠l[q]):nE l (L.set i l[q+1]) (i+1) (q+2):=by
 have hl:=h.len;have hlt:=h.lt;refine⟨by rw[apR];exact hl,by omega,by omega,?_,fun j hj=>?_⟩
 ·rw[Hg hq,if_neg e,<-h.front]
  have hi:i<L.length:=by omega
  rw[ao5 (by rw[apR];exact hi),List.getElem_set_self,List.take_set_of_le (amS i)]
 ·rw[List.getElem?_set_ne (by omega)];exact h.rest j (by omega)
theorem nE.done{l L:List Th}{i:Nat}(h:nE l L i l.length):L.take i=cF l/\(cF l).length=i:=by
 have h1:=h.front;rw[List.take_length]at h1;have h2:=congrArg aoQ h1;rw[aoc]at h2;have:=h.len;have:=h.lt;have:=h.le;exact⟨h1,by omega⟩
theorem ajD(w:World)(b o:Nat)(e:Th):w.setCells b o (jP e)=((w.setCell ⟨b,o,none⟩ (.int .i64 e.thread)).setCell ⟨b,o+1,none⟩ (.int .i64 e.au)).setCell ⟨b,o+2,none⟩ (.string (tx e.loc)):=rfl
abbrev cW(w:World)(B:Nat)(a:Option Addr)(n c:Nat)(l:List Th):Prop:=Own w B 25 3 a n c (flat jP l)
theorem cW.gh{w:World}{B n c:Nat}{a:Option Addr}{l:List Th}(h:cW w B a n c l)(hn:0<n)(k:Nat):
 w.frozen? ⟨bk a,fo a+k*3,none⟩=false/\w.frozen? ⟨bk a,fo a+k*3+1,none⟩=false/\w.frozen? ⟨bk a,fo a+k*3+2,none⟩=false:=by
 have f:=fun j=>Own.frozen h (Own.some h hn) j
 exact⟨f (k*3),by have:=f (k*3+1);rwa[<-Nat.add_assoc]at this,by have:=f (k*3+2);rwa[<-Nat.add_assoc]at this⟩
theorem cW.idx{w:World}{B c:Nat}{a:Option Addr}{l:List Th}{n:Nat}(h:cW w B a n c l)(hl:l.length<=1000000)(k:Nat)(hk:k<n):
 ∀w',(Instr.indexAt 112 (.slice a n c) (.int .i64 k)).run prog w'= .ok (.pointer (some ⟨bk a,fo a+k*3,none⟩)) w':=by
 obtain⟨h1,rfl⟩:=Own.els h de (by omega) (by omega);exact h1.idx iH de k hk c
theorem K8(w:World)(k:Nat)(a:Option Addr):Step w (w.drewN k) a a:=⟨⟨rfl,rfl,rfl,amS _,fun _ _ _=>rfl⟩,.inl rfl⟩
theorem ZH(l:List Th)(w:World)(B:Nat)(a:Option Addr)(c:Nat)(h:cW w B a l.length c l)(hB:B<=w.heap.size)(hl:l.length<=1000000):
 Calls prog 284 #[.slice a l.length c] w fun e w'=>e= .returned (.slice a (cF l).length c)/\cW w' B a (cF l).length c (cF l)/\Step w w' a a:=by
 obtain⟨n,hn⟩: ∃n,l.length=n:=⟨_,rfl⟩;have HN:=hid hn;have hcap:=h.cap.1;rw[hn]at h hl hcap⊢;have H:=hid h
 by_cases h2:n<2
 ·have E:=hid (show cF l=l by
   have:=HN.out
   match l,this with
   |[],_=>rfl
   |[x],_=>rfl
   |x::y::r,h=>simp at h;omega)
  clear h hn;go_in;go_wp2_with fail;go_ret;rw[E.out,HN.out];exact⟨rfl,H.out,Step.refl _ _⟩
 ·clear h hn
  go_in;go_wp2_with fail
  go_loopw [3] (fun i wr=> ∃k:Nat,k+1<=n/\i= .int .i64 ((k:Int)+1)/\QW w wr/\Hid (sN l (k+1))) (fun i _=>n-(intOf i).toNat)
  case atStart=>exact⟨0,by omega,by go_num,QW.refl _,fun i h1 h2=>by omega⟩
  case round=>
   obtain⟨k,hk,rfl,⟨nd,rfl⟩,HA⟩:=hrel;have o1:cW (w.drewN nd) B a n c l:=Own.below H.out (below_drewN w nd)
   by_cases hlt:k+1<n
   ·have hlt':k+1<l.length:=by rw[HN.out];exact hlt
    obtain⟨x,hx⟩: ∃x,l[k]'(by omega)=x:=⟨_,rfl⟩;obtain⟨y,hy⟩: ∃y,l[k+1]=y:=⟨_,rfl⟩;have QZ:l[k]? =some x:=by rw[<-hx];exact amK _
    have cL:l[k+1]? =some y:=by rw[<-hy];exact amK _
    have els:=(Own.els H.out de (by omega) (by have:=HN.out;omega)).1;obtain⟨p0,p1,p2⟩:=els.th QZ;obtain⟨q0,q1,q2⟩:=els.th cL;have i1:=cW.idx o1 (by rw[HN.out];exact hl) k (by omega);have i2:=cW.idx o1 (by rw[HN.out];exact hl) (k+1) hlt;rw[show((k+1:Nat):Int)=(k:Int)+1 by omega]at i2;have hlen:(1:Int)<=(k:Int)+1:=by omega
    clear els QZ cL
    by_cases e:y=x
    ·have hd:decide (y=x)=true:=decide_eq_true e
     have PS:=hid (nE.start HA.out hlt' (by rw[hy,hx];exact e));clear hx hy HA e;go_wp2_with fail
     go_quiet (fail)
     go_wp2_with fail;have oA:cW (w.drewN (nd+nq)) B a n c l:=Own.below H.out (below_drewN w (nd+nq));have sA:Step w (w.drewN (nd+nq)) a a:=⟨⟨rfl,rfl,rfl,amS _,fun _ _ _=>rfl⟩,.inl rfl⟩;clear o1;generalize w.drewN (nd+nq)=W at*
     have hsome:a=some ⟨bk a,fo a,none⟩:=by
      refine oA.row.head ?_;intro e0;have:=congrArg aoQ e0;rw[fL de]at this;simp only[anX]at this;have:=HN.out;omega
     have Qk:Option.map (fun x:Addr=>x.add ((k+1)*3)) a=some ⟨bk a,fo a+(k+1)*3,none⟩:=by
      conv=>lhs;rw[hsome]
      rw[am7,Addr.add_lit]
     simp only[Qk];clear Qk hsome p0 p1 p2 q0 q1 q2 i1 i2 hd nd nq;obtain⟨i0,hi0⟩: ∃i0,k+1=i0:=⟨_,rfl⟩;have Qu:(k:Int)+1=(i0:Int):=by omega
     rw[show k+2=i0+1 by omega]at PS;simp only[hi0,Qu]at*;have h1i:1<=i0:=by omega
     clear hi0 Qu hlt' hlen hk
     go_loopw [3,5] (fun s t wr=> ∃(i j:Nat) (L:List Th),s= .int .i64 i/\t= .int .i64 ((j:Int)+1)/\i0+j+1<=n/\Hid (nE l L i (i0+j+1))/\cW wr B a n c L/\Step w wr a a) (fun _ t _=>n-(intOf t).toNat)
     case atStart=>exact⟨i0,0,l,rfl,by go_num,by omega,PS,oA,sA⟩
     case round=>
      clear oA sA PS;obtain⟨i,j,L,rfl,rfl,hj,PS,oR,sR⟩:=hrel;have xU:=PS.out.len;have hPi:=PS.out.lt;have hLn:L.length=n:=by rw[xU,HN.out]
      clear xU
      by_cases hq:i0+j+1<n
      ·have Ja:i0+j+1<l.length:=by rw[HN.out];exact hq
       obtain⟨u,hu⟩: ∃u,l[i0+j]'(by omega)=u:=⟨_,rfl⟩;obtain⟨v,hv⟩: ∃v,l[i0+j+1]=v:=⟨_,rfl⟩;have Ir:(L.drop i0)[j]? =some u:=by rw[aoi,PS.out.rest _ (by omega),<-hu];exact amK _
       have Iu:(L.drop i0)[j+1]? =some v:=by rw[aoi,show i0+(j+1)=i0+j+1 by omega,PS.out.rest _ (by omega),<-hv];exact amK _
       have els:=(Own.els oR de (by omega) (by omega)).1
       have Jf:a=some ⟨bk a,fo a,none⟩:=by
        refine oR.row.head ?_;intro e0;have:=congrArg aoQ e0;rw[fL de]at this;simp only[anX]at this;omega
       have xM:bf jP wr (some ⟨bk a,fo a+i0*3,none⟩) (L.drop i0):=by
        have h9:=els.drop de (by omega) i0 (c=i0) (fun hc=>by omega)
        have h8:lC a (c=i0) (i0*3)=some ⟨bk a,fo a+i0*3,none⟩:=by
         unfold lC;rw[if_neg (by omega)];conv=>lhs;rw[Jf];rw[am7,Addr.add_lit]
        rwa[h8]at h9
       obtain⟨p0,p1,p2⟩:=xM.th Ir;obtain⟨q0,q1,q2⟩:=xM.th Iu;have hdl:(L.drop i0).length=n-i0:=by rw[List.length_drop,hLn]
       have i1:=xM.idx iH de j (by omega) (c-i0);have i2:=xM.idx iH de (j+1) (by omega) (c-i0);rw[hdl]at i1 i2;rw[show((j+1:Nat):Int)=(j:Int)+1 by omega]at i2;simp only[fk,gb]at p0 p1 p2 q0 q1 q2 i1 i2;have hM:(j:Int)+1<((n-i0:Nat):Int):=by omega
       have hj1:(1:Int)<=(j:Int)+1:=by omega
       by_cases e:v=u
       ·have hd:decide (v=u)=true:=decide_eq_true e
        have mq:(!decide (v=u))=false:=by rw[hd];rfl
        have xk:=hid (PS.out.skip Ja (by rw[hv,hu];exact e));have qZ:=hid (aov oR sR);clear hu hv e Ir Iu els xM Jf PS;go_wp2_with fail
        go_quiet (fail)
        obtain⟨oR,sR⟩:=qZ.out;have dB:=below_drewN wr nq;have oR:=Own.below oR dB;have sR:=sR.trans (K8 wr nq a);go_wp2_with fail
        go_roundw
        case rel=>exact⟨i,j+1,L,rfl,by go_num,by omega,xk,oR,sR⟩
        case measure=>simp[intOf];omega
       ·have hd:decide (v=u)=false:=decide_eq_false e
        have mq:(!decide (v=u))=true:=by rw[hd];rfl
        have xk:=PS.out.keep Ja (by rw[hv,hu];exact e);rw[hv]at xk;have xk:=hid xk;have qZ:=hid (aov oR sR);have gy:=hid hLn;clear hu hv e Ir Iu els xM Jf PS hLn;go_wp2_with fail
        go_quiet (fail)
        obtain⟨oR,sR⟩:=qZ.out;have dB:=below_drewN wr nq;have oR:=Own.below oR dB;have sR:=sR.trans (K8 wr nq a);have q0:(wr.drewN nq).cell? ⟨bk a,fo a+i0*3+(j+1)*3,none⟩=some (.int .i64 v.thread):=by rw[cell?_drewN];exact q0
        have q1:(wr.drewN nq).cell? ⟨bk a,fo a+i0*3+(j+1)*3+1,none⟩=some (.int .i64 v.au):=by rw[cell?_drewN];exact q1
        have q2:(wr.drewN nq).cell? ⟨bk a,fo a+i0*3+(j+1)*3+2,none⟩=some (.string (tx v.loc)):=by rw[cell?_drewN];exact q2
        clear p0 p1 p2;generalize wr.drewN nq=wq at*;have ii:=cW.idx oR (by rw[gy.out];exact hl) i (by omega);have els:=(Own.els oR de (by omega) (by have:=gy.out;omega)).1;obtain⟨z,hz⟩: ∃z,L[i]? =some z:=⟨_,amK (by have:=gy.out;omega)⟩;obtain⟨r0,r1,r2⟩:=els.th hz;obtain⟨f0,f1,f2⟩:=cW.gh oR (by omega) i;obtain⟨o2,s2⟩:=Own.aj8 de oR (by omega) i (by have:=gy.out;omega) v;have s3:=sR.trans s2;rw[ajD]at o2 s3;have uL:=hid (aov o2 s3);clear hz els oR sR o2 s2 s3 qZ;go_wp2_with fail;obtain⟨o2,s3⟩:=uL.out
        go_roundw
        case rel=>exact⟨i+1,j+1,L.set i v,by go_num,by go_num,by omega,xk,o2,s3⟩
        case measure=>simp[intOf];omega
      ·have yg:i0+j+1=n:=by omega
       have sg:i0+j+1=l.length:=by rw[HN.out];exact yg
       have Gq:=PS.out;rw[sg]at Gq;obtain⟨hd1,mq⟩:=Gq.done;have hi:i<n:=by omega
       have hM:((n-i0:Nat):Int)<=(j:Int)+1:=by omega
       have sc:=VB iH a n c i (by omega) .i64;have st:=aju iH a n c i (by omega) .i64;obtain⟨w9,hrun,o9,s9⟩:=ajt iH zeroValue25 (GR ⟨0,0,[]⟩) oR i hi;have Kb:=Own.abE de o9 hLn.symm (by omega);rw[hd1]at Kb;have VE:=sR.trans s9;have HD:=hid mq;have uL:=hid (aov Kb VE);clear hd1 mq Gq PS o9 s9 Kb VE oR sR sg yg hLn;go_wp2_with fail;go_ret;rw[HD.out];exact⟨rfl,uL.out.1,uL.out.2⟩
    ·have hd:decide (y=x)=false:=decide_eq_false e
     have Xc:=hid (show sN l (k+2)from fun i h1 h2=>by
      by_cases hik:i=k
      ·subst hik;rw[hy,hx];exact e
      ·exact HA.out i h1 (by omega))
     clear hx hy HA e o1;go_wp2_with fail
     go_quiet (fail)
     go_wp2_with fail
     go_roundw
     case rel=>exact⟨k+1,by omega,by go_num,⟨nd+nq,rfl⟩,Xc⟩
     case measure=>simp[intOf];omega
   ·have hkn:k+1=n:=by omega
    have E:=hid (show cF l=l from sN.all (by rw[HN.out,<-hkn];exact HA.out));clear HA hkn;go_wp2_with fail;go_ret;rw[E.out,HN.out];exact⟨rfl,o1,K8 w nd a⟩
end Go.Proofs.YtkbbgjloifmmbaaGreatDoor
namespace Go.Proofs.YtkbbgjloifmmbaaGreatDoor
open _root_.Go.Proofs.Tryz
open _root_.List renaming getElem?_eq_getElem->amK,take_succ_eq_append_getElem->ao5,getElem!_eq_getElem?_getD->apF,eq_nil_of_length_eq_zero->amN,size_toArray->apK,getElem?_drop->aoi,getElem_take->apP,length->aoQ,length_take->aoc,length_set->apR,length_nil->anX
open _root_.Array renaming getElem?_eq_some_iff->apD,getElem?_modify->apN
open _root_.Go.Lib renaming cell_of_heap->apE,byteCells->apG,OthersKept->apH,frozen_of_heap->apI
open _root_.Nat renaming le_refl->amS,zero_add->amZ
open _root_.Bool renaming eq_false_iff->aol
open _root_.And renaming intro->aov
open _root_.Go.World renaming setCell->apJ
open _root_.Go.Sort renaming ahead->apL
open _root_.Go.Shelf renaming Ren->aoR
open _root_.Go.Oper renaming upon_value->apM
open _root_.Go.Value renaming ownBlock->anb
open _root_.Go.Result renaming andThen->aoU
open _root_.Go.Lib.OthersKept renaming refl->apO
open _root_.Option renaming map_some->am7
open Go.RowKit
abbrev dR:TypeId:=5
def cO(w:World)(b:Nat)(l:List Value)(T:TypeId):Prop:=w.heap[b]? =some (.cells l.toArray T (0,0))
theorem cO.new(w:World)(us:Array Value)(T:TypeId):cO (w.alloc (.cells us T)) w.heap.size us.toList T:=heap_alloc_new w _
theorem cO.lt{w:World}{b:Nat}{l:List Value}{T:TypeId}(h:cO w b l T):b<w.heap.size:=(apD.1 h).1
theorem cO.below{w w':World}{b:Nat}{l:List Value}{T:TypeId}(h:cO w b l T)(hb:Below w.heap.size w w'):cO w' b l T:=by
 unfold cO;rw[hb.block b h.lt];exact h
theorem cO.get{w:World}{b:Nat}{l:List Value}{T:TypeId}(h:cO w b l T)(k:Nat)(v:Value)(hk:l[k]? =some v):w.cell? ⟨b,k,none⟩=some v:=by
 rw[apE h k];simpa using hk
theorem cO.frozen{w:World}{b:Nat}{l:List Value}{T:TypeId}(h:cO w b l T)(k:Nat):w.frozen? ⟨b,k,none⟩=false:=apI h k
theorem cO.others{w w':World}{b b':Nat}{l:List Value}{T:TypeId}(h:cO w b l T)(hk:apH dR (some b') w w')(hne:b≠b')(hT:T≠dR):cO w' b l T:=
 hk b _ h (by simpa using hne) (fun c fz e=>by cases e;exact hT rfl)
theorem yE{w w':World}(b:Option Nat)(h:Below w.heap.size w w'):apH dR b w w':=
 fun k o hk _ _=>by rw[h.block k (apD.1 hk).1];exact hk
def mM(w:World)(B b:Nat)(T:TypeId)(R:List Value)(p:Value)(l:Tx):Prop:=
 B<=b/\ ∃v,w.heap[b]? =some (.cells (p::v::R).toArray T (0,0))/\w.ownsRow B dR 1 v l.length (apG l)/\v.ownBlock≠some b
def bY(w:World)(B b:Nat)(T:TypeId)(R:List Value)(l:Tx):Prop:=mM w B b T R (.pointer none) l\/mM w B b T R (.pointer (some ⟨b,0,none⟩)) l
theorem bY.at{w:World}{B b:Nat}{T:TypeId}{R:List Value}{l:Tx}(h:bY w B b T R l): ∃p,mM w B b T R p l:=by
 rcases h with h|h
 ·exact⟨_,h⟩
 ·exact⟨_,h⟩
theorem mM.below{w w':World}{B b:Nat}{T:TypeId}{R:List Value}{p:Value}{l:Tx}(h:mM w B b T R p l)(hb:Below w.heap.size w w'):mM w' B b T R p l:=by
 obtain⟨h1,v,h2,h3,h4⟩:=h;have hlt:=(apD.1 h2).1;refine⟨h1,v,by rw[hb.block b hlt];exact h2,?_,h4⟩;rcases h3.2 with⟨hv,h0⟩|⟨g,cap,cur,hv,tJ,hg,r⟩
 ·exact⟨h3.1,.inl ⟨hv,h0⟩⟩
 ·exact⟨h3.1,.inr ⟨g,cap,cur,hv,tJ,by rw[hb.block g (apD.1 hg).1];exact hg,r⟩⟩
theorem bY.below{w w':World}{B b:Nat}{T:TypeId}{R:List Value}{l:Tx}(h:bY w B b T R l)(hb:Below w.heap.size w w'):bY w' B b T R l:=
 h.elim (fun x=>.inl (x.below hb)) (fun x=>.inr (x.below hb))
theorem bY.base{w:World}{B b:Nat}{T:TypeId}{R:List Value}{l:Tx}(h:bY w B b T R l):B<=b/\b<w.heap.size:=by
 obtain⟨p,h1,v,h2,_⟩:=h.at;exact⟨h1,(apD.1 h2).1⟩
theorem bY.rest{w:World}{B b:Nat}{T:TypeId}{R:List Value}{l:Tx}(h:bY w B b T R l)(k:Nat)(v:Value)(hk:R[k]? =some v):w.cell? ⟨b,k+2,none⟩=some v:=by
 obtain⟨p,h1,u,h2,_⟩:=h.at;rw[apE h2];simpa using hk
theorem afn{w:World}{B:Nat}{T:TypeId}{v:Value}{n:Nat}{xs:List Value}{b:Nat}{cs:Array Value}{fr:Nat × Nat}(hown:w.ownsRow B dR 1 v n xs)(hb:w.heap[b]? =some (.cells cs T fr))(hT:T≠dR):v.ownBlock≠some b:=by
 rcases hown.2 with⟨rfl,_⟩|⟨g,cap,cur,rfl,hg,hh,_⟩
 ·simp[anb]
 ·intro e
  simp[anb]at e;rw[e,hb]at hh;simp at hh;exact hT hh.2.1
theorem bY.new(w:World)(T:TypeId)(R:List Value):bY (w.alloc (.cells (Value.pointer none:: .slice none 0 0::R).toArray T)) w.heap.size w.heap.size T R []:=
 .inl ⟨amS _,.slice none 0 0,heap_alloc_new w _,World.ownsRow_nil _ _ _ _,by simp[anb]⟩
structure Cq(T:TypeId)(n:Nat):Prop where
 aeg:liesAt prog prog.depth T (n/prog.cellsOf T) 0 96 1=true
 ne:T≠dR
 two:2<=n
theorem u8l:(prog.info? dR).map (fun i=>(i.zero,i.size,i.bytes))=some (some (.int .u8 0),1,1):=by kernel_rfl
theorem Y3: ∃j,prog.info? 96=some j/\j.size=2:=by
 have h:(prog.info? 96).map (·.size)=some 2:=by kernel_rfl
 obtain⟨j,hj,hs⟩:=Option.map_eq_some_iff.1 h;exact⟨j,hj,hs⟩
theorem mM.ajC{w:World}{B b:Nat}{T:TypeId}{R:List Value}{p:Value}{l:Tx}(h:mM w B b T R p l)(q:Value):mM (w.setCell ⟨b,0,none⟩ q) B b T R q l:=by
 obtain⟨hB,v,hb,hown,hne⟩:=h;refine⟨hB,v,?_,?_,hne⟩
 ·simp[apJ,apN,hb]
 ·refine hown.kept (row:=some b) ⟨rfl,rfl,rfl,by simp[apJ],fun k _ hk=>Below.heap_setCell _ _ _ _ (fun e=>hk (by simp[e]))⟩ ?_
  exact Or.inr hne
theorem mM.put{w:World}{B b:Nat}{T:TypeId}{R:List Value}{p v v':Value}{l':Tx}(hB:B<=b)(hb:w.heap[b]? =some (.cells (p::v::R).toArray T (0,0)))(hown:w.ownsRow B dR 1 v' l'.length (apG l'))(hT:T≠dR):mM (w.setCell ⟨b,1,none⟩ v') B b T R p l':=by
 have hne:v'.ownBlock≠some b:=afn hown hb hT;refine⟨hB,v',?_,?_,hne⟩
 ·simp[apJ,apN,hb]
 ·refine hown.kept (row:=some b) ⟨rfl,rfl,rfl,by simp[apJ],fun k _ hk=>Below.heap_setCell _ _ _ _ (fun e=>hk (by simp[e]))⟩ ?_
  exact Or.inr hne
theorem YS(B b:Nat)(T:TypeId)(R:List Value)(l:Tx)(w:World)(hT:Cq T (R.length+2))(h:bY w B b T R l):
 Calls prog 120 #[.pointer (some ⟨b,0,none⟩)] w fun e w'=>e= .returned (.tuple #[])/\mM w' B b T R (.pointer (some ⟨b,0,none⟩)) l/\Below B w w'/\apH dR (some b) w w':=by
 obtain⟨j,hj,vE⟩:=Y3;have uB:=underlying93;have uU:=underlying205;rcases h with h|h
 ·have h':=h
  obtain⟨hB,v,hb,hown,hne⟩:=h';have c0:w.cell? ⟨b,0,none⟩=some (.pointer none):=by rw[apE hb];rfl
  have f0:w.frozen? ⟨b,0,none⟩=false:=apI hb 0;have hsh:w.shape? b=some (T,R.length+2):=by simp[World.shape?,hb]
  have Iq:=hid (aov (h.ajC (.pointer (some ⟨b,0,none⟩))) (aov ((Below.refl B w).setCell (p:=⟨b,0,none⟩) hB (.pointer (some ⟨b,0,none⟩))) ((apO dR (some b) w).setCell ⟨b,0,none⟩ rfl (.pointer (some ⟨b,0,none⟩)))));have hj':=hid hj;have hs':=hid vE;have HS:=hid hsh;clear hown hne hb h hj vE hsh;go_in
  go_wp2
  rw[Lib.run_to_unsafe w ⟨b,0,none⟩ uB uU hj'.out (by rw[hs'.out];decide) HS.out (by simp)];simp only[aoU];rw[apM]
  go_wp2
  rw[run_callFunc_extern func205 (by kernel_rfl) (by kernel_rfl) (by kernel_rfl) (e:=Extern.AbiNoEscape.same) (by kernel_rfl)];rw[Lib.run_noEscape];simp only[aoU];rw[apM]
  go_wp2
  rw[Lib.run_from_unsafe w ⟨b,0,none⟩ uU uB hj'.out HS.out hT.aeg];simp only[aoU];rw[apM]
  go_wp2
  go_end0
  exact⟨rfl,Iq.out⟩
 ·have h':=h
  obtain⟨hB,v,hb,hown,hne⟩:=h';have c0:w.cell? ⟨b,0,none⟩=some (.pointer (some ⟨b,0,none⟩)):=by rw[apE hb];rfl
  have Iq:=hid h;have hj':=hid hj;clear hown hne hb h hj vE;go_in
  go_wp2
  rw[Lib.run_neq_ptr_same w _ uB hj'.out]
  go_wp2
  go_end0
  exact⟨rfl,Iq.out,Below.refl _ _,apO _ _ _⟩
theorem aj9(s:Tx):Lib.strCells (tx s)=apG s:=by rw[Lib.strCells_eq];simp[tx]
theorem xA(B b:Nat)(T:TypeId)(R:List Value)(l s:Tx)(w:World)(hT:Cq T (R.length+2))(h:bY w B b T R l)(hlen:l.length+s.length<=140737488355328)(hBw:B<=w.heap.size):
 Calls prog 56 #[.pointer (some ⟨b,0,none⟩),.string (tx s)] w fun e w'=>e= .returned (.tuple #[.int .i64 s.length,.nilIface])/\bY w' B b T R (l++s)/\Below B w w'/\apH dR (some b) w w':=by
 obtain⟨i0,hi,hz0,hz1,vL⟩:=info_parts u8l;have hss:=aP s;have uS:=underlying94;have uT:=underlying9;obtain⟨n,hn⟩: ∃n,l.length=n:=⟨_,rfl⟩;have CC:=hid (YS B b T R l w hT h);have HN:=hid hn;have HB:=hid hBw;clear hn h hBw;go_in;go_wp2_with fail;refine CC.out.mono ?_;rintro e w1 ⟨rfl,h1,dM,k1⟩;obtain⟨hB,v,hbk,hown,hne⟩:=h1;have c0:w1.cell? ⟨b,0,none⟩=some (.pointer (some ⟨b,0,none⟩)):=by rw[apE hbk];rfl
 have c1:w1.cell? ⟨b,1,none⟩=some v:=by rw[apE hbk];rfl
 go_wp2_with (at_builtin;refine Lib.wpList_append_own_string _ rfl _ _ 94 9 rfl B dR i0 uS uT hi hz0 hz1 vL _ _ _ rfl hown (tx s) rfl ?c3 ?c4 ?c5 ?_)
 case c3=>rw[aP];unfold maxLen;omega
 case c4=>rw[aP];omega
 case c5=>have:=dM.size;have:=HB.out;omega
 intro v' w2 hown' hgrow _;have hlt:b<w1.heap.size:=(apD.1 hbk).1
 have dH:w2.heap[b]? =some (.cells (Value.pointer (some ⟨b,0,none⟩)::v::R).toArray T (0,0)):=by
  rw[hgrow.block b hlt (fun e=>hne e.symm)];exact hbk
 have d1:w2.cell? ⟨b,1,none⟩=some v:=by rw[apE dH];rfl
 have f1:w2.frozen? ⟨b,1,none⟩=false:=apI dH 1;have k2:apH dR (some b) w w2:=k1.grown hgrow (Lib.ownsRowF_kind (World.ownsRowF_of hown))
 obtain⟨ao,n',cap,rfl⟩: ∃ao n' cap,v'= .slice ao n' cap:=by
  rcases hown'.2 with⟨hv,_⟩|⟨g,cap,cur,hv,_⟩
  ·exact⟨_,_,_,hv⟩
  ·exact⟨_,_,_,hv⟩
 have TA:w2.ownsRow B dR 1 (.slice ao n' cap) (l++s).length (apG (l++s)):=by
  rw[Lib.byteCells_append,<-aj9 s,List.length_append,<-aP s];exact hown'
 have PUT:=hid (mM.put hB dH TA hT.ne);have BL:=hid ((dM.grown hgrow (by have:=dM.size;have:=HB.out;omega) (fun k hk=>(hown.lt k hk).1)).setCell (p:=⟨b,1,none⟩) hB (.slice ao n' cap));have KK:=hid (k2.setCell ⟨b,1,none⟩ rfl (.slice ao n' cap));clear hown' hgrow TA hown hne hbk dH k1 k2 dM;go_wp2_with fail
 go_ret2
 exact⟨rfl,.inr PUT.out,BL.out,KK.out⟩
theorem GK(B b:Nat)(T:TypeId)(R:List Value)(l:Tx)(w:World)(h:bY w B b T R l)(h0:l≠[]):
 Calls prog 62 #[.pointer (some ⟨b,0,none⟩)] w fun e w'=>e= .returned (.string (tx l))/\Below B w w':=by
 obtain⟨p,hB,v,hbk,hown,hne⟩:=h.at;have hl0:l.length≠0:=by simpa using h0
 obtain⟨g,cap,cur,rfl,tJ,hg,hnc,hcm,hcs,QN⟩: ∃g cap cur,v= .slice (some ⟨g,0,none⟩) l.length cap/\B<=g/\w.heap[g]? =some (.cells cur dR (0,0))/\l.length<=cap/\cap<=maxLen/\cur.size=cap*1/\cur.toList.take (l.length*1)=apG l:=by
  rcases hown.2 with⟨_,hz⟩|⟨g,cap,cur,hv,r⟩
  ·exact absurd hz hl0
  ·exact⟨g,cap,cur,hv,r⟩
 have c1:w.drew.cell? ⟨b,1,none⟩=some (.slice (some ⟨g,0,none⟩) l.length cap):=by
  have:w.drew.heap[b]? =some (.cells (p:: .slice (some ⟨g,0,none⟩) l.length cap::R).toArray T (0,0)):=hbk;rw[apE this];rfl
 have hSD:(Builtin.unsafeSliceData_ #[94] 154 #[.slice (some ⟨g,0,none⟩) l.length cap]).run prog w.drew= .ok (.pointer (some ⟨g,0,none⟩)) w.drew:=
  Lib.run_unsafeSliceData_row _ _ _ _ _ _ (by omega)
 have hUS:(Builtin.unsafeString_ #[154,3] 9 #[.pointer (some ⟨g,0,none⟩),.int .i64 l.length]).run prog w.drew= .ok (.string (tx l)) (w.drew.freeze ⟨g,0,none⟩ l.length):=by
  refine Lib.run_unsafeString_row w.drew 154 3 9 dR underlying154 (by kernel_rfl) g cur.size (by have hg':w.drew.heap[g]? =some (.cells cur dR (0,0)):=hg;simp[World.shape?,hg']) l h0 (by omega) (by unfold maxLen at hcm;omega) ?_;intro j x hx;have:=hown.cells (g:=g) rfl j (.int .u8 x.toNat) (by simp[apG,hx]);exact this
 have FZ:=hid (Lib.below_freeze (Below.drew (Below.refl B w)) (p:=⟨g,0,none⟩) tJ l.length);clear hown hne hbk hg QN hcs h h0 hl0;go_in;go_wp2_with fail
 go_region
 all_goals
  go_wp2_with fail;go_ret;exact⟨rfl,FZ.out⟩
theorem YT(B b:Nat)(T:TypeId)(R:List Value)(l:Tx)(w:World)(h:bY w B b T R l):
 Calls prog 61 #[.pointer (some ⟨b,0,none⟩)] w fun e w'=>e= .returned (.int .i64 l.length)/\w=w':=by
 obtain⟨p,hB,v,hbk,hown,hne⟩:=h.at
 obtain⟨ao,cap,rfl⟩: ∃ao cap,v= .slice ao l.length cap:=by
  rcases hown.2 with⟨hv,h0⟩|⟨g,cap,cur,hv,_⟩
  ·exact⟨none,0,by rw[hv,h0]⟩
  ·exact⟨_,_,hv⟩
 have c1:w.cell? ⟨b,1,none⟩=some (.slice ao l.length cap):=by rw[apE hbk];rfl
 clear hown hne hbk h;go_in;go_wp2_with fail;go_ret;exact⟨rfl,rfl⟩
theorem zW:Cq 96 2:=⟨by kernel_rfl,by decide,amS _⟩
theorem YU:Cq 153 3:=⟨by kernel_rfl,by decide,by omega⟩
end Go.Proofs.YtkbbgjloifmmbaaGreatDoor
