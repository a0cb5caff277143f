/- What ReadBackP leans on, part 2. -/
import Derived.Test.YtkbbgjloifmmbaaGreatDoorRows
import Derived.Test.YtkbbgjloifmmbaaGreatDoorRb1
import Derived.Laws.StructEq
import Derived.Shelf.SlicesQ.Load
import Derived.Lib.SplitLaws
import Derived.Lib.Strings
import Derived.Lib.ItoaMem
import Derived.Shelf.Strings.SlTrimAscii
import Derived.Shelf.Small.Strs
import Derived.Shelf.Strconv.Itoa3
import Derived.Shelf.LaysM
import Derived.Shelf.Strconv.AtoiAll
import Derived.Shelf.Strconv.ErrVarAll
import Derived.Shelf.LaysC
import Derived.Shelf.Strings.Prefix
import Derived.Shelf.Strings.SplitShaped
import Derived.Shelf.Strings.Count
import Derived.Shelf.Strings.Cut
import Derived.Shelf.Strings.Runes
import Derived.Shelf.Strings.FieldsFuncAny
import Derived.Test.YtkbbgjloifmmbaaGreatDoorProg
import Derived.Lib.ItoaLen
set_option linter.unusedVariables false
namespace Go.Proofs.YtkbbgjloifmmbaaGreatDoor
open _root_.Go.Proofs.Tryz
open _root_.Go.Shelf renaming Ren->aoR
open _root_.Go.Lib renaming index->aoO,decDigits->anm,indexByte->aoB,itoa->anj
open _root_.Nat renaming div_div_eq_div_mul->aoS
open _root_.List renaming mem_cons->amY,isPrefixOf->aoT
open _root_.Go.Ending renaming returned->am8
open Go.RowKit
def tx(l:Tx):ByteArray:=⟨l.toArray⟩
theorem aW(l:Tx):(tx l).toList=l:=by rw[ByteArray.toList_eq];simp[tx]
theorem gO(l:Tx):(tx l).data.toList=l:=by simp[tx]
theorem aP(l:Tx):(tx l).size=l.length:=by simp[tx,ByteArray.size]
theorem Wl(s:ByteArray): ∃l,s=tx l:=⟨s.data.toList,by simp[tx]⟩
theorem ak2(a b:Tx):tx a++tx b=tx (a++b):=by
 apply ByteArray.ext;simp[tx]
theorem ak3{a b:Tx}:tx a=tx b<->a=b:=⟨fun h=>by have:=congrArg (fun s:ByteArray=>s.data.toList) h;simpa[tx]using this,fun h=>by rw[h]⟩
theorem jG(a b:Tx):((tx a).toList==(tx b).toList)=(a==b):=by rw[aW,aW]
theorem sI{a b:Tx}(h:a≠b):((tx a).toList==(tx b).toList)=false:=by rw[jG];simpa using h
@[reducible] def iC(i:Ins):List Value:=[.int .i64 i.op,.int .i64 i.d,.int .i64 i.a,.int .i64 i.b,.int .i64 i.ag,.string (tx i.loc),.string (tx i.label),.int .i64 i.ai]
@[reducible] def vI(i:Ins):Value:=.agg #[.int .i64 i.op,.int .i64 i.d,.int .i64 i.a,.int .i64 i.b,.int .i64 i.ag,.string (tx i.loc),.string (tx i.label),.int .i64 i.ai]
theorem adg(x y:Ins):(x=y)<->(x.op=y.op/\x.d=y.d/\x.a=y.a/\x.b=y.b/\x.ag=y.ag/\x.loc=y.loc/\x.label=y.label/\x.ai=y.ai):=by
 cases x;cases y;simp
theorem qa(x y:Ins)(w:World):(binOp .eql 50 (vI x) (vI y)).run prog w= .ok (.bool (decide (x=y))) w:=by
 have hS:prog.underlying 50=some (.struct (prog.fieldsOf 50)):=by kernel_rfl
 have hp:prog.stoodInHeld 50=false:=by kernel_rfl
 have a3:=isAgg3;have z3:=sizeOf3;have u3:=underlying3;have a4:=isAgg9;have z4:=sizeOf9;have u4:=underlying9;rw[run_eql_struct,show(10000:Nat)=9999+1 from rfl,run_equalIn_agg w 9999 50 _ _ hS hp];simp only[Program.fieldsOf,underlying50]
 go_simp
 rw[show decide (x=y)=decide (x.op=y.op/\x.d=y.d/\x.a=y.a/\x.b=y.b/\x.ag=y.ag/\x.loc=y.loc/\x.label=y.label/\x.ai=y.ai)from decide_eq_decide.2 (adg x y)];simp only[aW]
 by_cases h1:x.op=y.op<;>by_cases h2:x.d=y.d<;>by_cases h3:x.a=y.a<;>by_cases h4:x.b=y.b<;>by_cases h5:x.ag=y.ag<;>by_cases h6:x.loc=y.loc<;>by_cases h7:x.label=y.label<;>by_cases h8:x.ai=y.ai<;>simp[h1,h2,h3,h4,h5,h6,h7,h8]
theorem jX(x y:Ins)(w:World):(binOp .neq 50 (vI x) (vI y)).run prog w= .ok (.bool (!decide (x=y))) w:=by
 have h:=qa x y w;rw[run_eql_struct]at h;rw[run_neq_struct];generalize (Op.equalIn 10000 50 (.agg #[.int .i64 x.op,.int .i64 x.d,.int .i64 x.a,.int .i64 x.b,.int .i64 x.ag,.string (tx x.loc),.string (tx x.label),.int .i64 x.ai]) (.agg #[.int .i64 y.op,.int .i64 y.d,.int .i64 y.a,.int .i64 y.b,.int .i64 y.ag,.string (tx y.loc),.string (tx y.label),.int .i64 y.ai])).run prog w=r at*;cases r with
 |ok b w'=>simp[Result.andThen]at h ⊢; obtain⟨rfl,rfl⟩:=h;exact⟨rfl,rfl⟩
 |halt x w'=>simp[Result.andThen]at h
def dK(w:World)(b:Nat)(i:Ins):Prop:=b<w.heap.size/\ ∀k,k<8->w.cell? ⟨b,k,none⟩=(iC i)[k]?
abbrev eC(i:Ins):Obj:=.cells #[.int .i64 i.op,.int .i64 i.d,.int .i64 i.a,.int .i64 i.b,.int .i64 i.ag,.string (tx i.loc),.string (tx i.label),.int .i64 i.ai] 50
theorem dK.below{w w':World}{b:Nat}{i:Ins}(h:dK w b i)(hb:Below w.heap.size w w'):dK w' b i:=
 ⟨Nat.lt_of_lt_of_le h.1 hb.size,fun k hk=>by rw[hb.cell (p:=⟨b,k,none⟩) h.1];exact h.2 k hk⟩
theorem dK.new(w:World)(i:Ins):dK (w.alloc (eC i)) w.heap.size i:=
 ⟨by simp,fun k hk=>by
  have hh:=heap_alloc_new w (eC i);simp only[World.cell?,hh];simp[iC]⟩
theorem dK.cells{w:World}{b:Nat}{i:Ins}(h:dK w b i):w.cell? ⟨b,0,none⟩=some (.int .i64 i.op)/\w.cell? ⟨b,1,none⟩=some (.int .i64 i.d)/\w.cell? ⟨b,2,none⟩=some (.int .i64 i.a)/\w.cell? ⟨b,3,none⟩=some (.int .i64 i.b)/\w.cell? ⟨b,4,none⟩=some (.int .i64 i.ag)/\w.cell? ⟨b,5,none⟩=some (.string (tx i.loc))/\w.cell? ⟨b,6,none⟩=some (.string (tx i.label))/\w.cell? ⟨b,7,none⟩=some (.int .i64 i.ai):=
 ⟨h.2 0 (by omega),h.2 1 (by omega),h.2 2 (by omega),h.2 3 (by omega),h.2 4 (by omega),h.2 5 (by omega),h.2 6 (by omega),h.2 7 (by omega)⟩
theorem al(w:World)(o:Obj):Below w.heap.size w (w.alloc o):=(Below.refl _ _).alloc (Nat.le_refl _) _
theorem dD{w w':World}(h:Below w.heap.size w w')(o:Obj):Below w.heap.size w (w'.alloc o):=h.alloc h.size o
theorem dc{w w':World}(h:Below w.heap.size w w'):Below w.heap.size w w'.drew:=h.trans ((below_drewN w' 1).mono h.size)
theorem iM{w w':World}{p:Addr}(h:Below w.heap.size w w')(hp:w.heap.size<=p.block)(v:Value):Below w.heap.size w (w'.setCell p v):=h.setCell hp v
theorem aK{n:Nat}{w w':World}(h:Below n w w':=by repeat(first|with_reducible assumption|with_reducible exact Below.refl _ _|with_reducible refine dD ?_ _|with_reducible refine dc ?_|with_reducible refine iM ?_ (by dsimp only;omega) _)):Below n w w':=h
theorem wz{k k':IntKind}{a b c d:Int}(h:a=c)(h':b=d):am8 (.tuple #[.int k a,.int k' b])= .returned (.tuple #[.int k c,.int k' d]):=by rw[h,h']
theorem sB{a b:ByteArray}(h:a=b):am8 (.string a)= .returned (.string b):=by rw[h]
theorem yQ{k':IntKind}{a c:ByteArray}{b d:Int}(h:a=c)(h':b=d):am8 (.tuple #[.string a,.int k' b])= .returned (.tuple #[.string c,.int k' d]):=by rw[h,h']
end Go.Proofs.YtkbbgjloifmmbaaGreatDoor
namespace Go.Proofs.YtkbbgjloifmmbaaGreatDoor
open _root_.Go.Proofs.Tryz
open _root_.Go.Shelf renaming Ren->aoR
open _root_.Go.Lib renaming index->aoO,decDigits->anm,indexByte->aoB,itoa->anj
open _root_.Nat renaming div_div_eq_div_mul->aoS
open _root_.List renaming mem_cons->amY,isPrefixOf->aoT
open _root_.Go.Ending renaming returned->am8
theorem Hu{n:Nat}(h:n<10000):anm n=cR n:=by
 have step: ∀n,¬n<10->anm n=anm (n/10)++[lD n]:=fun n hn=>by rw[anm,dif_neg hn];rfl
 have one: ∀n,n<10->anm n=[lD n]:=fun n hn=>by rw[anm,dif_pos hn];unfold lD;rw[Nat.mod_eq_of_lt hn]
 unfold cR;split
 ·rename_i h1;exact one n h1
 ·rename_i h1
  split
  ·rename_i h2;rw[step n h1,one _ (by omega)];rfl
  ·rename_i h2
   split
   ·rename_i h3;rw[step n h1,step _ (by omega),one _ (by omega),aoS];rfl
   ·rename_i h3;rw[step n h1,step _ (by omega),step _ (by omega),one _ (by omega),aoS n 10 10,aoS];rfl
theorem Ba{n:Int}(h1: -10000<n)(h2:n<10000):anj n=gD n:=by
 unfold anj gD;split
 ·rw[Hu (by omega)]
 ·rw[Hu (by omega)]
theorem abU(l:Tx)(c:UInt8):Lib.hasSuffix l [c]=(l.getLast?==some c):=by
 unfold Lib.hasSuffix;rw[Bool.eq_iff_iff];simp only[List.isSuffixOf_iff_suffix,beq_iff_eq]
 constructor
 ·rintro⟨t,rfl⟩;simp
 ·intro h
  have hne:l≠[]:=by intro e;subst e;simp at h
  refine⟨l.dropLast,?_⟩;rw[List.getLast?_eq_some_getLast hne]at h;simp at h;rw[<-h];exact List.dropLast_concat_getLast hne
theorem Ej(c:UInt8): ∀l:Tx,c∉l->aoB l c= -1
 |[],_=>rfl
 | b::l,h=>by
   simp only[amY,not_or]at h;unfold aoB;rw[Ej c l h.2,if_neg (by simpa using Ne.symm h.1)];rfl
theorem Jo(c:UInt8): ∀l:Tx,c∈l->aoB l c=(l.takeWhile (· != c)).length/\(l.takeWhile (· != c)).length<l.length
 |[],h=>by simp at h
 | b::l,h=>by
   unfold aoB
   by_cases hb:b=c
   ·subst hb;simp
   ·have hm:c∈l:=by rcases amY.1 h with e|e;exact absurd e.symm hb;exact e
    obtain⟨h1,h2⟩:=Jo c l hm;rw[h1,if_neg (by simpa using hb),if_neg (by simp),List.takeWhile_cons,if_pos (by simpa using hb)];simp;exact h2
theorem Q7{b c:UInt8}(l:Tx)(h:b≠c):aoO (b::l) [c]=if aoO l [c]== -1 then -1 else aoO l [c]+1:=by
 have hp:([c]:Tx).isPrefixOf (b::l)=false:=by simp[aoT,Ne.symm h]
 rw[aoO,hp];simp
theorem KY(c:UInt8): ∀l:Tx,Lib.splitK [c] 0 (Lib.count l [c]) l=aD c l
 |[]=>by rw[Lib.count_miss (by simp[aoO])];rfl
 | b::l=>by
   have ih:=KY c l;unfold aD
   by_cases hb:b=c
   ·subst hb
    have AO:aoO (b::l) [b]=((0:Nat):Int):=by rw[aoO];simp[aoT]
    rw[Lib.count_cons_eq,Nat.add_comm,Lib.splitK,AO,if_neg (by simp),if_pos (by simp)];simp[ih]
   ·rw[Lib.count_cons_ne b c l hb,if_neg (by simpa using hb),<-ih]
    by_cases hm:aoO l [c]= -1
    ·rw[Lib.count_miss hm];rfl
    ·have hge:=Lib.index_ge l [c]
     obtain⟨j,hj⟩: ∃j:Nat,aoO l [c]=j:=⟨(aoO l [c]).toNat,by omega⟩;rw[Lib.count_hit (by simp) hj,Nat.add_comm,Lib.splitK,Lib.splitK,Q7 l hb,hj];rw[if_neg (show ¬(((j:Nat):Int)== -1)=true by simp),if_neg (show ¬(((j:Nat):Int)+1== -1)=true by simp;omega),if_neg (show ¬(((j:Nat):Int)== -1)=true by simp)];simp[show((j:Int)+1).toNat=j+1 by omega]
theorem om(c:UInt8): ∀l:Tx,aD c l≠[]
 |[]=>by simp[aD]
 | b::l=>by
   unfold aD;split
   ·simp
   ·split<;>simp
theorem Fp(c:UInt8): ∀(l:Tx),∀x∈aD c l,x.length<=l.length
 |[],x,h=>by simp[aD]at h;subst h;simp
 | b::l,x,h=>by
   have ih:=Fp c l;unfold aD at h
   split at h
   ·rcases amY.1 h with rfl|h
    ·simp
    ·have:=ih x h;simp;omega
   ·split at h
    ·simp at h;subst h;simp
    ·rename_i y t hy
     rcases amY.1 h with rfl|h
     ·have:=ih y (by rw[hy];simp);simp;omega
     ·have:=ih x (by rw[hy];simp[h]);simp;omega
theorem uh(c:UInt8): ∀l:Tx,(aD c l).length<=l.length+1
 |[]=>by simp[aD]
 | b::l=>by
   have ih:=uh c l;unfold aD;split
   ·simp;omega
   ·split
    ·simp
    ·rename_i x t h;rw[h]at ih;simp at ih ⊢; omega
end Go.Proofs.YtkbbgjloifmmbaaGreatDoor
namespace Go.Proofs.YtkbbgjloifmmbaaGreatDoor
open _root_.Go.Proofs.Tryz
open _root_.Go.Shelf renaming Ren->aoR
open _root_.Go.Lib renaming index->aoO,decDigits->anm,indexByte->aoB,itoa->anj
open _root_.Nat renaming div_div_eq_div_mul->aoS
open _root_.List renaming mem_cons->amY,isPrefixOf->aoT
open _root_.Go.Ending renaming returned->am8
open Go.Shelf
def Tryz.adR:aoR:=⟨fun|160=>68|232=>134|231=>133|227=>135|234=>137|233=>136|236=>139|235=>138|228=>220|271=>222|151=>95|197=>221|120=>276|152=>173|260=>275|137=>78|119=>246|224=>247|225=>248|217=>152|266=>232|n=>n,fun|9=>9|4=>4|3=>3|5=>5|117=>161|116=>160|0=>0|124=>164|21=>21|105=>216|46=>45|119=>283|139=>286|138=>285|n=>n,fun|3=>5|4=>6|n=>n⟩
theorem Tryz.RU:Go.Proofs.Lays.n160 prog Tryz.adR:={
 mixed:=by kernel_rfl
 f119:=func246.trans (congrArg some (by kernel_rfl))
 f120:=func276.trans (congrArg some (by kernel_rfl))
 f137:=func78.trans (congrArg some (by kernel_rfl))
 f151:=func95.trans (congrArg some (by kernel_rfl))
 f152:=func173.trans (congrArg some (by kernel_rfl))
 f160:=func68.trans (congrArg some (by kernel_rfl))
 f197:=func221.trans (congrArg some (by kernel_rfl))
 f217:=func152.trans (congrArg some (by kernel_rfl))
 f224:=func247.trans (congrArg some (by kernel_rfl))
 f225:=func248.trans (congrArg some (by kernel_rfl))
 f227:=func135.trans (congrArg some (by kernel_rfl))
 f228:=func220.trans (congrArg some (by kernel_rfl))
 f231:=func133.trans (congrArg some (by kernel_rfl))
 f232:=func134.trans (congrArg some (by kernel_rfl))
 f233:=func136.trans (congrArg some (by kernel_rfl))
 f234:=func137.trans (congrArg some (by kernel_rfl))
 f235:=func138.trans (congrArg some (by kernel_rfl))
 f236:=func139.trans (congrArg some (by kernel_rfl))
 f260:=func275.trans (congrArg some (by kernel_rfl))
 f266:=func232.trans (congrArg some (by kernel_rfl))
 f271:=func222.trans (congrArg some (by kernel_rfl))
 t0:=underlying0
 a0:=isAgg0
 z0:=sizeOf0
 v0:=zeroValue0
 t3:=underlying3
 a3:=isAgg3
 z3:=sizeOf3
 v3:=zeroValue3
 t4:=underlying4
 a4:=isAgg4
 z4:=sizeOf4
 v4:=zeroValue4
 t5:=underlying5
 a5:=isAgg5
 z5:=sizeOf5
 v5:=zeroValue5
 t9:=underlying9
 a9:=isAgg9
 z9:=sizeOf9
 v9:=zeroValue9
 t21:=underlying21
 a21:=isAgg21
 z21:=sizeOf21
 v21:=zeroValue21
 t46:=underlying45
 a46:=isAgg45
 z46:=sizeOf45
 v46:=zeroValue45
 t105:=underlying216
 a105:=isAgg216
 z105:=sizeOf216
 v105:=zeroValue216
 t116:=underlying160
 a116:=isAgg160
 z116:=sizeOf160
 t117:=underlying161
 a117:=isAgg161
 z117:=sizeOf161
 v117:=zeroValue161
 t119:=underlying283
 a119:=isAgg283
 z119:=sizeOf283
 t124:=underlying164
 a124:=isAgg164
 z124:=sizeOf164
 v124:=zeroValue164
 t138:=underlying285
 a138:=isAgg285
 z138:=sizeOf285
 v138:=zeroValue285
 t139:=underlying286
 a139:=isAgg286
 z139:=sizeOf286
 v139:=zeroValue286
 g3:=by kernel_rfl
 g4:=by kernel_rfl }
def Tryz.adK:aoR:=⟨fun|137=>78|217=>152|266=>232|n=>n,fun|9=>9|5=>5|3=>3|n=>n,fun|n=>n⟩
theorem Tryz.RS:Go.Proofs.Lays.n137 prog Tryz.adK:={
 mixed:=by kernel_rfl
 f137:=func78.trans (congrArg some (by kernel_rfl))
 f217:=func152.trans (congrArg some (by kernel_rfl))
 f266:=func232.trans (congrArg some (by kernel_rfl))
 t3:=underlying3
 a3:=isAgg3
 z3:=sizeOf3
 v3:=zeroValue3
 t5:=underlying5
 a5:=isAgg5
 z5:=sizeOf5
 v5:=zeroValue5
 t9:=underlying9
 a9:=isAgg9
 z9:=sizeOf9
 v9:=zeroValue9 }
def Tryz.adX:aoR:=⟨fun|171=>57|243=>121|246=>206|283=>264|284=>265|285=>266|286=>267|129=>295|317=>314|318=>315|319=>316|320=>317|337=>337|338=>338|n=>n,fun|3=>3|9=>9|2=>2|4=>4|171=>243|0=>0|53=>244|37=>94|5=>5|173=>247|212=>278|51=>265|20=>20|213=>279|46=>45|232=>309|233=>310|n=>n,fun|17=>4|18=>7|19=>8|n=>n⟩
theorem Tryz.adW:Go.Proofs.Lays.n171 prog Tryz.adX:={
 mixed:=by kernel_rfl
 f129:=func295.trans (congrArg some (by kernel_rfl))
 f171:=func57.trans (congrArg some (by kernel_rfl))
 f243:=func121.trans (congrArg some (by kernel_rfl))
 f246:=func206.trans (congrArg some (by kernel_rfl))
 f283:=func264.trans (congrArg some (by kernel_rfl))
 f284:=func265.trans (congrArg some (by kernel_rfl))
 f285:=func266.trans (congrArg some (by kernel_rfl))
 f286:=func267.trans (congrArg some (by kernel_rfl))
 f317:=func314.trans (congrArg some (by kernel_rfl))
 f318:=func315.trans (congrArg some (by kernel_rfl))
 f319:=func316.trans (congrArg some (by kernel_rfl))
 f320:=func317.trans (congrArg some (by kernel_rfl))
 f337:=func337.trans (congrArg some (by kernel_rfl))
 f338:=func338.trans (congrArg some (by kernel_rfl))
 t0:=underlying0
 a0:=isAgg0
 z0:=sizeOf0
 v0:=zeroValue0
 t2:=underlying2
 a2:=isAgg2
 z2:=sizeOf2
 v2:=zeroValue2
 t3:=underlying3
 a3:=isAgg3
 z3:=sizeOf3
 v3:=zeroValue3
 t4:=underlying4
 a4:=isAgg4
 z4:=sizeOf4
 v4:=zeroValue4
 t5:=underlying5
 a5:=isAgg5
 z5:=sizeOf5
 v5:=zeroValue5
 t9:=underlying9
 a9:=isAgg9
 z9:=sizeOf9
 v9:=zeroValue9
 t20:=underlying20
 a20:=isAgg20
 z20:=sizeOf20
 v20:=zeroValue20
 t37:=underlying94
 a37:=isAgg94
 z37:=sizeOf94
 v37:=zeroValue94
 t46:=underlying45
 a46:=isAgg45
 z46:=sizeOf45
 v46:=zeroValue45
 t51:=underlying265
 a51:=isAgg265
 z51:=sizeOf265
 v51:=zeroValue265
 t53:=underlying244
 a53:=isAgg244
 z53:=sizeOf244
 v53:=zeroValue244
 t171:=underlying243
 a171:=isAgg243
 z171:=sizeOf243
 v171:=zeroValue243
 t173:=underlying247
 a173:=isAgg247
 z173:=sizeOf247
 v173:=zeroValue247
 t212:=underlying278
 a212:=isAgg278
 z212:=sizeOf278
 v212:=zeroValue278
 t213:=underlying279
 a213:=isAgg279
 z213:=sizeOf279
 t232:=underlying309
 a232:=isAgg309
 z232:=sizeOf309
 v232:=zeroValue309
 t233:=underlying310
 a233:=isAgg310
 z233:=sizeOf310
 v233:=zeroValue310
 g17:=by kernel_rfl
 g18:=by kernel_rfl
 g19:=by kernel_rfl }
def Tryz.aey:aoR:=⟨fun|171=>57|243=>121|246=>206|283=>264|284=>265|285=>266|286=>267|129=>295|317=>314|318=>315|319=>316|320=>317|337=>337|338=>338|n=>n,fun|3=>3|9=>9|2=>2|4=>4|171=>243|0=>0|53=>244|37=>94|5=>5|173=>247|212=>278|51=>265|20=>20|213=>279|46=>45|232=>309|233=>310|n=>n,fun|17=>4|18=>7|19=>8|n=>n⟩
theorem Tryz.aex:Go.Proofs.LaysM.n171 prog Tryz.aey:={
 mixed:=by kernel_rfl
 f129:=func295.trans (congrArg some (by kernel_rfl))
 f171:=func57.trans (congrArg some (by kernel_rfl))
 f243:=func121.trans (congrArg some (by kernel_rfl))
 f246:=func206.trans (congrArg some (by kernel_rfl))
 f283:=func264.trans (congrArg some (by kernel_rfl))
 f284:=func265.trans (congrArg some (by kernel_rfl))
 f285:=func266.trans (congrArg some (by kernel_rfl))
 f286:=func267.trans (congrArg some (by kernel_rfl))
 f317:=func314.trans (congrArg some (by kernel_rfl))
 f318:=func315.trans (congrArg some (by kernel_rfl))
 f319:=func316.trans (congrArg some (by kernel_rfl))
 f320:=func317.trans (congrArg some (by kernel_rfl))
 f337:=func337.trans (congrArg some (by kernel_rfl))
 f338:=func338.trans (congrArg some (by kernel_rfl))
 t0:=underlying0
 a0:=isAgg0
 z0:=sizeOf0
 v0:=zeroValue0
 t2:=underlying2
 a2:=isAgg2
 z2:=sizeOf2
 v2:=zeroValue2
 t3:=underlying3
 a3:=isAgg3
 z3:=sizeOf3
 v3:=zeroValue3
 t4:=underlying4
 a4:=isAgg4
 z4:=sizeOf4
 v4:=zeroValue4
 t5:=underlying5
 a5:=isAgg5
 z5:=sizeOf5
 v5:=zeroValue5
 t9:=underlying9
 a9:=isAgg9
 z9:=sizeOf9
 v9:=zeroValue9
 t20:=underlying20
 a20:=isAgg20
 z20:=sizeOf20
 v20:=zeroValue20
 t37:=underlying94
 a37:=isAgg94
 z37:=sizeOf94
 v37:=zeroValue94
 t46:=underlying45
 a46:=isAgg45
 z46:=sizeOf45
 v46:=zeroValue45
 t51:=underlying265
 a51:=isAgg265
 z51:=sizeOf265
 v51:=zeroValue265
 t53:=underlying244
 a53:=isAgg244
 z53:=sizeOf244
 v53:=zeroValue244
 t171:=underlying243
 a171:=isAgg243
 z171:=sizeOf243
 v171:=zeroValue243
 t173:=underlying247
 a173:=isAgg247
 z173:=sizeOf247
 v173:=zeroValue247
 t212:=underlying278
 a212:=isAgg278
 z212:=sizeOf278
 v212:=zeroValue278
 t213:=underlying279
 a213:=isAgg279
 z213:=sizeOf279
 t232:=underlying309
 a232:=isAgg309
 z232:=sizeOf309
 v232:=zeroValue309
 t233:=underlying310
 a233:=isAgg310
 z233:=sizeOf310
 v233:=zeroValue310
 g17:=by kernel_rfl
 g18:=by kernel_rfl
 g19:=by kernel_rfl
 i0:=by kernel_rfl
 i2:=by kernel_rfl
 i3:=by kernel_rfl
 i4:=by kernel_rfl
 i5:=by kernel_rfl
 i9:=by kernel_rfl
 i20:=by kernel_rfl
 i37:=by kernel_rfl
 i46:=by kernel_rfl
 i51:=by kernel_rfl
 i53:=by kernel_rfl
 i171:=by kernel_rfl
 i173:=by kernel_rfl
 i212:=by kernel_rfl
 i232:=by kernel_rfl
 i233:=by kernel_rfl
 m17:=by kernel_rfl
 m18:=by kernel_rfl
 m19:=by kernel_rfl }
def Tryz.Y5:aoR:=⟨fun|172=>113|244=>198|245=>199|247=>259|279=>260|280=>261|281=>262|282=>263|287=>311|316=>312|171=>57|205=>313|321=>335|322=>336|243=>121|246=>206|283=>264|284=>265|285=>266|286=>267|129=>295|317=>314|318=>315|319=>316|320=>317|337=>337|338=>338|n=>n,fun|9=>9|3=>3|75=>98|76=>99|4=>4|5=>5|167=>237|37=>94|0=>0|85=>238|2=>2|168=>240|53=>244|175=>272|46=>45|210=>275|127=>154|145=>298|143=>296|21=>21|171=>243|173=>247|212=>278|51=>265|20=>20|213=>279|232=>309|233=>310|80=>106|n=>n,fun|15=>2|16=>3|17=>4|18=>7|19=>8|n=>n⟩
theorem Tryz.GO:Go.Proofs.LaysC.n172 prog Tryz.Y5:={
 mixed:=by kernel_rfl
 f129:=func295.trans (congrArg some (by kernel_rfl))
 f171:=func57.trans (congrArg some (by kernel_rfl))
 f172:=func113.trans (congrArg some (by kernel_rfl))
 f205:=func313.trans (congrArg some (by kernel_rfl))
 f243:=func121.trans (congrArg some (by kernel_rfl))
 f244:=func198.trans (congrArg some (by kernel_rfl))
 f245:=func199.trans (congrArg some (by kernel_rfl))
 f246:=func206.trans (congrArg some (by kernel_rfl))
 f247:=func259.trans (congrArg some (by kernel_rfl))
 f279:=func260.trans (congrArg some (by kernel_rfl))
 f280:=func261.trans (congrArg some (by kernel_rfl))
 f281:=func262.trans (congrArg some (by kernel_rfl))
 f282:=func263.trans (congrArg some (by kernel_rfl))
 f283:=func264.trans (congrArg some (by kernel_rfl))
 f284:=func265.trans (congrArg some (by kernel_rfl))
 f285:=func266.trans (congrArg some (by kernel_rfl))
 f286:=func267.trans (congrArg some (by kernel_rfl))
 f287:=func311.trans (congrArg some (by kernel_rfl))
 f316:=func312.trans (congrArg some (by kernel_rfl))
 f317:=func314.trans (congrArg some (by kernel_rfl))
 f318:=func315.trans (congrArg some (by kernel_rfl))
 f319:=func316.trans (congrArg some (by kernel_rfl))
 f320:=func317.trans (congrArg some (by kernel_rfl))
 f321:=func335.trans (congrArg some (by kernel_rfl))
 f322:=func336.trans (congrArg some (by kernel_rfl))
 f337:=func337.trans (congrArg some (by kernel_rfl))
 f338:=func338.trans (congrArg some (by kernel_rfl))
 t0:=underlying0
 a0:=isAgg0
 z0:=sizeOf0
 v0:=zeroValue0
 t2:=underlying2
 a2:=isAgg2
 z2:=sizeOf2
 v2:=zeroValue2
 t3:=underlying3
 a3:=isAgg3
 z3:=sizeOf3
 v3:=zeroValue3
 t4:=underlying4
 a4:=isAgg4
 z4:=sizeOf4
 v4:=zeroValue4
 t5:=underlying5
 a5:=isAgg5
 z5:=sizeOf5
 v5:=zeroValue5
 t9:=underlying9
 a9:=isAgg9
 z9:=sizeOf9
 v9:=zeroValue9
 t20:=underlying20
 a20:=isAgg20
 z20:=sizeOf20
 v20:=zeroValue20
 t21:=underlying21
 a21:=isAgg21
 z21:=sizeOf21
 v21:=zeroValue21
 t37:=underlying94
 a37:=isAgg94
 z37:=sizeOf94
 v37:=zeroValue94
 t46:=underlying45
 a46:=isAgg45
 z46:=sizeOf45
 v46:=zeroValue45
 t51:=underlying265
 a51:=isAgg265
 z51:=sizeOf265
 v51:=zeroValue265
 t53:=underlying244
 a53:=isAgg244
 z53:=sizeOf244
 v53:=zeroValue244
 t75:=underlying98
 a75:=isAgg98
 z75:=sizeOf98
 v75:=zeroValue98
 t76:=underlying99
 a76:=isAgg99
 z76:=sizeOf99
 v76:=zeroValue99
 t85:=underlying238
 a85:=isAgg238
 z85:=sizeOf238
 v85:=zeroValue238
 t127:=underlying154
 a127:=isAgg154
 z127:=sizeOf154
 v127:=zeroValue154
 t143:=underlying296
 a143:=isAgg296
 z143:=sizeOf296
 v143:=zeroValue296
 t145:=underlying298
 a145:=isAgg298
 z145:=sizeOf298
 v145:=zeroValue298
 t167:=underlying237
 a167:=isAgg237
 z167:=sizeOf237
 v167:=zeroValue237
 t168:=underlying240
 a168:=isAgg240
 z168:=sizeOf240
 v168:=zeroValue240
 t171:=underlying243
 a171:=isAgg243
 z171:=sizeOf243
 v171:=zeroValue243
 t173:=underlying247
 a173:=isAgg247
 z173:=sizeOf247
 v173:=zeroValue247
 t175:=underlying272
 a175:=isAgg272
 z175:=sizeOf272
 v175:=zeroValue272
 t210:=underlying275
 a210:=isAgg275
 z210:=sizeOf275
 v210:=zeroValue275
 t212:=underlying278
 a212:=isAgg278
 z212:=sizeOf278
 v212:=zeroValue278
 t213:=underlying279
 a213:=isAgg279
 z213:=sizeOf279
 t232:=underlying309
 a232:=isAgg309
 z232:=sizeOf309
 v232:=zeroValue309
 t233:=underlying310
 a233:=isAgg310
 z233:=sizeOf310
 v233:=zeroValue310
 g15:=by kernel_rfl
 g16:=by kernel_rfl
 g17:=by kernel_rfl
 g18:=by kernel_rfl
 g19:=by kernel_rfl
 t80:=underlying106
 a80:=isAgg106
 z80:=sizeOf106
 v80:=zeroValue106
 i0:=by kernel_rfl
 i2:=by kernel_rfl
 i3:=by kernel_rfl
 i4:=by kernel_rfl
 i5:=by kernel_rfl
 i9:=by kernel_rfl
 i20:=by kernel_rfl
 i21:=by kernel_rfl
 i37:=by kernel_rfl
 i46:=by kernel_rfl
 i51:=by kernel_rfl
 i53:=by kernel_rfl
 i75:=by kernel_rfl
 i76:=by kernel_rfl
 i80:=by kernel_rfl
 i85:=by kernel_rfl
 i127:=by kernel_rfl
 i143:=by kernel_rfl
 i145:=by kernel_rfl
 i167:=by kernel_rfl
 i168:=by kernel_rfl
 i171:=by kernel_rfl
 i173:=by kernel_rfl
 i175:=by kernel_rfl
 i210:=by kernel_rfl
 i212:=by kernel_rfl
 i232:=by kernel_rfl
 i233:=by kernel_rfl
 m15:=by kernel_rfl
 m16:=by kernel_rfl
 m17:=by kernel_rfl
 m18:=by kernel_rfl
 m19:=by kernel_rfl
 c0:=by kernel_rfl
 c2:=by kernel_rfl
 c3:=by kernel_rfl
 c4:=by kernel_rfl
 c5:=by kernel_rfl
 c9:=by kernel_rfl
 c20:=by kernel_rfl
 c21:=by kernel_rfl
 c37:=by kernel_rfl
 c46:=by kernel_rfl
 c51:=by kernel_rfl
 c53:=by kernel_rfl
 c75:=by kernel_rfl
 c76:=by kernel_rfl
 c80:=by kernel_rfl
 c85:=by kernel_rfl
 c127:=by kernel_rfl
 c143:=by kernel_rfl
 c145:=by kernel_rfl
 c167:=by kernel_rfl
 c168:=by kernel_rfl
 c171:=by kernel_rfl
 c173:=by kernel_rfl
 c175:=by kernel_rfl
 c210:=by kernel_rfl
 c212:=by kernel_rfl
 c213:=by kernel_rfl
 c232:=by kernel_rfl
 c233:=by kernel_rfl }
def Tryz.adH:aoR:=⟨fun|100=>99|207=>171|n=>n,fun|9=>9|4=>4|3=>3|n=>n,fun|n=>n⟩
theorem Tryz.adG:Go.Proofs.Lays.n100 prog Tryz.adH:={
 mixed:=by kernel_rfl
 f100:=func99.trans (congrArg some (by kernel_rfl))
 f207:=func171.trans (congrArg some (by kernel_rfl))
 t3:=underlying3
 a3:=isAgg3
 z3:=sizeOf3
 v3:=zeroValue3
 t4:=underlying4
 a4:=isAgg4
 z4:=sizeOf4
 v4:=zeroValue4
 t9:=underlying9
 a9:=isAgg9
 z9:=sizeOf9
 v9:=zeroValue9 }
def Tryz.ad2:aoR:=⟨fun|99=>94|206=>172|n=>n,fun|9=>9|4=>4|3=>3|n=>n,fun|n=>n⟩
theorem Tryz.l99:Go.Proofs.Lays.n99 prog Tryz.ad2:={
 mixed:=by kernel_rfl
 f99:=func94.trans (congrArg some (by kernel_rfl))
 f206:=func172.trans (congrArg some (by kernel_rfl))
 t3:=underlying3
 a3:=isAgg3
 z3:=sizeOf3
 v3:=zeroValue3
 t4:=underlying4
 a4:=isAgg4
 z4:=sizeOf4
 v4:=zeroValue4
 t9:=underlying9
 a9:=isAgg9
 z9:=sizeOf9
 v9:=zeroValue9 }
def Tryz.Et:aoR:=⟨fun|146=>79|221=>153|268=>233|138=>77|143=>151|195=>149|197=>221|218=>150|219=>196|260=>275|217=>152|225=>248|224=>247|267=>258|266=>232|314=>310|n=>n,fun|9=>9|31=>42|3=>3|4=>4|0=>0|105=>216|21=>21|5=>5|46=>45|119=>283|139=>286|138=>285|146=>270|51=>265|n=>n,fun|1=>1|3=>5|4=>6|n=>n⟩
theorem Tryz.Bm:Go.Proofs.LaysM.n146 prog Tryz.Et:={
 mixed:=by kernel_rfl
 f138:=func77.trans (congrArg some (by kernel_rfl))
 f143:=func151.trans (congrArg some (by kernel_rfl))
 f146:=func79.trans (congrArg some (by kernel_rfl))
 f195:=func149.trans (congrArg some (by kernel_rfl))
 f197:=func221.trans (congrArg some (by kernel_rfl))
 f217:=func152.trans (congrArg some (by kernel_rfl))
 f218:=func150.trans (congrArg some (by kernel_rfl))
 f219:=func196.trans (congrArg some (by kernel_rfl))
 f221:=func153.trans (congrArg some (by kernel_rfl))
 f224:=func247.trans (congrArg some (by kernel_rfl))
 f225:=func248.trans (congrArg some (by kernel_rfl))
 f260:=func275.trans (congrArg some (by kernel_rfl))
 f266:=func232.trans (congrArg some (by kernel_rfl))
 f267:=func258.trans (congrArg some (by kernel_rfl))
 f268:=func233.trans (congrArg some (by kernel_rfl))
 f314:=func310.trans (congrArg some (by kernel_rfl))
 t0:=underlying0
 a0:=isAgg0
 z0:=sizeOf0
 v0:=zeroValue0
 t3:=underlying3
 a3:=isAgg3
 z3:=sizeOf3
 v3:=zeroValue3
 t4:=underlying4
 a4:=isAgg4
 z4:=sizeOf4
 v4:=zeroValue4
 t5:=underlying5
 a5:=isAgg5
 z5:=sizeOf5
 v5:=zeroValue5
 t9:=underlying9
 a9:=isAgg9
 z9:=sizeOf9
 v9:=zeroValue9
 t21:=underlying21
 a21:=isAgg21
 z21:=sizeOf21
 v21:=zeroValue21
 t31:=underlying42
 a31:=isAgg42
 z31:=sizeOf42
 v31:=zeroValue42
 t46:=underlying45
 a46:=isAgg45
 z46:=sizeOf45
 v46:=zeroValue45
 t51:=underlying265
 a51:=isAgg265
 z51:=sizeOf265
 v51:=zeroValue265
 t105:=underlying216
 a105:=isAgg216
 z105:=sizeOf216
 v105:=zeroValue216
 t119:=underlying283
 a119:=isAgg283
 z119:=sizeOf283
 t138:=underlying285
 a138:=isAgg285
 z138:=sizeOf285
 v138:=zeroValue285
 t139:=underlying286
 a139:=isAgg286
 z139:=sizeOf286
 v139:=zeroValue286
 t146:=underlying270
 a146:=isAgg270
 z146:=sizeOf270
 v146:=zeroValue270
 g1:=by kernel_rfl
 g3:=by kernel_rfl
 g4:=by kernel_rfl
 i0:=by kernel_rfl
 i3:=by kernel_rfl
 i4:=by kernel_rfl
 i5:=by kernel_rfl
 i9:=by kernel_rfl
 i21:=by kernel_rfl
 i31:=by kernel_rfl
 i46:=by kernel_rfl
 i51:=by kernel_rfl
 i105:=by kernel_rfl
 i138:=by kernel_rfl
 i139:=by kernel_rfl
 i146:=by kernel_rfl
 m1:=by kernel_rfl
 s1_3:=fun w h=>Go.Proofs.cell_of_shapedOpen_int (zero:=#[.int .i64 0]) (t:=3) h (of_decide_eq_true (by kernel_rfl)) (by kernel_rfl) rfl (by kernel_rfl) (by kernel_rfl) underlying3
 m3:=by kernel_rfl
 m4:=by kernel_rfl }
def Tryz.adJ:aoR:=⟨fun|106=>325|213=>348|265=>355|n=>n,fun|9=>9|3=>3|n=>n,fun|n=>n⟩
theorem Tryz.adI:Go.Proofs.Lays.n106 prog Tryz.adJ:={
 mixed:=by kernel_rfl
 f106:=func325.trans (congrArg some (by kernel_rfl))
 f213:=func348.trans (congrArg some (by kernel_rfl))
 f265:=func355.trans (congrArg some (by kernel_rfl))
 t3:=underlying3
 a3:=isAgg3
 z3:=sizeOf3
 v3:=zeroValue3
 t9:=underlying9
 a9:=isAgg9
 z9:=sizeOf9
 v9:=zeroValue9 }
def Tryz.adT:aoR:=⟨fun|161=>154|231=>133|227=>135|233=>136|235=>138|228=>220|197=>221|151=>95|260=>275|152=>173|137=>78|119=>246|224=>247|225=>248|217=>152|266=>232|n=>n,fun|9=>9|4=>4|3=>3|5=>5|117=>161|116=>160|0=>0|124=>164|105=>216|21=>21|119=>283|46=>45|139=>286|138=>285|n=>n,fun|3=>5|4=>6|n=>n⟩
theorem Tryz.adS:Go.Proofs.Lays.n161 prog Tryz.adT:={
 mixed:=by kernel_rfl
 f119:=func246.trans (congrArg some (by kernel_rfl))
 f137:=func78.trans (congrArg some (by kernel_rfl))
 f151:=func95.trans (congrArg some (by kernel_rfl))
 f152:=func173.trans (congrArg some (by kernel_rfl))
 f161:=func154.trans (congrArg some (by kernel_rfl))
 f197:=func221.trans (congrArg some (by kernel_rfl))
 f217:=func152.trans (congrArg some (by kernel_rfl))
 f224:=func247.trans (congrArg some (by kernel_rfl))
 f225:=func248.trans (congrArg some (by kernel_rfl))
 f227:=func135.trans (congrArg some (by kernel_rfl))
 f228:=func220.trans (congrArg some (by kernel_rfl))
 f231:=func133.trans (congrArg some (by kernel_rfl))
 f233:=func136.trans (congrArg some (by kernel_rfl))
 f235:=func138.trans (congrArg some (by kernel_rfl))
 f260:=func275.trans (congrArg some (by kernel_rfl))
 f266:=func232.trans (congrArg some (by kernel_rfl))
 t0:=underlying0
 a0:=isAgg0
 z0:=sizeOf0
 v0:=zeroValue0
 t3:=underlying3
 a3:=isAgg3
 z3:=sizeOf3
 v3:=zeroValue3
 t4:=underlying4
 a4:=isAgg4
 z4:=sizeOf4
 v4:=zeroValue4
 t5:=underlying5
 a5:=isAgg5
 z5:=sizeOf5
 v5:=zeroValue5
 t9:=underlying9
 a9:=isAgg9
 z9:=sizeOf9
 v9:=zeroValue9
 t21:=underlying21
 a21:=isAgg21
 z21:=sizeOf21
 v21:=zeroValue21
 t46:=underlying45
 a46:=isAgg45
 z46:=sizeOf45
 v46:=zeroValue45
 t105:=underlying216
 a105:=isAgg216
 z105:=sizeOf216
 v105:=zeroValue216
 t116:=underlying160
 a116:=isAgg160
 z116:=sizeOf160
 t117:=underlying161
 a117:=isAgg161
 z117:=sizeOf161
 v117:=zeroValue161
 t119:=underlying283
 a119:=isAgg283
 z119:=sizeOf283
 t124:=underlying164
 a124:=isAgg164
 z124:=sizeOf164
 v124:=zeroValue164
 t138:=underlying285
 a138:=isAgg285
 z138:=sizeOf285
 v138:=zeroValue285
 t139:=underlying286
 a139:=isAgg286
 z139:=sizeOf286
 v139:=zeroValue286
 g3:=by kernel_rfl
 g4:=by kernel_rfl }
def Tryz.adV:aoR:=⟨fun|162=>155|232=>134|227=>135|234=>137|236=>139|228=>220|271=>222|151=>95|120=>276|197=>221|152=>173|260=>275|137=>78|119=>246|224=>247|225=>248|217=>152|266=>232|n=>n,fun|9=>9|4=>4|3=>3|5=>5|117=>161|116=>160|0=>0|124=>164|21=>21|105=>216|46=>45|119=>283|139=>286|138=>285|n=>n,fun|3=>5|4=>6|n=>n⟩
theorem Tryz.adU:Go.Proofs.Lays.n162 prog Tryz.adV:={
 mixed:=by kernel_rfl
 f119:=func246.trans (congrArg some (by kernel_rfl))
 f120:=func276.trans (congrArg some (by kernel_rfl))
 f137:=func78.trans (congrArg some (by kernel_rfl))
 f151:=func95.trans (congrArg some (by kernel_rfl))
 f152:=func173.trans (congrArg some (by kernel_rfl))
 f162:=func155.trans (congrArg some (by kernel_rfl))
 f197:=func221.trans (congrArg some (by kernel_rfl))
 f217:=func152.trans (congrArg some (by kernel_rfl))
 f224:=func247.trans (congrArg some (by kernel_rfl))
 f225:=func248.trans (congrArg some (by kernel_rfl))
 f227:=func135.trans (congrArg some (by kernel_rfl))
 f228:=func220.trans (congrArg some (by kernel_rfl))
 f232:=func134.trans (congrArg some (by kernel_rfl))
 f234:=func137.trans (congrArg some (by kernel_rfl))
 f236:=func139.trans (congrArg some (by kernel_rfl))
 f260:=func275.trans (congrArg some (by kernel_rfl))
 f266:=func232.trans (congrArg some (by kernel_rfl))
 f271:=func222.trans (congrArg some (by kernel_rfl))
 t0:=underlying0
 a0:=isAgg0
 z0:=sizeOf0
 v0:=zeroValue0
 t3:=underlying3
 a3:=isAgg3
 z3:=sizeOf3
 v3:=zeroValue3
 t4:=underlying4
 a4:=isAgg4
 z4:=sizeOf4
 v4:=zeroValue4
 t5:=underlying5
 a5:=isAgg5
 z5:=sizeOf5
 v5:=zeroValue5
 t9:=underlying9
 a9:=isAgg9
 z9:=sizeOf9
 v9:=zeroValue9
 t21:=underlying21
 a21:=isAgg21
 z21:=sizeOf21
 v21:=zeroValue21
 t46:=underlying45
 a46:=isAgg45
 z46:=sizeOf45
 v46:=zeroValue45
 t105:=underlying216
 a105:=isAgg216
 z105:=sizeOf216
 v105:=zeroValue216
 t116:=underlying160
 a116:=isAgg160
 z116:=sizeOf160
 t117:=underlying161
 a117:=isAgg161
 z117:=sizeOf161
 v117:=zeroValue161
 t119:=underlying283
 a119:=isAgg283
 z119:=sizeOf283
 t124:=underlying164
 a124:=isAgg164
 z124:=sizeOf164
 v124:=zeroValue164
 t138:=underlying285
 a138:=isAgg285
 z138:=sizeOf285
 v138:=zeroValue285
 t139:=underlying286
 a139:=isAgg286
 z139:=sizeOf286
 v139:=zeroValue286
 g3:=by kernel_rfl
 g4:=by kernel_rfl }
def Tryz.adM:aoR:=⟨fun|138=>77|195=>149|218=>150|143=>151|219=>196|217=>152|225=>248|224=>247|267=>258|266=>232|314=>310|n=>n,fun|9=>9|3=>3|4=>4|5=>5|0=>0|46=>45|146=>270|51=>265|n=>n,fun|1=>1|n=>n⟩
theorem Tryz.adL:Go.Proofs.Lays.n138 prog Tryz.adM:={
 mixed:=by kernel_rfl
 f138:=func77.trans (congrArg some (by kernel_rfl))
 f143:=func151.trans (congrArg some (by kernel_rfl))
 f195:=func149.trans (congrArg some (by kernel_rfl))
 f217:=func152.trans (congrArg some (by kernel_rfl))
 f218:=func150.trans (congrArg some (by kernel_rfl))
 f219:=func196.trans (congrArg some (by kernel_rfl))
 f224:=func247.trans (congrArg some (by kernel_rfl))
 f225:=func248.trans (congrArg some (by kernel_rfl))
 f266:=func232.trans (congrArg some (by kernel_rfl))
 f267:=func258.trans (congrArg some (by kernel_rfl))
 f314:=func310.trans (congrArg some (by kernel_rfl))
 t0:=underlying0
 a0:=isAgg0
 z0:=sizeOf0
 v0:=zeroValue0
 t3:=underlying3
 a3:=isAgg3
 z3:=sizeOf3
 v3:=zeroValue3
 t4:=underlying4
 a4:=isAgg4
 z4:=sizeOf4
 v4:=zeroValue4
 t5:=underlying5
 a5:=isAgg5
 z5:=sizeOf5
 v5:=zeroValue5
 t9:=underlying9
 a9:=isAgg9
 z9:=sizeOf9
 v9:=zeroValue9
 t46:=underlying45
 a46:=isAgg45
 z46:=sizeOf45
 v46:=zeroValue45
 t51:=underlying265
 a51:=isAgg265
 z51:=sizeOf265
 v51:=zeroValue265
 t146:=underlying270
 a146:=isAgg270
 z146:=sizeOf270
 v146:=zeroValue270
 g1:=by kernel_rfl }
def Tryz.adO:aoR:=⟨fun|145=>48|220=>111|219=>196|217=>152|225=>248|224=>247|267=>258|266=>232|314=>310|n=>n,fun|9=>9|4=>4|59=>80|3=>3|5=>5|46=>45|146=>270|51=>265|n=>n,fun|1=>1|n=>n⟩
theorem Tryz.adN:Go.Proofs.Lays.n145 prog Tryz.adO:={
 mixed:=by kernel_rfl
 f145:=func48.trans (congrArg some (by kernel_rfl))
 f217:=func152.trans (congrArg some (by kernel_rfl))
 f219:=func196.trans (congrArg some (by kernel_rfl))
 f220:=func111.trans (congrArg some (by kernel_rfl))
 f224:=func247.trans (congrArg some (by kernel_rfl))
 f225:=func248.trans (congrArg some (by kernel_rfl))
 f266:=func232.trans (congrArg some (by kernel_rfl))
 f267:=func258.trans (congrArg some (by kernel_rfl))
 f314:=func310.trans (congrArg some (by kernel_rfl))
 t3:=underlying3
 a3:=isAgg3
 z3:=sizeOf3
 v3:=zeroValue3
 t4:=underlying4
 a4:=isAgg4
 z4:=sizeOf4
 v4:=zeroValue4
 t5:=underlying5
 a5:=isAgg5
 z5:=sizeOf5
 v5:=zeroValue5
 t9:=underlying9
 a9:=isAgg9
 z9:=sizeOf9
 v9:=zeroValue9
 t46:=underlying45
 a46:=isAgg45
 z46:=sizeOf45
 v46:=zeroValue45
 t51:=underlying265
 a51:=isAgg265
 z51:=sizeOf265
 v51:=zeroValue265
 t59:=underlying80
 a59:=isAgg80
 z59:=sizeOf80
 v59:=zeroValue80
 t146:=underlying270
 a146:=isAgg270
 z146:=sizeOf270
 v146:=zeroValue270
 g1:=by kernel_rfl }
def Tryz.adQ:aoR:=⟨fun|151=>95|152=>173|137=>78|119=>246|224=>247|225=>248|217=>152|266=>232|n=>n,fun|9=>9|21=>21|4=>4|3=>3|5=>5|0=>0|46=>45|n=>n,fun|n=>n⟩
theorem Tryz.adP:Go.Proofs.Lays.n151 prog Tryz.adQ:={
 mixed:=by kernel_rfl
 f119:=func246.trans (congrArg some (by kernel_rfl))
 f137:=func78.trans (congrArg some (by kernel_rfl))
 f151:=func95.trans (congrArg some (by kernel_rfl))
 f152:=func173.trans (congrArg some (by kernel_rfl))
 f217:=func152.trans (congrArg some (by kernel_rfl))
 f224:=func247.trans (congrArg some (by kernel_rfl))
 f225:=func248.trans (congrArg some (by kernel_rfl))
 f266:=func232.trans (congrArg some (by kernel_rfl))
 t0:=underlying0
 a0:=isAgg0
 z0:=sizeOf0
 v0:=zeroValue0
 t3:=underlying3
 a3:=isAgg3
 z3:=sizeOf3
 v3:=zeroValue3
 t4:=underlying4
 a4:=isAgg4
 z4:=sizeOf4
 v4:=zeroValue4
 t5:=underlying5
 a5:=isAgg5
 z5:=sizeOf5
 v5:=zeroValue5
 t9:=underlying9
 a9:=isAgg9
 z9:=sizeOf9
 v9:=zeroValue9
 t21:=underlying21
 a21:=isAgg21
 z21:=sizeOf21
 v21:=zeroValue21
 t46:=underlying45
 a46:=isAgg45
 z46:=sizeOf45
 v46:=zeroValue45 }
def Tryz.ad1:aoR:=⟨fun|229=>147|n=>n,fun|9=>9|40=>177|31=>42|152=>227|3=>3|0=>0|4=>4|21=>21|154=>229|n=>n,fun|n=>n⟩
theorem Tryz.ad0:Go.Proofs.Lays.n229 prog Tryz.ad1:={
 mixed:=by kernel_rfl
 f229:=func147.trans (congrArg some (by kernel_rfl))
 t0:=underlying0
 a0:=isAgg0
 z0:=sizeOf0
 v0:=zeroValue0
 t3:=underlying3
 a3:=isAgg3
 z3:=sizeOf3
 v3:=zeroValue3
 t4:=underlying4
 a4:=isAgg4
 z4:=sizeOf4
 v4:=zeroValue4
 t9:=underlying9
 a9:=isAgg9
 z9:=sizeOf9
 v9:=zeroValue9
 t21:=underlying21
 a21:=isAgg21
 z21:=sizeOf21
 v21:=zeroValue21
 t31:=underlying42
 a31:=isAgg42
 z31:=sizeOf42
 v31:=zeroValue42
 t40:=underlying177
 a40:=isAgg177
 z40:=sizeOf177
 v40:=zeroValue177
 t152:=underlying227
 a152:=isAgg227
 z152:=sizeOf227
 v152:=zeroValue227
 t154:=underlying229
 a154:=isAgg229
 z154:=sizeOf229
 v154:=zeroValue229 }
end Go.Proofs.YtkbbgjloifmmbaaGreatDoor
namespace Go.Proofs.YtkbbgjloifmmbaaGreatDoor
open _root_.Go.Proofs.Tryz
open _root_.Go.Shelf renaming Ren->aoR
open _root_.Go.Lib renaming index->aoO,decDigits->anm,indexByte->aoB,itoa->anj
open _root_.Nat renaming div_div_eq_div_mul->aoS
open _root_.List renaming mem_cons->amY,isPrefixOf->aoT
open _root_.Go.Ending renaming returned->am8
def sr:List Tx:=[[69,65,88],[69,66,88],[69,67,88],[69,68,88],[69,83,73],[69,68,73],[69,66,80],[82,56,68],[82,57,68],[82,49,48,68],[82,49,49,68],[82,49,50,68],[82,49,51,68],[82,49,52,68],[82,49,53,68]]
def aO(n:Nat):Tx:=sr.getD n []
def rX(n:Int):Tx:=aO n.toNat
def lV(n:Int):Bool:=decide (0<=n)&&decide (n<15)
def aY(n:Int):Bool:=decide (-2147483648<=n)&&decide (n<=2147483647)
def qL(i:Ins):Ins:=
 if i.op=1 then⟨1,0,0,0,i.ag,i.loc,[],0⟩
 else if i.op=2 then⟨2,0,i.a,0,0,i.loc,[],0⟩
 else if i.op=3 then⟨3,i.d,0,0,0,i.loc,[],0⟩
 else if i.op=4 then⟨4,i.d,0,0,i.ag,[],[],0⟩
 else⟨i.op,0,0,0,0,[],[],0⟩
def kQ(i:Ins):Bool:=
 if i.op=1 then az i.loc&&aY i.ag
 else if i.op=2 then az i.loc&&lV i.a
 else if i.op=3 then az i.loc&&lV i.d
 else if i.op=4 then lV i.d&&aY i.ag
 else decide (i.op=5)
def dy(i:Ins):Bool:=kQ i&&decide (i=qL i)
def mW(i:Ins):Int:=if dy i then 0 else 91
def dJ(i:Ins):Tx:=
 if i.op=1 then[77,79,86,32,91]++i.loc++[93,44,36]++anj i.ag
 else if i.op=2 then[77,79,86,32,91]++i.loc++[93,44]++rX i.a
 else if i.op=3 then[77,79,86,32]++rX i.d++[44,91]++i.loc++[93]
 else if i.op=4 then[77,79,86,32]++rX i.d++[44,36]++anj i.ag
 else[77,70,69,78,67,69]
theorem qC{n:Int}(h:lV n=true): ∃k:Nat,k<15/\n=k:=by
 unfold lV at h;simp at h;exact⟨n.toNat,by omega,by omega⟩
theorem aiV{k:Nat}(h:k<15):lV (k:Int)=true:=by unfold lV;simp;omega
theorem Fe: ∀n:Fin 15,(aO n.val).length<=4/\aO n.val≠[]:=by decide+kernel
theorem pI{n:Nat}(h:n<15):(aO n).length<=4:=(Fe ⟨n,h⟩).1
theorem Pb{i:Ins}(h:dy i=false):mW i=91:=by unfold mW;rw[h];rfl
theorem H8{i:Ins}(h:dy i=true):mW i=0:=by unfold mW;rw[h];rfl
end Go.Proofs.YtkbbgjloifmmbaaGreatDoor
