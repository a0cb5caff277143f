/- What ReadBlanksP leans on, part 4. -/
import Derived.Test.YtkbbgjloifmmbaaGreatDoorRows
import Derived.Test.YtkbbgjloifmmbaaGreatDoorPc2
import Derived.Test.YtkbbgjloifmmbaaGreatDoorPc1
import Derived.ProofKit
import Derived.OpenShut
import Derived.ShutString
import Derived.ChangeOld
import Derived.Carry
import Derived.SizedLaws
import Derived.Laws.StructEq
import Derived.Shelf.SlicesQ.Load
import Derived.Test.YtkbbgjloifmmbaaGreatDoorPc3
import Derived.WalkSmall
import Derived.Laws.Concat
import Derived.BigRegion
import Derived.StillTailTactics
set_option linter.unusedVariables false
set_option maxRecDepth 100000
set_option maxHeartbeats 8000000
open _root_.Go.Proofs.Tryz
open _root_.List renaming not_mem_nil->aoa,mem_cons->anE,getElem?_eq_some_iff->anx
open _root_.Bool renaming eq_iff_iff->an8
open _root_.Nat renaming lt_succ_iff_lt_or_eq->anv,not_lt_zero->anC,le_refl->anb
open _root_.Go.RowKit.Below renaming refl->anM
open _root_.Go.Value renaming string->apy
open _root_.UInt8 renaming toNat_inj->aph,le_iff_toNat_le->aof
open _root_.Go.Lib renaming count->apJ,atoiAll->aoq
open _root_.Go.Instr renaming index->apm
namespace Go.Proofs.YtkbbgjloifmmbaaGreatDoor
open Go.RowKit
variable{i:ay}{l:List Tx}{n:Nat}{a:Option Addr}{b r s:Tx}{c:UInt8}{w w':World}
def tx(l:Tx):ByteArray:=⟨l.toArray⟩
theorem bh(l:Tx):(tx l).toList=l:=by rw[ByteArray.toList_eq];simp[tx]
theorem jk(l:Tx):(tx l).data.toList=l:=by simp[tx]
theorem aM(l:Tx):(tx l).size=l.length:=by simp[tx,ByteArray.size]
theorem Ox(s:ByteArray): ∃l,s=tx l:=⟨s.data.toList,by simp[tx]⟩
theorem alO(a b:Tx):tx a++tx b=tx (a++b):=by
 apply ByteArray.ext;simp[tx]
theorem alP{a:Tx}:tx a=tx b<->a=b:=⟨fun h=>by have:=congrArg (fun s:ByteArray=>s.data.toList) h;simpa[tx]using this,fun h=>by rw[h]⟩
theorem iQ(a b:Tx):((tx a).toList==(tx b).toList)=(a==b):=by rw[bh,bh]
theorem mY{a:Tx}(h:a≠b):((tx a).toList==(tx b).toList)=false:=by rw[iQ];simpa using h
@[reducible] def iC(i:ay):List Value:=[.int .i64 i.op,.int .i64 i.d,.int .i64 i.a,.int .i64 i.b,.int .i64 i.ag,.string (tx i.loc),.string (tx i.label),.int .i64 i.ai]
@[reducible] def vI(i:ay):Value:=.agg #[.int .i64 i.op,.int .i64 i.d,.int .i64 i.a,.int .i64 i.b,.int .i64 i.ag,.string (tx i.loc),.string (tx i.label),.int .i64 i.ai]
theorem aen(x y:ay):(x=y)<->(x.op=y.op/\x.d=y.d/\x.a=y.a/\x.b=y.b/\x.ag=y.ag/\x.loc=y.loc/\x.label=y.label/\x.ai=y.ai):=by
 cases x;cases y;simp
theorem qd(x y:ay)(w:World):(binOp .eql 50 (vI x) (vI y)).run prog w= .ok (.bool (decide (x=y))) w:=by
 have hS:prog.underlying 50=some (.struct (prog.fieldsOf 50)):=by kernel_rfl
 have hp:prog.stoodInHeld 50=false:=by kernel_rfl
 have a3:=isAgg3;have z3:=sizeOf3;have u3:=underlying3;have a4:=isAgg9;have z4:=sizeOf9;have u4:=underlying9;rw[run_eql_struct,show(10000:Nat)=9999+1 from rfl,run_equalIn_agg w 9999 50 _ _ hS hp];simp only[Program.fieldsOf,underlying50]
 go_simp
 rw[show decide (x=y)=decide (x.op=y.op/\x.d=y.d/\x.a=y.a/\x.b=y.b/\x.ag=y.ag/\x.loc=y.loc/\x.label=y.label/\x.ai=y.ai)from decide_eq_decide.2 (aen x y)];simp only[bh]
 by_cases h1:x.op=y.op<;>by_cases h2:x.d=y.d<;>by_cases h3:x.a=y.a<;>by_cases h4:x.b=y.b<;>by_cases h5:x.ag=y.ag<;>by_cases h6:x.loc=y.loc<;>by_cases h7:x.label=y.label<;>by_cases h8:x.ai=y.ai<;>simp[h1,h2,h3,h4,h5,h6,h7,h8]
theorem gP(x y:ay)(w:World):(binOp .neq 50 (vI x) (vI y)).run prog w= .ok (.bool (!decide (x=y))) w:=by
 have h:=qd x y w;rw[run_eql_struct]at h;rw[run_neq_struct];generalize (Op.equalIn 10000 50 (.agg #[.int .i64 x.op,.int .i64 x.d,.int .i64 x.a,.int .i64 x.b,.int .i64 x.ag,.string (tx x.loc),.string (tx x.label),.int .i64 x.ai]) (.agg #[.int .i64 y.op,.int .i64 y.d,.int .i64 y.a,.int .i64 y.b,.int .i64 y.ag,.string (tx y.loc),.string (tx y.label),.int .i64 y.ai])).run prog w=r at*;cases r with
 |ok b w'=>simp[Result.andThen]at h ⊢; obtain⟨rfl,rfl⟩:=h;exact⟨rfl,rfl⟩
 |halt x w'=>simp[Result.andThen]at h
def gH(w:World)(b:Nat)(i:ay):Prop:=b<w.heap.size/\ ∀k,k<8->w.cell? ⟨b,k,none⟩=(iC i)[k]?
abbrev kj(i:ay):Obj:=.cells #[.int .i64 i.op,.int .i64 i.d,.int .i64 i.a,.int .i64 i.b,.int .i64 i.ag,.string (tx i.loc),.string (tx i.label),.int .i64 i.ai] 50
theorem gH.below{b:Nat}(h:gH w b i)(hb:Below w.heap.size w w'):gH w' b i:=
 ⟨Nat.lt_of_lt_of_le h.1 hb.size,fun k hk=>by rw[hb.cell (p:=⟨b,k,none⟩) h.1];exact h.2 k hk⟩
theorem gH.new(w:World)(i:ay):gH (w.alloc (kj i)) w.heap.size i:=
 ⟨by simp,fun k hk=>by
  have hh:=heap_alloc_new w (kj i);simp only[World.cell?,hh];simp[iC]⟩
theorem gH.cells{b:Nat}(h:gH w b i):w.cell? ⟨b,0,none⟩=some (.int .i64 i.op)/\w.cell? ⟨b,1,none⟩=some (.int .i64 i.d)/\w.cell? ⟨b,2,none⟩=some (.int .i64 i.a)/\w.cell? ⟨b,3,none⟩=some (.int .i64 i.b)/\w.cell? ⟨b,4,none⟩=some (.int .i64 i.ag)/\w.cell? ⟨b,5,none⟩=some (.string (tx i.loc))/\w.cell? ⟨b,6,none⟩=some (.string (tx i.label))/\w.cell? ⟨b,7,none⟩=some (.int .i64 i.ai):=
 ⟨h.2 0 (by omega),h.2 1 (by omega),h.2 2 (by omega),h.2 3 (by omega),h.2 4 (by omega),h.2 5 (by omega),h.2 6 (by omega),h.2 7 (by omega)⟩
theorem al(w:World)(o:Obj):Below w.heap.size w (w.alloc o):=(anM _ _).alloc (anb _) _
theorem eZ(h:Below w.heap.size w w')(o:Obj):Below w.heap.size w (w'.alloc o):=h.alloc h.size o
theorem jt(h:Below w.heap.size w w'):Below w.heap.size w w'.drew:=h.trans ((below_drewN w' 1).mono h.size)
theorem vB{p:Addr}(h:Below w.heap.size w w')(hp:w.heap.size<=p.block)(v:Value):Below w.heap.size w (w'.setCell p v):=h.setCell hp v
theorem aF(h:Below n w w':=by repeat(first|with_reducible assumption|with_reducible exact Below.refl _ _|with_reducible refine eZ ?_ _|with_reducible refine jt ?_|with_reducible refine vB ?_ (by dsimp only;omega) _)):Below n w w':=h
theorem tI{k k':IntKind}{a b c d:Int}(h:a=c)(h':b=d):Ending.returned (.tuple #[.int k a,.int k' b])= .returned (.tuple #[.int k c,.int k' d]):=by rw[h,h']
theorem Di{a b:ByteArray}(h:a=b):Ending.returned (.string a)= .returned (.string b):=by rw[h]
theorem uJ{q:Prop}(hs:q)(g:q->Below n w w':=by intro uC;repeat(first|with_reducible assumption|with_reducible exact Below.refl _ _|with_reducible refine eZ ?_ _|with_reducible refine jt ?_|(with_reducible refine vB ?_ (by first|exact Nat.le_refl _|exact uC) _))):Below n w w':=g hs
open Go.Sort
theorem aaY(w:World)(k:Nat)(os:Array Obj):Below w.heap.size w (grow (w.drewN k) os):=
 ⟨rfl,rfl,rfl,by simp[grow],fun j hj=>by simp[grow,Array.getElem?_append,hj]⟩
noncomputable def GF:String:=(prog.globals.getD 4 default).name
structure Gl(w:World):Prop where
 pow:Lib.TabIs prog w GF .u64 Lib.pow10Tab
 maxLen: ∃m,w.cell? ⟨Tryz.Gu.g 1,0,none⟩=some (.int .i64 m)
 syn: ∃tp p,w.var? prog "strconv.ErrSyntax" =some #[.iface tp p]
 NP: ∃tp p,w.var? prog "strconv.ErrRange" =some #[.iface tp p]
 regs: ∀k,k<15->w.cell? ⟨0,k,none⟩=some (.string (tx (cI k)))
theorem OL{P:Program}{n:String}{g:Nat}{cs:Array Value}(hg:P.globalNamed n=some g)(h:w.var? P n=some cs):g<w.heap.size:=by
 simp only[World.var?,hg,Option.bind_some]at h;rcases Nat.lt_or_ge g w.heap.size with h'|h'
 ·exact h'
 rw[Array.getElem?_eq_none h']at h;cases h
theorem Gl.below(h:Gl w)(hb:Below w.heap.size w w'):Gl w' where
 pow:=var?_below hb (by kernel_rfl:prog.globalNamed GF=some 4) (OL (by kernel_rfl:prog.globalNamed GF=some 4) h.pow) h.pow
 maxLen:=by obtain⟨m,h2⟩:=h.maxLen;exact⟨m,by rw[hb.cell (sP h2)];exact h2⟩
 syn:=by
  have g3:prog.globalNamed "strconv.ErrSyntax" =some 2:=by kernel_rfl
  obtain⟨tp,p,h3⟩:=h.syn;exact⟨tp,p,var?_below hb g3 (OL g3 h3) h3⟩
 NP:=by
  have g4:prog.globalNamed "strconv.ErrRange" =some 3:=by kernel_rfl
  obtain⟨tq,q,h4⟩:=h.NP;exact⟨tq,q,var?_below hb g4 (OL g4 h4) h4⟩
 regs:=fun k hk=>by rw[hb.cell (sP (h.regs k hk))];exact h.regs k hk
theorem yt(n:Nat)(h:n<100)(w:World):Calls prog 57 #[.int .i64 n] w fun e w'=>e= .returned (.string (tx (lD n)))/\w=w':=by
 refine(Any.strconv_Itoa_small Tryz.ae1 n h w).mono fun e w' hh=>⟨?_,hh.2.symm⟩
 rw[hh.1,Bf (by omega)];rfl
theorem yq(n:Int)(h0: -9223372036854775808<=n)(h1:n<=9223372036854775807)(w:World)(g:Gl w):Calls prog 57 #[.int .i64 n] w (aJ w (.string (tx (Lib.itoa n)))):=by
 refine(Any.strconv_Itoa Tryz.afC n h0 h1 w (Eq.mp (congrArg (fun s=>Lib.TabIs prog w s .u64 Lib.pow10Tab) aN) g.pow)).mono fun e w' hh=>?_
 obtain⟨he,k,os,rfl⟩:=hh;exact⟨he,aaY w k os⟩
theorem uX(l:Tx)(hl:l.length<=9223372036854775807)(w:World):Calls prog 68 #[.string (tx l),.string ⟨#[32,9,10,13]⟩] w (aJ w (.string (tx (ak l)))):=by
 refine(Any.strings_Trim_laid Tryz.VC aN (tx l) ⟨#[32,9,10,13]⟩ w (by rw[aM];exact hl) (by decide) (ascii_of_all (by decide))).mono fun e w' hh=>⟨?_,hh.2⟩
 rw[hh.1,jk];rfl
theorem Dp(l:Tx)(c:UInt8)(hl:l.length<=9223372036854775807)(w:World):Calls prog 99 #[.string (tx l),.string ⟨#[c]⟩] w fun e w'=>e= .returned (.bool (l.getLast?==some c))/\w=w':=by
 refine(Any.strings_HasSuffix Tryz.aeL (tx l) ⟨#[c]⟩ w (by rw[aM];exact hl)).mono fun e w' hh=>⟨?_,hh.2.symm⟩
 rw[hh.1,jk,show(⟨#[c]⟩:ByteArray).data.toList=[c]from rfl,ado]
theorem U1(l:Tx)(w:World):Calls prog 78 #[.string (tx l),.int .u8 40] w fun e w'=>e= .returned (.int .i64 (Lib.indexByte l 40))/\w=w':=by
 refine(Any.strings_IndexByte Tryz.VB (tx l) 40 w).mono fun e w' hh=>⟨?_,hh.2.symm⟩
 rw[hh.1,jk];rfl
structure bS(w:World)(a:Option Addr)(l:List Tx):Prop where
 row:Row w a (l.map fun x=>apy (tx x))
 len:l.length<=1000000000000000000
theorem bS.below(h:bS w a l)(hb:Below w.heap.size w w'):bS w' a l:=⟨h.row.below hb,h.len⟩
theorem bS.cell(h:bS w a l)(k:Nat)(hk:k<l.length):w.cell? ⟨bk a,fo a+k,none⟩=some (.string (tx l[k])):=by
 have:=h.row.cell k (by simpa using hk);simpa[hk]using this
theorem jc:gQ prog 42 9 (.string ByteArray.empty) 1 16:=⟨underlying42,by kernel_rfl,rfl,by decide⟩
theorem bS.idx(h:bS w a l)(k:Nat)(hk:k<l.length):
 ∀c w',(Instr.indexAt 42 (.slice a l.length c) (.int .i64 k)).run prog w'= .ok (.pointer (some ⟨bk a,fo a+k,none⟩)) w':=by
 intro c;have:=yZ (c:=c) (n:=l.length) (m:=1) h.row jc.nc jc.cells jc.isSome (by simp) (by omega) k hk .i64;simpa using this
theorem akI(l:Tx)(hl:l.length<=1000000)(w:World)(g:Gl w):Calls prog 79 #[.string (tx l),.string ⟨#[44]⟩] w fun e w'=> ∃a,e= .returned (.slice a (aH 44 l).length (aH 44 l).length)/\bS w' a (aH 44 l)/\Below w.heap.size w w':=by
 obtain⟨m,hm⟩:=g.maxLen;refine(Any.strings_Split { Tryz.Cr with } Tryz.Cr.i9 (tx l) ⟨#[44]⟩ m w (by rw[aM];omega) hm (by decide)).mono fun e w' hh=>?_
 obtain⟨he,rfl⟩:=hh;have hc:Lib.countB (tx l) ⟨#[44]⟩=apJ l [44]:=by unfold Lib.countB;rw[jk]
 have hd:=Lib.splitB_data ⟨#[44]⟩ 0 (apJ l [44]) (tx l);rw[jk,show(⟨#[44]⟩:ByteArray).data.toList=[44]from rfl,Of]at hd
 have hlen:apJ l [44]+1=(aH 44 l).length:=by
  rw[<-hd,List.length_map,Lib.splitB_all ⟨#[44]⟩ (by decide) 0 _ _ hc]
 have hmap:(Lib.splitB ⟨#[44]⟩ 0 (apJ l [44]) (tx l)).map apy=(aH 44 l).map fun x=>apy (tx x):=by
  rw[<-hd,List.map_map];refine List.map_congr_left fun x _=>?_
  simp[tx]
 rw[hc,hlen]at he;rw[hc,hmap];refine⟨some ⟨w.heap.size,0,none⟩,he,⟨⟨fun _=>rfl,fun i hi=>?_⟩,by have:=qG 44 l;omega⟩,(anM _ _).alloc (anb _) _⟩;have hh:=heap_alloc_new w (.cells ((aH 44 l).map fun x=>apy (tx x)).toArray (Tryz.Gu.t 9));simp only[World.cell?,gv,gX];rw[hh];simp
theorem ER(l:Tx)(hl:l.length<=1000000)(v:Int)(h:aoq l= .ok v)(w:World):Calls prog 113 #[.string (tx l)] w (aJ w (.tuple #[.int .i64 v,.nilIface])):=by
 refine(Any.strconv_Atoi_ok Tryz.Jz (tx l) (by rw[aM];omega) v (by rw[jk];exact h) w).mono fun e w' hh=>⟨hh.1,?_⟩
 rcases hh.2 with rfl|⟨t,rfl⟩
 ·exact anM _ _
 exact Lib.bytesWorld_below _ _ _
theorem EO(l:Tx)(hl:l.length<=1000000)(h: ∀v,aoq l≠ .ok v)(w:World)(g:Gl w):Calls prog 113 #[.string (tx l)] w fun e w'=> ∃n tp p,e= .returned (.tuple #[.int .i64 n,.iface tp p])/\Below w.heap.size w w':=by
 obtain⟨tp,p,hs⟩:=g.syn;obtain⟨tq,q,hr⟩:=g.NP;rcases ha:aoq l with v|_|_
 ·exact absurd ha (h v)
 ·refine(Any.strconv_Atoi_syntax_var Tryz.Jz (tx l) (by rw[aM];omega) (by rw[jk];exact ha) tp p w hs).mono fun e w' hh=>?_
  obtain⟨N,he,-, -, hb⟩:=hh;exact⟨_,_,_,he,hb⟩
 refine(Any.strconv_Atoi_range_var Tryz.Jz (tx l) (by rw[aM];omega) (by rw[jk];exact ha) tq q w hr).mono fun e w' hh=>?_
 obtain⟨N,he,-, -, hb⟩:=hh;exact⟨_,_,_,he,hb⟩
theorem wM(a b:Tx)(h:a.length+b.length<=9223372036854775807): ∀w,(Op.stringOp .add (tx a) (tx b)).run prog w= .ok (.string (tx (a++b))) w:=fun w=>by
 rw[run_string_add_sum w _ _ (by rw[aM,aM];exact h),alO]
theorem bB(l:Tx)(k:Nat)(c:UInt8)(hk:l[k]? =some c): ∀w,(apm 9 (.string (tx l)) (.int .i64 k)).run prog w= .ok (.int .u8 c.toNat) w:=by
 intro w;obtain⟨hlt,rfl⟩:=anx.1 hk;have h1:=underlying9;have hs:=aM l;simp[apm,asIntOf,run_underlying h1,hs,hlt];rfl
theorem kJ(l:Tx)(c:UInt8)(hk:l[0]? =some c): ∀w,(apm 9 (.string (tx l)) (.int .i64 0)).run prog w= .ok (.int .u8 c.toNat) w:=bB l 0 c hk
theorem mZ(c d:UInt8)(h:c≠d):((c.toNat:Int) != (d.toNat:Int))=true:=by
 simp only[bne_iff_ne,ne_eq];intro e;exact h (aph.1 (by omega))
theorem Hq(c d:UInt8):(c==d)=((c.toNat:Int)==(d.toNat:Int)):=by
 rw[an8];simp only[beq_iff_eq];exact⟨fun h=>by rw[h],fun e=>aph.1 (by omega)⟩
theorem yG(c:UInt8)(r:Tx):aC (c::r)=(decide (r.length<32)&&cg c&&r.all cP):=rfl
theorem Wi{l:Tx}{k:Nat}(h:l[k]? =some c)(hn:cP c=false):aC l=false:=by
 have hm:c∈l:=List.mem_of_getElem? h;cases l with
 |nil=>rfl
 | cons d r=>
   rw[yG];rcases anE.1 hm with rfl|hm
   ·have:cg c=false:=by unfold cP at hn;simp at hn;exact hn.1.1
    rw[this];simp
   have:r.all cP=false:=by simp only[List.all_eq_false];exact⟨c,hm,by rw[hn];simp⟩
   rw[this];simp
theorem Wh(hl:r.length<32)(hc:cg c=true)(h: ∀(i:Nat) (x:UInt8),(c::r)[i]? =some x->cP x=true):aC (c::r)=true:=by
 rw[yG,hc,decide_eq_true hl];simp only[Bool.and_self,Bool.true_and,List.all_eq_true];intro x hx;obtain⟨i,hi,rfl⟩:=List.mem_iff_getElem.1 hx;exact h (i+1) _ (by simp[hi])
theorem Mi(c:UInt8):cg c=((decide (97<=c.toNat)&&decide (c.toNat<=122))||(decide (65<=c.toNat)&&decide (c.toNat<=90))):=by
 unfold cg;simp only[aof];rfl
theorem SE(c:UInt8):aD c=(decide (48<=c.toNat)&&decide (c.toNat<=57)):=by
 unfold aD;simp only[aof];rfl
theorem Wj(c:UInt8):cP c=(cg c||aD c||decide (c.toNat=95)):=by
 unfold cP;congr 1;rw[an8];simp only[beq_iff_eq,decide_eq_true_eq];exact⟨fun h=>by rw[h];rfl,fun h=>aph.1 h⟩
abbrev Bv(b:Bool)(w:World)(e:Ending)(w':World):Prop:=e= .returned (.bool b)/\w=w'
abbrev UF(p:UInt8->Bool)(F:Nat):Prop:= ∀(c:UInt8) (w:World),Calls prog F #[.int .u8 c.toNat] w (Bv (p c) w)
abbrev sF(p:Int->Bool)(F:Nat):Prop:= ∀(n:Int) (w:World),Calls prog F #[.int .i64 n] w (Bv (p n) w)
abbrev SF(p:Tx->Bool)(F:Nat):Prop:= ∀l:Tx,l.length<=9223372036854775807-> ∀w:World,Calls prog F #[.string (tx l)] w (Bv (p l) w)
theorem YD(n:Int)(F:Nat)(hF:F∈[181,191])(w:World):Calls prog F #[.int .i64 n] w (Bv (dy n) w):=by
 have hp:n<0\/(0<=n/\n<=31)\/32<=n:=by omega
 simp only[anE,aoa,or_false]at hF;rcases hF with rfl|rfl
 all_goals go_in
 all_goals
  rcases hp with h|⟨h,h'⟩|h
  all_goals
   go_wp2
   go_ret;exact⟨aQ (by unfold dy;rw[an8];simp<;>omega),rfl⟩
theorem YE(n:Int)(F:Nat)(hF:F∈[179,333])(w:World):Calls prog F #[.int .i64 n] w (Bv (fB n) w):=by
 have hp:n<0\/(0<=n/\n<15)\/15<=n:=by omega
 simp only[anE,aoa,or_false]at hF;rcases hF with rfl|rfl
 all_goals go_in
 all_goals
  rcases hp with h|⟨h,h'⟩|h
  all_goals
   go_wp2
   go_ret;exact⟨aQ (by unfold fB;rw[an8];simp<;>omega),rfl⟩
theorem yJ(n:Int)(F:Nat)(hF:F∈[178,226,279,201,309,256])(w:World):Calls prog F #[.int .i64 n] w (Bv (bO n) w):=by
 have hp:n< -2147483648\/(-2147483648<=n/\n<=2147483647)\/2147483647<n:=by omega
 simp only[anE,aoa,or_false]at hF;rcases hF with rfl|rfl|rfl|rfl|rfl|rfl
 all_goals go_in
 all_goals
  rcases hp with h|⟨h,h'⟩|h
  all_goals
   go_wp2
   go_ret;exact⟨aQ (by unfold bO;rw[an8];simp<;>omega),rfl⟩
theorem yB(c:UInt8)(F:Nat)(hF:F∈[305,254,297,204,307,114])(w:World):Calls prog F #[.int .u8 c.toNat] w (Bv (cg c) w):=by
 have hlt:c.toNat<256:=c.toNat_lt;rw[Mi];generalize c.toNat=n at*;have hp:n<65\/(65<=n/\n<=90)\/(91<=n/\n<=96)\/(97<=n/\n<=122)\/123<=n:=by omega
 simp only[anE,aoa,or_false]at hF;rcases hF with rfl|rfl|rfl|rfl|rfl|rfl
 all_goals go_in
 all_goals
  rcases hp with h|⟨h,h'⟩|⟨h,h'⟩|⟨h,h'⟩|h
  all_goals
   go_wp2
   go_ret;exact⟨aQ (by first|(rw[an8];simp<;>omega)|(simp<;>omega)),rfl⟩
theorem xO(c:UInt8)(F:Nat)(hF:F∈[306,255,298,200,308,115])(w:World):Calls prog F #[.int .u8 c.toNat] w (Bv (aD c) w):=by
 have hlt:c.toNat<256:=c.toNat_lt;rw[SE];generalize c.toNat=n at*;have hp:n<48\/(48<=n/\n<=57)\/58<=n:=by omega
 simp only[anE,aoa,or_false]at hF;rcases hF with rfl|rfl|rfl|rfl|rfl|rfl
 all_goals go_in
 all_goals
  rcases hp with h|⟨h,h'⟩|h
  all_goals
   go_wp2
   go_ret;exact⟨aQ (by first|(rw[an8];simp<;>omega)|(simp<;>omega)),rfl⟩
theorem AU(c:UInt8)(F:Nat)(hF:F∈[101,108,234,186,85])(w:World):Calls prog F #[.int .u8 c.toNat] w (Bv (aq c) w):=by
 have hb:aq c=(((c.toNat:Int)==32)||((c.toNat:Int)==9)||((c.toNat:Int)==10)||((c.toNat:Int)==13)):=by
  unfold aq;rw[Hq,Hq,Hq,Hq];rfl
 rw[hb];clear hb;generalize c.toNat=n at*;have hp:n=32\/n=9\/n=10\/n=13\/n≠32/\n≠9/\n≠10/\n≠13:=by omega
 simp only[anE,aoa,or_false]at hF;rcases hF with rfl|rfl|rfl|rfl|rfl
 all_goals go_in
 all_goals
  rcases hp with rfl|rfl|rfl|rfl|⟨h1,h2,h3,h4⟩
  rotate_left 4
  ·have z1:((n:Int)==32)=false:=ah
   have z2:((n:Int)==9)=false:=ah;have z3:((n:Int)==10)=false:=ah;have z4:((n:Int)==13)=false:=ah;clear h1 h2 h3 h4;rw[z1,z2,z3,z4]
   go_wp2
   go_ret;exact⟨rfl,rfl⟩
  all_goals
   go_wp2
   go_ret;exact⟨rfl,rfl⟩
def qV(c:UInt8)(r:Tx)(n:Nat)(i:Value):Prop:= ∃k:Nat,k<=n/\i= .int .i64 k/\Hid (∀(i:Nat) (x:UInt8),i<k->(c::r)[i]? =some x->cP x=true)
theorem qV.one(h:1<=n)(hc:cg c=true):qV c r n (.int .i64 1):=⟨1,h,rfl,fun i x hi hx=>by
 obtain rfl:i=0:=by omega
 cases hx;unfold cP;rw[hc];rfl⟩
theorem qV.zero:qV c r n (.int .i64 0):=⟨0,Nat.zero_le _,rfl,fun i x hi=>absurd hi (anC i)⟩
theorem yH(l:Tx)(hl:l.length<=9223372036854775807)(F:Nat)(hF:F∈[249,322,52,252,118,190])(w:World):Calls prog F #[.string (tx l)] w (Bv (aC l) w):=by
 simp only[anE,aoa,or_false]at hF;rcases hF with rfl|rfl|rfl|rfl|rfl|rfl
 all_goals go_in
 all_goals
  have hs:=aM l;rcases l with _|⟨c,r⟩
  ·have hs:(tx []).size=0:=rfl
   go_wp2;go_ret;exact⟨rfl,rfl⟩
  obtain⟨n,hn⟩:=aj ((tx (c::r)).size);have jK:1<=n:=by rw[<-hn,hs];simp
  have rJ:n=r.length+1:=by rw[<-hn,hs];simp
  have hz:((n:Int)==0)=false:=ah;have i0:=kJ (c::r) c rfl;clear hs hl
  by_cases Fz: ¬n<=32
  ·have HF:=hid (show aC (c::r)=false by rw[yG,decide_eq_false (by omega)];simp)
   clear rJ;go_wp2;go_ret;exact⟨aQ HF.out.symm,rfl⟩
  have Fz:n<=32:=by omega
  have HR:=hid rJ;clear rJ;cases hc:cg c
  ·have HC:=hid hc
   have HF:=hid (show aC (c::r)=false by rw[yG,hc];simp);clear hc
   go_wp2_with ((with_reducible refine(yB c _ (by decide) _).mono ?_);rintro e w' ⟨rfl,rfl⟩;rw[HC.out])
   go_ret;exact⟨aQ HF.out.symm,rfl⟩
  have HC:=hid hc;clear hc
  go_wp2_with ((with_reducible refine(yB c _ (by decide) _).mono ?_);rintro e w' ⟨rfl,rfl⟩;rw[HC.out])
  first
   |(go_loop [21] (qV c r n) (fun i=>n-(intOf i).toNat)
     ·exact qV.zero)
   |(go_loop [3] (qV c r n) (fun i=>n-(intOf i).toNat)
     ·first|exact qV.zero|exact qV.one jK HC.out)
  obtain⟨k,hk,rfl,HM⟩:=hrel
  by_cases hlt:k<n
  ·obtain⟨x,hx⟩: ∃x,(c::r)[k]? =some x:=⟨_,List.getElem?_eq_getElem (by have:=HR.out;simp;omega)⟩
   have ix:=bB (c::r) k x hx;have HX:=hid hx
   have eo:=hid (show cP x=true->qV c r n (.int .i64 ((k:Int)+1))from fun hx'=>⟨k+1,hlt,by congr 1,fun i y hi hy=>by
    rcases anv.1 hi with h|h
    ·exact HM.out i y h hy
    subst h;rw[HX.out]at hy;cases hy;exact hx'⟩)
   have adi:cg x=true\/cg x=false/\aD x=true\/cg x=false/\aD x=false:=by cases cg x<;>cases aD x<;>simp
   clear hx;rcases adi with h1|⟨h1,h2⟩|⟨h1,h2⟩
   rotate_left 2
   by_cases h3:x=95
   rotate_left
   ·have z3:((x.toNat:Int) != 95)=true:=mZ x 95 h3
    have HF:=hid (Wi HX.out (by unfold cP;rw[h1,h2];simpa using h3));have H1:=hid h1;have H2:=hid h2;clear h1 h2 h3
    go_wp2_with (first|((with_reducible refine(yB x _ (by decide) _).mono ?_);rintro e w' ⟨rfl,rfl⟩;rw[H1.out])|((with_reducible refine(xO x _ (by decide) _).mono ?_);rintro e w' ⟨rfl,rfl⟩;rw[H2.out]))
    go_ret;exact⟨aQ HF.out.symm,rfl⟩
   all_goals
    have HN:=hid (eo.out (by unfold cP;first|(rw[h3];rfl)|(rw[h1,h2];rfl)|(rw[h1];rfl)));have H1:=hid h1;clear h1
    (try(have H2:=hid h2
         clear h2))
    (try(have z3:((x.toNat:Int) != 95)=false:=by rw[h3];rfl
         clear h3))
    go_wp2_with (first|((with_reducible refine(yB x _ (by decide) _).mono ?_);rintro e w' ⟨rfl,rfl⟩;rw[H1.out])|((with_reducible refine(xO x _ (by decide) _).mono ?_);rintro e w' ⟨rfl,rfl⟩;rw[H2.out]))
    go_round
    case rel=>exact HN.out
    case measure=>simp[intOf];omega
  have HF:=hid (Wh (c:=c) (r:=r) (aI HR.out) HC.out (fun i x hi=>HM.out i x (by
   have h1:=(anx.1 hi).1;have:=HR.out;simp at h1;omega) hi))
  go_wp2;go_ret;exact⟨aQ HF.out.symm,rfl⟩
theorem yL:sF dy 181:=fun c=>YD c _ (by decide)
theorem JX(n:Nat):(lD n).length<=4:=by unfold lD;split<;>(try split)<;>(try split)<;>simp
theorem A6(n:Nat): ∀w,(Op.stringOp .add ⟨#[120]⟩ (tx (lD n))).run prog w= .ok (.string (tx (iu n))) w:=wM [120] (lD n) (by have:=JX n;simp;omega)
theorem XP(n:Nat)(h:n<32)(w:World):Calls prog 123 #[.int .i64 n] w fun e w'=>e= .returned (.tuple #[.string (tx (iu n)),.int .i64 0])/\w=w':=by
 have hr:=pJ h;have cx:=A6 n;go_in
 go_wp2_with (go_at_call 181;refine av (yL _ _) ?_;rw[hr])
 refine av (yt n (by omega) _) ?_;go_wp2
 go_ret2
 exact⟨rfl,rfl⟩
def qC(s:Tx):Int:=match bf s with
 |some n=>n
 |none=>0
def qB(s:Tx):Int:=match bf s with
 |some _=>0
 |none=>90
theorem Yv(h:n<32)(e:iu n=s):qC s=n/\qB s=0:=by
 subst e;unfold qC qB;rw[aj2 h];exact⟨rfl,rfl⟩
theorem Yw(h: ∀m,m<32->iu m≠s):qC s=0/\qB s=90:=by
 unfold qC qB;cases hr:bf s with
 |none=>exact⟨rfl,rfl⟩
 |some n=>obtain⟨h1,h2⟩:=GO hr;exact absurd h2.symm (h n h1)
theorem XQ(s:Tx)(w:World):Calls prog 197 #[.string (tx s)] w fun e w'=>e= .returned (.tuple #[.int .i64 (qC s),.int .i64 (qB s)])/\w=w':=by
 go_in;go_wp2_with fail
 go_loop [7] (fun i=> ∃k:Nat,k<=32/\i= .int .i64 k/\Hid (∀m,m<k->iu m≠s)) (fun i=>32-(intOf i).toNat)
 ·exact⟨0,by omega,rfl,fun m hm=>absurd hm (anC m)⟩
 obtain⟨k,hk,rfl,HM⟩:=hrel
 by_cases hlt:k<32
 ·by_cases he:iu k=s
  ·have hz:((tx (iu k)).toList==(tx s).toList)=true:=by rw[iQ];simpa using he
   have HR:=hid (Yv hlt he);clear he
   go_wp2_with (go_at_call 123;refine av (XP k hlt _) ?_)
   go_ret2
   exact⟨tI HR.out.1.symm HR.out.2.symm,rfl⟩
  have hz:((tx (iu k)).toList==(tx s).toList)=false:=mY he
  have eo:=hid (show ∀m,m<k+1->iu m≠s from fun m hm=>by
   rcases anv.1 hm with h|h
   ·exact HM.out m h
   subst h;exact he)
  clear he
  go_wp2_with (go_at_call 123;refine av (XP k hlt _) ?_)
  go_round
  case rel=>exact⟨k+1,by omega,by go_num,eo⟩
  case measure=>simp[intOf];omega
 obtain rfl:k=32:=by omega
 have HR:=hid (Yw HM.out);go_wp2
 go_ret2
 exact⟨tI HR.out.1.symm HR.out.2.symm,rfl⟩
theorem Yr(s:Tx)(w:World):Calls prog 192 #[.string (tx s)] w fun e w'=>e= .returned (.tuple #[.int .i64 (qC s),.int .i64 (qB s)])/\w=w':=by
 go_in;go_wp2_with fail
 go_loop [4] (fun i=> ∃k:Nat,k<=32/\i= .int .i64 k/\Hid (∀m,m<k->iu m≠s)) (fun i=>32-(intOf i).toNat)
 ·exact⟨0,by omega,rfl,fun m hm=>absurd hm (anC m)⟩
 obtain⟨k,hk,rfl,HM⟩:=hrel
 by_cases hlt:k<32
 ·by_cases he:iu k=s
  ·have cx:=A6 k
   have hz:((tx s).toList==(tx (iu k)).toList)=true:=by rw[iQ];simpa using he.symm
   have HR:=hid (Yv hlt he);clear he;go_wp2_with fail;refine av (yt k (by omega) _) ?_;go_wp2
   go_ret2
   exact⟨tI HR.out.1.symm HR.out.2.symm,rfl⟩
  have cx:=A6 k
  have hz:((tx s).toList==(tx (iu k)).toList)=false:=mY (fun e=>he e.symm)
  have eo:=hid (show ∀m,m<k+1->iu m≠s from fun m hm=>by
   rcases anv.1 hm with h|h
   ·exact HM.out m h
   subst h;exact he)
  clear he;go_wp2_with fail;refine av (yt k (by omega) _) ?_;go_wp2_with fail
  go_round
  case rel=>exact⟨k+1,by omega,by go_num,eo⟩
  case measure=>simp[intOf];omega
 obtain rfl:k=32:=by omega
 have HR:=hid (Yw HM.out);go_wp2
 go_ret2
 exact⟨tI HR.out.1.symm HR.out.2.symm,rfl⟩
theorem XM:SF aC 249:=fun l hl=>yH l hl _ (by decide)
def lg(w:World)(op d a b ag:Int)(loc label:ByteArray)(ai:Int)(ok:Bool)(x:Ending)(w':World):Prop:=
 x= .returned (.tuple #[.agg #[.int .i64 op,.int .i64 d,.int .i64 a,.int .i64 b,.int .i64 ag,.string loc,.string label,.int .i64 ai],.bool ok])/\Below w.heap.size w w'
theorem ahf(d a b ag:Int)(loc label:Tx)(ai:Int)(w:World):Calls prog 180 #[vI ⟨6,d,a,b,ag,loc,label,ai⟩] w (lg w 6 d a 0 0 ⟨#[]⟩ ⟨#[]⟩ 0 true):=by
 go_in;go_wp2_with fail
 go_big_region
 go_wp2_with fail;exact bodyPost_ret (by simp[results,results180,go_sem]) rfl ⟨rfl,aF⟩
theorem ahk(d a b ag:Int)(loc label:Tx)(ai:Int)(w:World):Calls prog 180 #[vI ⟨7,d,a,b,ag,loc,label,ai⟩] w (lg w 7 0 a b 0 ⟨#[]⟩ ⟨#[]⟩ 0 true):=by
 go_in;go_wp2_with fail
 go_big_region
 go_wp2_with fail;exact bodyPost_ret (by simp[results,results180,go_sem]) rfl ⟨rfl,aF⟩
theorem ahj(d a b ag:Int)(loc label:Tx)(ai:Int)(h:ag< -2048)(w:World):Calls prog 180 #[vI ⟨8,d,a,b,ag,loc,label,ai⟩] w (lg w 8 d a 0 ag ⟨#[]⟩ ⟨#[]⟩ 0 false):=by
 have z1:decide (-2048<=ag)=false:=ah;go_in;go_wp2_with fail
 go_big_region
 go_wp2_with fail
 go_big_region
 go_wp2_with fail;exact bodyPost_ret (by simp[results,results180,go_sem]) rfl ⟨rfl,aF⟩
theorem ahi(d a b ag:Int)(loc label:Tx)(ai:Int)(h1: -2048<=ag)(h2:ag<=2047)(w:World):Calls prog 180 #[vI ⟨8,d,a,b,ag,loc,label,ai⟩] w (lg w 8 d a 0 ag ⟨#[]⟩ ⟨#[]⟩ 0 true):=by
 have z1:decide (-2048<=ag)=true:=ah;have z2:decide (ag<=2047)=true:=ah;go_in;go_wp2_with fail
 go_big_region
 go_wp2_with fail
 go_big_region
 go_wp2_with fail;exact bodyPost_ret (by simp[results,results180,go_sem]) rfl ⟨rfl,aF⟩
theorem ahh(d a b ag:Int)(loc label:Tx)(ai:Int)(h:2047<ag)(w:World):Calls prog 180 #[vI ⟨8,d,a,b,ag,loc,label,ai⟩] w (lg w 8 d a 0 ag ⟨#[]⟩ ⟨#[]⟩ 0 false):=by
 have z1:decide (-2048<=ag)=true:=ah;have z2:decide (ag<=2047)=false:=ah;go_in;go_wp2_with fail
 go_big_region
 go_wp2_with fail
 go_big_region
 go_wp2_with fail;exact bodyPost_ret (by simp[results,results180,go_sem]) rfl ⟨rfl,aF⟩
theorem ahl(d a b ag:Int)(loc label:Tx)(ai:Int)(w:World):Calls prog 180 #[vI ⟨9,d,a,b,ag,loc,label,ai⟩] w (lg w 9 d a b 0 ⟨#[]⟩ ⟨#[]⟩ 0 true):=by
 go_in;go_wp2_with fail
 go_big_region
 go_wp2_with fail;exact bodyPost_ret (by simp[results,results180,go_sem]) rfl ⟨rfl,aF⟩
theorem ag9(d a b ag:Int)(loc label:Tx)(ai:Int)(w:World):Calls prog 180 #[vI ⟨10,d,a,b,ag,loc,label,ai⟩] w (lg w 10 d a b 0 ⟨#[]⟩ ⟨#[]⟩ 0 true):=by
 go_in;go_wp2_with fail
 go_big_region
 go_wp2_with fail;exact bodyPost_ret (by simp[results,results180,go_sem]) rfl ⟨rfl,aF⟩
theorem ahd(d a b ag:Int)(loc label:Tx)(ai:Int)(h:ai<2)(w:World):Calls prog 180 #[vI ⟨13,d,a,b,ag,loc,label,ai⟩] w (lg w 13 0 0 0 0 ⟨#[]⟩ ⟨#[]⟩ ai false):=by
 have z1:decide (2<=ai)=false:=ah;go_in;go_wp2_with fail
 go_big_region
 go_wp2_with fail;exact bodyPost_ret (by simp[results,results180,go_sem]) rfl ⟨rfl,aF⟩
theorem ahc(d a b ag:Int)(loc label:Tx)(ai:Int)(h1:2<=ai)(h2:ai<=11)(w:World):Calls prog 180 #[vI ⟨13,d,a,b,ag,loc,label,ai⟩] w (lg w 13 0 0 0 0 ⟨#[]⟩ ⟨#[]⟩ ai true):=by
 have z1:decide (2<=ai)=true:=ah;have z2:decide (ai<=11)=true:=ah;go_in;go_wp2_with fail
 go_big_region
 go_wp2_with fail;exact bodyPost_ret (by simp[results,results180,go_sem]) rfl ⟨rfl,aF⟩
theorem ahb(d a b ag:Int)(loc label:Tx)(ai:Int)(h:11<ai)(w:World):Calls prog 180 #[vI ⟨13,d,a,b,ag,loc,label,ai⟩] w (lg w 13 0 0 0 0 ⟨#[]⟩ ⟨#[]⟩ ai false):=by
 have z1:decide (2<=ai)=true:=ah;have z2:decide (ai<=11)=false:=ah;go_in;go_wp2_with fail
 go_big_region
 go_wp2_with fail;exact bodyPost_ret (by simp[results,results180,go_sem]) rfl ⟨rfl,aF⟩
theorem ahg(op d a b ag:Int)(loc label:Tx)(ai:Int)(h:op<6\/13<op)(w:World):Calls prog 180 #[vI ⟨op,d,a,b,ag,loc,label,ai⟩] w (lg w op 0 0 0 0 ⟨#[]⟩ ⟨#[]⟩ 0 false):=by
 have z6:(op==6)=false:=ah;have z7:(op==7)=false:=ah;have z8:(op==8)=false:=ah;have z9:(op==9)=false:=ah;have z10:(op==10)=false:=ah;have DM:(op==11)=false:=ah;have z12:(op==12)=false:=ah;have O7:(op==13)=false:=ah;go_in;go_wp2;exact bodyPost_ret (by simp[results,results180,go_sem]) rfl ⟨rfl,aF⟩
end Go.Proofs.YtkbbgjloifmmbaaGreatDoor
