/- What ReadAgainP leans on, part 4. -/
import Derived.Test.YtkbbgjloifmmbaaGreatDoorRows
import Derived.Test.YtkbbgjloifmmbaaGreatDoorPf2
import Derived.Test.YtkbbgjloifmmbaaGreatDoorPf1
import Derived.ProofKit
import Derived.OpenShut
import Derived.ShutString
import Derived.ChangeOld
import Derived.Carry
import Derived.SizedLaws
import Derived.Laws.StructEq
import Derived.Shelf.SlicesQ.Load
import Derived.Test.YtkbbgjloifmmbaaGreatDoorPf3
import Derived.WalkSmall
import Derived.Laws.Concat
import Derived.BigRegion
import Derived.StillTailTactics
import Derived.Deep.RegionWith
import Derived.Lib.AtoiAll
import Derived.Deep.DeepCutAuto
set_option linter.unusedVariables false
set_option maxRecDepth 100000
set_option maxHeartbeats 32000000
open _root_.Go.Proofs.Tryz
open _root_.Go renaming World->aAX,Calls->aA7,Addr->aAZ
open _root_.Go.RowKit renaming Below->aAW
open _root_.Go.Op renaming stringOp->aBG
open _root_.Go.Instr renaming indexAt->aA2,sliceAt->aA1,sliceBounds->aA3,sliceBound->aA5,index->aBx,slice->aBO
open _root_.Go.Lib renaming atoiAll->aBh,itoa->aA9,count->aBK
open _root_.Go.Ending renaming returned->aBw
open _root_.Go.Value renaming string->aBF
open _root_.Go.World renaming cell?->aA4
namespace Go.Proofs.YtkbbgjloifmmbaaGreatDoor
open Go.RowKit
variable{va vb vc vd ve:ByteArray}{e:Ending}{i:aL}{d az ax op:Int}{k':IntKind}{l:List Tx}{a b k n:Nat}{r:Option aL}{o1 o2:Option Nat}{s z:Tx}{t:TypeId}{c:UInt8}{v0 v1 v2 v3 v4 v5 v6 v7:Value}{w w':aAX}
def tx(l:Tx):ByteArray:=⟨l.toArray⟩
theorem bU(l:Tx):(tx l).toList=l:=by rw[ByteArray.toList_eq];simp[tx]
theorem kW(l:Tx):(tx l).data.toList=l:=by simp[tx]
theorem bC(l:Tx):(tx l).size=l.length:=by simp[tx,ByteArray.size]
theorem aj2(s:ByteArray): ∃l,s=tx l:=⟨s.data.toList,by simp[tx]⟩
theorem ay9(a b:Tx):tx a++tx b=tx (a++b):=by
 apply ByteArray.ext;simp[tx]
theorem aza{a b:Tx}:tx a=tx b<->a=b:=⟨fun h=>by have:=congrArg (fun s:ByteArray=>s.data.toList) h;simpa[tx]using this,fun h=>by rw[h]⟩
theorem j9(a b:Tx):((tx a).toList==(tx b).toList)=(a==b):=by rw[bU,bU]
theorem qA{a b:Tx}(h:a≠b):((tx a).toList==(tx b).toList)=false:=by rw[j9];simpa using h
@[reducible] def iC(i:aL):List Value:=[.int .i64 i.op,.int .i64 i.d,.int .i64 i.a,.int .i64 i.b,.int .i64 i.ax,.string (tx i.aj),.string (tx i.av),.int .i64 i.az]
@[reducible] def vI(i:aL):Value:=.agg #[.int .i64 i.op,.int .i64 i.d,.int .i64 i.a,.int .i64 i.b,.int .i64 i.ax,.string (tx i.aj),.string (tx i.av),.int .i64 i.az]
theorem apZ(x y:aL):(x=y)<->(x.op=y.op/\x.d=y.d/\x.a=y.a/\x.b=y.b/\x.ax=y.ax/\x.aj=y.aj/\x.av=y.av/\x.az=y.az):=by
 cases x;cases y;simp
theorem wL(x y:aL)(w:aAX):(binOp .eql 50 (vI x) (vI y)).run prog w= .ok (.bool (decide (x=y))) w:=by
 have hS:prog.underlying 50=some (.struct (prog.fieldsOf 50)):=by kernel_rfl
 have hp:prog.stoodInHeld 50=false:=by kernel_rfl
 have a3:=isAgg3;have z3:=sizeOf3;have u3:=underlying3;have a4:=isAgg9;have z4:=sizeOf9;have u4:=underlying9;rw[EK,show(10000:Nat)=9999+1 from rfl,M8 w 9999 50 _ _ hS hp];simp only[Program.fieldsOf,underlying50]
 go_simp
 rw[show decide (x=y)=decide (x.op=y.op/\x.d=y.d/\x.a=y.a/\x.b=y.b/\x.ax=y.ax/\x.aj=y.aj/\x.av=y.av/\x.az=y.az)from M7.2 (apZ x y)];simp only[bU]
 by_cases h1:x.op=y.op<;>by_cases h2:x.d=y.d<;>by_cases h3:x.a=y.a<;>by_cases h4:x.b=y.b<;>by_cases h5:x.ax=y.ax<;>by_cases h6:x.aj=y.aj<;>by_cases h7:x.av=y.av<;>by_cases h8:x.az=y.az<;>simp[h1,h2,h3,h4,h5,h6,h7,h8]
theorem jO(x y:aL)(w:aAX):(binOp .neq 50 (vI x) (vI y)).run prog w= .ok (.bool (!decide (x=y))) w:=by
 have h:=wL x y w;rw[EK]at h;rw[Ts];generalize (Op.equalIn 10000 50 (.agg #[.int .i64 x.op,.int .i64 x.d,.int .i64 x.a,.int .i64 x.b,.int .i64 x.ax,.string (tx x.aj),.string (tx x.av),.int .i64 x.az]) (.agg #[.int .i64 y.op,.int .i64 y.d,.int .i64 y.a,.int .i64 y.b,.int .i64 y.ax,.string (tx y.aj),.string (tx y.av),.int .i64 y.az])).run prog w=r at*;cases r with
 |ok b w'=>simp[Result.andThen]at h ⊢; obtain⟨rfl,rfl⟩:=h;exact⟨rfl,rfl⟩
 |halt x w'=>simp[Result.andThen]at h
def iU(w:aAX)(b:Nat)(i:aL):Prop:=b<w.heap.size/\ ∀k,k<8->w.cell? ⟨b,k,none⟩=(iC i)[k]?
abbrev j6(i:aL):Obj:=.cells #[.int .i64 i.op,.int .i64 i.d,.int .i64 i.a,.int .i64 i.b,.int .i64 i.ax,.string (tx i.aj),.string (tx i.av),.int .i64 i.az] 50
theorem iU.below(h:iU w b i)(hb:aAW w.heap.size w w'):iU w' b i:=
 ⟨ou h.1 hb.size,fun k hk=>by rw[hb.cell (p:=⟨b,k,none⟩) h.1];exact h.2 k hk⟩
theorem iU.new(w:aAX)(i:aL):iU (w.alloc (j6 i)) w.heap.size i:=
 ⟨ aq,fun k hk=>by
   have hh:=lJ w (j6 i);simp only[aA4,hh];simp[iC]⟩
theorem iU.cells(h:iU w b i):w.cell? ⟨b,0,none⟩=some (.int .i64 i.op)/\w.cell? ⟨b,1,none⟩=some (.int .i64 i.d)/\w.cell? ⟨b,2,none⟩=some (.int .i64 i.a)/\w.cell? ⟨b,3,none⟩=some (.int .i64 i.b)/\w.cell? ⟨b,4,none⟩=some (.int .i64 i.ax)/\w.cell? ⟨b,5,none⟩=some (.string (tx i.aj))/\w.cell? ⟨b,6,none⟩=some (.string (tx i.av))/\w.cell? ⟨b,7,none⟩=some (.int .i64 i.az):=
 ⟨h.2 0 ah,h.2 1 ah,h.2 2 ah,h.2 3 ah,h.2 4 ah,h.2 5 ah,h.2 6 ah,h.2 7 ah⟩
theorem al(w:aAX)(o:Obj):aAW w.heap.size w (w.alloc o):=(bS _ _).alloc (aX _) _
theorem gU(h:aAW w.heap.size w w')(o:Obj):aAW w.heap.size w (w'.alloc o):=h.alloc h.size o
theorem jV(h:aAW w.heap.size w w'):aAW w.heap.size w w'.drew:=h.trans ((below_drewN w' 1).mono h.size)
theorem uE{p:aAZ}(h:aAW w.heap.size w w')(hp:w.heap.size<=p.block)(v:Value):aAW w.heap.size w (w'.setCell p v):=h.setCell hp v
theorem cG(h:Below n w w':=by repeat(first|with_reducible assumption|with_reducible exact bS _ _|with_reducible refine gU ?_ _|with_reducible refine jV ?_|with_reducible refine uE ?_ (by dsimp only;omega) _)):Below n w w':=h
theorem GZ{k:IntKind}{a b c:Int}(h:a=c)(h':b=d):aBw (.tuple #[.int k a,.int k' b])= .returned (.tuple #[.int k c,.int k' d]):=by rw[h,h']
theorem Qv{a b:ByteArray}(h:a=b):aBw (.string a)= .returned (.string b):=by rw[h]
theorem Yy{a c:ByteArray}{b:Int}(h:a=c)(h':b=d):aBw (.tuple #[.string a,.int k' b])= .returned (.tuple #[.string c,.int k' d]):=by rw[h,h']
theorem Gk{q:Prop}(hs:q)(g:q->Below n w w':=by intro tR;repeat(first|with_reducible assumption|with_reducible exact bS _ _|with_reducible refine gU ?_ _|with_reducible refine jV ?_|(with_reducible refine uE ?_ (by first|exact aX _|exact tR) _))):Below n w w':=g hs
open Go.Sort
theorem aly(w:aAX)(k:Nat)(os:Array Obj):aAW w.heap.size w (grow (w.drewN k) os):=
 ⟨rfl,rfl,rfl,by simp[grow],fun j hj=>by simp[grow,aaE,hj]⟩
noncomputable def Qb:String:=(prog.globals.getD 4 default).name
structure Gl(w:aAX):Prop where
 pow:Lib.TabIs prog w Qb .u64 Lib.pow10Tab
 maxLen: ∃m,w.cell? ⟨Tryz.PI.g 1,0,none⟩=some (.int .i64 m)
 syn: ∃tp p,w.var? prog "strconv.ErrSyntax" =some #[.iface tp p]
 YA: ∃tp p,w.var? prog "strconv.ErrRange" =some #[.iface tp p]
 regs: ∀k,k<15->w.cell? ⟨0,k,none⟩=some (.string (tx (cg k)))
theorem Zc{P:Program}{n:String}{g:Nat}{cs:Array Value}(hg:P.globalNamed n=some g)(h:w.var? P n=some cs):g<w.heap.size:=by
 simp only[World.var?,hg,Tl]at h;rcases iA g w.heap.size with h'|h'
 ·exact h'
 rw[MQ h']at h;cases h
theorem Gl.below(h:Gl w)(hb:aAW w.heap.size w w'):Gl w' where
 pow:=var?_below hb (by kernel_rfl:prog.globalNamed Qb=some 4) (Zc (by kernel_rfl:prog.globalNamed Qb=some 4) h.pow) h.pow
 maxLen:=by obtain⟨m,h2⟩:=h.maxLen;exact⟨m,by rw[hb.cell (k8 h2)];exact h2⟩
 syn:=by
  have g3:prog.globalNamed "strconv.ErrSyntax" =some 2:=by kernel_rfl
  obtain⟨tp,p,h3⟩:=h.syn;exact⟨tp,p,var?_below hb g3 (Zc g3 h3) h3⟩
 YA:=by
  have g4:prog.globalNamed "strconv.ErrRange" =some 3:=by kernel_rfl
  obtain⟨tq,q,h4⟩:=h.YA;exact⟨tq,q,var?_below hb g4 (Zc g4 h4) h4⟩
 regs:=fun k hk=>by rw[hb.cell (k8 (h.regs k hk))];exact h.regs k hk
theorem Dl(n:Nat)(h:n<100)(w:aAX):aA7 prog 57 #[.int .i64 n] w fun e w'=>e= .returned (.string (tx (gf n)))/\w=w':=by
 refine(Any.strconv_Itoa_small Tryz.aqI n h w).mono fun e w' hh=>⟨?_,hh.2.symm⟩
 rw[hh.1,JF ah];rfl
theorem tU(n:Int)(h0: -9223372036854775808<=n)(h1:n<=9223372036854775807)(w:aAX)(g:Gl w):aA7 prog 57 #[.int .i64 n] w (bg w (.string (tx (aA9 n)))):=by
 refine(Any.strconv_Itoa Tryz.arv n h0 h1 w (Eq.mp (congrArg (fun s=>Lib.TabIs prog w s .u64 Lib.pow10Tab) bM) g.pow)).mono fun e w' hh=>?_
 obtain⟨he,k,os,rfl⟩:=hh;exact⟨he,aly w k os⟩
theorem Bk(l:Tx)(hl:l.length<=9223372036854775807)(w:aAX):aA7 prog 68 #[.string (tx l),.string ⟨#[32,9,10,13]⟩] w (bg w (.string (tx (aG l)))):=by
 refine(Any.strings_Trim_laid Tryz.agk bM (tx l) ⟨#[32,9,10,13]⟩ w (by rw[bC];exact hl) ay (ascii_of_all ay)).mono fun e w' hh=>⟨?_,hh.2⟩
 rw[hh.1,kW];rfl
theorem Lm(l:Tx)(c:UInt8)(hl:l.length<=9223372036854775807)(w:aAX):aA7 prog 99 #[.string (tx l),.string ⟨#[c]⟩] w fun e w'=>e= .returned (.bool (l.getLast?==some c))/\w=w':=by
 refine(Any.strings_HasSuffix Tryz.aqr (tx l) ⟨#[c]⟩ w (by rw[bC];exact hl)).mono fun e w' hh=>⟨?_,hh.2.symm⟩
 rw[hh.1,kW,show(⟨#[c]⟩:ByteArray).data.toList=[c]from rfl,aoJ]
theorem afG(l:Tx)(w:aAX):aA7 prog 78 #[.string (tx l),.int .u8 40] w fun e w'=>e= .returned (.int .i64 (Lib.indexByte l 40))/\w=w':=by
 refine(Any.strings_IndexByte Tryz.agj (tx l) 40 w).mono fun e w' hh=>⟨?_,hh.2.symm⟩
 rw[hh.1,kW];rfl
structure cO(w:aAX)(a:Option aAZ)(l:List Tx):Prop where
 row:Row w a (l.map fun x=>aBF (tx x))
 len:l.length<=1000000000000000000
theorem cO.below{a:Option aAZ}(h:cO w a l)(hb:aAW w.heap.size w w'):cO w' a l:=⟨h.row.below hb,h.len⟩
theorem cO.cell{a:Option aAZ}(h:cO w a l)(k:Nat)(hk:k<l.length):w.cell? ⟨bk a,fo a+k,none⟩=some (.string (tx l[k])):=by
 have:=h.row.cell k (aS hk);simpa[hk]using this
theorem jR:kg prog 42 9 (.string ByteArray.empty) 1 16:=⟨underlying42,by kernel_rfl,rfl,ay⟩
theorem cO.idx{a:Option aAZ}(h:cO w a l)(k:Nat)(hk:k<l.length):
 ∀c w',(aA2 42 (.slice a l.length c) (.int .i64 k)).run prog w'= .ok (.pointer (some ⟨bk a,fo a+k,none⟩)) w':=by
 intro c;have:=yZ (c:=c) (n:=l.length) (m:=1) h.row jR.oa jR.cells jR.isSome aq ah k hk .i64;simpa using this
theorem axD(l:Tx)(hl:l.length<=1000000)(w:aAX)(g:Gl w):aA7 prog 79 #[.string (tx l),.string ⟨#[44]⟩] w fun e w'=> ∃a,e= .returned (.slice a (bh 44 l).length (bh 44 l).length)/\cO w' a (bh 44 l)/\aAW w.heap.size w w':=by
 obtain⟨m,hm⟩:=g.maxLen;refine(Any.strings_Split { Tryz.KI with } Tryz.KI.i9 (tx l) ⟨#[44]⟩ m w (by rw[bC];omega) hm ay).mono fun e w' hh=>?_
 obtain⟨he,rfl⟩:=hh;have hc:Lib.countB (tx l) ⟨#[44]⟩=aBK l [44]:=by unfold Lib.countB;rw[kW]
 have hd:=Lib.splitB_data ⟨#[44]⟩ 0 (aBK l [44]) (tx l);rw[kW,show(⟨#[44]⟩:ByteArray).data.toList=[44]from rfl,YL]at hd
 have hlen:aBK l [44]+1=(bh 44 l).length:=by
  rw[<-hd,eT,Lib.splitB_all ⟨#[44]⟩ ay 0 _ _ hc]
 have hmap:(Lib.splitB ⟨#[44]⟩ 0 (aBK l [44]) (tx l)).map aBF=(bh 44 l).map fun x=>aBF (tx x):=by
  rw[<-hd,Cj];refine IZ fun x _=>?_
  simp[tx]
 rw[hc,hlen]at he;rw[hc,hmap];refine⟨some ⟨w.heap.size,0,none⟩,he,⟨⟨fun _=>rfl,fun i hi=>?_⟩,by have:=vE 44 l;omega⟩,(bS _ _).alloc (aX _) _⟩;have hh:=lJ w (.cells ((bh 44 l).map fun x=>aBF (tx x)).toArray (Tryz.PI.t 9));simp only[aA4,jW,kM];rw[hh];simp
theorem Nk(l:Tx)(hl:l.length<=1000000)(v:Int)(h:aBh l= .ok v)(w:aAX):aA7 prog 113 #[.string (tx l)] w (bg w (.tuple #[.int .i64 v,.nilIface])):=by
 refine(Any.strconv_Atoi_ok Tryz.Uc (tx l) (by rw[bC];omega) v (by rw[kW];exact h) w).mono fun e w' hh=>⟨hh.1,?_⟩
 rcases hh.2 with rfl|⟨t,rfl⟩
 ·exact bS _ _
 exact Lib.bytesWorld_below _ _ _
theorem TF(l:Tx)(hl:l.length<=1000000)(h: ∀v,aBh l≠ .ok v)(w:aAX)(g:Gl w):aA7 prog 113 #[.string (tx l)] w fun e w'=> ∃n tp p,e= .returned (.tuple #[.int .i64 n,.iface tp p])/\aAW w.heap.size w w':=by
 obtain⟨tp,p,hs⟩:=g.syn;obtain⟨tq,q,hr⟩:=g.YA;rcases ha:aBh l with v|_|_
 ·exact absurd ha (h v)
 ·refine(Any.strconv_Atoi_syntax_var Tryz.Uc (tx l) (by rw[bC];omega) (by rw[kW];exact ha) tp p w hs).mono fun e w' hh=>?_
  obtain⟨N,he,-, -, hb⟩:=hh;exact⟨_,_,_,he,hb⟩
 refine(Any.strconv_Atoi_range_var Tryz.Uc (tx l) (by rw[bC];omega) (by rw[kW];exact ha) tq q w hr).mono fun e w' hh=>?_
 obtain⟨N,he,-, -, hb⟩:=hh;exact⟨_,_,_,he,hb⟩
theorem lX(a b:Tx)(h:a.length+b.length<=9223372036854775807): ∀w,(aBG .add (tx a) (tx b)).run prog w= .ok (.string (tx (a++b))) w:=fun w=>by
 rw[run_string_add_sum w _ _ (by rw[bC,bC];exact h),ay9]
theorem cH(l:Tx)(k:Nat)(c:UInt8)(hk:l[k]? =some c): ∀w,(aBx 9 (.string (tx l)) (.int .i64 k)).run prog w= .ok (.int .u8 c.toNat) w:=by
 intro w;obtain⟨aA,rfl⟩:=bt.1 hk;have h1:=underlying9;have hs:=bC l;simp[aBx,asIntOf,wj h1,hs,aA];rfl
theorem oU(l:Tx)(c:UInt8)(hk:l[0]? =some c): ∀w,(aBx 9 (.string (tx l)) (.int .i64 0)).run prog w= .ok (.int .u8 c.toNat) w:=cH l 0 c hk
theorem rG(c d:UInt8)(h:c≠d):((c.toNat:Int) != (d.toNat:Int))=true:=by
 simp only[ye,ne_eq];intro e;exact h (tD.1 ah)
theorem QX(c d:UInt8):(c==d)=((c.toNat:Int)==(d.toNat:Int)):=by
 rw[jE];simp only[pW];exact⟨fun h=>by rw[h],fun e=>tD.1 ah⟩
theorem Gv(c:UInt8)(r:Tx):aU (c::r)=(decide (r.length<32)&&cL c&&r.all dO):=rfl
theorem agW{l:Tx}(h:l[k]? =some c)(hn:dO c=false):aU l=false:=by
 have hm:c∈l:=cV h;cases l with
 |nil=>rfl
 | cons d r=>
   rw[Gv];rcases cq.1 hm with rfl|hm
   ·have:cL c=false:=by unfold dO at hn;simp at hn;exact hn.1.1
    rw[this];simp
   have:r.all dO=false:=by simp only[List.all_eq_false];exact⟨c,hm,by rw[hn];simp⟩
   rw[this];simp
theorem agU{r:Tx}(hl:r.length<32)(hc:cL c=true)(h: ∀(i:Nat) (x:UInt8),(c::r)[i]? =some x->dO x=true):aU (c::r)=true:=by
 rw[Gv,hc,eU hl];simp only[Tt,yc,fP];intro x hx;obtain⟨i,hi,rfl⟩:=IU.1 hx;exact h (i+1) _ (by simp[hi])
theorem Xe(c:UInt8):cL c=((decide (97<=c.toNat)&&decide (c.toNat<=122))||(decide (65<=c.toNat)&&decide (c.toNat<=90))):=by
 unfold cL;simp only[Ai];rfl
theorem acf(c:UInt8):bf c=(decide (48<=c.toNat)&&decide (c.toNat<=57)):=by
 unfold bf;simp only[Ai];rfl
theorem agY(c:UInt8):dO c=(cL c||bf c||decide (c.toNat=95)):=by
 unfold dO;congr 1;rw[jE];simp only[pW,dw];exact⟨fun h=>by rw[h];rfl,fun h=>tD.1 h⟩
abbrev Bv(b:Bool)(w:aAX)(e:Ending)(w':aAX):Prop:=e= .returned (.bool b)/\w=w'
abbrev UF(p:UInt8->Bool)(F:Nat):Prop:= ∀(c:UInt8) (w:aAX),aA7 prog F #[.int .u8 c.toNat] w (Bv (p c) w)
abbrev xP(p:Int->Bool)(F:Nat):Prop:= ∀(n:Int) (w:aAX),aA7 prog F #[.int .i64 n] w (Bv (p n) w)
abbrev SF(p:Tx->Bool)(F:Nat):Prop:= ∀l:Tx,l.length<=9223372036854775807-> ∀w:aAX,aA7 prog F #[.string (tx l)] w (Bv (p l) w)
theorem aiU(n:Int)(F:Nat)(hF:F∈[181,191])(w:aAX):aA7 prog F #[.int .i64 n] w (Bv (ek n) w):=by
 have hp:n<0\/(0<=n/\n<=31)\/32<=n:=ah;simp only[cq,qO,qK]at hF;rcases hF with rfl|rfl
 all_goals go_in
 all_goals
  rcases hp with h|⟨h,h'⟩|h
  all_goals
   go_wp2;go_ret;exact⟨eC (by unfold ek;rw[jE];simp<;>omega),rfl⟩
theorem aiV(n:Int)(F:Nat)(hF:F∈[179,333])(w:aAX):aA7 prog F #[.int .i64 n] w (Bv (gu n) w):=by
 have hp:n<0\/(0<=n/\n<15)\/15<=n:=ah;simp only[cq,qO,qK]at hF;rcases hF with rfl|rfl
 all_goals go_in
 all_goals
  rcases hp with h|⟨h,h'⟩|h
  all_goals
   go_wp2;go_ret;exact⟨eC (by unfold gu;rw[jE];simp<;>omega),rfl⟩
theorem GB(n:Int)(F:Nat)(hF:F∈[178,226,279,201,309,256])(w:aAX):aA7 prog F #[.int .i64 n] w (Bv (bJ n) w):=by
 have hp:n< -2147483648\/(-2147483648<=n/\n<=2147483647)\/2147483647<n:=ah;simp only[cq,qO,qK]at hF;rcases hF with rfl|rfl|rfl|rfl|rfl|rfl
 all_goals go_in
 all_goals
  rcases hp with h|⟨h,h'⟩|h
  all_goals
   go_wp2;go_ret;exact⟨eC (by unfold bJ;rw[jE];simp<;>omega),rfl⟩
theorem Gp(c:UInt8)(F:Nat)(hF:F∈[305,254,297,204,307,114])(w:aAX):aA7 prog F #[.int .u8 c.toNat] w (Bv (cL c) w):=by
 have aA:c.toNat<256:=c.toNat_lt;rw[Xe];generalize c.toNat=n at*;have hp:n<65\/(65<=n/\n<=90)\/(91<=n/\n<=96)\/(97<=n/\n<=122)\/123<=n:=ah;simp only[cq,qO,qK]at hF;rcases hF with rfl|rfl|rfl|rfl|rfl|rfl
 all_goals go_in
 all_goals
  rcases hp with h|⟨h,h'⟩|⟨h,h'⟩|⟨h,h'⟩|h
  all_goals
   exact adh
theorem Fk(c:UInt8)(F:Nat)(hF:F∈[306,255,298,200,308,115])(w:aAX):aA7 prog F #[.int .u8 c.toNat] w (Bv (bf c) w):=by
 have aA:c.toNat<256:=c.toNat_lt;rw[acf];generalize c.toNat=n at*;have hp:n<48\/(48<=n/\n<=57)\/58<=n:=ah;simp only[cq,qO,qK]at hF;rcases hF with rfl|rfl|rfl|rfl|rfl|rfl
 all_goals go_in
 all_goals
  rcases hp with h|⟨h,h'⟩|h
  all_goals
   exact adh
theorem Jo(c:UInt8)(F:Nat)(hF:F∈[101,108,234,186,85])(w:aAX):aA7 prog F #[.int .u8 c.toNat] w (Bv (aH c) w):=by
 have hb:aH c=(((c.toNat:Int)==32)||((c.toNat:Int)==9)||((c.toNat:Int)==10)||((c.toNat:Int)==13)):=by
  unfold aH;rw[QX,QX,QX,QX];rfl
 rw[hb];generalize c.toNat=n at*;have hp:n=32\/n=9\/n=10\/n=13\/n≠32/\n≠9/\n≠10/\n≠13:=ah;simp only[cq,qO,qK]at hF;rcases hF with rfl|rfl|rfl|rfl|rfl
 all_goals go_in
 all_goals
  rcases hp with rfl|rfl|rfl|rfl|⟨h1,h2,h3,h4⟩
  rotate_left 4
  ·have z1:((n:Int)==32)=false:=aC
   have z2:((n:Int)==9)=false:=aC;have z3:((n:Int)==10)=false:=aC;have z4:((n:Int)==13)=false:=aC;rw[z1,z2,z3,z4];exact Cw
  all_goals
   exact Cw
def vW(c:UInt8)(r:Tx)(n:Nat)(i:Value):Prop:= ∃k:Nat,k<=n/\i= .int .i64 k/\Hid (∀(i:Nat) (x:UInt8),i<k->(c::r)[i]? =some x->dO x=true)
theorem vW.one{r:Tx}(h:1<=n)(hc:cL c=true):vW c r n (.int .i64 1):=⟨1,h,rfl,fun i x hi hx=>by
 obtain rfl:i=0:=ah;cases hx;unfold dO;rw[hc];rfl⟩
theorem vW.zero{r:Tx}:vW c r n (.int .i64 0):=⟨0,dW _,rfl,fun i x hi=>absurd hi (iz i)⟩
theorem Gy(l:Tx)(hl:l.length<=9223372036854775807)(F:Nat)(hF:F∈[249,322,52,252,118,190])(w:aAX):aA7 prog F #[.string (tx l)] w (Bv (aU l) w):=by
 simp only[cq,qO,qK]at hF;rcases hF with rfl|rfl|rfl|rfl|rfl|rfl
 all_goals go_in
 all_goals
  have hs:=bC l;rcases l with _|⟨c,r⟩
  ·have hs:(tx []).size=0:=rfl
   exact Cw
  obtain⟨n,hn⟩:=aF ((tx (c::r)).size);have nc:1<=n:=by rw[<-hn,hs];simp
  have AL:n=r.length+1:=by rw[<-hn,hs];simp
  have hz:((n:Int)==0)=false:=aC;have i0:=oU (c::r) c rfl;clear hs hl
  by_cases Ow: ¬n<=32
  ·have HF:=af (show aU (c::r)=false by rw[Gv,eZ ah];simp)
   clear AL;exact UU
  have Ow:n<=32:=ah;have HR:=af AL;clear AL;cases hc:cL c
  ·have HC:=af hc
   have HF:=af (show aU (c::r)=false by rw[Gv,hc];simp);clear hc
   go_wp2_with ((with_reducible refine(Gp c _ ay _).mono ?_);rintro e w' ⟨rfl,rfl⟩;rw[HC.oo])
   exact adi
  have HC:=af hc;clear hc
  go_wp2_with ((with_reducible refine(Gp c _ ay _).mono ?_);rintro e w' ⟨rfl,rfl⟩;rw[HC.oo])
  first
   |(go_loop [21] (vW c r n) (fun i=>n-(intOf i).toNat)
     ·exact vW.zero)
   |(go_loop [3] (vW c r n) (fun i=>n-(intOf i).toNat)
     ·first|exact vW.zero|exact vW.one nc HC.oo)
  obtain⟨k,hk,rfl,HM⟩:=hrel
  by_cases aA:k<n
  ·obtain⟨x,hx⟩: ∃x,(c::r)[k]? =some x:=⟨_,aV (by have:=HR.oo;simp;omega)⟩
   have ix:=cH (c::r) k x hx;have HX:=af hx
   have gJ:=af (show dO x=true->vW c r n (.int .i64 ((k:Int)+1))from fun hx'=>⟨k+1,aA,by congr 1,fun i y hi hy=>by
    rcases fO.1 hi with h|h
    ·exact Fo
    subst h;rw[HX.oo]at hy;cases hy;exact hx'⟩)
   have aoD:cL x=true\/cL x=false/\bf x=true\/cL x=false/\bf x=false:=by cases cL x<;>cases bf x<;>simp
   clear hx;rcases aoD with h1|⟨h1,h2⟩|⟨h1,h2⟩
   rotate_left 2
   by_cases h3:x=95
   rotate_left
   ·have z3:((x.toNat:Int) != 95)=true:=rG x 95 h3
    have HF:=af (agW HX.oo (by unfold dO;rw[h1,h2];simpa using h3));have H1:=af h1;have H2:=af h2;clear h1 h2 h3
    go_wp2_with (first|((with_reducible refine(Gp x _ ay _).mono ?_);rintro e w' ⟨rfl,rfl⟩;rw[H1.oo])|((with_reducible refine(Fk x _ ay _).mono ?_);rintro e w' ⟨rfl,rfl⟩;rw[H2.oo]))
    exact adi
   all_goals
    have HN:=af (gJ.oo (by unfold dO;first|(rw[h3];rfl)|(rw[h1,h2];rfl)|(rw[h1];rfl)));have H1:=af h1;clear h1
    (try(have H2:=af h2
         clear h2))
    (try(have z3:((x.toNat:Int) != 95)=false:=by rw[h3];rfl
         clear h3))
    go_wp2_with (first|((with_reducible refine(Gp x _ ay _).mono ?_);rintro e w' ⟨rfl,rfl⟩;rw[H1.oo])|((with_reducible refine(Fk x _ ay _).mono ?_);rintro e w' ⟨rfl,rfl⟩;rw[H2.oo]))
    go_round
    case rel=>exact HN.oo
    case measure=>simp[intOf];omega
  have HF:=af (agU (c:=c) (r:=r) (bE HR.oo) HC.oo (fun i x hi=>HM.oo i x (by
   have h1:=(bt.1 hi).1;have:=HR.oo;simp at h1;omega) hi))
  exact UU
theorem GI:xP ek 181:=fun c=>aiU c _ ay
theorem UB(n:Nat):(gf n).length<=4:=by unfold gf;split<;>(try split)<;>(try split)<;>simp
theorem Jw(n:Nat): ∀w,(aBG .add ⟨#[120]⟩ (tx (gf n))).run prog w= .ok (.string (tx (cZ n))) w:=lX [120] (gf n) (by have:=UB n;simp;omega)
theorem Qd(n:Nat)(h:n<32)(w:aAX):aA7 prog 123 #[.int .i64 n] w fun e w'=>e= .returned (.tuple #[.string (tx (cZ n)),.int .i64 0])/\w=w':=by
 have hr:=Bb h;have cx:=Jw n;go_in
 go_wp2_with (go_at_call 181;refine aK (GI _ _) ?_;rw[hr])
 refine aK (Dl n ah _) ?_;go_wp2;go_ret2;exact⟨rfl,rfl⟩
def vw(s:Tx):Int:=match bR s with
 |some n=>n
 |none=>0
def vu(s:Tx):Int:=match bR s with
 |some _=>0
 |none=>90
theorem aiN(h:n<32)(e:cZ n=s):vw s=n/\vu s=0:=by
 subst e;unfold vw vu;rw[sI h];exact⟨rfl,rfl⟩
theorem awC(h: ∀m,m<32->cZ m≠s):vw s=0/\vu s=90:=by
 unfold vw vu;cases hr:bR s with
 |none=>exact⟨rfl,rfl⟩
 |some n=>obtain⟨h1,h2⟩:=Qs hr;exact absurd h2.symm (h n h1)
theorem aii(s:Tx)(w:aAX):aA7 prog 197 #[.string (tx s)] w fun e w'=>e= .returned (.tuple #[.int .i64 (vw s),.int .i64 (vu s)])/\w=w':=by
 go_in;go_wp2_with fail
 go_loop [7] (fun i=> ∃k:Nat,k<=32/\i= .int .i64 k/\Hid (∀m,m<k->cZ m≠s)) (fun i=>32-(intOf i).toNat)
 ·exact U3
 obtain⟨k,hk,rfl,HM⟩:=hrel
 by_cases aA:k<32
 ·by_cases he:cZ k=s
  ·have hz:((tx (cZ k)).toList==(tx s).toList)=true:=by rw[j9];simpa using he
   have HR:=af (aiN aA he)
   go_wp2_with (go_at_call 123;refine aK (Qd k aA _) ?_)
   exact anG
  have hz:((tx (cZ k)).toList==(tx s).toList)=false:=qA he
  have gJ:=af (show ∀m,m<k+1->cZ m≠s from fun m hm=>by
   rcases fO.1 hm with h|h
   ·exact HM.oo m h
   subst h;exact he)
  go_wp2_with (go_at_call 123;refine aK (Qd k aA _) ?_)
  go_round
  case rel=>exact⟨k+1,ah,by go_num,gJ⟩
  case measure=>simp[intOf];omega
 obtain rfl:k=32:=ah
 exact adj
theorem aiF(s:Tx)(w:aAX):aA7 prog 192 #[.string (tx s)] w fun e w'=>e= .returned (.tuple #[.int .i64 (vw s),.int .i64 (vu s)])/\w=w':=by
 go_in;go_wp2_with fail
 go_loop [4] (fun i=> ∃k:Nat,k<=32/\i= .int .i64 k/\Hid (∀m,m<k->cZ m≠s)) (fun i=>32-(intOf i).toNat)
 ·exact U3
 obtain⟨k,hk,rfl,HM⟩:=hrel
 by_cases aA:k<32
 ·by_cases he:cZ k=s
  ·have cx:=Jw k
   have hz:((tx s).toList==(tx (cZ k)).toList)=true:=by rw[j9];simpa using he.symm
   have HR:=af (aiN aA he);go_wp2_with fail;refine aK (Dl k ah _) ?_;exact anH
  have cx:=Jw k
  have hz:((tx s).toList==(tx (cZ k)).toList)=false:=qA (fun e=>he e.symm)
  have gJ:=af (show ∀m,m<k+1->cZ m≠s from fun m hm=>by
   rcases fO.1 hm with h|h
   ·exact HM.oo m h
   subst h;exact he)
  go_wp2_with fail;refine aK (Dl k ah _) ?_;go_wp2_with fail
  go_round
  case rel=>exact⟨k+1,ah,by go_num,gJ⟩
  case measure=>simp[intOf];omega
 obtain rfl:k=32:=ah
 exact adj
theorem aif:SF aU 249:=fun l hl=>Gy l hl _ ay
def nI(w:aAX)(op d a b ax:Int)(aj av:ByteArray)(az:Int)(ok:Bool)(x:Ending)(w':aAX):Prop:=
 x= .returned (.tuple #[.agg #[.int .i64 op,.int .i64 d,.int .i64 a,.int .i64 b,.int .i64 ax,.string aj,.string av,.int .i64 az],.bool ok])/\aAW w.heap.size w w'
theorem atG(d a b ax:Int)(aj av:Tx)(az:Int)(w:aAX):aA7 prog 180 #[vI ⟨6,d,a,b,ax,aj,av,az⟩] w (nI w 6 d a 0 0 ⟨#[]⟩ ⟨#[]⟩ 0 true):=by
 go_in;go_wp2_with fail
 go_big_region
 exact tM
theorem atL(d a b ax:Int)(aj av:Tx)(az:Int)(w:aAX):aA7 prog 180 #[vI ⟨7,d,a,b,ax,aj,av,az⟩] w (nI w 7 0 a b 0 ⟨#[]⟩ ⟨#[]⟩ 0 true):=by
 go_in;go_wp2_with fail
 go_big_region
 exact tM
theorem atK(d a b ax:Int)(aj av:Tx)(az:Int)(h:ax< -2048)(w:aAX):aA7 prog 180 #[vI ⟨8,d,a,b,ax,aj,av,az⟩] w (nI w 8 d a 0 ax ⟨#[]⟩ ⟨#[]⟩ 0 false):=by
 have z1:decide (-2048<=ax)=false:=aC;go_in;go_wp2_with fail
 go_big_region
 go_wp2_with fail
 go_big_region
 exact tM
theorem atJ(d a b ax:Int)(aj av:Tx)(az:Int)(h1: -2048<=ax)(h2:ax<=2047)(w:aAX):aA7 prog 180 #[vI ⟨8,d,a,b,ax,aj,av,az⟩] w (nI w 8 d a 0 ax ⟨#[]⟩ ⟨#[]⟩ 0 true):=by
 have z1:decide (-2048<=ax)=true:=aC;have z2:decide (ax<=2047)=true:=aC;go_in;go_wp2_with fail
 go_big_region
 go_wp2_with fail
 go_big_region
 exact tM
theorem atI(d a b ax:Int)(aj av:Tx)(az:Int)(h:2047<ax)(w:aAX):aA7 prog 180 #[vI ⟨8,d,a,b,ax,aj,av,az⟩] w (nI w 8 d a 0 ax ⟨#[]⟩ ⟨#[]⟩ 0 false):=by
 have z1:decide (-2048<=ax)=true:=aC;have z2:decide (ax<=2047)=false:=aC;go_in;go_wp2_with fail
 go_big_region
 go_wp2_with fail
 go_big_region
 exact tM
theorem atM(d a b ax:Int)(aj av:Tx)(az:Int)(w:aAX):aA7 prog 180 #[vI ⟨9,d,a,b,ax,aj,av,az⟩] w (nI w 9 d a b 0 ⟨#[]⟩ ⟨#[]⟩ 0 true):=by
 go_in;go_wp2_with fail
 go_big_region
 exact tM
theorem atA(d a b ax:Int)(aj av:Tx)(az:Int)(w:aAX):aA7 prog 180 #[vI ⟨10,d,a,b,ax,aj,av,az⟩] w (nI w 10 d a b 0 ⟨#[]⟩ ⟨#[]⟩ 0 true):=by
 go_in;go_wp2_with fail
 go_big_region
 exact tM
theorem atE(d a b ax:Int)(aj av:Tx)(az:Int)(h:az<2)(w:aAX):aA7 prog 180 #[vI ⟨13,d,a,b,ax,aj,av,az⟩] w (nI w 13 0 0 0 0 ⟨#[]⟩ ⟨#[]⟩ az false):=by
 have z1:decide (2<=az)=false:=aC;go_in;go_wp2_with fail
 go_big_region
 exact tM
theorem atD(d a b ax:Int)(aj av:Tx)(az:Int)(h1:2<=az)(h2:az<=11)(w:aAX):aA7 prog 180 #[vI ⟨13,d,a,b,ax,aj,av,az⟩] w (nI w 13 0 0 0 0 ⟨#[]⟩ ⟨#[]⟩ az true):=by
 have z1:decide (2<=az)=true:=aC;have z2:decide (az<=11)=true:=aC;go_in;go_wp2_with fail
 go_big_region
 exact tM
theorem atC(d a b ax:Int)(aj av:Tx)(az:Int)(h:11<az)(w:aAX):aA7 prog 180 #[vI ⟨13,d,a,b,ax,aj,av,az⟩] w (nI w 13 0 0 0 0 ⟨#[]⟩ ⟨#[]⟩ az false):=by
 have z1:decide (2<=az)=true:=aC;have z2:decide (az<=11)=false:=aC;go_in;go_wp2_with fail
 go_big_region
 exact tM
theorem atH(op d a b ax:Int)(aj av:Tx)(az:Int)(h:op<6\/13<op)(w:aAX):aA7 prog 180 #[vI ⟨op,d,a,b,ax,aj,av,az⟩] w (nI w op 0 0 0 0 ⟨#[]⟩ ⟨#[]⟩ 0 false):=by
 have z6:(op==6)=false:=aC;have z7:(op==7)=false:=aC;have z8:(op==8)=false:=aC;have z9:(op==9)=false:=aC;have z10:(op==10)=false:=aC;have LW:(op==11)=false:=aC;have z12:(op==12)=false:=aC;have z13:(op==13)=false:=aC;go_in;go_wp2;exact aZ (by simp[results,results180,go_sem]) rfl ⟨rfl,cG⟩
theorem atB(d a b ax:Int)(aj av:Tx)(az:Int)(hl:av.length<=9223372036854775807)(w:aAX):aA7 prog 180 #[vI ⟨11,d,a,b,ax,aj,av,az⟩] w (nI w 11 0 a b 0 ⟨#[]⟩ (tx av) 0 (aU av)):=by
 go_in;go_wp2_with fail
 go_big_region
 go_wp2_with fail
 go_region_with (go_at_call 249;refine(aif av hl _).mono ?_;rintro e' w' ⟨rfl,rfl⟩)
 all_goals
  exact tM
theorem atF(d a b ax:Int)(aj av:Tx)(az:Int)(hl:av.length<=9223372036854775807)(w:aAX):aA7 prog 180 #[vI ⟨12,d,a,b,ax,aj,av,az⟩] w (nI w 12 0 0 0 0 ⟨#[]⟩ (tx av) 0 (aU av)):=by
 go_in;go_wp2_with fail
 go_region_with (go_at_call 249;refine(aif av hl _).mono ?_;rintro e' w' ⟨rfl,rfl⟩)
 all_goals
  exact tM
theorem atz(i:aL)(hl:i.av.length<=9223372036854775807)(w:aAX):aA7 prog 180 #[vI i] w fun x w'=>x= .returned (.tuple #[vI (rH i),.bool (gm i)])/\aAW w.heap.size w w':=by
 obtain⟨op,d,a,b,ax,aj,av,az⟩:=i
 by_cases h6:op=6
 ·subst h6;exact atG d a b ax aj av az w
 by_cases h7:op=7
 ·subst h7;exact atL d a b ax aj av az w
 by_cases h8:op=8
 ·subst h8
  have ho:gm ⟨8,d,a,b,ax,aj,av,az⟩=(decide (-2048<=ax)&&decide (ax<=2047)):=rfl;rw[ho]
  by_cases h1:ax< -2048
  ·rw[show(decide (-2048<=ax)&&decide (ax<=2047))=false by simp;omega];exact atK d a b ax aj av az h1 w
  by_cases h2:ax<=2047
  ·rw[show(decide (-2048<=ax)&&decide (ax<=2047))=true by simp;omega];exact atJ d a b ax aj av az ah h2 w
  rw[show(decide (-2048<=ax)&&decide (ax<=2047))=false by simp;omega];exact atI d a b ax aj av az ah w
 by_cases h9:op=9
 ·subst h9;exact atM d a b ax aj av az w
 by_cases h10:op=10
 ·subst h10;exact atA d a b ax aj av az w
 by_cases h11:op=11
 ·subst h11;exact atB d a b ax aj av az hl w
 by_cases h12:op=12
 ·subst h12;exact atF d a b ax aj av az hl w
 by_cases AB:op=13
 ·subst AB
  have ho:gm ⟨13,d,a,b,ax,aj,av,az⟩=(decide (2<=az)&&decide (az<=11)):=rfl;rw[ho]
  by_cases h1:az<2
  ·rw[show(decide (2<=az)&&decide (az<=11))=false by simp;omega];exact atE d a b ax aj av az h1 w
  by_cases h2:az<=11
  ·rw[show(decide (2<=az)&&decide (az<=11))=true by simp;omega];exact atD d a b ax aj av az ah h2 w
  rw[show(decide (2<=az)&&decide (az<=11))=false by simp;omega];exact atC d a b ax aj av az ah w
 have hw:rH ⟨op,d,a,b,ax,aj,av,az⟩=⟨op,0,0,0,0,[],[],0⟩:=by
  unfold rH;simp only;rw[ai h6,ai h7,ai h8,ai h9,ai h10,ai h11,ai h12,ai AB]
 have ho:gm ⟨op,d,a,b,ax,aj,av,az⟩=false:=by
  unfold gm;simp only;rw[ai h8,ai ah,ai AB];simp;omega
 rw[hw,ho];exact atH op d a b ax aj av az ah w
attribute [local go_sem high] wL jO
theorem kL(h:cD i=false):iX i=91:=by unfold iX;rw[h];rfl
theorem wM(h:cD i=true):iX i=0:=by unfold iX;rw[h];rfl
theorem Dw(i:aL)(hl:i.av.length<=9223372036854775807)(w:aAX):aA7 prog 100 #[vI i] w (bg w (.int .i64 (iX i))):=by
 have E1:=al w (j6 i);have b0:=iU.new w i;obtain⟨wi,hwi⟩:=aF (rH i);obtain⟨ok,hok⟩:=aF (gm i);have hc:cD i=(ok&&decide (i=wi)&&ek i.d&&ek i.a&&ek i.b):=by unfold cD;rw[hwi,hok]
 have PF:=af (atz i hl);have HF:=af (show ∀w,aA7 prog 180 #[vI i] w fun x w'=>x= .returned (.tuple #[vI wi,.bool ok])/\aAW w.heap.size w w' from by rw[<-hwi,<-hok];exact PF.oo);clear hwi hok hl PF;cases ok
 ·have HE:=af (kL (by rw[hc];rfl))
  clear hc;go_in;go_wp2_with fail;refine(HF.oo _).mono ?_;rintro x w1 ⟨rfl,E⟩;have B:=aI E1 E;exact anI
 by_cases he:i=wi
 ·have hd:decide (wi=i)=true:=eU he.symm
  have lP:(!decide (wi=i))=false:=by rw[hd];rfl
  have OG:decide (¬wi=i)=false:=aS he.symm
  by_cases h1:ek i.d=true
  ·by_cases h2:ek i.a=true
   ·by_cases h3:ek i.b=true
    ·have HE:=af (wM (by rw[hc,h1,h2,h3,eU he];rfl))
     have H1:=af h1;have H2:=af h2;have H3:=af h3;clear hc he h1 h2 h3;go_in;go_wp2_with fail;refine(HF.oo _).mono ?_;rintro x w1 ⟨rfl,E⟩;have B:=aI E1 E;have b:=b0.below E;have aA:=b.1;obtain⟨q0,q1,q2,q3,q4,q5,q6,q7⟩:=b.cells;clear b
     go_wp2_with (go_at_call 181;refine aK (GI _ _) ?_;(try rw[H1.oo]);(try rw[H2.oo]);(try rw[H3.oo]))
     exact jl
    have H1:=af h1;have H2:=af h2;have H3:=af (pF.2 h3)
    have HE:=af (kL (by rw[hc,H3.oo];simp));clear hc he h1 h2 h3;go_in;go_wp2_with fail;refine(HF.oo _).mono ?_;rintro x w1 ⟨rfl,E⟩;have B:=aI E1 E;have b:=b0.below E;have aA:=b.1;obtain⟨q0,q1,q2,q3,q4,q5,q6,q7⟩:=b.cells;clear b
    go_wp2_with (go_at_call 181;refine aK (GI _ _) ?_;(try rw[H1.oo]);(try rw[H2.oo]);(try rw[H3.oo]))
    exact jl
   have H1:=af h1;have H2:=af (pF.2 h2)
   have HE:=af (kL (by rw[hc,H2.oo];simp));clear hc he h1 h2;go_in;go_wp2_with fail;refine(HF.oo _).mono ?_;rintro x w1 ⟨rfl,E⟩;have B:=aI E1 E;have b:=b0.below E;have aA:=b.1;obtain⟨q0,q1,q2,q3,q4,q5,q6,q7⟩:=b.cells;clear b
   go_wp2_with (go_at_call 181;refine aK (GI _ _) ?_;(try rw[H1.oo]);(try rw[H2.oo]))
   exact jl
  have H1:=af (pF.2 h1)
  have HE:=af (kL (by rw[hc,H1.oo];simp));clear hc he h1;go_in;go_wp2_with fail;refine(HF.oo _).mono ?_;rintro x w1 ⟨rfl,E⟩;have B:=aI E1 E;have b:=b0.below E;have aA:=b.1;obtain⟨q0,q1,q2,q3,q4,q5,q6,q7⟩:=b.cells;clear b
  go_wp2_with (go_at_call 181;refine aK (GI _ _) ?_;(try rw[H1.oo]))
  exact jl
 have hd:decide (wi=i)=false:=eZ (fun e=>he e.symm)
 have lP:(!decide (wi=i))=true:=by rw[hd];rfl
 have OG:decide (¬wi=i)=true:=by simpa using(fun e=>he (Eq.symm e))
 have HE:=af (kL (by rw[hc,eZ he];simp));clear hc he;go_in;go_wp2_with fail;refine(HF.oo _).mono ?_;rintro x w1 ⟨rfl,E⟩;have B:=aI E1 E;have b:=b0.below E;have aA:=b.1;obtain⟨q0,q1,q2,q3,q4,q5,q6,q7⟩:=b.cells;clear b
 go_wp2_with (go_at_call 181;refine aK (GI _ _) ?_)
 exact jl
theorem QV(l:Tx)(a b:Nat):(tx l).extract a b=tx ((l.take b).drop a):=by
 apply ByteArray.ext;simp[tx,List.extract_eq_take_drop,tG]
theorem nB(l:Tx)(a b:Nat)(hab:a<=b)(hb:b<=l.length): ∀w,(aA1 9 (.string (tx l)) (some (.int .i64 a)) (some (.int .i64 b)) none).run prog w= .ok (.string (tx ((l.take b).drop a))) w:=by
 intro w;have h1:=underlying9;have hs:=bC l;have hkk:(0:Int)<=(a:Int)/\(a:Int)<=(b:Int):=ah;have eL:(0:Int)<=(b:Int)/\(b:Int)<=(l.length:Int):=ah;rw[<-QV];simp[aA1,aBO,aA3,aA5,asIntOf,wj h1,hs,hkk,eL,hab,hb]
theorem xA(l:Tx)(b:Nat)(hb:b<=l.length): ∀w,(aA1 9 (.string (tx l)) none (some (.int .i64 b)) none).run prog w= .ok (.string (tx (l.take b))) w:=by
 intro w;have h1:=underlying9;have hs:=bC l;have eL:(0:Int)<=(b:Int)/\(b:Int)<=(l.length:Int):=ah;have e:=QV l 0 b;rw[jg]at e;rw[<-e];simp[aA1,aBO,aA3,aA5,asIntOf,wj h1,hs,eL,hb]
theorem xz(l:Tx)(a:Nat)(ha:a<=l.length): ∀w,(aA1 9 (.string (tx l)) (some (.int .i64 a)) none none).run prog w= .ok (.string (tx (l.drop a))) w:=by
 intro w;have h1:=underlying9;have hs:=bC l;have hkk:(0:Int)<=(a:Int)/\(a:Int)<=(l.length:Int):=ah;have e:=QV l a l.length;rw[jC]at e;rw[<-e];simp[aA1,aBO,aA3,aA5,asIntOf,wj h1,hs,hkk,ha]
theorem lZ(l:Tx):(aG l).length<=l.length:=by
 rw[zw];have h1:=(iu (p:=aH) (l:=(l.reverse.dropWhile aH).reverse)).length_le;have h2:=(iu (p:=aH) (l:=l.reverse)).length_le;simp at h1 h2;omega
theorem xp(l:Tx)(hl:l.length<=9223372036854775807)(w:aAX):aA7 prog 98 #[.string (tx l)] w (bg w (.string (tx (aG l)))):=by
 have C:=af (Bk l hl);go_in;go_wp2_with fail;refine(C.oo _).mono ?_;rintro x w1 ⟨rfl,E⟩;exact JR
theorem aiY{k:IntKind}{a b:Int}{p q:Bool}(h:a=b)(h':p=q):aBw (.tuple #[.int k a,.bool p])= .returned (.tuple #[.int k b,.bool q]):=by rw[h,h']
def iK(o:Option Nat):Int:=match o with
 |some n=>n
 |none=>0
theorem Yu(s:Tx):vw s=iK (bR s):=by unfold vw iK;rfl
theorem Yt(s:Tx):(vu s==0)=(bR s).isSome:=by unfold vu;cases bR s<;>rfl
theorem GJ(l:Tx)(hl:l.length<=9223372036854775807)(w:aAX):aA7 prog 185 #[.string (tx l)] w (bg w (.tuple #[.int .i64 (iK (bR (aG l))),.bool (bR (aG l)).isSome])):=by
 have C:=af (xp l hl);have e1:=Yu (aG l);have e2:=Yt (aG l);generalize aG l=t at*;have e2':=af e2;have e1':=af e1;clear e1 e2 hl;go_in;go_wp2_with fail;refine(C.oo _).mono ?_;rintro x w1 ⟨rfl,E⟩;go_wp2_with fail;refine(aii t _).mono ?_;rintro x w2 ⟨rfl,rfl⟩;rw[e1'.oo];go_wp2;go_ret2;exact⟨aiY rfl e2'.oo,E⟩
theorem ajN(c:UInt8): ∀l:Tx,c∈l->l[(l.takeWhile (· != c)).length]? =some c
 |[],h=>by simp at h
 | b::l,h=>by
   by_cases hb:b=c
   ·subst hb;simp
   have hm:c∈l:=by rcases cq.1 h with e|e;exact absurd e.symm hb;exact e
   rw[mU,ak (aS hb)];simpa using ajN c l hm
theorem QL(p:UInt8->Bool)(l:Tx):l.takeWhile p=l.take (l.takeWhile p).length:=(SE.1 (Cn p))
theorem UE(p:UInt8->Bool)(l:Tx):l.dropWhile p=l.drop (l.takeWhile p).length:=by
 have h:=kH (p:=p) (l:=l);have h2:(l.takeWhile p++l.dropWhile p).drop (l.takeWhile p).length=l.dropWhile p:=Tp rfl;rw[h]at h2;exact h2.symm
theorem aal{l:Tx}(h:(40:UInt8)∉aG l):fK l=none:=by
 unfold fK;simp only;rw[ai (by simp[h])]
theorem akW{l:Tx}(h:((aG l).getLast?==some 41)=false):fK l=none:=by
 unfold fK;simp only[h];simp
theorem akX{l:Tx}(h:aG ((aG l).take ((aG l).takeWhile (· != 40)).length)≠[48]):fK l=none:=by
 unfold fK;simp only;rw[<-QL]at h;rw[ai (by simp[h])]
theorem akV{l t:Tx}(ht:aG l=t)(hk:(t.takeWhile (· != 40)).length=k)(hn:t.length=n)(h1:(40:UInt8)∈t)(h2:(t.getLast?==some 41)=true)(h3:aG (t.take k)=[48]):
 fK l=bR (aG ((t.take (n-1)).drop (k+1)))/\k+1<=n-1:=by
 subst ht hk hn;refine⟨?_,?_⟩
 ·unfold fK;simp only
  rw[ak (by rw[<-QL]at h3;simp[h1,h3];simpa using h2)];rw[UE,gC,MW,dG,tG]
  congr 3
  omega
 have hh:=ajN 40 _ h1
 obtain⟨aA,he⟩:=bt.1 hh;have aN:aG l≠[]:=by intro e;rw[e]at h1;simp at h1
 rw[Er]at h2;simp at h2
 by_cases hk:((aG l).takeWhile (· != 40)).length=(aG l).length-1
 ·rw[hk]at hh;rw[hh]at h2;simp at h2
 omega
theorem aic(l:Tx)(hl:l.length<=9223372036854775807)(w:aAX):aA7 prog 250 #[.string (tx l)] w (bg w (.tuple #[.int .i64 (iK (fK l)),.bool (fK l).isSome])):=by
 have C:=af (xp l hl);have htl:=lZ l;obtain⟨t,ht⟩:=aF (aG l);have HT:=af ht;rw[ht]at htl C;have hb:t.length<=9223372036854775807:=ah;have SF:=af (Lm t 41 hb)
 by_cases h1:(40:UInt8)∈t
 ·obtain⟨k,hk⟩:=aF ((t.takeWhile (· != 40)).length)
  obtain⟨hi,aA⟩:=WC 40 t h1;rw[hk]at hi aA;have IB:=af (show ∀w,aA7 prog 78 #[.string (tx t),.int .u8 40] w fun e w'=>e= .returned (.int .i64 (k:Int))/\w=w' from by rw[<-hi];exact afG t);have h0k: ¬((k:Int)<0):=ah;have hdk:decide ((k:Int)<0)=false:=aq;cases h2:(t.getLast?==some 41)
  ·have HA:=af (akW (l:=l) (by rw[HT.oo];exact h2))
   rw[HA.oo];have H2:=af h2;have hk':=af hk;go_in;go_wp2_with fail;refine(C.oo _).mono ?_;rintro x w1 ⟨rfl,E⟩;go_wp2_with fail;refine(IB.oo _).mono ?_;rintro x w2 ⟨rfl,rfl⟩;go_wp2_with fail;refine(SF.oo _).mono ?_;rintro x w2 ⟨rfl,rfl⟩;rw[H2.oo];exact Oa
  have s1:=xA t k ah
  have TK:=af (xp (t.take k) aC);have H2:=af h2
  by_cases h3:aG (t.take k)=[48]
  ·obtain⟨n,hn⟩:=aF t.length
   obtain⟨ha,hkn⟩:=akV HT.oo hk hn h1 h2 h3;rw[ha];have hz:((tx (aG (t.take k))).toList != [48])=false:=by rw[bU,h3];rfl
   have AQ:((tx (aG (t.take k))).toList==[48])=true:=by rw[bU,h3];rfl
   have s2: ∀w,(aA1 9 (.string (tx t)) (some (.int .i64 ((k:Int)+1))) (some (.int .i64 ((n:Int)-1))) none).run prog w= .ok (.string (tx ((t.take (n-1)).drop (k+1)))) w:=by
    have:=nB t (k+1) (n-1) hkn ah
    rwa[show((k+1:Nat):Int)=(k:Int)+1 from rfl,show((n-1:Nat):Int)=(n:Int)-1 by omega]at this
   have hsz:(tx t).size=n:=by rw[bC,hn]
   obtain⟨u,hu⟩:=aF ((t.take (n-1)).drop (k+1));rw[hu]at s2⊢;have iH:u.length<=9223372036854775807:=by rw[<-hu];simp;omega
   have RG:=af (GJ u iH);obtain⟨v,hv⟩:=aF (t.take k);rw[hv]at s1 hz AQ TK;have nc:1<=n:=ah;have hnb:n<=9223372036854775807:=ah;have hk':=af hk;go_in;go_wp2_with fail;refine(C.oo _).mono ?_;rintro x w1 ⟨rfl,E⟩;go_wp2_with fail;refine(IB.oo _).mono ?_;rintro x w2 ⟨rfl,rfl⟩;go_wp2_with fail;refine(SF.oo _).mono ?_;rintro x w2 ⟨rfl,rfl⟩;rw[H2.oo];go_wp2_with fail;refine(TK.oo _).mono ?_;rintro x w3 ⟨rfl,E3⟩;have E:=aI E E3;go_wp2_with fail;refine(RG.oo _).mono ?_;rintro x w4 ⟨rfl,E4⟩;have E:=aI E E4;exact Oa
  have HA:=af (akX (l:=l) (by rw[HT.oo,hk];exact h3))
  rw[HA.oo];have hz:((tx (aG (t.take k))).toList != [48])=true:=by rw[bU];simpa using h3
  have AQ:((tx (aG (t.take k))).toList==[48])=false:=by rw[bU];simpa using h3
  obtain⟨v,hv⟩:=aF (t.take k);rw[hv]at s1 hz AQ TK;have hk':=af hk;go_in;go_wp2_with fail;refine(C.oo _).mono ?_;rintro x w1 ⟨rfl,E⟩;go_wp2_with fail;refine(IB.oo _).mono ?_;rintro x w2 ⟨rfl,rfl⟩;go_wp2_with fail;refine(SF.oo _).mono ?_;rintro x w2 ⟨rfl,rfl⟩;rw[H2.oo];go_wp2_with fail;refine(TK.oo _).mono ?_;rintro x w3 ⟨rfl,E3⟩;have E:=aI E E3;exact Oa
 have HA:=af (aal (l:=l) (by rw[HT.oo];exact h1))
 rw[HA.oo];have IB:=af (show ∀w,aA7 prog 78 #[.string (tx t),.int .u8 40] w fun e w'=>e= .returned (.int .i64 (-1))/\w=w' from by rw[<-Pj 40 t h1];exact afG t);go_in;go_wp2_with fail;refine(C.oo _).mono ?_;rintro x w1 ⟨rfl,E⟩;go_wp2_with fail;refine(IB.oo _).mono ?_;rintro x w2 ⟨rfl,rfl⟩;exact Oa
theorem Kw{p:UInt8->Bool}{l:Tx}(h:(l.dropWhile p).getLast?=some c):l.getLast?=some c:=by
 obtain⟨t,ht⟩:=iu p (l:=l);rw[<-ht,Ew,h];rfl
theorem YY{l:Tx}: ∀c,(aG l).head?=some c->aH c=false:=by
 intro c hc;rw[zw]at hc;exact lQ hc
theorem ajW{l:Tx}: ∀c,(aG l).getLast?=some c->aH c=false:=by
 intro c hc;rw[zw]at hc;have:=Kw hc;rw[List.getLast?_reverse]at this;exact lQ this
theorem ajV(l:Tx):aG (aG l)=aG l:=Lu YY ajW
theorem aak(l:Tx):fK (aG l)=fK l:=by unfold fK;rw[ajV]
theorem ak8: ∀a:Fin 64,∀b:Fin 64,aBh (jI ((64*a.val+b.val:Nat)-2048))= .ok ((64*a.val+b.val:Nat)-2048):=dD
theorem aaG{n:Int}(h1: -2048<=n)(h2:n<=2047):aBh (jI n)= .ok n:=by
 have:=ak8 ⟨(n+2048).toNat/64,ah⟩ ⟨(n+2048).toNat%64,ah⟩;simp only at this
 rwa[show((64*((n+2048).toNat/64)+(n+2048).toNat%64:Nat):Int)-2048=n by omega]at this
theorem Sw{l:Tx}(h:fK l=some n):n<32:=by
 unfold fK at h;simp only at h
 split at h
 ·exact(Qs h).1
 cases h
def gG(i:aL)(ok:Bool):Option aL:=if ok&&cD i then some i else none
theorem WX(i:aL):gG i false=none:=rfl
theorem Ku(h:cD i=true):gG i true=some i:=by unfold gG;rw[h];rfl
theorem abm{d:Nat}(hd:d<32)(ha:a<32):cD ⟨6,d,a,0,0,[],[],0⟩=true:=by
 exact adk
theorem abn(hd:b<32)(ha:a<32):cD ⟨7,0,a,b,0,[],[],0⟩=true:=by
 exact adk
theorem Ul(ho:op=9\/op=10){d:Nat}(hd:d<32)(ha:a<32)(hb:b<32):cD ⟨op,d,a,b,0,[],[],0⟩=true:=by
 have h1:=Bb hd;have h2:=Bb ha;have h3:=Bb hb;rcases ho with rfl|rfl<;>(unfold cD;rw[h1,h2,h3];simp[gm,rH])
theorem Un{d:Nat}{n:Int}(hd:d<32)(ha:a<32):cD ⟨8,d,a,0,n,[],[],0⟩=(decide (-2048<=n)&&decide (n<=2047)):=by
 exact adl
theorem abl(hd:a<32)(ha:b<32):cD ⟨11,0,a,b,0,[],z,0⟩=aU z:=by
 exact adl
theorem Jy:cD ⟨12,0,0,0,0,[],z,0⟩=aU z:=by
 exact adm
theorem Um{f:Int}:cD ⟨13,0,0,0,0,[],[],f⟩=(decide (2<=f)&&decide (f<=11)):=by
 exact adm
theorem agd:(∀n,o1=some n->n<32)->(∀n,o2=some n->n<32)->
 gG ⟨6,iK o1,iK o2,0,0,[],[],0⟩ (o1.isSome&&o2.isSome)=match o1,o2 with
  |some d,some a=>some ⟨6,d,a,0,0,[],[],0⟩
  |_,_=>none:=by
 intro h1 h2;cases o1 with
 |none=>rfl
 | some d=>cases o2 with
   |none=>rfl
   |some a=>exact Ku (abm (h1 d rfl) (h2 a rfl))
theorem age:(∀n,o1=some n->n<32)->(∀n,o2=some n->n<32)->
 gG ⟨7,0,iK o2,iK o1,0,[],[],0⟩ (o1.isSome&&o2.isSome)=match o1,o2 with
  |some d,some a=>some ⟨7,0,a,d,0,[],[],0⟩
  |_,_=>none:=by
 intro h1 h2;cases o1 with
 |none=>rfl
 | some d=>cases o2 with
   |none=>rfl
   |some a=>exact Ku (abn (h1 d rfl) (h2 a rfl))
theorem agc(ha:a<32)(hb:b<32):gG ⟨11,0,a,b,0,[],z,0⟩ true=if aU z then some ⟨11,0,a,b,0,[],z,0⟩else none:=by
 unfold gG;rw[abl ha hb,yc]
theorem aqh{v:Int}(ha:a<32)(hb:b<32)(hv:aBh z= .ok v):
 gG ⟨8,a,b,0,v,[],[],0⟩ (aA9 v==z)=match nT z with
  |some n=>some ⟨8,a,b,0,n,[],[],0⟩
  |none=>none:=by
 unfold gG;rw[Un ha hb];cases hn:nT z with
 | some n=>
   obtain⟨e,b1,b2⟩:=GA hn;rw[e,aaG b1 b2]at hv;cases hv;have h1:(aA9 v==z)=true:=by rw[e,Po ah ah];simp
   rw[h1,eU b1,eU b2];rfl
 | none=>
   by_cases he:aA9 v=z
   ·by_cases hr: -2048<=v/\v<=2047
    ·have:=XO hr.1 hr.2
     rw[<-Po ah ah,he,hn]at this;cases this
    rw[show(decide (-2048<=v)&&decide (v<=2047))=false by simp;omega];simp
   rw[show(aA9 v==z)=false by simpa using he];rfl
theorem ase(h: ∀v,aBh z≠ .ok v):nT z=none:=by
 cases hn:nT z with
 |none=>rfl
 | some n=>
   obtain⟨e,b1,b2⟩:=GA hn;exact absurd (by rw[e];exact aaG b1 b2) (h n)
theorem WY(ho:op=9\/op=10)(ha:a<32)(hb:b<32){o:Option Nat}:(∀n,o=some n->n<32)->
 gG ⟨op,a,b,iK o,0,[],[],0⟩ o.isSome=match o with
  |some c=>some ⟨op,a,b,c,0,[],[],0⟩
  |none=>none:=by
 intro h;cases o with
 |none=>rfl
 |some c=>exact Ku (Ul ho ha hb (h c rfl))
theorem aeR: ∀k:Nat,∀x:Tx,([[114],[119],[114,119]]:List Tx)[k]? =some x->nP x=some (k:Int):=by
 intro k x h
 match k,h with
 |0,h=>simp at h;subst h;rfl
 |1,h=>simp at h;subst h;rfl
 |2,h=>simp at h;subst h;rfl
 |k+3,h=>simp at h
theorem CD{x:Tx}{n:Int}(h:nP x=some n): ∃k:Nat,k<3/\n=k/\([[114],[119],[114,119]]:List Tx)[k]? =some x:=by
 unfold nP at h
 split at h
 ·cases h;exact⟨0,ah,rfl,by subst x;rfl⟩
 split at h
 ·cases h;exact⟨1,ah,rfl,by subst x;rfl⟩
 split at h
 ·cases h;exact⟨2,ah,rfl,by subst x;rfl⟩
 cases h
theorem cO.lt{a:Option aAZ}(h:cO w a l)(hk:k<l.length):bk a<w.heap.size:=k8 (p:=⟨bk a,fo a+k,none⟩) (h.cell k hk)
def Sm(l:List Tx):Prop:= ∀x∈l,x.length<=1000000
theorem Sm.at(h:Sm l)(x:Tx)(hx:x∈l):x.length<=9223372036854775807:=by have:=h x hx;omega
theorem at6(x y z:Tx)(a:Option aAZ)(c:Nat)(w:aAX)(h:cO w a [x,y,z])(hs:Sm [x,y,z]):
 aA7 prog 184 #[.slice a 3 c] w (bg w (.tuple #[.int .i64 (iK (bR (aG x))),.int .i64 (iK (bR (aG y))),.string (tx (aG z)),.bool ((bR (aG x)).isSome&&(bR (aG y)).isSome)])):=by
 have X:=af (GJ x (hs.at x aq));have Y:=af (GJ y (hs.at y aq));have Z:=af (xp z (hs.at z aq));have i0: ∀c w',(aA2 42 (.slice a 3 c) (.int .i64 0)).run prog w'= .ok (.pointer (some ⟨bk a,fo a,none⟩)) w':=fun c w'=>h.idx 0 aq c w'
 have i1: ∀c w',(aA2 42 (.slice a 3 c) (.int .i64 1)).run prog w'= .ok (.pointer (some ⟨bk a,fo a+1,none⟩)) w':=fun c w'=>h.idx 1 aq c w'
 have i2: ∀c w',(aA2 42 (.slice a 3 c) (.int .i64 2)).run prog w'= .ok (.pointer (some ⟨bk a,fo a+2,none⟩)) w':=fun c w'=>h.idx 2 aq c w'
 have c0:w.cell? ⟨bk a,fo a,none⟩=some (.string (tx x)):=h.cell 0 aq;generalize bR (aG x)=rx at*;generalize bR (aG y)=ry at*;generalize aG z=tz at*;go_in;go_wp2_with fail;refine aQ (X.oo _) fun w1 E1=>?_
 have h1:=h.below E1;have c1:w1.cell? ⟨bk a,fo a+1,none⟩=some (.string (tx y)):=h1.cell 1 aq;go_wp2_with fail;refine aQ (Y.oo _) fun w2 E2=>?_
 have h2:=h1.below E2;have E:=aI E1 E2;have c2:w2.cell? ⟨bk a,fo a+2,none⟩=some (.string (tx z)):=h2.cell 2 aq;go_wp2_with fail;refine aQ (Z.oo _) fun w3 E3=>?_
 have E:=aI E E3;cases rx<;>cases ry<;>(go_wp2;exact aZ (by simp[results,results184,go_sem]) rfl ⟨rfl,E⟩)
theorem at7(n c:Nat)(a:Option aAZ)(hn:n≠3)(w:aAX):
 aA7 prog 184 #[.slice a n c] w (bg w (.tuple #[.int .i64 0,.int .i64 0,.string ⟨#[]⟩,.bool false])):=by
 have z:((n:Int) != 3)=true:=aC;go_in;go_wp2;exact aZ (by simp[results,results184,go_sem]) rfl ⟨rfl,bS _ _⟩
theorem aie(op:Tx)(n c:Nat)(a:Option aAZ)(hn:n≠2)(w:aAX):aA7 prog 182 #[.string (tx op),.slice a n c] w (nI w 0 0 0 0 0 ⟨#[]⟩ ⟨#[]⟩ 0 false):=by
 have z:((n:Int) != 2)=true:=aC;go_in;go_wp2;exact aZ (by simp[results,results182,go_sem]) rfl ⟨rfl,cG⟩
abbrev cK:Obj:=.cells #[.int .i64 0,.int .i64 0,.int .i64 0,.int .i64 0,.int .i64 0,.string ⟨#[]⟩,.string ⟨#[]⟩,.int .i64 0] 50
theorem gE(h:aAW (w.alloc cK).heap.size (w.alloc cK) w'):
 (w'.cell? ⟨w.heap.size,0,none⟩=some (.int .i64 0)/\w'.cell? ⟨w.heap.size,1,none⟩=some (.int .i64 0)/\w'.cell? ⟨w.heap.size,2,none⟩=some (.int .i64 0)/\w'.cell? ⟨w.heap.size,3,none⟩=some (.int .i64 0)/\w'.cell? ⟨w.heap.size,4,none⟩=some (.int .i64 0)/\w'.cell? ⟨w.heap.size,5,none⟩=some (.string ⟨#[]⟩)/\w'.cell? ⟨w.heap.size,6,none⟩=some (.string ⟨#[]⟩)/\w'.cell? ⟨w.heap.size,7,none⟩=some (.int .i64 0))/\
 (∀k,w'.frozen? ⟨w.heap.size,k,none⟩=false)/\w.heap.size<w'.heap.size/\aAW w.heap.size w w':=by
 have hs:=h.size;simp at hs
 have hc: ∀k,w'.cell? ⟨w.heap.size,k,none⟩=(#[.int .i64 0,.int .i64 0,.int .i64 0,.int .i64 0,.int .i64 0,.string ⟨#[]⟩,.string ⟨#[]⟩,.int .i64 0]:Array Value)[k]? :=fun k=>by
  rw[h.cell (p:=⟨w.heap.size,k,none⟩) aq];have hh:=lJ w cK;simp only[aA4,hh];simp
 refine⟨⟨hc 0,hc 1,hc 2,hc 3,hc 4,hc 5,hc 6,hc 7⟩,fun k=>?_,ah,(al w cK).trans (h.mono (al w cK).size)⟩;rw[h.frozen (p:=⟨w.heap.size,k,none⟩) aq];have hh:=lJ w cK;simp only[World.frozen?,hh];simp
theorem atS(op x y:Tx)(hop:op=[108,119])(a:Option aAZ)(c:Nat)(w:aAX)(h:cO w a [x,y])(hs:Sm [x,y]):
 aA7 prog 182 #[.string (tx op),.slice a 2 c] w (nI w 6 (iK (bR (aG x))) (iK (fK y)) 0 0 ⟨#[]⟩ ⟨#[]⟩ 0 ((bR (aG x)).isSome&&(fK y).isSome)):=by
 have X:=af (GJ x (hs.at x aq));have Y:=af (aic y (hs.at y aq));have i0: ∀c w',(aA2 42 (.slice a 2 c) (.int .i64 0)).run prog w'= .ok (.pointer (some ⟨bk a,fo a,none⟩)) w':=fun c w'=>h.idx 0 aq c w'
 have i1: ∀c w',(aA2 42 (.slice a 2 c) (.int .i64 1)).run prog w'= .ok (.pointer (some ⟨bk a,fo a+1,none⟩)) w':=fun c w'=>h.idx 1 aq c w'
 have c0:w.cell? ⟨bk a,fo a,none⟩=some (.string (tx x)):=h.cell 0 aq;have hl:=h.lt (k:=0) aq;generalize bR (aG x)=rx at*;generalize fK y=ry at*;have z:((tx op).toList==[108,119])=true:=by rw[bU];simpa using hop
 clear hop;go_in;go_wp2_with fail;refine aQ (X.oo _) fun w1 E1=>?_
 have h1:=(h.below (al _ _)).below E1;have c1:w1.cell? ⟨bk a,fo a+1,none⟩=some (.string (tx y)):=h1.cell 1 aq;clear c0;go_wp2_with fail;refine aQ (Y.oo _) fun w2 E2=>?_
 have E:=aI E1 E2;obtain⟨⟨d0,d1,d2,d3,d4,d5,d6,d7⟩,hf,aA,B⟩:=gE E;clear c1 E1 E2 h1 E hl;cases rx<;>cases ry<;>(go_wp2;exact aZ (by simp[results,results182,go_sem,d0,d1,d2,d3,d4,d5,d6,d7]) rfl ⟨rfl,cG⟩)
theorem atT(op x y:Tx)(hop:op≠[108,119])(a:Option aAZ)(c:Nat)(w:aAX)(h:cO w a [x,y])(hs:Sm [x,y]):
 aA7 prog 182 #[.string (tx op),.slice a 2 c] w (nI w 7 0 (iK (fK y)) (iK (bR (aG x))) 0 ⟨#[]⟩ ⟨#[]⟩ 0 ((bR (aG x)).isSome&&(fK y).isSome)):=by
 have X:=af (GJ x (hs.at x aq));have Y:=af (aic y (hs.at y aq));have i0: ∀c w',(aA2 42 (.slice a 2 c) (.int .i64 0)).run prog w'= .ok (.pointer (some ⟨bk a,fo a,none⟩)) w':=fun c w'=>h.idx 0 aq c w'
 have i1: ∀c w',(aA2 42 (.slice a 2 c) (.int .i64 1)).run prog w'= .ok (.pointer (some ⟨bk a,fo a+1,none⟩)) w':=fun c w'=>h.idx 1 aq c w'
 have c0:w.cell? ⟨bk a,fo a,none⟩=some (.string (tx x)):=h.cell 0 aq;have hl:=h.lt (k:=0) aq;generalize bR (aG x)=rx at*;generalize fK y=ry at*;have z:((tx op).toList==[108,119])=false:=by rw[bU];simpa using hop
 go_in;go_wp2_with fail;refine aQ (X.oo _) fun w1 E1=>?_
 have h1:=(h.below (al _ _)).below E1;have c1:w1.cell? ⟨bk a,fo a+1,none⟩=some (.string (tx y)):=h1.cell 1 aq;go_wp2_with fail;refine aQ (Y.oo _) fun w2 E2=>?_
 have E:=aI E1 E2;obtain⟨⟨d0,d1,d2,d3,d4,d5,d6,d7⟩,hf,aA,B⟩:=gE E;cases rx<;>cases ry<;>(go_wp2;exact aZ (by simp[results,results182,go_sem,d0,d1,d2,d3,d4,d5,d6,d7]) rfl ⟨rfl,cG⟩)
theorem Qc(w:aAX):aA7 prog 251 #[] w fun e w'=>e= .returned (.slice (some ⟨w.heap.size,0,none⟩) 3 3)/\w'=w.alloc (.cells #[.string ⟨#[114]⟩,.string ⟨#[119]⟩,.string ⟨#[114,119]⟩] 9):=by
 exact wK
def Fy(f:Int):Tx:=if f=2 then[102,101,110,99,101,46,116,115,111]
 else[102,101,110,99,101,32]++iY ((f-3)/3)++[44]++iY ((f-3)%3)
theorem atw(f:Int)(hf:f=3\/f=4\/f=5)(w:aAX):aA7 prog 268 #[.int .i64 f] w (bg w (.string (tx (Fy f)))):=by
 rcases hf with rfl|rfl|rfl
 all_goals
  go_in;go_wp2_with fail
  go_region_with (go_at_call 251;refine(Qc _).mono ?_;rintro e' w' ⟨rfl,rfl⟩)
  all_goals
   exact UW
theorem atx(f:Int)(hf:f=6\/f=7\/f=8)(w:aAX):aA7 prog 268 #[.int .i64 f] w (bg w (.string (tx (Fy f)))):=by
 rcases hf with rfl|rfl|rfl
 all_goals
  go_in;go_wp2_with fail
  go_region_with (go_at_call 251;refine(Qc _).mono ?_;rintro e' w' ⟨rfl,rfl⟩)
  all_goals
   exact UW
theorem aty(f:Int)(hf:f=9\/f=10\/f=11)(w:aAX):aA7 prog 268 #[.int .i64 f] w (bg w (.string (tx (Fy f)))):=by
 rcases hf with rfl|rfl|rfl
 all_goals
  go_in;go_wp2_with fail
  go_region_with (go_at_call 251;refine(Qc _).mono ?_;rintro e' w' ⟨rfl,rfl⟩)
  all_goals
   exact UW
theorem atv(f:Int)(h1:2<=f)(h2:f<=11)(w:aAX):aA7 prog 268 #[.int .i64 f] w (bg w (.string (tx (Fy f)))):=by
 by_cases h3:f=2
 ·subst h3
  go_in;go_wp2;go_ret;exact Fq
 by_cases h4:f<=5
 ·exact atw f ah w
 by_cases h5:f<=8
 ·exact atx f ah w
 exact aty f ah w
theorem cO.yq{a:Option aAZ}(h:cO w a l){u:Tx}(hu:l[k]? =some u):w.cell? ⟨bk a,fo a+k,none⟩=some (.string (tx u)):=by
 obtain⟨hk,rfl⟩:=bt.1 hu;exact h.cell k hk
def rq:List Tx:=[[114],[119],[114,119]]
theorem aih(w:aAX):aA7 prog 251 #[] w fun e w'=> ∃a,e= .returned (.slice a 3 3)/\cO w' a rq/\aAW w.heap.size w w':=by
 refine(Qc w).mono fun e w' hh=>?_
 obtain⟨he,rfl⟩:=hh;refine⟨_,he,⟨⟨fun _=>rfl,fun i hi=>?_⟩,ay⟩,al _ _⟩;have hh:=lJ w (.cells #[.string ⟨#[114]⟩,.string ⟨#[119]⟩,.string ⟨#[114,119]⟩] 9);simp only[aA4,jW,kM,hh];have hi:i=0\/i=1\/i=2:=by simp[rq]at hi;omega
 rcases hi with rfl|rfl|rfl<;>rfl
theorem ah3{a:Option aAZ}(h:cO w a rq)(k:Nat)(hk:k<3): ∀c w',(aA2 42 (.slice a 3 c) (.int .i64 k)).run prog w'= .ok (.pointer (some ⟨bk a,fo a+k,none⟩)) w':=h.idx k hk
def Ej(x y:Tx)(k j:Nat):Prop:= ∀k' j',k'<3->j'<3->(k'<k\/(k'=k/\j'<j))-> ¬(rq[k']? =some x/\rq[j']? =some y)
def akx(x y:Tx)(w:aAX)(e:Ending)(w':aAX):Prop:=
 ((∃k j:Nat,k<3/\j<3/\rq[k]? =some x/\rq[j]? =some y/\e= .returned (.tuple #[.agg #[.int .i64 13,.int .i64 0,.int .i64 0,.int .i64 0,.int .i64 0,.string ⟨#[]⟩,.string ⟨#[]⟩,.int .i64 (3+3*(k:Int)+j)],.bool true]))\/
  (Ej x y 3 0/\e= .returned (.tuple #[.agg #[.int .i64 0,.int .i64 0,.int .i64 0,.int .i64 0,.int .i64 0,.string ⟨#[]⟩,.string ⟨#[]⟩,.int .i64 0],.bool false])))/\aAW w.heap.size w w'
theorem atu(n c:Nat)(a:Option aAZ)(hn:n≠2)(w:aAX):aA7 prog 183 #[.slice a n c] w (nI w 0 0 0 0 0 ⟨#[]⟩ ⟨#[]⟩ 0 false):=by
 have z:((n:Int) != 2)=true:=aC;go_in;go_wp2;exact aZ (by simp[results,results183,go_sem]) rfl ⟨rfl,cG⟩
theorem att(x y:Tx)(a:Option aAZ)(c:Nat)(w:aAX)(h:cO w a [x,y])(hs:Sm [x,y]):
 aA7 prog 183 #[.slice a 2 c] w (akx (aG x) (aG y) w):=by
 have X:=af (xp x (hs.at x aq));have Y:=af (xp y (hs.at y aq));have i0: ∀c w',(aA2 42 (.slice a 2 c) (.int .i64 0)).run prog w'= .ok (.pointer (some ⟨bk a,fo a,none⟩)) w':=fun c w'=>h.idx 0 aq c w'
 have i1: ∀c w',(aA2 42 (.slice a 2 c) (.int .i64 1)).run prog w'= .ok (.pointer (some ⟨bk a,fo a+1,none⟩)) w':=fun c w'=>h.idx 1 aq c w'
 generalize aG x=zA at*;generalize aG y=ty' at*;have E0:aAW (w.alloc cK).heap.size (w.alloc cK) (w.alloc cK):=bS _ _;have HW:=af (al w cK);go_in;go_wp2_with fail;refine(aih _).mono ?_;rintro e w1 ⟨a1,rfl,p1,E⟩;have E1:=E0.trans E;go_wp2
 go_loopw [14] (fun i wr=> ∃k:Nat,k<=3/\i= .int .i64 k/\Hid (Ej zA ty' k 0)/\cO wr a1 rq/\aAW (w.alloc cK).heap.size (w.alloc cK) wr) (fun i _=>3-(intOf i).toNat)
 ·exact⟨0,ah,rfl,fun k' j' _ _ h=>by omega,p1,E1⟩
 obtain⟨k,hk,rfl,HN,p,E⟩:=hrel
 by_cases hlk:k<3
 ·obtain⟨u,hu⟩: ∃u,rq[k]? =some u:=⟨_,aV hlk⟩
  have HU:=af hu;have ik:=ah3 p k hlk;have ck: ∀W,aAW wr.heap.size wr W->W.cell? ⟨bk a1,fo a1+k,none⟩=some (.string (tx u)):=fun W hW=>(p.below hW).yq hu
  have ck0:=ck wr (bS _ _);go_wp2_with fail;refine(aih _).mono ?_;rintro e w2 ⟨a2,rfl,p2,E2⟩;have p:=p.below E2;have E:=aI E E2;go_wp2
  go_loopw [21] (fun i wr=> ∃j:Nat,j<=3/\i= .int .i64 j/\Hid (Ej zA ty' k j)/\cO wr a1 rq/\cO wr a2 rq/\aAW (w.alloc cK).heap.size (w.alloc cK) wr) (fun i _=>3-(intOf i).toNat)
  ·exact⟨0,ah,rfl,HN,p,p2,E⟩
  obtain⟨j,hj,rfl,iV,p,p2,E⟩:=hrel
  by_cases V8:j<3
  ·obtain⟨v,hv⟩: ∃v,rq[j]? =some v:=⟨_,aV V8⟩
   have HV:=af hv;have ij:=ah3 p2 j V8;have cj:wr.cell? ⟨bk a2,fo a2+j,none⟩=some (.string (tx v)):=p2.yq hv;have hB:aAW w.heap.size w wr:=aI HW.oo E;have hT:=h.below hB;have c0:wr.cell? ⟨bk a,fo a,none⟩=some (.string (tx x)):=hT.cell 0 aq
   by_cases hx:zA=u
   ·have z1:((tx zA).toList==(tx u).toList)=true:=by rw[j9];simpa using hx
    by_cases hy:ty'=v
    ·have z2:((tx ty').toList==(tx v).toList)=true:=by rw[j9];simpa using hy
     have HF:=af (show rq[k]? =some zA/\rq[j]? =some ty' by rw[HU.oo,HV.oo,hx,hy];exact⟨rfl,rfl⟩);go_wp2_with fail;refine aQ (X.oo _) fun w3 E3=>?_
     have hT:=hT.below E3;have E:=aI E E3;have c1:w3.cell? ⟨bk a,fo a+1,none⟩=some (.string (tx y)):=hT.cell 1 aq;have p2:=p2.below E3;have cj:w3.cell? ⟨bk a2,fo a2+j,none⟩=some (.string (tx v)):=p2.yq HV.oo;go_wp2_with fail;refine aQ (Y.oo _) fun w4 E4=>?_
     have E:=aI E E4;obtain⟨⟨d0,d1,d2,d3,d4,d5,d6,d7⟩,hf,aA,B⟩:=gE E;go_wp2;exact aZ (by simp[results,results183,go_sem,d0,d1,d2,d3,d4,d5,d6,d7]) rfl ⟨.inl ⟨k,j,hlk,V8,HF.oo.1,HF.oo.2,rfl⟩,cG⟩
    have z2:((tx ty').toList==(tx v).toList)=false:=qA hy
    have Mk:=af (show Ej zA ty' k (j+1)from fun k' j' h1 h2 h3=>by
     by_cases hc:k'=k/\j'=j
     ·rintro⟨-, h5⟩;rw[hc.2,HV.oo]at h5;cases h5;exact hy rfl
     exact iV.oo k' j' h1 h2 ah)
    go_wp2_with fail;refine aQ (X.oo _) fun w3 E3=>?_
    have hT:=hT.below E3;have E:=aI E E3;have c1:w3.cell? ⟨bk a,fo a+1,none⟩=some (.string (tx y)):=hT.cell 1 aq;have p2:=p2.below E3;have p:=p.below E3;go_wp2_with fail;refine aQ (Y.oo _) fun w4 E4=>?_
    have E:=aI E E4;have p2:=p2.below E4;have p:=p.below E4;go_wp2
    exact adn
   have z1:((tx zA).toList==(tx u).toList)=false:=qA hx
   have Mk:=af (show Ej zA ty' k (j+1)from fun k' j' h1 h2 h3=>by
    by_cases hc:k'=k/\j'=j
    ·rintro⟨h5, -⟩;rw[hc.1,HU.oo]at h5;cases h5;exact hx rfl
    exact iV.oo k' j' h1 h2 ah)
   go_wp2_with fail;refine aQ (X.oo _) fun w3 E3=>?_
   have E:=aI E E3;have p2:=p2.below E3;have p:=p.below E3;go_wp2
   exact adn
  obtain rfl:j=3:=ah
  have Mk:=af (show Ej zA ty' (k+1) 0 from fun k' j' h1 h2 h3=>iV.oo k' j' h1 h2 ah);go_wp2
  go_roundw;exact⟨k+1,ah,by go_num,Mk,p,E⟩;exact ep
 obtain rfl:k=3:=ah
 obtain⟨⟨d0,d1,d2,d3,d4,d5,d6,d7⟩,hf,aA,B⟩:=gE E;go_wp2;exact aZ (by simp[results,results183,go_sem,d0,d1,d2,d3,d4,d5,d6,d7]) rfl ⟨.inr ⟨HN,rfl⟩,cG⟩
def Rd(r:Option aL)(w:aAX)(e:Ending)(w':aAX):Prop:=
 ∃(op d a b ax:Int) (av:Tx) (az:Int) (ok:Bool),e= .returned (.tuple #[.agg #[.int .i64 op,.int .i64 d,.int .i64 a,.int .i64 b,.int .i64 ax,.string ⟨#[]⟩,.string (tx av),.int .i64 az],.bool ok])/\gG ⟨op,d,a,b,ax,[],av,az⟩ ok=r/\av.length<=1000000/\aAW w.heap.size w w'
theorem Rd.of{a b:Int}{ok:Bool}(h:nI w op d a b ax ⟨#[]⟩ ⟨#[]⟩ az ok e w')(hk:gG ⟨op,d,a,b,ax,[],[],az⟩ ok=r):Rd r w e w':=
 ⟨op,d,a,b,ax,[],az,ok,h.1,hk,aq,h.2⟩
theorem mO: ∀n,bR s=some n->n<32:=fun n h=>(Qs h).1
theorem MJ: ∀n,fK s=some n->n<32:=fun n h=>Sw h
theorem xe(h:l.length=2): ∃x y,l=[x,y]:=by
 match l,h with
 |[x,y],_=>exact⟨x,y,rfl⟩
theorem Gn(h:l.length=3): ∃x y z,l=[x,y,z]:=by
 match l,h with
 |[x,y,z],_=>exact⟨x,y,z,rfl⟩
theorem Ql(x y:Tx):fq [108,119] [x,y]=match bR x,fK y with
 |some d,some a=>some ⟨6,d,a,0,0,[],[],0⟩
 |_,_=>none:=by unfold fq;rw[ak rfl];rfl
theorem Qm(x y:Tx):fq [115,119] [x,y]=match bR x,fK y with
 |some d,some a=>some ⟨7,0,a,d,0,[],[],0⟩
 |_,_=>none:=by unfold fq;rw[ai ay,ak rfl];rfl
theorem Yn(h:l.length≠2):fq [108,119] l=none:=by
 unfold fq;rw[ak rfl]
 match l with
 |[]=>rfl
 |[_]=>rfl
 |[_,_]=>simp at h
 |_::_::_::_=>rfl
theorem Yo(h:l.length≠2):fq [115,119] l=none:=by
 unfold fq;rw[ai ay,ak rfl]
 match l with
 |[]=>rfl
 |[_]=>rfl
 |[_,_]=>simp at h
 |_::_::_::_=>rfl
theorem arN(l:List Tx)(a:Option aAZ)(c:Nat)(w:aAX)(h:cO w a l)(hs:Sm l):aA7 prog 182 #[.string (tx [108,119]),.slice a l.length c] w (Rd (fq [108,119] (l.map aG)) w):=by
 by_cases hl:l.length=2
 ·obtain⟨x,y,rfl⟩:=xe hl
  refine(atS [108,119] x y rfl a c w h hs).mono fun e w' hh=>Rd.of hh ?_
  rw[show[x,y].map aG=[aG x,aG y]from rfl,Ql,aak];exact agd mO MJ
 refine(aie [108,119] l.length c a hl w).mono fun e w' hh=>Rd.of hh ?_
 rw[Yn (aS hl)];rfl
theorem arO(l:List Tx)(a:Option aAZ)(c:Nat)(w:aAX)(h:cO w a l)(hs:Sm l):aA7 prog 182 #[.string (tx [115,119]),.slice a l.length c] w (Rd (fq [115,119] (l.map aG)) w):=by
 by_cases hl:l.length=2
 ·obtain⟨x,y,rfl⟩:=xe hl
  refine(atT [115,119] x y ay a c w h hs).mono fun e w' hh=>Rd.of hh ?_
  rw[show[x,y].map aG=[aG x,aG y]from rfl,Qm,aak];exact age mO MJ
 refine(aie [115,119] l.length c a hl w).mono fun e w' hh=>Rd.of hh ?_
 rw[Yo (aS hl)];rfl
theorem Yl(x y:Tx):fq [102,101,110,99,101] [x,y]=match nP x,nP y with
 |some k,some j=>some ⟨13,0,0,0,0,[],[],3+3*k+j⟩
 |_,_=>none:=by unfold fq;rw[ai ay,ai ay,ak rfl];rfl
theorem Ym(h:l.length≠2):fq [102,101,110,99,101] l=none:=by
 unfold fq;rw[ai ay,ai ay,ak rfl]
 match l with
 |[]=>rfl
 |[_]=>rfl
 |[_,_]=>simp at h
 |_::_::_::_=>rfl
theorem anT(l:List Tx)(a:Option aAZ)(c:Nat)(w:aAX)(h:cO w a l)(hs:Sm l):aA7 prog 183 #[.slice a l.length c] w (Rd (fq [102,101,110,99,101] (l.map aG)) w):=by
 by_cases hl:l.length=2
 ·obtain⟨x,y,rfl⟩:=xe hl
  refine(att x y a c w h hs).mono fun e w' hh=>?_
  rw[show[x,y].map aG=[aG x,aG y]from rfl,Yl];obtain⟨h1|h1,hb⟩:=hh
  ·obtain⟨k,j,hk,hj,hx,hy,he⟩:=h1
   rw[aeR k _ hx,aeR j _ hy];exact Rd.of ⟨he,hb⟩ (Ku (by rw[Um];simp;omega))
  obtain⟨hn,he⟩:=h1
  refine Rd.of ⟨he,hb⟩ ?_;rw[WX];cases h2:nP (aG x)with
  |none=>rfl
  | some k=>cases h3:nP (aG y)with
    |none=>rfl
    | some j=>
      obtain⟨k',hk',-, ex⟩:=CD h2;obtain⟨j',hj',-, ey⟩:=CD h3;exact absurd ⟨ex,ey⟩ (hn k' j' hk' hj' (.inl hk'))
 refine(atu l.length c a hl w).mono fun e w' hh=>Rd.of hh ?_
 rw[Ym (aS hl)];rfl
theorem Rd.map{r':Option aL}(h:Rd r w e w')(hr:r=r'):Rd r' w e w':=hr▸h
theorem at5(l:List Tx)(a:Option aAZ)(c:Nat)(w:aAX)(h:cO w a l)(hs:Sm l):aA7 prog 102 #[.string (tx [108,119]),.slice a l.length c] w (Rd (fq [108,119] (l.map aG)) w):=by
 have z1:((tx [108,119]).toList==[108,119])=true:=by rw[bU];rfl
 have C:=af (arN l a c (w.alloc cK) (h.below (al _ _)) hs);generalize fq [108,119] (l.map aG)=r at*;generalize l.length=n at*;go_in;go_wp2_with fail;refine C.oo.mono ?_;rintro e w1 ⟨op,d,a1,b,ax,av,az,ok,rfl,hk,hl,E⟩;obtain⟨⟨d0,d1,d2,d3,d4,d5,d6,d7⟩,hf,aA,B⟩:=gE E;have HK:=af hk;clear hk E h hs;go_wp2;exact aZ (by simp[results,results102,go_sem,d0,d1,d2,d3,d4,d5,d6,d7]) rfl ⟨op,d,a1,b,ax,av,az,ok,rfl,HK.oo,hl,cG⟩
theorem GR{op:Tx}(h1:op≠[108,119])(h2:op≠[115,119])(h3:op≠[102,101,110,99,101])(h:l.length≠3):fq op l=none:=by
 unfold fq;rw[ai h1,ai h2,ai h3]
 match l with
 |[]=>rfl
 |[_]=>rfl
 |[_,_]=>rfl
 |[_,_,_]=>simp at h
 |_::_::_::_::_=>rfl
theorem xw{op:Tx}(x y z:Tx)(h1:op≠[108,119])(h2:op≠[115,119])(h3:op≠[102,101,110,99,101]):fq op [x,y,z]=match bR x,bR y with
 | some a,some b=>
   if op=[98,110,101]then(if aU z then some ⟨11,0,a,b,0,[],z,0⟩else none)
   else if op=[111,114,105]then(match nT z with
    |some n=>some ⟨8,a,b,0,n,[],[],0⟩
    |none=>none)
   else match bR z with
    |some c=>if op=[120,111,114]then some ⟨9,a,b,c,0,[],[],0⟩else if op=[97,100,100]then some ⟨10,a,b,c,0,[],[],0⟩else none
    |none=>none
 |_,_=>none:=by
 unfold fq;rw[ai h1,ai h2,ai h3];rfl
theorem eD(op q:Tx)(h:op≠q):((tx op).toList==q)=false:=by rw[bU];simpa using h
theorem xG(op q:Tx)(h:op=q):((tx op).toList==q)=true:=by rw[bU];simpa using h
theorem av1(op:Tx)(l:List Tx)(a:Option aAZ)(c:Nat)(w:aAX)(h:cO w a l)(hs:Sm l)(h1:op≠[108,119])(h2:op≠[115,119])(h3:op≠[102,101,110,99,101]):
 ∃ (P Q:Int) (tz:Tx) (ok:Bool),aA7 prog 184 #[.slice a l.length c] w (bg w (.tuple #[.int .i64 P,.int .i64 Q,.string (tx tz),.bool ok]))/\
   (ok=false/\fq op (l.map aG)=none\/ok=true/\ ∃p q:Nat,P=p/\Q=q/\p<32/\q<32/\aG tz=tz/\tz.length<=1000000/\fq op (l.map aG)=
    if op=[98,110,101]then(if aU tz then some ⟨11,0,p,q,0,[],tz,0⟩else none)
    else if op=[111,114,105]then(match nT tz with
     |some n=>some ⟨8,p,q,0,n,[],[],0⟩
     |none=>none)
    else match bR tz with
     |some c=>if op=[120,111,114]then some ⟨9,p,q,c,0,[],[],0⟩else if op=[97,100,100]then some ⟨10,p,q,c,0,[],[],0⟩else none
     |none=>none):=by
 by_cases hl:l.length=3
 ·obtain⟨x,y,z,rfl⟩:=Gn hl
  refine⟨_,_,_,_,at6 x y z a c w h hs,?_⟩;rw[show[x,y,z].map aG=[aG x,aG y,aG z]from rfl,xw _ _ _ h1 h2 h3];cases hx:bR (aG x)with
  |none=>exact .inl ⟨rfl,rfl⟩
  | some p=>cases hy:bR (aG y)with
    |none=>exact .inl ⟨rfl,rfl⟩
    |some q=>exact .inr ⟨rfl,p,q,rfl,rfl,mO p hx,mO q hy,ajV z,dY (lZ z) (hs z aq),rfl⟩
 exact⟨0,0,[],false,at7 l.length c a hl w,.inl ⟨rfl,GR h1 h2 h3 (aS hl)⟩⟩
theorem at1(op:Tx)(l:List Tx)(a:Option aAZ)(c:Nat)(w:aAX)(h:cO w a l)(hs:Sm l)(g:Gl w):aA7 prog 102 #[.string (tx op),.slice a l.length c] w (Rd (fq op (l.map aG)) w):=by
 by_cases h1:op=[108,119]
 ·subst h1;exact at5 l a c w h hs
 have z1:=eD _ _ h1
 by_cases h2:op=[115,119]
 focus
  have z2:=xG _ _ h2;have C:=af (arO l a c (w.alloc cK) (h.below (al _ _)) hs);rw[<-h2]at C;clear h2
 rotate_left
 have z2:=eD _ _ h2
 by_cases h3:op=[102,101,110,99,101]
 focus
  have z3:=xG _ _ h3;have C:=af (anT l a c (w.alloc cK) (h.below (al _ _)) hs);rw[<-h3]at C;clear h2 h3
 rotate_left
 ·have z3:=eD _ _ h3
  obtain⟨P,Q,tz,ok,C,H⟩:=av1 op l a c (w.alloc cK) (h.below (al _ _)) hs h1 h2 h3;have C:=af C;have H:=af H;have g1:=af (g.below (al w cK));generalize fq op (l.map aG)=r at*;generalize l.length=n at*;have HZ:=af (fun q=>eD op q);have HY:=af (fun q=>xG op q);clear h1 h2 h3 h hs g;go_in;go_wp2_with fail;refine aQ C.oo fun w1 E=>?_
  rcases H.oo with⟨rfl,hr⟩|⟨rfl,p,q,rfl,rfl,hp,hq,hz,hzl,hr⟩
  ·have HK:=af (show gG ⟨0,0,0,0,0,[],[],0⟩ false=r from hr.symm)
   obtain⟨⟨d0,d1,d2,d3,d4,d5,d6,d7⟩,hf,aA,B⟩:=gE E;clear E H hr;exact ado
  clear H
  by_cases h4:op=[98,110,101]
  ·have z4:=HY.oo _ h4
   rw[ak h4]at hr;have HK:=af ((agc (z:=tz) hp hq).trans hr.symm);obtain⟨⟨d0,d1,d2,d3,d4,d5,d6,d7⟩,hf,aA,B⟩:=gE E;clear E hr h4 hz;go_wp2;exact aZ (by simp[results,results102,go_sem,d0,d1,d2,d3,d4,d5,d6,d7]) rfl ⟨_,_,_,_,_,tz,_,_,rfl,HK.oo,hzl,cG⟩
  have z4:=HZ.oo _ h4;rw[ai h4]at hr;have g2:=g1.oo.below E
  by_cases h5:op=[111,114,105]
  ·have z5:=HY.oo _ h5
   rw[ak h5]at hr
   by_cases hv: ∃v,aBh tz= .ok v
   ·obtain⟨v,hv⟩:=hv
    obtain⟨b1,b2⟩:=Lib.atoiAll_bounds hv;have AT:=af (Nk tz hzl v hv);have HK:=af ((aqh hp hq hv).trans hr.symm);have IT:=af (fun(w:aAX) (g:Gl w)=>tU v b1 b2 w g);obtain⟨u,hu⟩:=aF (aA9 v);rw[hu]at HK IT;have hz:((tx u).toList==(tx tz).toList)=(u==tz):=j9 u tz;generalize (u==tz)=bb at*;clear hu hv b1 b2 hr h4 h5;go_wp2_with fail;refine aQ (AT.oo _) fun w2 E2=>?_
    have g3:=g2.below E2;have E:=aI E E2;go_wp2_with fail;refine aQ (IT.oo _ g3) fun w3 E3=>?_
    have E:=aI E E3;exact adp
   have AT:=af (TF tz hzl (fun v e=>hv ⟨v,e⟩))
   have HKn:=af (show ∀n,gG ⟨8,p,q,0,n,[],[],0⟩ false=r from fun n=>by rw[hr,ase (fun v e=>hv ⟨v,e⟩)];rfl);clear hv hr h4 h5;go_wp2_with fail;refine(AT.oo _ g2).mono ?_;rintro e w2 ⟨n,tp,pp,rfl,E2⟩;have HK:=af (HKn.oo n);have E:=aI E E2;exact adp
  have z5:=HZ.oo _ h5;rw[ai h5]at hr;have RG:=af (GJ tz ah);rw[hz]at RG
  by_cases h6:op=[120,111,114]
  focus
   have z6:=HY.oo _ h6;have HK:=af ((WY (op:=9) ah hp hq (o:=bR tz) mO).trans (show _=r by rw[hr];simp only[ak h6]<;>cases bR tz<;>rfl))
   clear h6
  rotate_left
  have z6:=HZ.oo _ h6
  by_cases h7:op=[97,100,100]
  focus
   have z7:=HY.oo _ h7;have HK:=af ((WY (op:=10) ah hp hq (o:=bR tz) mO).trans (show _=r by rw[hr];simp only[ai h6,ak h7]<;>cases bR tz<;>rfl))
   clear h6 h7
  rotate_left
  focus
   have z7:=HZ.oo _ h7;have HK:=af (show gG ⟨0,0,0,0,0,[],[],0⟩ false=r by rw[hr];simp only[ai h6,ai h7];cases bR tz<;>rfl)
   clear h6 h7
  all_goals
   clear hr h4 h5 hz;generalize bR tz=rz at*;go_wp2_with fail;refine aQ (RG.oo _) fun w2 E2=>?_
   have E:=aI E E2;obtain⟨⟨d0,d1,d2,d3,d4,d5,d6,d7⟩,hf,aA,B⟩:=gE E;clear E E2;exact ado
 all_goals
  generalize fq op (l.map aG)=r at*;generalize l.length=n at*;clear h1 h hs g;go_in;go_wp2_with fail;refine C.oo.mono ?_;rintro e w1 ⟨op',d,a1,b,ax,av,az,ok,rfl,hk,hl,E⟩;obtain⟨⟨d0,d1,d2,d3,d4,d5,d6,d7⟩,hf,aA,B⟩:=gE E;have HK:=af hk;clear hk E;go_wp2;exact aZ (by simp[results,results102,go_sem,d0,d1,d2,d3,d4,d5,d6,d7]) rfl ⟨op',d,a1,b,ax,av,az,ok,rfl,HK.oo,hl,cG⟩
attribute [local go_sem high] wL jO
theorem aj3(c d:UInt8)(h:c≠d):((c.toNat:Int)==(d.toNat:Int))=false:=by
 simp only[Ah,ne_eq];intro e;exact h (tD.1 ah)
theorem aid:UF aH 101:=fun c=>Jo c _ ay
theorem YP(p:UInt8->Bool): ∀(l:Tx) (k:Nat),(∀(j:Nat) c,j<k->l[j]? =some c->p c=true)->(∀c,l[k]? =some c->p c=false)->k<=l.length->(l.takeWhile p).length=k
 |[],k,_,_,h=>by simp at h;subst h;rfl
 |b::l,0,_,h2,_=>by rw[mU,ai (by rw[h2 b rfl];simp)];rfl
 | b::l,k+1,h1,h2,h3=>by
   rw[mU,ak (h1 0 b ah rfl),cy,YP p l k (fun j c hj hc=>h1 (j+1) c ah (aS hc)) (fun c hc=>h2 c (aS hc)) (aS h3)]
theorem JX(h:aAW (w.alloc (.cells #[v0,v1,v2,v3,v4,v5,v6,v7] t)).heap.size (w.alloc (.cells #[v0,v1,v2,v3,v4,v5,v6,v7] t)) w'):
 (w'.cell? ⟨w.heap.size,0,none⟩=some v0/\w'.cell? ⟨w.heap.size,1,none⟩=some v1/\w'.cell? ⟨w.heap.size,2,none⟩=some v2/\w'.cell? ⟨w.heap.size,3,none⟩=some v3/\w'.cell? ⟨w.heap.size,4,none⟩=some v4/\w'.cell? ⟨w.heap.size,5,none⟩=some v5/\w'.cell? ⟨w.heap.size,6,none⟩=some v6/\w'.cell? ⟨w.heap.size,7,none⟩=some v7)/\
 (∀k,w'.frozen? ⟨w.heap.size,k,none⟩=false)/\w.heap.size<w'.heap.size/\aAW w.heap.size w w':=by
 have hs:=h.size;simp at hs
 have hc: ∀k,w'.cell? ⟨w.heap.size,k,none⟩=(#[v0,v1,v2,v3,v4,v5,v6,v7]:Array Value)[k]? :=fun k=>by
  rw[h.cell (p:=⟨w.heap.size,k,none⟩) aq];have hh:=lJ w (.cells #[v0,v1,v2,v3,v4,v5,v6,v7] t);simp only[aA4,hh];simp
 refine⟨⟨hc 0,hc 1,hc 2,hc 3,hc 4,hc 5,hc 6,hc 7⟩,fun k=>?_,ah,(al w _).trans (h.mono (al w _).size)⟩;rw[h.frozen (p:=⟨w.heap.size,k,none⟩) aq];have hh:=lJ w (.cells #[v0,v1,v2,v3,v4,v5,v6,v7] t);simp only[World.frozen?,hh];simp
def WJ(r:Option aL):aL:=match r with
 |some i=>i
 |none=>Di
def Ve(r:Option aL):Int:=match r with
 |some _=>0
 |none=>91
def dr(r:Option aL)(w:aAX)(e:Ending)(w':aAX):Prop:=e= .returned (.tuple #[vI (WJ r),.int .i64 (Ve r)])/\aAW w.heap.size w w'
theorem dr.no(hr:r=none)(h:e= .returned (.tuple #[.agg #[.int .i64 0,.int .i64 0,.int .i64 0,.int .i64 0,.int .i64 0,.string ⟨#[]⟩,.string ⟨#[]⟩,.int .i64 0],.int .i64 91]))(hb:aAW w.heap.size w w'):dr r w e w':=by
 exact Oj
theorem dr.yes{a b:Int}{av:Tx}(hr:r=some ⟨op,d,a,b,ax,[],av,az⟩)(h:e= .returned (.tuple #[.agg #[.int .i64 op,.int .i64 d,.int .i64 a,.int .i64 b,.int .i64 ax,.string ⟨#[]⟩,.string (tx av),.int .i64 az],.int .i64 0]))(hb:aAW w.heap.size w w'):dr r w e w':=by
 exact Oj
theorem dr.akt{a b:Int}(hr:r=some ⟨op,d,a,b,ax,[],[],az⟩)(h:e= .returned (.tuple #[.agg #[.int .i64 op,.int .i64 d,.int .i64 a,.int .i64 b,.int .i64 ax,.string ⟨#[]⟩,.string ⟨#[]⟩,.int .i64 az],.int .i64 0]))(hb:aAW w.heap.size w w'):dr r w e w':=by
 exact Oj
theorem atW(s:Tx)(hl:262144<s.length)(w:aAX):aA7 prog 44 #[.string (tx s)] w (dr (eN s) w):=by
 obtain⟨r,hr⟩:=aF (eN s);rw[hr];have HK:=af (show r=none by rw[<-hr];unfold eN;rw[ak hl]);obtain⟨n,hn⟩:=aF ((tx s).size);have hz:decide (262144<(n:Int))=true:=by rw[<-hn,bC];simp;omega
 clear hr hl;go_in;go_wp2;exact aZ (by simp[results,results44,go_sem]) rfl (dr.no HK.oo rfl cG)
theorem atY(s:Tx)(hl:s.length<=262144)(ht:aG s=[102,101,110,99,101,46,116,115,111])(w:aAX):aA7 prog 44 #[.string (tx s)] w (dr (eN s) w):=by
 obtain⟨r,hr⟩:=aF (eN s);rw[hr];have HK:=af (show r=some ⟨13,0,0,0,0,[],[],2⟩ by rw[<-hr];unfold eN;rw[ai ah];simp only[ht];rw[ak trivial]);obtain⟨n,hn⟩:=aF ((tx s).size);have gF:n=s.length:=by rw[<-hn,bC]
 have hz:decide (262144<(n:Int))=false:=aC;have TR:=af (fun(w:aAX)=>xp s ah w);rw[ht]at TR;have z:((tx [102,101,110,99,101,46,116,115,111]).toList==[102,101,110,99,101,46,116,115,111])=true:=by rw[bU];rfl
 clear hr hl gF ht;go_in;go_wp2_with fail;refine aQ (TR.oo _) fun w1 E=>?_
 obtain⟨⟨d0,d1,d2,d3,d4,d5,d6,d7⟩,hf,aA,B⟩:=gE E;clear E;go_wp2;exact aZ (by simp[results,results44,go_sem,d0,d1,d2,d3,d4,d5,d6,d7]) rfl (dr.akt HK.oo rfl cG)
theorem atV(s t:Tx)(hl:s.length<=262144)(ht:aG s=t)(h1:t≠[102,101,110,99,101,46,116,115,111])(h2:t.getLast?=some 58)(w:aAX):aA7 prog 44 #[.string (tx s)] w (dr (eN s) w):=by
 obtain⟨r,hr⟩:=aF (eN s);rw[hr];have HK:=af (show r=if aU (aG t.dropLast)then some ⟨12,0,0,0,0,[],aG t.dropLast,0⟩else none by rw[<-hr];unfold eN;rw[ai ah];simp only[ht];rw[ai h1,ak h2]);obtain⟨n,hn⟩:=aF ((tx s).size);have gF:n=s.length:=by rw[<-hn,bC]
 have hz:decide (262144<(n:Int))=false:=aC;have TR:=af (fun(w:aAX)=>xp s ah w);rw[ht]at TR;have htl:=lZ s;rw[ht]at htl;have z:((tx t).toList==[102,101,110,99,101,46,116,115,111])=false:=eD _ _ h1;have hs2:=Lm t 58 ah;rw[show(t.getLast?==some 58)=true by rw[h2];rfl]at hs2;have SF:=af hs2;obtain⟨m,hm⟩:=aF t.length
 have yK:1<=m:=by
  rcases M4 m with h0|h0
  ·rw[h0]at hm;have:=lH hm;rw[this]at h2;cases h2
  exact h0
 have Ws:(tx t).size=m:=by rw[bC,hm]
 have sl: ∀w,(aA1 9 (.string (tx t)) none (some (.int .i64 ((m:Int)-1))) none).run prog w= .ok (.string (tx t.dropLast)) w:=by
  have:=xA t (m-1) ah
  rwa[show((m-1:Nat):Int)=(m:Int)-1 by omega,show t.take (m-1)=t.dropLast by rw[MW,hm]]at this
 have T2:=af (fun(w:aAX)=>xp t.dropLast aC w);have eL:=lZ t.dropLast;have hmb:m<=262144:=ah;rw[Ev,hm]at eL;generalize t.dropLast=u at*;generalize aG u=lb at*;have CK:=af (fun(w:aAX)=>Dw ⟨12,0,0,0,0,[],lb,0⟩ aC w);clear hr hl gF ht hs2 h2 h1 hm htl
 by_cases hnm:aU lb=true
 ·have hE:=wM (i:=⟨12,0,0,0,0,[],lb,0⟩) (by rw[Jy];exact hnm)
  rw[ak hnm]at HK;rw[hE]at CK;clear hE hnm;go_in;go_wp2_with fail;refine aQ (TR.oo _) fun w1 E=>?_
  go_wp2_with fail;refine(SF.oo _).mono ?_;rintro e w2 ⟨rfl,rfl⟩;go_wp2_with fail;refine aQ (T2.oo _) fun w3 E3=>?_
  have E:=aI E E3;go_wp2_with fail;refine aQ (CK.oo _) fun w4 E4=>?_
  obtain⟨⟨f0,f1,f2,f3,f4,f5,f6,f7⟩,uO,dS,B2⟩:=JX E4;have E:=aI E B2;obtain⟨⟨d0,d1,d2,d3,d4,d5,d6,d7⟩,hf,aA,B⟩:=gE E;clear E E3 E4 B2;go_wp2;exact aZ (by simp[results,results44,go_sem,d0,d1,d2,d3,d4,d5,d6,d7]) rfl (dr.yes HK.oo rfl cG)
 have hE:=kL (i:=⟨12,0,0,0,0,[],lb,0⟩) (by rw[Jy];simpa using hnm)
 rw[ai hnm]at HK;rw[hE]at CK;clear hE hnm;go_in;go_wp2_with fail;refine aQ (TR.oo _) fun w1 E=>?_
 go_wp2_with fail;refine(SF.oo _).mono ?_;rintro e w2 ⟨rfl,rfl⟩;go_wp2_with fail;refine aQ (T2.oo _) fun w3 E3=>?_
 have E:=aI E E3;go_wp2_with fail;refine aQ (CK.oo _) fun w4 E4=>?_
 obtain⟨⟨f0,f1,f2,f3,f4,f5,f6,f7⟩,uO,dS,B2⟩:=JX E4;have E:=aI E B2;obtain⟨⟨d0,d1,d2,d3,d4,d5,d6,d7⟩,hf,aA,B⟩:=gE E;clear E E3 E4 B2;go_wp2;exact aZ (by simp[results,results44,go_sem,d0,d1,d2,d3,d4,d5,d6,d7]) rfl (dr.no HK.oo rfl cG)
attribute [local go_sem high] wL jO
theorem Ou{P:Prop}
 (k:aAW (w.alloc (.cells #[v0,v1,v2,v3,v4,v5,v6,v7] t)).heap.size (w.alloc (.cells #[v0,v1,v2,v3,v4,v5,v6,v7] t)) w'->
  w'.cell? ⟨w.heap.size,0,none⟩=some v0->w'.cell? ⟨w.heap.size,1,none⟩=some v1->w'.cell? ⟨w.heap.size,2,none⟩=some v2->w'.cell? ⟨w.heap.size,3,none⟩=some v3->w'.cell? ⟨w.heap.size,4,none⟩=some v4->w'.cell? ⟨w.heap.size,5,none⟩=some v5->w'.cell? ⟨w.heap.size,6,none⟩=some v6->w'.cell? ⟨w.heap.size,7,none⟩=some v7->
  (∀k,w'.frozen? ⟨w.heap.size,k,none⟩=false)->w.heap.size<w'.heap.size->P):
 aAW (w.alloc (.cells #[v0,v1,v2,v3,v4,v5,v6,v7] t)).heap.size (w.alloc (.cells #[v0,v1,v2,v3,v4,v5,v6,v7] t)) w'->P:=fun h=>by
 obtain⟨⟨c0,c1,c2,c3,c4,c5,c6,c7⟩,hf,aA, -⟩:=JX h;exact k h c0 c1 c2 c3 c4 c5 c6 c7 hf aA
theorem Vp{P:Prop}
 (k:aAW (w.alloc (.cells #[v0,v1,v2,v3,v4,v5,v6,v7] t)).heap.size (w.alloc (.cells #[v0,v1,v2,v3,v4,v5,v6,v7] t)) w'->
  w'.cell? ⟨w.heap.size,0,none⟩=some v0->w'.cell? ⟨w.heap.size,1,none⟩=some v1->w'.cell? ⟨w.heap.size,2,none⟩=some v2->w'.cell? ⟨w.heap.size,3,none⟩=some v3->w'.cell? ⟨w.heap.size,4,none⟩=some v4->w'.cell? ⟨w.heap.size,5,none⟩=some v5->w'.cell? ⟨w.heap.size,6,none⟩=some v6->w'.cell? ⟨w.heap.size,7,none⟩=some v7->
  (∀k,w'.frozen? ⟨w.heap.size,k,none⟩=false)->w.heap.size<w'.heap.size->P):
 aAW (w.alloc (.cells #[v0,v1,v2,v3,v4,v5,v6,v7] t)).drew.heap.size (w.alloc (.cells #[v0,v1,v2,v3,v4,v5,v6,v7] t)).drew w'->P:=fun h=>
 Ou k (aI (below_drewN _ 1) h)
theorem iU.XQ(hi:i.aj=[])(aA:b<w.heap.size)(h0:w.cell? ⟨b,0,none⟩=some (.int .i64 i.op))(h1:w.cell? ⟨b,1,none⟩=some (.int .i64 i.d))(h2:w.cell? ⟨b,2,none⟩=some (.int .i64 i.a))(h3:w.cell? ⟨b,3,none⟩=some (.int .i64 i.b))(h4:w.cell? ⟨b,4,none⟩=some (.int .i64 i.ax))(h5:w.cell? ⟨b,5,none⟩=some (.string ⟨#[]⟩))(h6:w.cell? ⟨b,6,none⟩=some (.string (tx i.av)))(h7:w.cell? ⟨b,7,none⟩=some (.int .i64 i.az)):iU w b i:=by
 refine⟨aA,fun k hk=>?_⟩
 match k,hk with
 |0,_=>exact h0
 |1,_=>exact h1
 |2,_=>exact h2
 |3,_=>exact h3
 |4,_=>exact h4
 |5,_=>rw[h5];show _=some (aBF (tx i.aj));rw[hi];rfl
 |6,_=>exact h6
 |7,_=>exact h7
theorem atX(s t:Tx)(hl:s.length<=262144)(ht:aG s=t)(h1:t≠[102,101,110,99,101,46,116,115,111])(h2: ¬t.getLast?=some 58)(w:aAX)(g:Gl w):aA7 prog 44 #[.string (tx s)] w (dr (eN s) w):=by
 obtain⟨r,hr⟩:=aF (eN s);rw[hr];have HK:=af (show fq (t.takeWhile fun c=> !aH c) ((bh 44 (t.dropWhile fun c=> !aH c)).map aG)=r by rw[<-hr];unfold eN;rw[ai ah];simp only[ht];rw[ai h1,ai h2]);obtain⟨n,hn⟩:=aF ((tx s).size);have gF:n=s.length:=by rw[<-hn,bC]
 have hz:decide (262144<(n:Int))=false:=aC;have TR:=af (fun(w:aAX)=>xp s ah w);rw[ht]at TR;have htl:=lZ s;rw[ht]at htl;have z:((tx t).toList==[102,101,110,99,101,46,116,115,111])=false:=eD _ _ h1;have hs2:=Lm t 58 ah;rw[show(t.getLast?==some 58)=false by simpa using h2]at hs2;have SF:=af hs2;obtain⟨m,hm⟩:=aF t.length;have Ws:(tx t).size=m:=by rw[bC,hm]
 have hmb:m<=262144:=ah;have HM:=af hm;have g0:=g.below (al w cK);clear hr hl gF ht hs2 h2 h1 hm htl;go_in;go_wp2_with fail;refine aQ (TR.oo _) fun w1 E=>?_
 have g1:=g0.below E;clear g0;go_wp2_with fail;refine(SF.oo _).mono ?_;rintro e w2 ⟨rfl,rfl⟩;go_wp2_with fail
 go_loop [5] (fun i=> ∃k:Nat,k<=m/\i= .int .i64 k/\Hid (∀(j:Nat) (c:UInt8),j<k->t[j]? =some c->aH c=false)) (fun i=>m-(intOf i).toNat)
 ·exact adq
 obtain⟨k,hk,rfl,HB⟩:=hrel
 by_cases hend:k<m/\ ∃c,t[k]? =some c/\aH c=false
 ·obtain⟨aA,c,hc,hbc⟩:=hend
  have ix:=cH t k c hc
  have Ec:=af (show ∀(j:Nat) (c:UInt8),j<k+1->t[j]? =some c->aH c=false from fun j c' hj hc'=>by
   rcases fO.1 hj with h|h
   ·exact HB.oo j c' h hc'
   subst h;rw[hc]at hc';cases hc';exact hbc)
  have HC:=af hbc;clear hc hbc
  go_wp2_with (go_at_call 101;refine aK (aid c _) ?_;rw[HC.oo])
  go_round
  case rel=>exact⟨k+1,ah,by go_num,Ec⟩
  case measure=>simp[intOf];omega
 have hlen:=YP (fun c=> !aH c) t k (fun j c hj hc=>by rw[HB.oo j c hj hc];rfl) (fun c hc=>by
  have aA:=(bt.1 hc).1;cases hb:aH c with
  |true=>rfl
  |false=>exact absurd ⟨by have:=HM.oo;omega,c,hc,hb⟩ hend) (bE HM.oo)
 have fC:=HK.oo;rw[QL,UE,hlen]at fC;have YK:=xA t k (bE HM.oo);have vD:=xz t k (bE HM.oo)
 have hsm:Sm (bh 44 (t.drop k)):=fun x hx=>by
  have:=He 44 _ x hx;have:=HM.oo;simp at *; omega
 have SP:=af (fun(w:aAX) (g:Gl w)=>axD (t.drop k) (by have:=HM.oo;simp;omega) w g);have RD:=af (fun(a:Option aAZ) (c:Nat) (w:aAX) (h:cO w a (bh 44 (t.drop k))) (g:Gl w)=>at1 (t.take k) (bh 44 (t.drop k)) a c w h hsm g);rw[fC]at RD;clear hsm fC HK hlen;generalize bh 44 (t.drop k)=ps at*;generalize t.drop k=t2 at*;generalize t.take k=t1 at*
 have hex:(k<m/\ ∃c,t[k]? =some c/\aH c=true)\/k=m:=by
  by_cases hkm:k<m
  ·left
   obtain⟨c,hc⟩: ∃c,t[k]? =some c:=⟨_,aV (bE HM.oo)⟩;refine⟨hkm,c,hc,?_⟩;cases hb:aH c with
   |true=>rfl
   |false=>exact absurd ⟨hkm,c,hc,hb⟩ hend
  right;omega
 clear hend;rcases hex with⟨aA,c,hc,hbc⟩|rfl
 ·have ix:=cH t k c hc
  have HC:=af hbc;clear hc hbc
  go_wp2_with (go_at_call 101;refine aK (aid c _) ?_;rw[HC.oo])
  go_cut [6,7] (fun x y wx=> ∃(bb:Nat) (op d a1 b1 ax:Int) (av:Tx) (az:Int) (ok:Bool),x= .pointer (some ⟨bb,0,none⟩)/\y= .bool ok/\Hid (gG ⟨op,d,a1,b1,ax,[],av,az⟩ ok=r)/\av.length<=1000000/\iU wx bb ⟨op,d,a1,b1,ax,[],av,az⟩/\aAW (w.alloc cK).heap.size (w.alloc cK) wx)
  case first=>
   go_region_with (first|(go_at_call 79;refine(SP.oo _ (g1.below cG)).mono ?_;rintro e' w' ⟨a2,rfl,Bm,E2⟩;have g2:=Gl.below (Gl.below g1 cG) E2;have E5:=aI (a:=w1) cG E2;have s5:=E5.size)|(go_at_call 102;refine(RD.oo _ _ _ (by first|exact Bm|exact Bm.below (al _ _)) (by first|exact g2|exact g2.below (al _ _))).mono ?_;rintro e' w' ⟨op,d,a1,b,ax,av,az,ok,rfl,hk,hl,E3⟩;have E6:=aI (a:=w1) (by first|exact E5|exact gU E5 _) E3;have s6:=E6.size;first|(revert E3;with_reducible refine Ou ?_;intro E3 f0 f1 f2 f3 f4 f5 f6 f7 uO dS)|(have o8:=aI E2 E3;revert o8;with_reducible refine Vp ?_;intro o8 f0 f1 f2 f3 f4 f5 f6 f7 uO dS)|skip))
   all_goals
    go_wp2_with fail
    go_meet
    refine⟨_,op,d,a1,b,ax,av,az,ok,rfl,rfl,hk,hl,iU.XQ rfl ?_ ?_ ?_ ?_ ?_ ?_ ?_ ?_ ?_,aI E cG⟩
    all_goals go_simp
  case rest=>
   clear E;obtain⟨bb,op,d,a1,b1,ax,av,az,ok,rfl,rfl,hkk,hl,bx,E⟩:=hcut;have CK:=af (fun(w:aAX)=>Dw ⟨op,d,a1,b1,ax,[],av,az⟩ aC w);obtain⟨q0,q1,q2,q3,q4,q5,q6,q7⟩:=bx.cells;cases ok
   ·obtain⟨⟨d0,d1,d2,d3,d4,d5,d6,d7⟩,hf,aA,B⟩:=gE E
    exact adr
   cases fE:cD ⟨op,d,a1,b1,ax,[],av,az⟩
   ·have hE:=kL fE
    have HN:=af (show r=none by rw[<-hkk.oo];unfold gG;rw[fE];rfl);rw[hE]at CK;clear hE fE;go_wp2_with fail;refine aQ (CK.oo _) fun w9 E4=>?_
    exact ads
   have hE:=wM fE
   have HN:=af (show r=some ⟨op,d,a1,b1,ax,[],av,az⟩ by rw[<-hkk.oo];unfold gG;rw[fE];rfl);rw[hE]at CK;clear hE fE;go_wp2_with fail;refine aQ (CK.oo _) fun w9 E4=>?_
   exact adt
 go_wp2_with fail
 go_cut [6,7] (fun x y wx=> ∃(bb:Nat) (op d a1 b1 ax:Int) (av:Tx) (az:Int) (ok:Bool),x= .pointer (some ⟨bb,0,none⟩)/\y= .bool ok/\Hid (gG ⟨op,d,a1,b1,ax,[],av,az⟩ ok=r)/\av.length<=1000000/\iU wx bb ⟨op,d,a1,b1,ax,[],av,az⟩/\aAW (w.alloc cK).heap.size (w.alloc cK) wx)
 case first=>
  go_region_with (first|(go_at_call 79;refine(SP.oo _ (g1.below cG)).mono ?_;rintro e' w' ⟨a2,rfl,Bm,E2⟩;have g2:=Gl.below (Gl.below g1 cG) E2;have E5:=aI (a:=w1) cG E2;have s5:=E5.size)|(go_at_call 102;refine(RD.oo _ _ _ (by first|exact Bm|exact Bm.below (al _ _)) (by first|exact g2|exact g2.below (al _ _))).mono ?_;rintro e' w' ⟨op,d,a1,b,ax,av,az,ok,rfl,hk,hl,E3⟩;have E6:=aI (a:=w1) (by first|exact E5|exact gU E5 _) E3;have s6:=E6.size;first|(revert E3;with_reducible refine Ou ?_;intro E3 f0 f1 f2 f3 f4 f5 f6 f7 uO dS)|(have o8:=aI E2 E3;revert o8;with_reducible refine Vp ?_;intro o8 f0 f1 f2 f3 f4 f5 f6 f7 uO dS)|skip))
  all_goals
   go_wp2_with fail
   go_meet
   refine⟨_,op,d,a1,b,ax,av,az,ok,rfl,rfl,hk,hl,iU.XQ rfl ?_ ?_ ?_ ?_ ?_ ?_ ?_ ?_ ?_,aI E cG⟩
   all_goals go_simp
 case rest=>
  clear E;obtain⟨bb,op,d,a1,b1,ax,av,az,ok,rfl,rfl,hkk,hl,bx,E⟩:=hcut;have CK:=af (fun(w:aAX)=>Dw ⟨op,d,a1,b1,ax,[],av,az⟩ aC w);obtain⟨q0,q1,q2,q3,q4,q5,q6,q7⟩:=bx.cells;cases ok
  ·obtain⟨⟨d0,d1,d2,d3,d4,d5,d6,d7⟩,hf,aA,B⟩:=gE E
   exact adr
  cases fE:cD ⟨op,d,a1,b1,ax,[],av,az⟩
  ·have hE:=kL fE
   have HN:=af (show r=none by rw[<-hkk.oo];unfold gG;rw[fE];rfl);rw[hE]at CK;clear hE fE;go_wp2_with fail;refine aQ (CK.oo _) fun w9 E4=>?_
   exact ads
  have hE:=wM fE
  have HN:=af (show r=some ⟨op,d,a1,b1,ax,[],av,az⟩ by rw[<-hkk.oo];unfold gG;rw[fE];rfl);rw[hE]at CK;clear hE fE;go_wp2_with fail;refine aQ (CK.oo _) fun w9 E4=>?_
  exact adt
theorem atU(s:Tx)(w:aAX)(g:Gl w):aA7 prog 44 #[.string (tx s)] w (dr (eN s) w):=by
 by_cases hl:s.length<=262144
 ·by_cases h1:aG s=[102,101,110,99,101,46,116,115,111]
  ·exact atY s hl h1 w
  by_cases h2:(aG s).getLast?=some 58
  ·exact atV s _ hl rfl h1 h2 w
  exact atX s _ hl rfl h1 h2 w g
 exact atW s ah w
theorem tL:UF cL 297:=fun c=>Gp c _ ay
theorem mI:UF bf 298:=fun c=>Fk c _ ay
theorem aim:UF cL 204:=fun c=>Gp c _ ay
theorem xq:UF bf 200:=fun c=>Fk c _ ay
theorem air:UF bf 308:=fun c=>Fk c _ ay
theorem abJ:SF aU 322:=fun l hl=>Gy l hl _ ay
theorem GL:SF aU 118:=fun l hl=>Gy l hl _ ay
theorem GM:SF aU 252:=fun l hl=>Gy l hl _ ay
theorem ag2(l:Tx)(hl:l.length<=9223372036854775807)(F:Nat)(hF:F∈[177,225])(w:aAX):aA7 prog F #[.string (tx l)] w fun e w'=>e= .returned (.bool (aU l))/\w=w':=by
 simp only[cq,qO,qK]at hF;rcases hF with rfl|rfl
 all_goals
  have hs:=bC l;cases l with
  | nil=>
    have hs:(tx []).size=0:=rfl;exact wK
  | cons c r=>
    obtain⟨n,hn⟩:=aF ((tx (c::r)).size);have nc:1<=n:=by rw[<-hn,hs];simp
    have AL:n=r.length+1:=by rw[<-hn,hs];simp
    by_cases Ow:n<=32
    ·have i0:=oU (c::r) c rfl
     have HR:=af AL;go_in;go_wp2_with fail
     go_loop [3] (fun i=> ∃k:Nat,k<=n/\i= .int .i64 k/\Hid (∀(i:Nat) (x:UInt8),i<k->(c::r)[i]? =some x->dO x=true)/\Hid (0<k->cL c=true)) (fun i=>n-(intOf i).toNat)
     ·exact⟨0,ah,rfl,fun i x hi=>absurd hi (iz i),fun h=>absurd h (Je 0)⟩
     obtain⟨k,hk,rfl,HM,HK⟩:=hrel
     by_cases aA:k<n
     ·by_cases hk0:k=0
      ·subst hk0
       have hlt':c.toNat<256:=c.toNat_lt;obtain⟨m,hm⟩:=aF c.toNat;have HC:=af (Xe c);rw[hm]at i0 hlt' HC
       have HY:=af (show cL c=true->Hid (∀(i:Nat) (x:UInt8),i<1->(c::r)[i]? =some x->dO x=true)from fun h i x hi hx=>by
        obtain rfl:i=0:=ah;cases hx;unfold dO;rw[h];rfl)
       have HF:=af (show cL c=false->aU (c::r)=false from fun h=>by rw[Gv,h];simp);have gi:0<n:=ah;have hp:m<65\/(65<=m/\m<=90)\/(91<=m/\m<=96)\/(97<=m/\m<=122)\/123<=m:=ah;rcases hp with h|⟨h,h'⟩|⟨h,h'⟩|⟨h,h'⟩|h
       all_goals
        (try(have azS:(!decide ((m:Int)<=122))=true:=aC))
        (try(have z90:(!decide ((m:Int)<=90))=true:=aC))
        go_wp2_with fail
        first
        |(go_round
          case rel=>exact⟨1,ah,by go_num,HY.oo (by rw[HC.oo];simp<;>omega),af fun _=>by rw[HC.oo];simp<;>omega⟩
          case measure=>simp[intOf];omega)
        |(go_ret
          exact⟨eC (HF.oo (by rw[HC.oo];simp<;>omega)).symm,rfl⟩)
      have iG:0<k:=ah
      obtain⟨x,hx⟩: ∃x,(c::r)[k]? =some x:=⟨_,aV (by have:=HR.oo;simp;omega)⟩;have ix:=cH (c::r) k x hx;have hlt':x.toNat<256:=x.toNat_lt;obtain⟨m,hm⟩:=aF x.toNat;have HC:=af (show dO x=(((decide (97<=m)&&decide (m<=122))||(decide (65<=m)&&decide (m<=90)))||(decide (48<=m)&&decide (m<=57))||decide (m=95)) by rw[agY,Xe,acf,hm]);rw[hm]at ix hlt';have HF:=af (fun h=>agW (l:=c::r) (k:=k) (c:=x) hx h)
      have gJ:dO x=true->Hid (∀(i:Nat) (y:UInt8),i<k+1->(c::r)[i]? =some y->dO y=true):=fun hx' i y hi hy=>by
       rcases fO.1 hi with h|h
       ·exact Fo
       subst h;rw[hx]at hy;cases hy;exact hx'
      have gJ:=af gJ;have HL:=af (HK.oo iG);have hp:m<48\/(48<=m/\m<=57)\/(58<=m/\m<=64)\/(65<=m/\m<=90)\/(91<=m/\m<=94)\/m=95\/m=96\/(97<=m/\m<=122)\/123<=m:=ah;rcases hp with h|⟨h,h'⟩|⟨h,h'⟩|⟨h,h'⟩|⟨h,h'⟩|h|h|⟨h,h'⟩|h
      all_goals
       (try(have azS:(!decide ((m:Int)<=122))=true:=aC))
       (try(have z90:(!decide ((m:Int)<=90))=true:=aC))
       (try(have z57:(!decide ((m:Int)<=57))=true:=aC))
       (try(have z95:((m:Int)==95)=false:=aC))
       (try subst h)
       go_wp2_with fail
       first
       |(go_round
         case rel=>exact⟨k+1,ah,by go_num,gJ.oo (by rw[HC.oo];simp<;>omega),fun _=>HL.oo⟩
         case measure=>simp[intOf];omega)
       |(go_ret
         exact⟨eC (HF.oo (by rw[HC.oo];simp<;>omega)).symm,rfl⟩)
     have HF:=af (agU (c:=c) (r:=r) (bE HR.oo) (HK.oo ah) (fun i x hi=>HM.oo i x (by
      have h1:=(bt.1 hi).1;have:=HR.oo;simp at h1;omega) hi))
     exact UU
    have HF:=af (show aU (c::r)=false by rw[Gv,eZ ah];simp)
    exact U7
theorem Pm:SF aU 177:=fun l hl=>ag2 l hl _ ay
theorem aeJ:SF aU 225:=fun l hl=>ag2 l hl _ ay
theorem Pn:xP bJ 178:=fun c=>GB c _ ay
theorem an3:xP bJ 226:=fun c=>GB c _ ay
theorem amK:xP bJ 279:=fun c=>GB c _ ay
theorem Qg:xP bJ 201:=fun c=>GB c _ ay
theorem KX:xP bJ 309:=fun c=>GB c _ ay
theorem WS:xP gu 179:=fun c=>aiV c _ ay
theorem Ye:xP gu 333:=fun c=>aiV c _ ay
section
variable (op d a b ax:Int) (aj av:Tx) (az:Int) (w:aAX)
theorem azI(hl:aj.length<=9223372036854775807):aA7 prog 97 #[vI ⟨1,d,a,b,ax,aj,av,az⟩] w (bg w (.int .i64 (fI ⟨1,d,a,b,ax,aj,av,az⟩))):=by
 have hc:fh ⟨1,d,a,b,ax,aj,av,az⟩=(eM ⟨1,d,a,b,ax,aj,av,az⟩&&decide ((⟨1,0,0,0,ax,aj,[],0⟩:aL)=⟨1,d,a,b,ax,aj,av,az⟩)):=by
  exact adu
 have ok:eM ⟨1,d,a,b,ax,aj,av,az⟩=(aU aj&&bJ ax):=by cases k0:aU aj<;>cases k1:bJ ax<;>simp[eM,k0,k1]
 have he:fI ⟨1,d,a,b,ax,aj,av,az⟩=if(((aU aj&&bJ ax))&&decide ((⟨1,0,0,0,ax,aj,[],0⟩:aL)=⟨1,d,a,b,ax,aj,av,az⟩))=true then 0 else 91:=by unfold fI;rw[hc,ok]
 obtain⟨n,hn⟩: ∃n,n= !decide ((⟨1,0,0,0,ax,aj,[],0⟩:aL)=⟨1,d,a,b,ax,aj,av,az⟩):=⟨_,rfl⟩;have oH: ∀w,(binOp .neq 50 (.agg #[.int .i64 1,.int .i64 0,.int .i64 0,.int .i64 0,.int .i64 ax,.string (tx aj),.string ⟨#[]⟩,.int .i64 0]) (.agg #[.int .i64 1,.int .i64 d,.int .i64 a,.int .i64 b,.int .i64 ax,.string (tx aj),.string (tx av),.int .i64 az])).run prog w= .ok (.bool n) w:=fun w=>by rw[hn];exact jO ⟨1,0,0,0,ax,aj,[],0⟩ ⟨1,d,a,b,ax,aj,av,az⟩ w
 cases h0:aU aj<;>cases h1:bJ ax<;>cases hq:decide ((⟨1,0,0,0,ax,aj,[],0⟩:aL)=⟨1,d,a,b,ax,aj,av,az⟩)
 all_goals
  rw[hq]at hn;simp only[mV,nK]at hn;subst hn;rw[hq,h0,h1]at he;have HE:=af he;replace h0:=af h0;replace h1:=af h1;go_in
  go_wp2_with (first|(go_at_call 177;refine aK (Pm aj hl _) ?_;rw[h0.oo])|(go_at_call 178;refine aK (Pn ax _) ?_;rw[h1.oo]))
  exact jl
theorem azJ(hl:aj.length<=9223372036854775807):aA7 prog 97 #[vI ⟨2,d,a,b,ax,aj,av,az⟩] w (bg w (.int .i64 (fI ⟨2,d,a,b,ax,aj,av,az⟩))):=by
 have hc:fh ⟨2,d,a,b,ax,aj,av,az⟩=(eM ⟨2,d,a,b,ax,aj,av,az⟩&&decide ((⟨2,0,a,0,0,aj,[],0⟩:aL)=⟨2,d,a,b,ax,aj,av,az⟩)):=by
  exact adv
 have ok:eM ⟨2,d,a,b,ax,aj,av,az⟩=(aU aj&&gu a):=by cases k0:aU aj<;>cases k1:gu a<;>simp[eM,k0,k1]
 have he:fI ⟨2,d,a,b,ax,aj,av,az⟩=if(((aU aj&&gu a))&&decide ((⟨2,0,a,0,0,aj,[],0⟩:aL)=⟨2,d,a,b,ax,aj,av,az⟩))=true then 0 else 91:=by unfold fI;rw[hc,ok]
 obtain⟨n,hn⟩: ∃n,n= !decide ((⟨2,0,a,0,0,aj,[],0⟩:aL)=⟨2,d,a,b,ax,aj,av,az⟩):=⟨_,rfl⟩;have oH: ∀w,(binOp .neq 50 (.agg #[.int .i64 2,.int .i64 0,.int .i64 a,.int .i64 0,.int .i64 0,.string (tx aj),.string ⟨#[]⟩,.int .i64 0]) (.agg #[.int .i64 2,.int .i64 d,.int .i64 a,.int .i64 b,.int .i64 ax,.string (tx aj),.string (tx av),.int .i64 az])).run prog w= .ok (.bool n) w:=fun w=>by rw[hn];exact jO ⟨2,0,a,0,0,aj,[],0⟩ ⟨2,d,a,b,ax,aj,av,az⟩ w
 cases h0:aU aj<;>cases h1:gu a<;>cases hq:decide ((⟨2,0,a,0,0,aj,[],0⟩:aL)=⟨2,d,a,b,ax,aj,av,az⟩)
 all_goals
  rw[hq]at hn;simp only[mV,nK]at hn;subst hn;rw[hq,h0,h1]at he;have HE:=af he;replace h0:=af h0;replace h1:=af h1;go_in
  go_wp2_with (first|(go_at_call 177;refine aK (Pm aj hl _) ?_;rw[h0.oo])|(go_at_call 179;refine aK (WS a _) ?_;rw[h1.oo]))
  exact jl
theorem azK(hl:aj.length<=9223372036854775807):aA7 prog 97 #[vI ⟨3,d,a,b,ax,aj,av,az⟩] w (bg w (.int .i64 (fI ⟨3,d,a,b,ax,aj,av,az⟩))):=by
 have hc:fh ⟨3,d,a,b,ax,aj,av,az⟩=(eM ⟨3,d,a,b,ax,aj,av,az⟩&&decide ((⟨3,d,0,0,0,aj,[],0⟩:aL)=⟨3,d,a,b,ax,aj,av,az⟩)):=by
  exact adw
 have ok:eM ⟨3,d,a,b,ax,aj,av,az⟩=(aU aj&&gu d):=by cases k0:aU aj<;>cases k1:gu d<;>simp[eM,k0,k1]
 have he:fI ⟨3,d,a,b,ax,aj,av,az⟩=if(((aU aj&&gu d))&&decide ((⟨3,d,0,0,0,aj,[],0⟩:aL)=⟨3,d,a,b,ax,aj,av,az⟩))=true then 0 else 91:=by unfold fI;rw[hc,ok]
 obtain⟨n,hn⟩: ∃n,n= !decide ((⟨3,d,0,0,0,aj,[],0⟩:aL)=⟨3,d,a,b,ax,aj,av,az⟩):=⟨_,rfl⟩;have oH: ∀w,(binOp .neq 50 (.agg #[.int .i64 3,.int .i64 d,.int .i64 0,.int .i64 0,.int .i64 0,.string (tx aj),.string ⟨#[]⟩,.int .i64 0]) (.agg #[.int .i64 3,.int .i64 d,.int .i64 a,.int .i64 b,.int .i64 ax,.string (tx aj),.string (tx av),.int .i64 az])).run prog w= .ok (.bool n) w:=fun w=>by rw[hn];exact jO ⟨3,d,0,0,0,aj,[],0⟩ ⟨3,d,a,b,ax,aj,av,az⟩ w
 cases h0:aU aj<;>cases h1:gu d<;>cases hq:decide ((⟨3,d,0,0,0,aj,[],0⟩:aL)=⟨3,d,a,b,ax,aj,av,az⟩)
 all_goals
  rw[hq]at hn;simp only[mV,nK]at hn;subst hn;rw[hq,h0,h1]at he;have HE:=af he;replace h0:=af h0;replace h1:=af h1;go_in
  go_wp2_with (first|(go_at_call 177;refine aK (Pm aj hl _) ?_;rw[h0.oo])|(go_at_call 179;refine aK (WS d _) ?_;rw[h1.oo]))
  exact jl
theorem azL(hl:aj.length<=9223372036854775807):aA7 prog 97 #[vI ⟨4,d,a,b,ax,aj,av,az⟩] w (bg w (.int .i64 (fI ⟨4,d,a,b,ax,aj,av,az⟩))):=by
 have hc:fh ⟨4,d,a,b,ax,aj,av,az⟩=(eM ⟨4,d,a,b,ax,aj,av,az⟩&&decide ((⟨4,d,0,0,ax,[],[],0⟩:aL)=⟨4,d,a,b,ax,aj,av,az⟩)):=by
  exact adx
 have ok:eM ⟨4,d,a,b,ax,aj,av,az⟩=(gu d&&bJ ax):=by cases k0:gu d<;>cases k1:bJ ax<;>simp[eM,k0,k1]
 have he:fI ⟨4,d,a,b,ax,aj,av,az⟩=if(((gu d&&bJ ax))&&decide ((⟨4,d,0,0,ax,[],[],0⟩:aL)=⟨4,d,a,b,ax,aj,av,az⟩))=true then 0 else 91:=by unfold fI;rw[hc,ok]
 obtain⟨n,hn⟩: ∃n,n= !decide ((⟨4,d,0,0,ax,[],[],0⟩:aL)=⟨4,d,a,b,ax,aj,av,az⟩):=⟨_,rfl⟩;have oH: ∀w,(binOp .neq 50 (.agg #[.int .i64 4,.int .i64 d,.int .i64 0,.int .i64 0,.int .i64 ax,.string ⟨#[]⟩,.string ⟨#[]⟩,.int .i64 0]) (.agg #[.int .i64 4,.int .i64 d,.int .i64 a,.int .i64 b,.int .i64 ax,.string (tx aj),.string (tx av),.int .i64 az])).run prog w= .ok (.bool n) w:=fun w=>by rw[hn];exact jO ⟨4,d,0,0,ax,[],[],0⟩ ⟨4,d,a,b,ax,aj,av,az⟩ w
 cases h0:gu d<;>cases h1:bJ ax<;>cases hq:decide ((⟨4,d,0,0,ax,[],[],0⟩:aL)=⟨4,d,a,b,ax,aj,av,az⟩)
 all_goals
  rw[hq]at hn;simp only[mV,nK]at hn;subst hn;rw[hq,h0,h1]at he;have HE:=af he;replace h0:=af h0;replace h1:=af h1;go_in
  go_wp2_with (first|(go_at_call 179;refine aK (WS d _) ?_;rw[h0.oo])|(go_at_call 178;refine aK (Pn ax _) ?_;rw[h1.oo]))
  exact jl
theorem azM(hl:aj.length<=9223372036854775807):aA7 prog 97 #[vI ⟨5,d,a,b,ax,aj,av,az⟩] w (bg w (.int .i64 (fI ⟨5,d,a,b,ax,aj,av,az⟩))):=by
 have hc:fh ⟨5,d,a,b,ax,aj,av,az⟩=(eM ⟨5,d,a,b,ax,aj,av,az⟩&&decide ((⟨5,0,0,0,0,[],[],0⟩:aL)=⟨5,d,a,b,ax,aj,av,az⟩)):=by
  exact ady
 have ok:eM ⟨5,d,a,b,ax,aj,av,az⟩=true:=by simp[eM]
 have he:fI ⟨5,d,a,b,ax,aj,av,az⟩=if((true)&&decide ((⟨5,0,0,0,0,[],[],0⟩:aL)=⟨5,d,a,b,ax,aj,av,az⟩))=true then 0 else 91:=by unfold fI;rw[hc,ok]
 obtain⟨n,hn⟩: ∃n,n= !decide ((⟨5,0,0,0,0,[],[],0⟩:aL)=⟨5,d,a,b,ax,aj,av,az⟩):=⟨_,rfl⟩;have oH: ∀w,(binOp .neq 50 (.agg #[.int .i64 5,.int .i64 0,.int .i64 0,.int .i64 0,.int .i64 0,.string ⟨#[]⟩,.string ⟨#[]⟩,.int .i64 0]) (.agg #[.int .i64 5,.int .i64 d,.int .i64 a,.int .i64 b,.int .i64 ax,.string (tx aj),.string (tx av),.int .i64 az])).run prog w= .ok (.bool n) w:=fun w=>by rw[hn];exact jO ⟨5,0,0,0,0,[],[],0⟩ ⟨5,d,a,b,ax,aj,av,az⟩ w
 cases hq:decide ((⟨5,0,0,0,0,[],[],0⟩:aL)=⟨5,d,a,b,ax,aj,av,az⟩)
 all_goals
  rw[hq]at hn;simp only[mV,nK]at hn;subst hn;rw[hq]at he;have HE:=af he;exact Od
theorem azN(ho:op<1\/5<op):aA7 prog 97 #[vI ⟨op,d,a,b,ax,aj,av,az⟩] w (bg w (.int .i64 (fI ⟨op,d,a,b,ax,aj,av,az⟩))):=by
 have hc:fh ⟨op,d,a,b,ax,aj,av,az⟩=false:=by
  exact adz
 have HE:=af (Vg hc);have z1:(op==1)=false:=aC;have z2:(op==2)=false:=aC;have z3:(op==3)=false:=aC;have z4:(op==4)=false:=aC;have z5:(op==5)=false:=aC;exact Od
end
theorem Q4(i:aL)(hl:i.aj.length<=9223372036854775807)(w:aAX):aA7 prog 97 #[vI i] w (bg w (.int .i64 (fI i))):=by
 obtain⟨op,d,a,b,ax,aj,av,az⟩:=i
 by_cases h1:op=1
 ·subst h1;exact azI _ _ _ _ _ _ _ _ hl
 by_cases h2:op=2
 ·subst h2;exact azJ _ _ _ _ _ _ _ _ hl
 by_cases h3:op=3
 ·subst h3;exact azK _ _ _ _ _ _ _ _ hl
 by_cases h4:op=4
 ·subst h4;exact azL _ _ _ _ _ _ _ _ hl
 by_cases h5:op=5
 ·subst h5;exact azM _ _ _ _ _ _ _ _ hl
 exact azN _ _ _ _ _ _ _ _ _ ah
attribute [local go_sem high] wL jO
theorem G8(a b t:Tx)(ht:a++b=t)(h:t.length<=1000): ∀w,(aBG .add (tx a) (tx b)).run prog w= .ok (.string (tx t)) w:=by
 subst ht;exact lX a b (by simp at h;omega)
theorem alN(a b:Tx)(ha:tx a=va)(hb:tx b=vb)(K:Nat)(h:a.length+b.length<=K)(hK:K<=1000): ∃t:Tx,a++b=t/\t.length<=K/\ ∀w,(aBG .add va vb).run prog w= .ok (.string (tx t)) w:=by
 subst ha hb;exact⟨_,rfl,by simpa using h,G8 a b _ rfl aC⟩
theorem Ug(a b c:Tx)(ha:tx a=va)(hb:tx b=vb)(hc:tx c=vc)(h:a.length+b.length+c.length<=1000): ∃t1 t2:Tx,a++b++c=t2/\t2.length=a.length+b.length+c.length/\(∀w,(aBG .add va vb).run prog w= .ok (.string (tx t1)) w)/\ ∀w,(aBG .add (tx t1) vc).run prog w= .ok (.string (tx t2)) w:=by
 subst ha hb hc;exact⟨_,_,rfl,aC,G8 a b _ rfl aC,G8 _ c _ rfl aC⟩
theorem Nw(a b c d:Tx)(ha:tx a=va)(hb:tx b=vb)(hc:tx c=vc)(hd:tx d=vd)(h:a.length+b.length+c.length+d.length<=1000): ∃t1 t2 t3:Tx,a++b++c++d=t3/\t3.length=a.length+b.length+c.length+d.length/\(∀w,(aBG .add va vb).run prog w= .ok (.string (tx t1)) w)/\(∀w,(aBG .add (tx t1) vc).run prog w= .ok (.string (tx t2)) w)/\ ∀w,(aBG .add (tx t2) vd).run prog w= .ok (.string (tx t3)) w:=by
 obtain⟨t1,t2,ht,hl,c1,c2⟩:=Ug a b c ha hb hc ah;subst hd ht;exact⟨_,_,_,rfl,aC,c1,c2,G8 _ d _ rfl aC⟩
theorem Nx(a b c d e:Tx)(ha:tx a=va)(hb:tx b=vb)(hc:tx c=vc)(hd:tx d=vd)(he:tx e=ve)(h:a.length+b.length+c.length+d.length+e.length<=1000): ∃t1 t2 t3 t4:Tx,a++b++c++d++e=t4/\t4.length=a.length+b.length+c.length+d.length+e.length/\(∀w,(aBG .add va vb).run prog w= .ok (.string (tx t1)) w)/\(∀w,(aBG .add (tx t1) vc).run prog w= .ok (.string (tx t2)) w)/\(∀w,(aBG .add (tx t2) vd).run prog w= .ok (.string (tx t3)) w)/\ ∀w,(aBG .add (tx t3) ve).run prog w= .ok (.string (tx t4)) w:=by
 obtain⟨t1,t2,t3,ht,hl,c1,c2,c3⟩:=Nw a b c d ha hb hc hd ah;subst he ht;exact⟨_,_,_,_,rfl,aC,c1,c2,c3,G8 _ e _ rfl aC⟩
theorem Ny{vf:ByteArray}(a b c d e f:Tx)(ha:tx a=va)(hb:tx b=vb)(hc:tx c=vc)(hd:tx d=vd)(he:tx e=ve)(hf:tx f=vf)(h:a.length+b.length+c.length+d.length+e.length+f.length<=1000): ∃t1 t2 t3 t4 t5:Tx,a++b++c++d++e++f=t5/\(∀w,(aBG .add va vb).run prog w= .ok (.string (tx t1)) w)/\(∀w,(aBG .add (tx t1) vc).run prog w= .ok (.string (tx t2)) w)/\(∀w,(aBG .add (tx t2) vd).run prog w= .ok (.string (tx t3)) w)/\(∀w,(aBG .add (tx t3) ve).run prog w= .ok (.string (tx t4)) w)/\ ∀w,(aBG .add (tx t4) vf).run prog w= .ok (.string (tx t5)) w:=by
 obtain⟨t1,t2,t3,t4,ht,hl,c1,c2,c3,c4⟩:=Nx a b c d e ha hb hc hd he ah;subst hf ht;exact⟨_,_,_,_,_,rfl,c1,c2,c3,c4,G8 _ f _ rfl aC⟩
theorem Ya(z:Int)(h:ek z=true)(w:aAX):aA7 prog 123 #[.int .i64 z] w fun e w'=>e= .returned (.tuple #[.string (tx (rT z)),.int .i64 0])/\w=w':=by
 obtain⟨n,hn,rfl⟩:=Le h;exact Qd n hn w
theorem Yi{z:Int}(h:ek z=true):(rT z).length<=5:=by
 obtain⟨n,hn,rfl⟩:=Le h;unfold rT;simpa using pO hn
theorem Jx(h:cD i=true):gm i=true/\i=rH i/\ek i.d=true/\ek i.a=true/\ek i.b=true:=by
 unfold cD at h;simp only[bV,dw]at h;exact⟨h.1.1.1.1,h.1.1.1.2,h.1.1.2,h.1.2,h.2⟩
theorem al0(h:cD i=true):(6<=i.op/\i.op<=13)/\(i.op=8-> -2048<=i.ax/\i.ax<=2047)/\(i.op=13->2<=i.az/\i.az<=11)/\i.av.length<=32:=by
 obtain⟨ho,hw, -⟩:=Jx h
 have hl:i.op=11\/i.op=12\/i.av=[]:=by
  by_cases h1:i.op=11\/i.op=12
  ·omega
  refine .inr (.inr ?_)
  rw[hw];unfold rH
  repeat' split
  all_goals first|rfl|omega
 unfold gm at ho
 by_cases h1:i.op=11\/i.op=12
 ·rw[ai ah,ak h1]at ho
  exact⟨ ah,ah,ah,(pM ho).2⟩
 have hl:i.av.length<=32:=by
  rw[(hl.resolve_left (fun h=>h1 (.inl h))).resolve_left (fun h=>h1 (.inr h))];simp
 refine⟨?_,?_,?_,hl⟩
 all_goals
  split at ho
  ·simp only[bV,dw]at ho;omega
  split at ho<;>(simp only[bV,dw]at ho;omega)
theorem at0(i:aL)(h:cD i=true)(w:aAX)(g:Gl w):aA7 prog 208 #[vI i] w (bg w (.tuple #[.string (tx (fH i)),.int .i64 0])):=by
 obtain⟨-, -, hd,ha,hb⟩:=Jx h;obtain⟨ho,hi,hf,hl⟩:=al0 h;have E1:=al w (j6 i);have b0:=iU.new w i;have g:=g.below E1;have HE:=af (wM h);have CK:=af (Dw i ah);have ld:=Yi hd;have Rd:=af hd;have la:=Yi ha;have Ra:=af ha;have lb:=Yi hb;have Rb:=af hb;obtain⟨op,d,a,b,ax,aj,av,az⟩:=i;have li:=UA ax;simp only at ho hi hf hl ld la lb Rd Ra Rb;have hop:op=6\/op=7\/op=8\/op=9\/op=10\/op=11\/op=12\/op=13:=ah;rcases hop with rfl|rfl|rfl|rfl|rfl|rfl|rfl|rfl
 focus
  obtain⟨t1,t2,t3,t4,ht,-, c1,c2,c3,c4⟩:=Nx (va:=⟨#[108,119,32]⟩) (vc:=⟨#[44,48,40]⟩) (ve:=⟨#[41]⟩) [108,119,32] (rT d) [44,48,40] (rT a) [41] rfl rfl rfl rfl rfl sB;have HP:=af (show fH ⟨6,d,a,b,ax,aj,av,az⟩=t4 from ht)
 rotate_left
 focus
  obtain⟨t1,t2,t3,t4,ht,-, c1,c2,c3,c4⟩:=Nx (va:=⟨#[115,119,32]⟩) (vc:=⟨#[44,48,40]⟩) (ve:=⟨#[41]⟩) [115,119,32] (rT b) [44,48,40] (rT a) [41] rfl rfl rfl rfl rfl sB;have HP:=af (show fH ⟨7,d,a,b,ax,aj,av,az⟩=t4 from ht)
 rotate_left
 focus
  obtain⟨h1,h2⟩:=hi rfl;have HI:=af (Po (n:=ax) ah ah);obtain⟨t1,t2,t3,t4,t5,ht,c1,c2,c3,c4,c5⟩:=Ny (va:=⟨#[111,114,105,32]⟩) (vc:=⟨#[44]⟩) (ve:=⟨#[44]⟩) [111,114,105,32] (rT d) [44] (rT a) [44] (jI ax) rfl rfl rfl rfl rfl rfl sB;have HP:=af (show fH ⟨8,d,a,b,ax,aj,av,az⟩=t5 from ht)
 rotate_left
 focus
  obtain⟨t1,t2,t3,t4,t5,ht,c1,c2,c3,c4,c5⟩:=Ny (va:=⟨#[120,111,114,32]⟩) (vc:=⟨#[44]⟩) (ve:=⟨#[44]⟩) [120,111,114,32] (rT d) [44] (rT a) [44] (rT b) rfl rfl rfl rfl rfl rfl sB;have HP:=af (show fH ⟨9,d,a,b,ax,aj,av,az⟩=t5 from ht)
 rotate_left
 focus
  obtain⟨t1,t2,t3,t4,t5,ht,c1,c2,c3,c4,c5⟩:=Ny (va:=⟨#[97,100,100,32]⟩) (vc:=⟨#[44]⟩) (ve:=⟨#[44]⟩) [97,100,100,32] (rT d) [44] (rT a) [44] (rT b) rfl rfl rfl rfl rfl rfl sB;have HP:=af (show fH ⟨10,d,a,b,ax,aj,av,az⟩=t5 from ht)
 rotate_left
 focus
  obtain⟨t1,t2,t3,t4,t5,ht,c1,c2,c3,c4,c5⟩:=Ny (va:=⟨#[98,110,101,32]⟩) (vc:=⟨#[44]⟩) (ve:=⟨#[44]⟩) [98,110,101,32] (rT a) [44] (rT b) [44] av rfl rfl rfl rfl rfl rfl sB;have HP:=af (show fH ⟨11,d,a,b,ax,aj,av,az⟩=t5 from ht)
 rotate_left
 focus
  obtain⟨t1,ht,-, c1⟩:=alN (vb:=⟨#[58]⟩) av [58] rfl rfl 100 sB ah;have HP:=af (show fH ⟨12,d,a,b,ax,aj,av,az⟩=t1 from ht)
 rotate_left
 focus
  obtain⟨h1,h2⟩:=hf rfl;have HP:=af (show fH ⟨13,d,a,b,ax,aj,av,az⟩=Fy az from rfl);have PF:=af (atv az h1 h2);generalize Fy az=t1 at*
 rotate_left
 all_goals
  go_in;go_wp2_with fail;refine(CK.oo _).mono ?_;rintro x w1 ⟨rfl,E⟩;rw[HE.oo];have bb:=b0.below E;have g:=g.below E;have B:=aI E1 E;obtain⟨q0,q1,q2,q3,q4,q5,q6,q7⟩:=bb.cells;go_wp2_with fail;refine(Ya d Rd.oo _).mono ?_;rintro x w2 ⟨rfl,rfl⟩;go_wp2_with fail;refine(Ya a Ra.oo _).mono ?_;rintro x w2 ⟨rfl,rfl⟩;go_wp2_with fail;refine(Ya b Rb.oo _).mono ?_;rintro x w2 ⟨rfl,rfl⟩;go_wp2_with fail
 rotate_left 2
 focus
  refine(tU ax ah ah _ g).mono ?_;rintro x w3 ⟨rfl,E⟩;rw[HI.oo];have B:=aI B E;go_wp2_with fail
 rotate_left 5
 focus
  refine(PF.oo _).mono ?_;rintro x w3 ⟨rfl,E⟩;have B:=aI B E;go_wp2_with fail
 all_goals
  go_ret2;exact⟨Yy (by rw[HP.oo]) rfl,B⟩
theorem atZ(i:aL)(hl:i.av.length<=9223372036854775807)(h:cD i=false)(w:aAX):aA7 prog 208 #[vI i] w (bg w (.tuple #[.string (tx []),.int .i64 91])):=by
 have E1:=al w (j6 i);have b0:=iU.new w i;have HE:=af (kL h);go_in;go_wp2_with fail;refine(Dw i hl _).mono ?_;rintro x w1 ⟨rfl,E⟩;rw[HE.oo];go_wp2;go_ret2;exact⟨rfl,aI E1 E⟩
end Go.Proofs.YtkbbgjloifmmbaaGreatDoor
