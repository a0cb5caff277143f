/- What ReadBlanksP leans on, part 19. -/
import Derived.Test.YtkbbgjloifmmbaaGreatDoorPc15
import Derived.Laws.Runes
import Derived.Laws.RangeString
import Derived.Deep.LoopGhost
import Derived.Scope
import Derived.Shelf.Strings.FieldsFuncGrows
import Derived.Shelf.Strings.Search2
set_option linter.unusedVariables false
set_option maxRecDepth 1000000
set_option maxHeartbeats 6400000
open _root_.Go.Proofs.Tryz
open _root_.List renaming dropWhile_cons_of_pos->apq,dropWhile_suffix->apr,length_cons->ans,takeWhile_cons_of_pos->aps,length_append->aoW,takeWhile_append_dropWhile->aoj,mem_cons->anE,dropWhile_append_of_pos->apu,takeWhile_prefix->apv,length_drop->aoN,dropWhile_cons_of_neg->apw,length->anO,takeWhile_cons->aom,length_nil->apa,mem_append->aok,getElem?_eq_getElem->am9,takeWhile_append_of_pos->apz,all_takeWhile->aoX,mem_cons_self->apA,all_eq_true->anF,eq_of_mem_replicate->apC,drop_drop->apD,mem_cons_of_mem->apF,length_dropLast->apG,dropWhile_cons->anV,map_map->apK,mem_singleton->aoi,append_assoc->anZ,cons_append->aod,length_take->ao2,head?_drop->ao4
open _root_.Go.Lib renaming indexByte->apt,cut->apx,hasPrefix->aoL,trimRightS->apE,trimLeftS->apH,index->apI,count->apJ
open _root_.Bool renaming and_eq_true->anS,eq_iff_iff->an8
open _root_.Go.Value renaming string->apy
open _root_.Go.Utf8 renaming valid->apB
open _root_.Go.Instr renaming index->apm,sliceAt->anh
open _root_.Nat renaming le_refl->anb,zero_le->apL
namespace Go.Proofs.YtkbbgjloifmmbaaGreatDoor
open Go.RowKit
variable{ok:Bool}{af v:Int}{p:Int × Nd}{one:List Tok->PR Nd}{d:Nat}{fr r r1 s t u x x0:Tx}
@[reducible] def aj9:Value:=.agg #[.string (tx (cI 0)),.string (tx (cI 1)),.string (tx (cI 2)),.string (tx (cI 3)),.string (tx (cI 4)),.string (tx (cI 5)),.string (tx (cI 6)),.string (tx (cI 7)),.string (tx (cI 8)),.string (tx (cI 9)),.string (tx (cI 10)),.string (tx (cI 11)),.string (tx (cI 12)),.string (tx (cI 13)),.string (tx (cI 14))]
theorem akn(k:Nat)(h:k<15): ∀w,(apm 208 aj9 (.int .i64 k)).run prog w= .ok (.string (tx (cI k))) w:=by
 intro w;have u:=underlying208;have a4:=isAgg9;have z4:=sizeOf9;have hk:k=0\/k=1\/k=2\/k=3\/k=4\/k=5\/k=6\/k=7\/k=8\/k=9\/k=10\/k=11\/k=12\/k=13\/k=14:=by omega
 rcases hk with rfl|rfl|rfl|rfl|rfl|rfl|rfl|rfl|rfl|rfl|rfl|rfl|rfl|rfl|rfl<;>simp[apm,asIntOf,run_underlying u,part,a4,z4]
theorem L8(s:Tx)(w:World)(g:Gl w):Calls prog 176 #[.string (tx s)] w fun e w'=>e= .returned (.tuple #[.int .i64 (qA (cK s)).1,.int .i64 (qA (cK s)).2])/\w=w':=by
 have c0:=g.regs 0 (by omega);have c1:=g.regs 1 (by omega);have c2:=g.regs 2 (by omega);have c3:=g.regs 3 (by omega);have c4:=g.regs 4 (by omega);have c5:=g.regs 5 (by omega);have c6:=g.regs 6 (by omega);have c7:=g.regs 7 (by omega);have c8:=g.regs 8 (by omega);have c9:=g.regs 9 (by omega);have c10:=g.regs 10 (by omega);have c11:=g.regs 11 (by omega);have c12:=g.regs 12 (by omega);have c13:=g.regs 13 (by omega);have c14:=g.regs 14 (by omega);have IX:=hid akn;clear g;go_in
 go_upto_region 2 with(fail)
 clear c0 c1 c2 c3 c4 c5 c6 c7 c8 c9 c10 c11 c12 c13 c14;go_wp2_with fail
 go_loop [7] (fun i=> ∃k:Nat,k<=15/\i= .int .i64 k/\Hid (∀m,m<k->cI m≠s)) (fun i=>15-(intOf i).toNat)
 ·exact⟨0,by omega,rfl,fun m hm=>absurd hm (Nat.not_lt_zero m)⟩
 obtain⟨k,hk,rfl,HM⟩:=hrel
 by_cases hlt:k<15
 ·have ix:=IX.out k hlt
  by_cases he:cI k=s
  ·have hz:((tx (cI k)).toList==(tx s).toList)=true:=by rw[iQ];simpa using he
   have HR:=hid (Yx hlt he);clear he;go_wp2_with fail
   go_ret2
   exact⟨GQ (by rw[HR.out]) (by rw[HR.out]),rfl⟩
  have hz:((tx (cI k)).toList==(tx s).toList)=false:=mY he
  have eo:=hid (show ∀m,m<k+1->cI m≠s from fun m hm=>by
   rcases Nat.lt_succ_iff_lt_or_eq.1 hm with h|h
   ·exact HM.out m h
   subst h;exact he)
  clear he;go_wp2_with fail
  go_round
  case rel=>exact⟨k+1,by omega,by go_num,eo⟩
  case measure=>simp[intOf];omega
 obtain rfl:k=15:=by omega
 have HR:=hid (Yz HM.out);go_wp2_with fail
 go_ret2
 exact⟨GQ (by rw[HR.out]) (by rw[HR.out]),rfl⟩
def aaz(o:Option Tx)(w:World)(e:Ending)(w':World):Prop:= ∃u ok,e= .returned (.tuple #[.string (tx u),.bool ok])/\bP o u ok/\u.length<=1000000/\Below w.heap.size w w'
theorem Gj(a z:UInt8)(m:Tx):(a::(m++[z])).getLast?=some z:=by rw[<-aod,yw (by simp)];rfl
theorem ag3{m:Tx}(e:s=91::(m++[93])):bP (iM s) (ak m) (aC (ak m)):=by
 have e2:(s.drop 1).dropLast=m:=by rw[e];simp
 unfold bP iM;rw[e2];cases aC (ak m)with
 |true=>rw[if_pos ⟨by rw[e];simp,by rw[e];rfl,by rw[e];exact Gj _ _ _,rfl⟩];rfl
 |false=>rw[if_neg (fun h=>by cases h.2.2.2)];rfl
theorem Nc(h: ¬(2<=s.length/\s.head?=some 91/\s.getLast?=some 93)):iM s=none:=by
 unfold iM;rw[if_neg (fun hh=>h ⟨hh.1,hh.2.1,hh.2.2.1⟩)]
theorem Vm(s:Tx)(hl:s.length<=1000000)(w:World):Calls prog 174 #[.string (tx s)] w (aaz (iM s) w):=by
 have hsz:=aM s
 by_cases h2:2<=s.length
 ·obtain⟨c,r,rfl⟩: ∃c r,s=c::r:=by
   cases s with
   |nil=>simp at h2
   |cons c r=>exact⟨c,r,rfl⟩
  obtain⟨z,m,rfl⟩: ∃z m,r=m++[z]:=by
   have hne:r≠[]:=by intro e;subst e;simp at h2
   obtain⟨z,hz⟩: ∃z,r.getLast?=some z:=⟨_,List.getLast?_eq_some_getLast hne⟩;obtain⟨m,hm⟩:=qv.1 hz;exact⟨z,m,hm⟩
  obtain⟨n,hn⟩:=aj ((tx (c::(m++[z]))).size);have fk:n=m.length+2:=by rw[<-hn,hsz];simp
  have zl:decide ((n:Int)<2)=false:=ah;have hn2:2<=n:=by omega
  have rI:n<=1000000:=by simp at hl;omega
  have i0:=kJ (c::(m++[z])) c rfl;have i1:=bB (c::(m++[z])) (m.length+1) z (by simp);rw[show((m.length+1:Nat):Int)=(n:Int)-1 by omega]at i1;have gl:(c::(m++[z])).getLast?=some z:=Gj _ _ _
  by_cases hc:c=91
  ·by_cases hz:z=93
   ·subst hc;subst hz
    have sl:=jD (91::(m++[93])) 1 (m.length+1) (by omega) (by simp);have e2:((91::(m++[93])).take (m.length+1)).drop 1=m:=by simp
    rw[e2,show((m.length+1:Nat):Int)=(n:Int)-1 by omega,show((1:Nat):Int)=1 by rfl]at sl;have HO:=hid (ag3 (s:=91::(m++[93])) rfl);have hml:m.length<=1000000:=by simp at hl;omega
    have TR:=hid (fun w=>uX m (by omega) w);have htl:=jS m;have NM:=hid (fun w=>Gg (ak m) (by omega) w);have y1:(((91:UInt8).toNat:Int) != 91)=false:=by decide
    have y2:(((93:UInt8).toNat:Int) != 93)=false:=by decide
    have HT:=hid (show(ak m).length<=1000000 by omega);generalize ak m=t at*;generalize aC t=b at*;clear hl h2 hsz fk e2 gl;go_in;go_wp2_with fail;refine(TR.out _).mono ?_;rintro e w1 ⟨rfl,E⟩
    go_wp2_with (go_at_call 177;refine av (NM.out _) ?_)
    go_ret2
    exact⟨t,b,rfl,HO.out,HT.out,E⟩
   have HO:=hid (Nc (s:=c::(m++[z])) (fun h=>hz (by rw[gl]at h;simpa using h.2.2)))
   have y2:((z.toNat:Int) != 93)=true:=mZ z 93 hz;subst hc;have y1:(((91:UInt8).toNat:Int) != 91)=false:=by decide
   clear hl h2 hsz fk gl hz;go_in;go_wp2
   go_ret2
   exact⟨[],false,rfl,HO.out,by simp,bC⟩
  have HO:=hid (Nc (s:=c::(m++[z])) (fun h=>hc (by simpa using h.2.1)))
  have y1:((c.toNat:Int) != 91)=true:=mZ c 91 hc;clear hl h2 hsz fk gl hc;go_in;go_wp2
  go_ret2
  exact⟨[],false,rfl,HO.out,by simp,bC⟩
 have HO:=hid (Nc (s:=s) (fun h=>h2 h.1))
 obtain⟨n,hn⟩:=aj ((tx s).size);have zl:decide ((n:Int)<2)=true:=by rw[<-hn,hsz];simp;omega
 clear hl h2 hsz;go_in;go_wp2
 go_ret2
 exact⟨[],false,rfl,HO.out,by simp,bC⟩
def aau(r:Option ay)(w:World)(e:Ending)(w':World):Prop:= ∃op d a ag loc ok,e= .returned (.tuple #[.agg #[.int .i64 op,.int .i64 d,.int .i64 a,.int .i64 0,.int .i64 ag,.string (tx loc),.string ⟨#[]⟩,.int .i64 0],.bool ok])/\bP r ⟨op,d,a,0,ag,loc,[],0⟩ ok/\loc.length<=1000000/\Below w.heap.size w w'
theorem aS:tx []=⟨#[]⟩:=rfl
theorem XG(l:Tx)(c:UInt8):aoL l [c]=(l.head?==some c):=by
 unfold aoL;cases l with
 |nil=>rfl
 |cons d r=>show(c==d&&true)=(d==c);rw[Bool.and_true,an8,beq_iff_eq,beq_iff_eq];exact eq_comm
theorem afY(nE:fr.drop 1=r1)(hp:iM x0=some x)(h:fr.head?=some 36)(hn:bP (aU r1) v ok):bP (jN x0 fr) ⟨1,0,0,0,v,x,[],0⟩ ok:=by
 subst nE;unfold jN;rw[hp];simp only[h,if_true];unfold bP at *; rw[hn];cases ok<;>rfl
theorem afZ(hp:iM x0=some x)(h:fr.head?≠some 36):bP (jN x0 fr) ⟨2,0,(qA (cK fr)).1,0,0,x,[],0⟩ ((qA (cK fr)).2==0):=by
 unfold jN;rw[hp];simp only[h,if_false];unfold bP;cases cK fr<;>rfl
theorem af2(hp:iM x0=none)(hr:cK x0=none):jN x0 fr=none:=by unfold jN;rw[hp,hr]
theorem af1(nE:fr.drop 1=r1)(hp:iM x0=none)(hr:cK x0=some d)(h:fr.head?=some 36)(hn:bP (aU r1) v ok):bP (jN x0 fr) ⟨4,d,0,0,v,[],[],0⟩ ok:=by
 subst nE;unfold jN;rw[hp,hr];simp only[h,if_true];unfold bP at *; rw[hn];cases ok<;>rfl
theorem af0(hp:iM x0=none)(hr:cK x0=some d)(h:fr.head?≠some 36)(hn:bP (iM fr) x ok):bP (jN x0 fr) ⟨3,d,0,0,0,x,[],0⟩ ok:=by
 unfold jN;rw[hp,hr];simp only[h,if_false];unfold bP at *; rw[hn];cases ok<;>rfl
theorem aeq(x0 fr:Tx)(h1:x0.length<=1000000)(h2:fr.length<=1000000)(w:World)(g:Gl w):Calls prog 96 #[.string (tx x0),.string (tx fr)] w (aau (jN x0 fr) w):=by
 have g0:=g.below (al w bR);have PT:=hid (fun w=>Vm x0 h1 w);have PF:=hid (fun w=>Vm fr h2 w);have RT:=hid (fun(w:World) (g:Gl w)=>L8 x0 w g);have RF:=hid (fun(w:World) (g:Gl w)=>L8 fr w g);have NF:=hid (fun(w:World) (g:Gl w)=>aer (fr.drop 1) ah w g);have PR:=hid (fun w=>rV fr [36] w);rw[XG]at PR;have HF:=hid h2
 have II:=hid (show fr.head?=some 36-> ∀w,(anh 9 (.string (tx fr)) (some (.int .i64 1)) none none).run prog w= .ok (.string (tx (fr.drop 1))) w from fun h=>qD fr 1 (by cases fr with
  |nil=>cases h
  |cons a b=>simp))
 obtain⟨r1,nE⟩:=aj (fr.drop 1);have Ai:=hid nE;rw[nE]at II NF;clear h1 h2 g nE;go_in;go_wp2_with fail;refine(PT.out _).mono ?_;rintro e w1 ⟨u,ok,rfl,ho,dN,E⟩;have HO:=hid ho;have g1:=g0.below E;have HU:=hid dN;clear ho dN g0;cases ok with
 | true=>
   by_cases iH:fr.head?=some 36
   ·have sf:=II.out iH
    have HR:=hid (fun v ok=>afY Ai.out (v:=v) (ok:=ok) HO.out.yes iH);rw[show(fr.head?==some 36)=true by rw[iH];rfl]at PR;clear iH;go_wp2_with fail;refine(PR.out _).mono ?_;rintro e w2 ⟨rfl,E2⟩;have g2:=g1.below E2;have E:=aB E E2;go_wp2_with fail;refine(NF.out _ g2).mono ?_;rintro e w3 ⟨v,ok,rfl,hn,E3⟩;have HN:=hid hn;have E:=aB E E3;obtain⟨⟨d0,d1,d2,d3,d4,d5,d6,d7⟩,hf,hlt,B⟩:=dR E;clear hn E g1 g2;go_wp2;exact bodyPost_ret (by simp[results,results96,go_sem,d0,d1,d2,d3,d4,d5,d6,d7]) rfl ⟨1,0,0,v,u,ok,rfl,HR.out _ _ HN.out,HU.out,aF⟩
   have HR:=hid (afZ HO.out.yes iH)
   rw[show(fr.head?==some 36)=false by simpa using iH]at PR;generalize qA (cK fr)=p at*;clear iH;go_wp2_with fail;refine(PR.out _).mono ?_;rintro e w2 ⟨rfl,E2⟩;have g2:=g1.below E2;have E:=aB E E2;go_wp2_with fail;refine(RF.out _ g2).mono ?_;rintro e w3 ⟨rfl,rfl⟩;obtain⟨⟨d0,d1,d2,d3,d4,d5,d6,d7⟩,hf,hlt,B⟩:=dR E;clear E g1 g2;go_wp2;exact bodyPost_ret (by simp[results,results96,go_sem,d0,d1,d2,d3,d4,d5,d6,d7]) rfl ⟨2,0,p.1,0,u,_,rfl,HR.out,HU.out,aF⟩
 | false=>
   go_wp2_with fail;refine(RT.out _ g1).mono ?_;rintro e w2 ⟨rfl,rfl⟩;cases hr:cK x0 with
   | none=>
     have HR:=hid (af2 (fr:=fr) HO.out.no hr);simp only[qA];obtain⟨⟨d0,d1,d2,d3,d4,d5,d6,d7⟩,hf,hlt,B⟩:=dR E;clear E g1 hr;go_wp2;exact bodyPost_ret (by simp[results,results96,go_sem,d0,d1,d2,d3,d4,d5,d6,d7,aS]) rfl ⟨0,0,0,0,[],false,rfl,HR.out,by simp,aF⟩
   | some d=>
     simp only[qA]
     by_cases iH:fr.head?=some 36
     ·have sf:=II.out iH
      have HR:=hid (fun v ok=>af1 Ai.out (v:=v) (ok:=ok) HO.out.no hr iH);rw[show(fr.head?==some 36)=true by rw[iH];rfl]at PR;clear iH hr;go_wp2_with fail;refine(PR.out _).mono ?_;rintro e w2 ⟨rfl,E2⟩;have g2:=g1.below E2;have E:=aB E E2;go_wp2_with fail;refine(NF.out _ g2).mono ?_;rintro e w3 ⟨v,ok,rfl,hn,E3⟩;have HN:=hid hn;have E:=aB E E3;obtain⟨⟨d0,d1,d2,d3,d4,d5,d6,d7⟩,hf,hlt,B⟩:=dR E;clear hn E g1 g2;go_wp2;exact bodyPost_ret (by simp[results,results96,go_sem,d0,d1,d2,d3,d4,d5,d6,d7,aS]) rfl ⟨4,d,0,v,[],ok,rfl,HR.out _ _ HN.out,by simp,aF⟩
     have HR:=hid (fun x ok=>af0 (x:=x) (ok:=ok) HO.out.no hr iH)
     rw[show(fr.head?==some 36)=false by simpa using iH]at PR;clear iH hr;go_wp2_with fail;refine(PR.out _).mono ?_;rintro e w2 ⟨rfl,E2⟩;have E:=aB E E2;go_wp2_with fail;refine(PF.out _).mono ?_;rintro e w3 ⟨x,ok,rfl,hn,hx,E3⟩;have HN:=hid hn;have HX:=hid hx;have E:=aB E E3;obtain⟨⟨d0,d1,d2,d3,d4,d5,d6,d7⟩,hf,hlt,B⟩:=dR E;clear hn hx E g1;go_wp2;exact bodyPost_ret (by simp[results,results96,go_sem,d0,d1,d2,d3,d4,d5,d6,d7]) rfl ⟨3,d,0,0,x,ok,rfl,HR.out _ _ HN.out,HX.out,aF⟩
theorem LU(c:UInt8): ∀l:Tx,(c∉l->apt l c= -1)/\(c∈l->apt l c=(l.takeWhile (· != c)).length)
 |[]=>⟨fun _=>rfl,fun h=>by cases h⟩
 | d::l=>by
   obtain⟨h1,h2⟩:=LU c l
   by_cases e:d=c
   ·subst e
    exact⟨fun h=>absurd (by simp) h,fun _=>by simp[apt]⟩
   have e':(d==c)=false:=by simpa using e
   have e2:(d != c)=true:=by simpa using e
   refine⟨fun h=>?_,fun h=>?_⟩
   ·have:=h1 (fun m=>h (by simp[m]))
    rw[apt,e',this];rfl
   have hm:c∈l:=by rcases anE.1 h with rfl|h;exact absurd rfl e;exact h
   have:=h2 hm;rw[apt,e',this,aps (p:=fun x=>x != c) e2];simp
theorem YG(r:Tx):bE r=r.drop ((r.takeWhile (· != 10)).length+1):=by
 unfold bE;rw[<-apD]
 congr 1
 have: ∀l:Tx,l.drop (l.takeWhile (· != 10)).length=l.dropWhile (· != 10):=by
  intro l
  induction l with
  |nil=>rfl
  | cons c l ih=>
    by_cases e:c=10
    ·subst e;simp
    have e2:(c != 10)=true:=by simpa using e
    rw[aps (p:=fun x=>x != 10) e2,apq (p:=fun x=>x != 10) e2];exact ih
 exact(this r).symm
theorem acD(r:Tx):r.dropWhile (· != 10)=[]\/r.dropWhile (· != 10)=10::bE r:=by
 unfold bE;cases h:r.dropWhile (· != 10)with
 |nil=>exact .inl rfl
 | cons c m=>
   have:=je (l:=r) (c:=c) (p:=(· != 10)) (by rw[h];rfl);have:c=10:=by simpa using this
   subst this;exact .inr rfl
theorem VL(r:Tx):(ax (r.takeWhile (· != 10))=[]->ax (bE r)=ax r)/\
 (ax (r.takeWhile (· != 10))≠[]->ax r≠[]/\(ax r).takeWhile (· != 10)=ax (r.takeWhile (· != 10))/\bE (ax r)=bE r/\(ax r).length+((r.takeWhile (· != 10)).length-(ax (r.takeWhile (· != 10))).length)=r.length):=by
 have hr:r.takeWhile (· != 10)++r.dropWhile (· != 10)=r:=aoj
 have hn: ∀c∈ax (r.takeWhile (· != 10)),(c != 10)=true:=fun c hc=>by
  have:=(apr _).subset hc;exact anF.1 (aoX (p:=(· != 10)) (l:=r)) c this
 have hd:=acD r;generalize r.takeWhile (· != 10)=tw at*
 constructor
 ·intro h
  have hb: ∀c∈tw,aq c=true:=ru h
  conv=>rhs;rw[<-hr]
  unfold ax;rw[apu hb];rcases hd with e|e
  ·have:bE r=[]:=by unfold bE;rw[e];rfl
   rw[e,this]
  rw[e,apq (by decide)]
 intro h
 have e1:ax r=ax tw++r.dropWhile (· != 10):=by
  conv=>lhs;rw[<-hr]
  unfold ax at h⊢;rw[List.dropWhile_append,if_neg (by simpa using h)]
 have e2:(ax r).takeWhile (· != 10)=ax tw:=by
  rw[e1,apz hn];rcases hd with e|e
  ·rw[e];simp
  rw[e];simp
 have e3:(ax r).dropWhile (· != 10)=r.dropWhile (· != 10):=by
  rw[e1,apu hn];rcases hd with e|e
  ·rw[e];rfl
  rw[e,apw (by decide)]
 refine⟨by rw[e1];simp[h],e2,by unfold bE;rw[e3],?_⟩;have h1:=(apr (l:=tw) aq).length_le;have h2:=congrArg anO hr;rw[e1];unfold ax at h1⊢;simp only[aoW]at h2⊢;omega
theorem alK(tw:Tx): ∃b,(∀c∈b,aq c=true)/\tw=b++ax tw/\b.length=tw.length-(ax tw).length:=by
 refine⟨tw.takeWhile aq,fun c hc=>anF.1 (aoX (p:=aq) (l:=tw)) c hc,(aoj ..).symm,?_⟩;have:=congrArg anO (aoj (p:=aq) (l:=tw));unfold ax;rw[aoW]at this;omega
theorem akp(r:Nat)(h:r<128):decide ((0:Int)<=apt [32,9,10,13] (r:Int).toNat.toUInt8)=mU r:=by
 have k: ∀n:Fin 128,decide ((0:Int)<=apt [32,9,10,13] ((n.val:Int)).toNat.toUInt8)=mU n.val:=dx;exact k ⟨r,h⟩
theorem ako(r:Nat)(h:128<=r):mU r=false:=by unfold mU;simp;omega
theorem aa2: ∀i:Fin 4,((tx [32,9,10,13])[i.val]'(i.isLt)).toNat<128:=dx
theorem aey(w:World)(s:ByteArray)(p:Nat):Below w.heap.size w (w.iter s p):=by
 unfold World.iter;exact al _ _
theorem ad2(w:World):Calls prog 173 #[.string (tx [32,9,10,13]),.int .i32 65533] w fun e w'=>e= .returned (.int .i64 (-1))/\Below w.heap.size w w':=by
 obtain⟨s,hs⟩:=aj (tx [32,9,10,13]);have hsz:s.size=4:=by rw[<-hs];rfl
 have HA:=hid (show ∀i (h:i<s.size),(s[i]'h).toNat<128 from by
  subst hs;exact fun i h=>aa2 ⟨i,by rw[hsz]at h;exact h⟩)
 rw[hs];clear hs;go_in;go_wp2_with fail
 go_loopg [5,6] 4 (fun g _ _ wx=> ∃i:Nat,i+g=4/\wx=w.iter s i)
 ·exact⟨0,by omega,rfl⟩
 obtain⟨i,hig,rfl⟩:=hrel;cases gk with
 | zero=>
   obtain rfl:i=4:=by omega
   have iJ:=fun ty=>run_next_end (P:=prog) w s 4 ty (by omega)
   go_wp2_with fail;go_ret;exact⟨rfl,aey w s 4⟩
 | succ g=>
   have hi:i<s.size:=by omega
   obtain⟨x,hx⟩: ∃x:UInt8,s[i]'hi=x:=⟨_,rfl⟩;have hx128:x.toNat<128:=by rw[<-hx];exact HA.out i hi
   have iJ:=fun ty=>run_next_ascii (P:=prog) w s i ty hi (by rw[hx];exact hx128)
   rw[hx]at iJ;have z:((x.toNat:Int)==65533)=false:=ah;clear hx;go_wp2_with fail
   go_roundg g
   case measure=>omega
   case rel=>exact⟨i+1,by omega,rfl⟩
theorem Hr{r:Nat}{b:Bool}(h:b=decide (((0:Int)<=(r:Int)/\(r:Int)<55296)\/(57343<(r:Int)/\(r:Int)<=1114111))):apB (r:Int)=b:=by rw[validRune_eq,h];rfl
theorem Z0(r:Nat)(w:World):Calls prog 246 #[.int .i32 r] w fun e w'=>e= .returned (.bool (apB r))/\w=w':=by
 have hp:r<55296\/(55296<=r/\r<=57343)\/(57343<r/\r<=1114111)\/1114111<r:=by omega
 rcases hp with h|⟨h,h'⟩|⟨h,h'⟩|h
 ·rw[Hr (b:=true) ah]
  have z1:decide ((0:Int)<=(r:Int))=true:=by simp
  have z2:decide ((r:Int)<55296)=true:=ah;clear h;go_in;go_wp2;go_ret;exact⟨rfl,rfl⟩
 ·rw[Hr (b:=false) ah]
  have z1:decide ((0:Int)<=(r:Int))=true:=by simp
  have z2:decide ((r:Int)<55296)=false:=ah;have z3:decide ((57343:Int)<(r:Int))=false:=ah;clear h h';go_in;go_wp2;go_ret;exact⟨rfl,rfl⟩
 ·rw[Hr (b:=true) ah]
  have z1:decide ((0:Int)<=(r:Int))=true:=by simp
  have z2:decide ((r:Int)<55296)=false:=ah;have z3:decide ((57343:Int)<(r:Int))=true:=ah;have z4:decide ((r:Int)<=1114111)=true:=ah;clear h h';go_in;go_wp2;go_ret;exact⟨rfl,rfl⟩
 rw[Hr (b:=false) ah]
 have z1:decide ((0:Int)<=(r:Int))=true:=by simp
 have z2:decide ((r:Int)<55296)=false:=ah;have z3:decide ((57343:Int)<(r:Int))=true:=ah;have z4:decide ((r:Int)<=1114111)=false:=ah;clear h;go_in;go_wp2;go_ret;exact⟨rfl,rfl⟩
theorem ad1(r:Nat)(h:128<=r)(hne:r≠65533)(hv:apB r=false)(w:World):Calls prog 173 #[.string (tx [32,9,10,13]),.int .i32 r] w fun e w'=>e= .returned (.int .i64 (-1))/\Below w.heap.size w w':=by
 have z1:decide ((r:Int)<128)=false:=ah;have z2:((r:Int)==65533)=false:=ah;have HV:=hid hv;clear hv h hne;go_in
 go_wp2_with (go_at_call 246;refine av (Z0 r _) ?_;rw[HV.out])
 go_wp2;go_ret;exact⟨rfl,Below.refl _ _⟩
theorem LV(l:Tx)(x:UInt8)(w:World):Calls prog 78 #[.string (tx l),.int .u8 x.toNat] w fun e w'=>e= .returned (.int .i64 (apt l x))/\w=w':=by
 refine(Any.strings_IndexByte Tryz.VB (tx l) x.toNat w).mono fun e w' hh=>⟨?_,hh.2.symm⟩
 have:=hh.1;rw[jk]at this;rw[this];simp
theorem indexByte_none(l:Tx)(x:UInt8)(h:x∉l)(w:World):Calls prog 78 #[.string (tx l),.int .u8 x.toNat] w fun e w'=>e= .returned (.int .i64 (-1))/\w=w':=by
 have:=LV l x w
 rwa[Ge x l h]at this
theorem ad0(r:Nat)(k:Nat)(hk:k<4)(h:128<=r)(hne:r≠65533)(hv:apB r=true)(l:Tx)(x:UInt8)(hl:Utf8.encode (r:Int)=tx l)(dK:l.length=k+1)(hx:l[k]? =some x)(hx2:128<=x.toNat)(w:World):Calls prog 173 #[.string (tx [32,9,10,13]),.int .i32 r] w fun e w'=>e= .returned (.int .i64 (-1))/\Below w.heap.size w w':=by
 have z1:decide ((r:Int)<128)=false:=ah;have z2:((r:Int)==65533)=false:=ah;have HV:=hid hv;have l5:(tx l).size=k+1:=by rw[aM,dK]
 have ix:=bB l k x hx;obtain⟨y,hy⟩: ∃y,([32,9,10,13]:Tx)[k]? =some y:=⟨_,am9 (by simpa using hk)⟩;have s1:=bB [32,9,10,13] k y hy;have sf:=qD [32,9,10,13] (k+1) ah;rw[show((k+1:Nat):Int)=(k:Int)+1 by omega]at sf;have Lb: ∀b∈([32,9,10,13]:Tx),b.toNat<128:=by decide
 have zz:((y.toNat:Int) != (x.toNat:Int))=true:=by have:=Lb y (List.mem_of_getElem? hy);simp;omega
 have IB:=hid (fun w=>indexByte_none (([32,9,10,13]:Tx).drop (k+1)) x (fun hm=>by have:=Lb x (List.mem_of_mem_drop hm);omega) w);generalize ([32,9,10,13]:Tx).drop (k+1)=rest at*;obtain⟨s,hs⟩:=aj (tx [32,9,10,13]);have h4:s.size=4:=by rw[<-hs];rfl
 rw[hs]at s1 sf⊢
 have sf2: ∀w,(anh 9 (.string s) (some (.int .i64 (IntKind.i64.wrap ((k:Int)+1)))) none none).run prog w= .ok (.string (tx rest)) w:=by
  rw[wrap_small _ (by omega) (by omega)];exact sf
 have zk:decide ((k:Int)<4)=true:=ah;clear hv h hne hx dK hx2 Lb hy hs;go_in
 go_wp2_with (go_at_call 246;refine av (Z0 r _) ?_;rw[HV.out])
 refine wp_scope_straight ?_;go_wp2_with fail
 go_loop [9] (fun i=>i= .int .i64 k) (fun i=>0)
 ·rfl
 subst hrel;go_wp2_with fail;refine wp_scope_straight ?_;go_wp2_with fail
 go_big_region
 all_goals go_wp2_with fail
 all_goals go_region_with (go_at_call 78;refine av (IB.out _) ?_)
 all_goals go_wp2_with fail
 all_goals simp+zetaDelta only[Exit.noGoto,Exit.inBlock,Exit.then]
 all_goals go_ret
 all_goals exact⟨rfl,bC⟩
theorem ad3(r:Nat)(h:128<=r)(w:World):Calls prog 173 #[.string (tx [32,9,10,13]),.int .i32 r] w fun e w'=>e= .returned (.int .i64 (-1))/\Below w.heap.size w w':=by
 by_cases hne:r=65533
 ·subst hne;exact ad2 w
 cases hv:apB (r:Int)with
 |false=>exact ad1 r h hne hv w
 | true=>
   obtain⟨f1,f2,f3⟩:=encode_facts (r:Int) hv (by omega);obtain⟨l,hl⟩:=Ox (Utf8.encode (r:Int));have hsz:(Utf8.encode (r:Int)).size=l.length:=by rw[hl,aM]
   have hlt:l.length-1<l.length:=by omega
   refine ad0 r (l.length-1) (by omega) h hne hv l l[l.length-1] hl (by omega) (am9 hlt) ?_ w;have:=f3 (by omega);simp only[hl,aM]at this;exact this
theorem JV(r:Nat)(h:r<=1114111)(w:World):Calls prog 95 #[.string (tx [32,9,10,13]),.int .i32 r] w fun e w'=>e= .returned (.bool (mU r))/\Below w.heap.size w w':=by
 by_cases h1:r<128
 ·refine(Any.strings_ContainsRune_ascii Tryz.aeU (tx [32,9,10,13]) (r:Int) w (by omega) (by omega)).mono fun e w' hh=>?_
  obtain⟨rfl,rfl⟩:=hh;rw[jk,akp r h1];exact⟨rfl,Below.refl _ _⟩
 rw[ako r (by omega)]
 have IR:=hid (fun w=>ad3 r (by omega) w);clear h h1;go_in;go_wp2_with fail;refine(IR.out _).mono ?_;rintro e w1 ⟨rfl,E⟩;go_wp2;go_ret;exact⟨rfl,E⟩
theorem ajp(r:Nat)(h:r<=1114111)(w:World):Calls prog 148 #[.int .i32 r] w fun e w'=>e= .returned (.bool (mU r))/\Below w.heap.size w w':=by
 have C:=hid (fun w=>JV r h w);generalize mU r=b at*;clear h;go_in;go_wp2_with fail;refine(C.out _).mono ?_;rintro e w1 ⟨rfl,E⟩;go_wp2;go_ret;exact⟨rfl,E⟩
theorem Kb: ∀(l u:Tx),(cG u l).length<=l.length+1
 |[],u=>by unfold cG fJ;split<;>simp
 | c::r,u=>by
   cases hb:aq c with
   | true=>
     have:=Kb r [];rw[sU _ _ hb,aoW];have:(fJ u).length<=1:=by unfold fJ;split<;>simp
     simp;omega
   |false=>have:=Kb r (u++[c]);rw[xS _ _ hb];simp;omega
theorem ac4(l:Tx):(cG [] l).length<=l.length+1:=Kb l []
theorem index_one(c:UInt8): ∀l:Tx,(c∉l->apI l [c]= -1)/\(c∈l->apI l [c]=(l.takeWhile (· != c)).length)
 |[]=>⟨fun _=>by simp[apI],fun h=>by cases h⟩
 | b::r=>by
   obtain⟨h1,h2⟩:=index_one c r
   by_cases hb:b=c
   ·subst hb
    refine⟨fun h=>absurd (by simp) h,fun _=>?_⟩;simp[apI,List.isPrefixOf]
   rw[U2 r hb]
   refine⟨fun h=>?_,fun h=>?_⟩
   ·rw[h1 (fun hm=>h (by simp[hm]))];rfl
   have hm:c∈r:=by
    rcases anE.1 h with e|e
    ·exact absurd e.symm hb
    exact e
   have e:=h2 hm;have t:(b::r).takeWhile (· != c)=b::r.takeWhile (· != c):=by rw[aom,if_pos (by simpa using hb)]
   rw[t,e,if_neg (by simp only[beq_iff_eq];omega),ans];omega
theorem J1(c:UInt8): ∀l:Tx,l.drop (l.takeWhile (· != c)).length=l.dropWhile (· != c)
 |[]=>rfl
 | b::r=>by
   rw[aom,anV];split
   ·rw[ans,List.drop_succ_cons];exact J1 c r
   rfl
theorem Ok(c:UInt8): ∀l:Tx,l.take (l.takeWhile (· != c)).length=l.takeWhile (· != c)
 |[]=>rfl
 | b::r=>by
   rw[aom];split
   ·rw[ans,List.take_succ_cons,Ok c r]
   rfl
theorem Fh(c:UInt8)(l:Tx):apx l [c]=if c∈l then(l.takeWhile (· != c),(l.dropWhile (· != c)).drop 1,true)else(l,[],false):=by
 obtain⟨h1,h2⟩:=index_one c l;unfold apx
 by_cases h:c∈l
 ·rw[if_pos h,h2 h,if_pos (by omega)]
  simp only[Int.toNat_natCast,Ok,ans,apa];rw[<-apD,J1]
 rw[if_neg h,h1 h,if_neg (by omega)]
theorem ad4(l:Tx)(c:UInt8)(w:World):Calls prog 196 #[.string (tx l),.string (tx [c])] w fun e w'=>e= .returned (.int .i64 (apt l c))/\w=w':=
 (Any.stringslite_Index_one { Tryz.aeS with } (tx l) c w).mono fun e w' hh=>⟨by rw[hh.1,jk],hh.2.symm⟩
abbrev I7(l:Tx)(c:UInt8)(w:World):Ending->World->Prop:=aJ w (.tuple #[.string (tx (apx l [c]).1),.string (tx (apx l [c]).2.1),.bool (apx l [c]).2.2])
theorem acs(l:Tx)(c:UInt8)(hl:l.length<=9223372036854775807)(w:World):Calls prog 111 #[.string (tx l),.string (tx [c])] w (I7 l c w):=by
 have IX:=hid (fun w=>ad4 l c w);have hc:=Fh c l;have h1:=aM [c];unfold I7;rw[hc]
 by_cases h:c∈l
 ·obtain⟨e,hlt⟩:=LR c l h
  rw[e]at IX;rw[if_pos h];obtain⟨k,hk⟩:=aj ((l.takeWhile (· != c)).length);rw[hk]at IX hlt;have s1:=qE l k (by omega);have s2:=qD l (k+1) (by omega);rw[show((k+1:Nat):Int)=(k:Int)+1 by omega]at s2;have hw:IntKind.i64.wrap ((k:Int)+1)=(k:Int)+1:=wrap_small _ (by omega) (by omega);have HA:=hid (show l.take k=l.takeWhile (· != c) by rw[<-hk];exact Ok c l);have HB:=hid (show l.drop (k+1)=(l.dropWhile (· != c)).drop 1 by rw[<-apD,<-hk,J1]);have h1:(tx [c]).size=1:=h1;have hz:decide ((0:Int)<=(k:Int))=true:=by simp
  clear hc h e hk hl;go_in
  go_wp2_with (go_at_call 196;refine av (IX.out _) ?_)
  go_big_region
  go_wp2_with fail
  go_ret3
  exact⟨by rw[HA.out,HB.out];rfl,bC⟩
 rw[Ge c l h]at IX
 rw[if_neg h];clear hc h hl;go_in
 go_wp2_with (go_at_call 196;refine av (IX.out _) ?_)
 go_ret3
 exact⟨rfl,bC⟩
theorem JW(l:Tx)(c:UInt8)(hl:l.length<=9223372036854775807)(w:World):Calls prog 48 #[.string (tx l),.string (tx [c])] w (aJ w (.tuple #[.string (tx (apx l [c]).1),.string (tx (apx l [c]).2.1),.bool (apx l [c]).2.2])):=by
 have C:=hid (fun w=>acs l c hl w);unfold I7 at C;generalize tx (apx l [c]).1=a at*;generalize tx (apx l [c]).2.1=b at*;generalize (apx l [c]).2.2=k at*;go_in;go_wp2_with fail;refine(C.out _).mono ?_;rintro e w' ⟨rfl,E⟩;go_wp2_with fail
 go_ret3
 exact⟨rfl,E⟩
theorem bI.loc{w w':World}{e:Ending}{r:Option ay}{i:ay}(hr:r=some i)(h:e= .returned (.tuple #[vI i,.int .i64 0]))(hb:Below w.heap.size w w'):bI r w e w':=by
 subst hr h;exact⟨rfl,hb⟩
theorem Ub:aoL t [77,79,86]=decide (t.take 3=[77,79,86]):=by
 unfold aoL;rw[an8,decide_eq_true_eq,List.isPrefixOf_iff_prefix,List.prefix_iff_eq_take];exact eq_comm
theorem agH(hl:s.length<=262144)(h:ak s=[77,70,69,78,67,69]):dY s=some Gw:=by unfold dY;rw[if_neg (by omega),if_pos h]
theorem agJ(ht:ak s=t)(hl:s.length<=262144)(h:t≠[77,70,69,78,67,69])(h2: ¬(t.take 3=[77,79,86]/\(t.drop 3).head?.any aq=true)):dY s=none:=by subst ht;unfold dY;rw[if_neg (by omega),if_neg h,if_pos h2]
theorem agI(ht:ak s=t)(hu:t.drop 3=u)(h:(44:UInt8)∉u)(hl:s.length<=262144)(h1:t≠[77,70,69,78,67,69]):dY s=none:=by
 subst ht;subst hu;unfold dY;rw[if_neg (by omega),if_neg h1];split
 ·rfl
 first|rfl|rw[if_neg h]
theorem agG(ht:ak s=t)(hu:t.drop 3=u)(h:(44:UInt8)∈u)(hl:s.length<=262144)(h1:t≠[77,70,69,78,67,69])(h2:t.take 3=[77,79,86])(h3:u.head?.any aq=true):dY s=jN (ak (u.takeWhile (· != 44))) (ak ((u.dropWhile (· != 44)).drop 1)):=by
 subst ht;subst hu;unfold dY;rw[if_neg (by omega),if_neg h1,if_neg (fun hh=>hh ⟨h2,h3⟩),if_pos h]
theorem aet(s:Tx)(hl:262144<s.length)(w:World):Calls prog 43 #[.string (tx s)] w (bI (dY s) w):=by
 have HP:=hid (show dY s=none by unfold dY;rw[if_pos hl]);obtain⟨n,hn⟩:=aj ((tx s).size);have z:decide (262144<(n:Int))=true:=by rw[aM]at hn;simp;omega
 generalize dY s=r at*;clear hl;go_in;go_wp2;exact bodyPost_ret (by simp[results,results43,go_sem]) rfl (bI.no HP.out rfl aF)
theorem aeu(s:Tx)(hl:s.length<=262144)(h:ak s=[77,70,69,78,67,69])(w:World):Calls prog 43 #[.string (tx s)] w (bI (dY s) w):=by
 have HP:=hid (agH hl h);obtain⟨n,hn⟩:=aj ((tx s).size);have z:decide (262144<(n:Int))=false:=by rw[aM]at hn;simp;omega
 have TR:=hid (fun w=>uX s (by omega) w);rw[h]at TR;generalize dY s=r at*;have z2:((tx [77,70,69,78,67,69]).toList==[77,70,69,78,67,69])=true:=by rw[bh];rfl
 clear hl h;go_in;go_wp2_with fail;refine(TR.out _).mono ?_;rintro e w1 ⟨rfl,E⟩;obtain⟨⟨d0,d1,d2,d3,d4,d5,d6,d7⟩,hf,hlt,B⟩:=dR E;clear E;go_wp2;exact bodyPost_ret (by simp[results,results43,go_sem,d0,d1,d2,d3,d4,d5,d6,d7,Gw,aS]) rfl (bI.loc HP.out rfl aF)
theorem aew(s t:Tx)(hl:s.length<=262144)(ht:ak s=t)(h1:t≠[77,70,69,78,67,69])(h2: ¬(t.take 3=[77,79,86]/\(t.drop 3).head?.any aq=true))(w:World):Calls prog 43 #[.string (tx s)] w (bI (dY s) w):=by
 have HP:=hid (agJ ht hl h1 h2);obtain⟨n,hn⟩:=aj ((tx s).size);have z:decide (262144<(n:Int))=false:=by rw[aM]at hn;simp;omega
 have TR:=hid (fun w=>uX s (by omega) w);rw[ht]at TR;have htl:=jS s;rw[ht]at htl;generalize dY s=r at*;have z2:((tx t).toList==[77,70,69,78,67,69])=false:=cY _ _ h1;have PR:=hid (fun w=>rV t [77,79,86] w);rw[Ub]at PR;obtain⟨m,hm⟩:=aj ((tx t).size);have hml:m=t.length:=by rw[<-hm,aM]
 by_cases h3:t.take 3=[77,79,86]
 ·rw[decide_eq_true h3]at PR
  by_cases h4:t.length<4
  ·have z4:decide ((m:Int)<4)=true:=ah
   clear hl ht h1 h2 htl hml h3 h4;go_in;go_wp2_with fail;refine(TR.out _).mono ?_;rintro e w1 ⟨rfl,E⟩;go_wp2_with fail;refine(PR.out _).mono ?_;rintro e w2 ⟨rfl,E2⟩;have E:=aB E E2;obtain⟨⟨d0,d1,d2,d3,d4,d5,d6,d7⟩,hf,hlt,B⟩:=dR E;clear E E2;go_wp2;exact bodyPost_ret (by simp[results,results43,go_sem,d0,d1,d2,d3,d4,d5,d6,d7]) rfl (bI.no HP.out rfl aF)
  have z4:decide ((m:Int)<4)=false:=ah
  obtain⟨b,hb⟩: ∃b,t[3]? =some b:=⟨_,am9 (by omega)⟩
  have dU:aq b=false:=by
   cases dU:aq b with
   |false=>rfl
   | true=>
     refine absurd ⟨h3,?_⟩ h2;rw[ao4,hb];exact dU
  have ix: ∀w,(apm 9 (.string (tx t)) (.int .i64 3)).run prog w= .ok (.int .u8 b.toNat) w:=bB t 3 b hb;have CR:=hid (fun w=>JV b.toNat (aI b.toNat_lt) w);rw[GY,dU]at CR;have hb8:=b.toNat_lt;clear hl ht h1 h2 htl hml h3 h4 hb dU;go_in;go_wp2_with fail;refine(TR.out _).mono ?_;rintro e w1 ⟨rfl,E⟩;go_wp2_with fail;refine(PR.out _).mono ?_;rintro e w2 ⟨rfl,E2⟩;have E:=aB E E2;go_wp2_with fail;refine(CR.out _).mono ?_;rintro e w3 ⟨rfl,E3⟩;have E:=aB E E3;obtain⟨⟨d0,d1,d2,d3,d4,d5,d6,d7⟩,hf,hlt,B⟩:=dR E;clear E E2 E3;go_wp2;exact bodyPost_ret (by simp[results,results43,go_sem,d0,d1,d2,d3,d4,d5,d6,d7]) rfl (bI.no HP.out rfl aF)
 rw[decide_eq_false h3]at PR
 clear hl ht h1 h2 htl hml h3;go_in;go_wp2_with fail;refine(TR.out _).mono ?_;rintro e w1 ⟨rfl,E⟩;go_wp2_with fail;refine(PR.out _).mono ?_;rintro e w2 ⟨rfl,E2⟩;have E:=aB E E2;obtain⟨⟨d0,d1,d2,d3,d4,d5,d6,d7⟩,hf,hlt,B⟩:=dR E;clear E E2;go_wp2;exact bodyPost_ret (by simp[results,results43,go_sem,d0,d1,d2,d3,d4,d5,d6,d7]) rfl (bI.no HP.out rfl aF)
theorem aev(s t u:Tx)(hl:s.length<=262144)(ht:ak s=t)(hu:t.drop 3=u)(h1:t≠[77,70,69,78,67,69])(h3:t.take 3=[77,79,86])(b:UInt8)(r0:Tx)(yl:u=b::r0)(dU:aq b=true)(w:World)(g:Gl w):Calls prog 43 #[.string (tx s)] w (bI (dY s) w):=by
 have g0:=g.below (al w bR);obtain⟨n,hn⟩:=aj ((tx s).size);have z:decide (262144<(n:Int))=false:=by rw[aM]at hn;simp;omega
 have TR:=hid (fun w=>uX s (by omega) w);rw[ht]at TR;have htl:=jS s;rw[ht]at htl
 have htu:t.length=u.length+3:=by
  have:=congrArg anO hu;have h4:=congrArg anO h3;rw[yl]at this⊢;simp only[aoN,ao2,ans,apa]at this h4⊢;omega
 have z2:((tx t).toList==[77,70,69,78,67,69])=false:=cY _ _ h1;have PR:=hid (fun w=>rV t [77,79,86] w);rw[Ub,decide_eq_true h3]at PR;obtain⟨m,hm⟩:=aj ((tx t).size);have hml:m=t.length:=by rw[<-hm,aM]
 have z4:decide ((m:Int)<4)=false:=by rw[hml,htu,yl];simp;omega
 have hb:t[3]? =some b:=by rw[<-ao4,hu,yl];rfl
 have ix: ∀w,(apm 9 (.string (tx t)) (.int .i64 3)).run prog w= .ok (.int .u8 b.toNat) w:=bB t 3 b hb;have CR:=hid (fun w=>JV b.toNat (aI b.toNat_lt) w);rw[GY,dU]at CR;have hb8:=b.toNat_lt
 have sf: ∀w,(anh 9 (.string (tx t)) (some (.int .i64 3)) none none).run prog w= .ok (.string (tx u)) w:=fun w=>by
  have:=qD t 3 (by omega) w;rw[hu]at this;exact this
 have CU:=hid (fun w (g:Gl w)=>JW u 44 (by omega) w);have dN:u.length<=262144:=by omega
 rw[Fh]at CU
 by_cases nB:(44:UInt8)∈u
 ·rw[if_pos nB]at CU
  have HP:=hid (agG ht hu nB hl h1 h3 (by rw[yl];exact dU));obtain⟨x,hx⟩:=aj (u.takeWhile (· != 44));obtain⟨y,hy⟩:=aj ((u.dropWhile (· != 44)).drop 1);have hxl:x.length<=262144:=by rw[<-hx];have:=pM (· != 44) u;omega
  have wo:y.length<=262144:=by rw[<-hy];have:=(apr (fun x=>x != 44) (l:=u)).length_le;simp;omega
  simp only at CU;rw[hx,hy]at CU HP;have TX:=hid (fun w=>uX x (by omega) w);have TY:=hid (fun w=>uX y (by omega) w);have MV:=hid (fun w g=>aeq (ak x) (ak y) (by have:=jS x;omega) (by have:=jS y;omega) w g);have HC:=hid (fun i=>Wf (a:=ak x) (b:=ak y) (i:=i));have HPS:=hid (show ∀i,jN (ak x) (ak y)=some i->dY s=some i from fun i h=>by rw[HP.out,h]);have Ah:=hid (show jN (ak x) (ak y)=none->dY s=none from fun h=>by rw[HP.out,h]);generalize jN (ak x) (ak y)=mv at*;generalize dY s=r at*;generalize ak x=Ho at*;generalize ak y=wW at*;clear hl ht h1 htl hml h3 hb dU hx hy hxl wo nB HP yl hu htu dN g;go_in;go_wp2_with fail;refine(TR.out _).mono ?_;rintro e w1 ⟨rfl,E⟩;go_wp2_with fail;refine(PR.out _).mono ?_;rintro e w2 ⟨rfl,E2⟩;have E:=aB E E2;go_wp2_with fail;refine(CR.out _).mono ?_;rintro e w3 ⟨rfl,E3⟩;have E:=aB E E3;have g1:=g0.below E;go_wp2_with fail;refine(CU.out _ g1).mono ?_;rintro e w4 ⟨rfl,E4⟩;have E:=aB E E4;go_wp2_with fail;refine(TX.out _).mono ?_;rintro e w5 ⟨rfl,E5⟩;have E:=aB E E5;go_wp2_with fail;refine(TY.out _).mono ?_;rintro e w6 ⟨rfl,E6⟩;have E:=aB E E6;have g2:=g0.below E;go_wp2_with fail;refine(MV.out _ g2).mono ?_;rintro e w7 ⟨op,d,a,ag,loc,ok,rfl,hk,dK,E7⟩;have E:=aB E E7;have HK:=hid hk;have HL:=hid dK;clear g1 g2 E2 E3 E4 E5 E6 E7 hk dK;cases ok with
  | false=>
    obtain⟨⟨d0,d1,d2,d3,d4,d5,d6,d7⟩,hf,hlt,B⟩:=dR E;have HN:=hid (Ah.out HK.out.no);clear E;go_wp2;exact bodyPost_ret (by simp[results,results43,go_sem,d0,d1,d2,d3,d4,d5,d6,d7,hlt]) rfl (bI.no HN.out rfl aF)
  | true=>
    have HN:=hid (HPS.out _ HK.out.yes);have CK:=hid (fun w=>aad ⟨op,d,a,0,ag,loc,[],0⟩ (by have:=HL.out;simp;omega) w);rw[acE (HC.out _ HK.out.yes)]at CK;go_wp2_with fail;refine(CK.out _).mono ?_;rintro e w8 ⟨rfl,E8⟩;have bl:=(aA.new w7 #[.int .i64 op,.int .i64 d,.int .i64 a,.int .i64 0,.int .i64 ag,.string (tx loc),.string ⟨#[]⟩,.int .i64 0] 50).below E8;obtain⟨q0,q1,q2,q3,q4,q5,q6,q7⟩:=bl.gJ;have h7:=E.size;have E:=aB (eZ E _) E8;obtain⟨⟨d0,d1,d2,d3,d4,d5,d6,d7⟩,hf,hlt,B⟩:=dR E;have hne:w.heap.size≠w7.heap.size:=by simp at h7;omega
    have vU:=hne.symm;clear E E8 bl h7;go_wp2;exact bodyPost_ret (by simp[results,results43,go_sem,d0,d1,d2,d3,d4,d5,d6,d7,aS]) rfl (bI.loc HN.out rfl aF)
 rw[if_neg nB]at CU
 have HP:=hid (agI ht hu nB hl h1);generalize dY s=r at*;clear hl ht h1 htl hml h3 hb dU nB yl hu htu dN g;go_in;go_wp2_with fail;refine(TR.out _).mono ?_;rintro e w1 ⟨rfl,E⟩;go_wp2_with fail;refine(PR.out _).mono ?_;rintro e w2 ⟨rfl,E2⟩;have E:=aB E E2;go_wp2_with fail;refine(CR.out _).mono ?_;rintro e w3 ⟨rfl,E3⟩;have E:=aB E E3;have g1:=g0.below E;go_wp2_with fail;refine(CU.out _ g1).mono ?_;rintro e w4 ⟨rfl,E4⟩;have E:=aB E E4;obtain⟨⟨d0,d1,d2,d3,d4,d5,d6,d7⟩,hf,hlt,B⟩:=dR E;clear E E2 E3 E4 g1;go_wp2;exact bodyPost_ret (by simp[results,results43,go_sem,d0,d1,d2,d3,d4,d5,d6,d7]) rfl (bI.no HP.out rfl aF)
theorem aes(s:Tx)(w:World)(g:Gl w):Calls prog 43 #[.string (tx s)] w (bI (dY s) w):=by
 by_cases hl:s.length<=262144
 ·by_cases h1:ak s=[77,70,69,78,67,69]
  ·exact aeu s hl h1 w
  by_cases h2:(ak s).take 3=[77,79,86]/\((ak s).drop 3).head?.any aq=true
  ·obtain⟨h3,h4⟩:=h2
   cases hu:(ak s).drop 3 with
   |nil=>rw[hu]at h4;cases h4
   |cons b r0=>rw[hu]at h4;exact aev s _ _ hl rfl hu h1 h3 b r0 rfl h4 w g
  exact aew s _ hl rfl h1 h2 w
 exact aet s (by omega) w
theorem Q3(c:UInt8):([32,9,10,13]:Tx).contains c=aq c:=by
 have k:=tP (p:=fun c=>([32,9,10,13]:Tx).contains c==aq c) dx c;simpa using k
theorem alD(l:Tx)(w:World):Calls prog 154 #[.string (tx l),.string ⟨#[32,9,10,13]⟩] w (aJ w (.string (tx (ax l)))):=by
 refine(Any.strings_TrimLeft_laid Tryz.aeX aN (tx l) ⟨#[32,9,10,13]⟩ w (by decide) (ascii_of_all (by decide))).mono fun e w' hh=>⟨?_,hh.2⟩
 rw[hh.1,jk]
 have:apH l [32,9,10,13]=ax l:=by
  unfold apH ax
  congr 1;funext c;exact Q3 c
 show Ending.returned (.string ⟨(apH l [32,9,10,13]).toArray⟩)=_;rw[this];rfl
theorem ZG(l:Tx)(hl:l.length<=9223372036854775807)(w:World):Calls prog 155 #[.string (tx l),.string ⟨#[32,9,10,13]⟩] w (aJ w (.string (tx (cr l)))):=by
 refine(Any.strings_TrimRight_laid Tryz.aeZ aN (tx l) ⟨#[32,9,10,13]⟩ w (by rw[aM];exact hl) (by decide) (ascii_of_all (by decide))).mono fun e w' hh=>⟨?_,hh.2⟩
 rw[hh.1,jk]
 have:apE l [32,9,10,13]=cr l:=by
  unfold apE cr
  congr 2;funext c;exact Q3 c
 show Ending.returned (.string ⟨(apE l [32,9,10,13]).toArray⟩)=_;rw[this];rfl
theorem acq(l:Tx)(c:UInt8)(w:World):Calls prog 77 #[.string (tx l),.string ⟨#[c]⟩] w fun e w'=>e= .returned (.int .i64 (l.count c:Nat))/\w=w':=by
 refine(Any.strings_Count_one Tryz.aeQ (tx l) c w).mono fun e w' hh=>⟨?_,hh.2.symm⟩
 rw[hh.1,jk];rfl
theorem Zo(l:Tx)(c:UInt8)(hl:l.length<=1000000)(w:World)(g:Gl w):Calls prog 79 #[.string (tx l),.string ⟨#[c]⟩] w fun e w'=> ∃a,e= .returned (.slice a (aH c l).length (aH c l).length)/\Own w' w.heap.size 9 1 a (aH c l).length (aH c l).length ((aH c l).map fun x=>apy (tx x))/\bS w' a (aH c l)/\Below w.heap.size w w':=by
 obtain⟨m,hm⟩:=g.maxLen;refine(Any.strings_Split { Tryz.Cr with } Tryz.Cr.i9 (tx l) ⟨#[c]⟩ m w (by rw[aM];omega) hm (by show 1<=1;omega)).mono fun e w' hh=>?_
 obtain⟨he,rfl⟩:=hh;have hc:Lib.countB (tx l) ⟨#[c]⟩=apJ l [c]:=by unfold Lib.countB;rw[jk]
 have hd:=Lib.splitB_data ⟨#[c]⟩ 0 (apJ l [c]) (tx l);rw[jk,show(⟨#[c]⟩:ByteArray).data.toList=[c]from rfl,Of]at hd
 have hlen:apJ l [c]+1=(aH c l).length:=by
  rw[<-hd,List.length_map,Lib.splitB_all ⟨#[c]⟩ (by show 1<=1;omega) 0 _ _ hc]
 have hmap:(Lib.splitB ⟨#[c]⟩ 0 (apJ l [c]) (tx l)).map apy=(aH c l).map fun x=>apy (tx x):=by
  rw[<-hd,apK];refine List.map_congr_left fun x _=>?_
  simp[tx]
 rw[hc,hlen]at he;rw[hc,hmap];have hsm:=qG c l;refine⟨some ⟨w.heap.size,0,none⟩,he,?_,⟨⟨fun _=>rfl,fun i hi=>?_⟩,by omega⟩,(Below.refl _ _).alloc (anb _) _⟩
 ·exact World.ownsRow_lit w (e:=9) ((aH c l).map fun x=>apy (tx x)).toArray (aH c l).length (anb w.heap.size) (size:=1) cz (by simp)
 have hh:=heap_alloc_new w (.cells ((aH c l).map fun x=>apy (tx x)).toArray (Tryz.Gu.t 9))
 simp only[World.cell?,gv,gX];rw[hh];simp
theorem pI(l:Tx)(hl:l.length<=9223372036854775807)(w:World):Calls prog 50 #[.string (tx l)] w (aJ w (.string (tx (ak l)))):=by
 have TR:=hid (uX l hl w);go_in;go_wp2_with fail;refine TR.out.mono ?_;rintro e w1 ⟨rfl,E⟩;go_wp2;go_ret;exact⟨rfl,E⟩
theorem Dd(l:Tx)(hl:l.length<=9223372036854775807)(w:World):Calls prog 80 #[.string (tx l)] w (aJ w (.int .i64 ((l.length-(ax l).length:Nat):Int))):=by
 have TR:=hid (alD l w);have h1:(tx l).size=l.length:=aM l;have h2:(tx (ax l)).size=(ax l).length:=aM _;have h3:(ax l).length<=l.length:=(apr _).length_le;go_in;go_wp2_with fail;refine TR.out.mono ?_;rintro e w1 ⟨rfl,E⟩;go_wp2;go_ret;exact⟨bQ (by omega),E⟩
theorem Yl(af:Int)(w:World):Calls prog 42 #[.int .i64 af] w fun e w'=>e= .returned (.bool (bF af))/\w=w':=by
 obtain⟨b1,h1⟩: ∃b,(af==1)=b:=⟨_,rfl⟩;obtain⟨b2,h2⟩: ∃b,(af==2)=b:=⟨_,rfl⟩;have HB:=hid (show bF af=(b1||b2) by rw[<-h1,<-h2];unfold bF;cases h:af==1<;>cases h':af==2<;>simp_all)
 go_in;cases b1<;>
 ·go_wp2
  go_ret;exact⟨aQ (by rw[HB.out];rfl),rfl⟩
theorem Nq:SF aC 52:=fun l hl=>yH l hl _ (by decide)
def Gx(l:List Tx):List Tok:=l.map fun s=>(s,0)
def KI(r:Tx):Option Tx:=(aO r).head?
def G0(r:Tx):Prop:=F0 r/\KI r≠some [61]
def G2(r:Tx):Prop:=G0 r/\KI r≠some [47,92]
def G1(r:Tx):Prop:=G2 r/\KI r≠some [92,47]
def zP(d:Nat->Nat)(L:List Tok):List Tok:=L.map fun t=>(t.1,d t.2)
def kV{α:Type}(d:Nat->Nat):PR α->PR α
 | .ok (x,r)=>.ok (x,zP d r)
 | .error e=>.error (zP d e)
theorem DR(d:Nat->Nat)(t:Tok)(l:List Tok):zP d (t::l)=(t.1,d t.2)::zP d l:=rfl
theorem DU(d:Nat->Nat)(l:List Tok):(zP d l).tail=zP d l.tail:=by cases l<;>rfl
theorem DS(d:Nat->Nat)(l:List Tok):au (zP d l)=au l:=by cases l<;>rfl
theorem aah(d:Nat->Nat)(l:List Tok):(zP d l).length=l.length:=by simp[zP]
theorem uU(d:Nat->Nat)(s:Tx)(l:List Tok):bg s (zP d l)=match bg s l with
 | .ok r=>.ok (zP d r)
 | .error e=>.error (zP d e):=by
 cases l with
 |nil=>rfl
 |cons t l=>rw[DR];rw[tK,tK];split<;>rfl
theorem Vl(d:Nat->Nat)(a b:Int)(l:List Tok):jM a b (zP d l)=kV d (jM a b l):=by
 cases l with
 |nil=>rfl
 | cons t l=>
   rw[DR,pG,pG];simp only;cases aU t.1 with
   |none=>rfl
   |some n=>simp only;split<;>rfl
theorem VY(d:Nat->Nat)(l:List Tok):iL (zP d l)=kV d (iL l):=by
 cases l with
 |nil=>rfl
 |cons t l=>rw[DR];rw[rN,rN];split<;>rfl
theorem alq(af:Int)(d:Nat->Nat)(l:List Tok):eY af (zP d l)=kV d (eY af l):=by
 unfold eY;rw[DS,DU];split
 ·rw[VY]
  cases iL l.tail with
  |error e=>rfl
  | ok p=>
    obtain⟨x,r⟩:=p;simp only[kV];rw[uU];cases bg [93] r<;>rfl
 split
 ·rw[Vl]
  cases jM 0 15 l with
  |error e=>rfl
  | ok p=>
    obtain⟨x,r⟩:=p;simp only[kV];rw[uU];cases bg [58] r with
    |error e=>rfl
    | ok r=>
      simp only;rw[DS];cases dh af (au r)with
      |none=>rfl
      |some k=>simp only[DU]
 rw[VY]
 cases iL l with
 |error e=>rfl
 |ok p=>rfl
theorem aaQ(af:Int)(d:Nat->Nat)(l:List Tok):js af (zP d l)=kV d (js af l):=by
 unfold js;rw[alq];cases eY af l with
 |error e=>rfl
 | ok p=>
   obtain⟨x,r⟩:=p;simp only[kV];rw[uU];cases bg [61] r with
   |error e=>rfl
   | ok r=>
     simp only;rw[Vl];cases jM (-2147483648) 2147483647 r<;>rfl
theorem YQ{k:Int}{sign:Tx}{one:List Tok->PR Nd}(d:Nat->Nat)(H: ∀l,one (zP d l)=kV d (one l)): ∀(n:Nat) (acc:List Nd) (l:List Tok),jj k sign one n acc (zP d l)=kV d (jj k sign one n acc l)
 |0,_,_=>rfl
 | n+1,acc,l=>by
   unfold jj;rw[DS,DU];split
   ·rw[H]
    cases one l.tail with
    |error e=>rfl
    |ok p=>exact YQ d H n _ _
   rfl
theorem YT{k:Int}{sign:Tx}(d:Nat->Nat)(H: ∀l,one (zP d l)=kV d (one l))(l:List Tok):iw k sign one (zP d l)=kV d (iw k sign one l):=by
 unfold iw;rw[H];cases one l with
 |error e=>rfl
 | ok p=>
   obtain⟨x,r⟩:=p;simp only[kV];rw[aah];exact YQ d H _ _ _
theorem WV(d:Nat->Nat)(H: ∀l,one (zP d l)=kV d (one l))(l:List Tok):gY one (zP d l)=kV d (gY one l):=YT d (YT d H) l
theorem MK(af:Int)(d:Nat->Nat): ∀(n:Nat) (l:List Tok),bV af n (zP d l)=kV d (bV af n l)
 |0,_=>rfl
 | n+1,l=>by
   unfold bV;simp only[DS,DU];split
   ·rw[MK af d n]
    cases bV af n l.tail<;>rfl
   split
   ·rw[WV d (MK af d n)]
    cases gY (bV af n) l.tail with
    |error e=>rfl
    | ok p=>
      obtain⟨x,r⟩:=p;simp only[kV];rw[uU];cases bg [41] r<;>rfl
   split
   ·rfl
   exact aaQ af d l
theorem abx(d:Nat->Nat)(l:List Tok):gW (zP d l)=kV d (gW l):=by
 unfold gW;rw[DS,DU,uU,uU];split
 ·rfl
 split
 ·cases bg [101,120,105,115,116,115] l.tail<;>rfl
 cases bg [101,120,105,115,116,115] l<;>rfl
theorem Sg(af:Int)(d:Nat->Nat)(l:List Tok):gy af (zP d l)=match gy af l with
 | .ok p=>.ok p
 | .error e=>.error (zP d e):=by
 unfold gy;rw[abx];cases gW l with
 |error e=>rfl
 | ok p=>
   obtain⟨q,l⟩:=p;simp only[kV];rw[uU];cases bg [40] l with
   |error e=>rfl
   | ok l=>
     simp only;rw[aah,WV d (MK af d _)];cases gY (bV af (l.length+1)) l with
     |error e=>rfl
     | ok p=>
       obtain⟨x,l⟩:=p;simp only[kV];rw[uU];cases bg [41] l with
       |error e=>rfl
       | ok l=>
         cases l with
         |nil=>rfl
         |cons t l=>rfl
theorem aml(p:Nat)(s:Tx):zP (fun _=>0) (lex p s)=Gx (aO s):=by
 rw[<-Gn p s];unfold zP Gx;rw[apK];rfl
theorem Sf(af:Int)(s:Tx):gy af (Gx (aO s))=match gy af (lex 0 s)with
 | .ok p=>.ok p
 | .error e=>.error (zP (fun _=>0) e):=by
 rw[<-aml 0 s,Sg]
theorem ab3(h:gy af (Gx (aO s))= .ok p):gy af (lex 0 s)= .ok p:=by
 rw[Sf]at h;cases e:gy af (lex 0 s)with
 |ok q=>rw[e]at h;exact h
 |error q=>rw[e]at h;cases h
theorem JQ(h:gy af (lex 0 s)= .ok p)(hr:aO s=aO r):gy af (lex 0 r)= .ok p:=by
 refine ab3 ?_;rw[<-hr,Sf,h]
theorem Xn(h:cJ af s= .ok p)(hr:aO s=aO r)(hl:r.length<=262144):cJ af r= .ok p:=by
 unfold cJ at h⊢
 split at h
 ·cases h
 rename_i h1
 split at h
 ·cases h
 rw[if_neg h1,if_neg (by omega)]
 split at h
 ·cases h
 rename_i q x e
 rw[JQ e hr];exact h
mutual
theorem Z6(af:Int): ∀(x:Nd) (met deep:Nat),eO af (bG x) met deep=eO af x met deep
 | .mk k t v a c l,met,deep=>by
   rw[bG,eO,eO,AL,Z3 af l]
theorem Z3(af:Int): ∀(l:List Nd) (met deep:Nat),jl af (eU l) met deep=jl af l met deep
 |[],met,deep=>by rw[eU]
 |x::r,met,deep=>by rw[eU,jl,jl,Z6 af x,Z3 af r]
end
theorem RS(af q:Int)(x:Nd):cV af q (bG x)=cV af q x:=by unfold cV;rw[Z6]
abbrev Bl(a:Tx):Prop:= ∀c∈a,aq c=true
inductive Pd:Tx->Tx->Prop where
 |fin (a b:Tx) (ha:Bl a) (hb:Bl b):Pd a b
 |sep (a b:Tx) {s w:Tx} (ha:Bl a) (hb:Bl b) (h1:(10:UInt8)∈a) (h2:(10:UInt8)∈b) (h:Pd s w):Pd (a++s) (b++w)
 |byte (c:UInt8) {s w:Tx} (h:Pd s w):Pd (c::s) (c::w)
theorem Pd.nil:Pd [] []:=.fin [] [] (by decide) (by decide)
theorem Pd.refl: ∀s:Tx,Pd s s
 |[]=>.nil
 |c::s=>.byte c (Pd.refl s)
theorem Pd.app(A:Tx){s w:Tx}(h:Pd s w):Pd (A++s) (A++w):=by
 induction A with
 |nil=>exact h
 |cons c A ih=>exact .byte c ih
theorem Dl{a:Tx}(s:Tx)(h:Bl a):ax (a++s)=ax s:=by unfold ax;exact apu h
theorem G7{a:Tx}(h:Bl a):ax a=[]:=by have:=Dl [] h;simpa[ax]using this
theorem Zg(s:Tx):ax (ax s)=ax s:=by
 unfold ax;cases h:s.dropWhile aq with
 |nil=>rfl
 | cons c r=>
   have:=je (l:=s) (c:=c) (by rw[h];rfl);rw[apw (by rw[this];decide)]
theorem Pd.Zf{s w:Tx}(h:Pd s w):(ax s=[]/\ax w=[])\/ ∃c s' w',aq c=false/\ax s=c::s'/\ax w=c::w'/\Pd s' w':=by
 induction h with
 |fin a b ha hb=>exact .inl ⟨G7 ha,G7 hb⟩
 |sep a b ha hb h1 h2 h ih=>rw[Dl _ ha,Dl _ hb];exact ih
 | byte c h ih=>
   cases hb:aq c with
   | true=>
     have e: ∀s,ax (c::s)=ax s:=fun s=>by unfold ax;rw[apq hb]
     rw[e,e];exact ih
   | false=>
     have e: ∀s,ax (c::s)=c::s:=fun s=>by unfold ax;rw[apw (by rw[hb];decide)]
     exact .inr ⟨c,_,_,hb,e _,e _,h⟩
def P0(s w:Tx):Prop:=Pd (ax s) (ax w)
theorem Pd.p0{s w:Tx}(h:Pd s w):P0 s w:=by
 unfold P0;rcases h.Zf with⟨a,b⟩|⟨c,s',w',-, a,b,h⟩
 ·rw[a,b];exact .nil
 rw[a,b];exact .byte c h
theorem P0.app{s w a b:Tx}(ha:Bl a)(hb:Bl b)(h:P0 s w):P0 (a++s) (b++w):=by unfold P0 at h ⊢; rw[Dl _ ha,Dl _ hb];exact h
theorem P0.cases{s w:Tx}(h:P0 s w):(ax s=[]/\ax w=[])\/ ∃c s' w',aq c=false/\ax s=c::s'/\ax w=c::w'/\Pd s' w':=by
 have:=Pd.Zf h
 rwa[Zg,Zg]at this
theorem P0.head{s w:Tx}(h:P0 s w):(ax s).head?=(ax w).head?:=by
 rcases h.cases with⟨a,b⟩|⟨c,s',w',-, a,b,h⟩<;>rw[a,b]<;>rfl
theorem Ow{c:UInt8}(s:Tx): ∀{a:Tx},c∈a->(a++s).takeWhile (· != c)=a.takeWhile (· != c)/\(a++s).dropWhile (· != c)=a.dropWhile (· != c)++s
 |[],h=>by cases h
 | d::a,h=>by
   by_cases e:d=c
   ·subst e;simp
   have h':c∈a:=by rcases anE.1 h with rfl|h;exact absurd rfl e;exact h
   obtain⟨x,y⟩:=Ow s h';rw[aod,aps (by simpa using e),aps (by simpa using e),apq (by simpa using e),apq (by simpa using e),x,y];exact⟨rfl,rfl⟩
theorem wU{c:UInt8}(s:Tx){a:Tx}(h:c∉a):(a++s).takeWhile (· != c)=a++s.takeWhile (· != c)/\(a++s).dropWhile (· != c)=s.dropWhile (· != c):=by
 have k: ∀x∈a,(x != c)=true:=fun x hx=>by
  rw[bne_iff_ne];rintro rfl;exact h hx
 exact⟨apz k,apu k⟩
theorem SH{c:UInt8}{a:Tx}(h:Bl a):Bl (a.dropWhile (· != c)):=fun d hd=>h d (apr _ |>.subset hd)
theorem Pd.rest{s w:Tx}(h:Pd s w):P0 (bE s) (bE w):=by
 have f: ∀a s:Tx,Bl a->(10:UInt8)∈a-> ∃b,Bl b/\bE (a++s)=b++s:=fun a s ha h1=>by
  unfold bE;rw[(Ow s h1).2];cases e:a.dropWhile (· != 10)with
  | nil=>
    have:=ru e 10 h1;simp at this
  |cons d b=>exact⟨b,fun c hc=>SH (c:=10) ha c (by rw[e];simp[hc]),rfl⟩
 induction h with
 | fin a b ha hb=>
   have k: ∀a:Tx,Bl a->Bl (bE a):=fun a ha c hc=>SH (c:=10) ha c (List.drop_subset _ _ hc)
   unfold P0;rw[G7 (k a ha),G7 (k b hb)];exact .nil
 | sep a b ha hb h1 h2 h ih=>
   obtain⟨a',x,y⟩:=f a _ ha h1;obtain⟨b',x',y'⟩:=f b _ hb h2;rw[y,y'];exact h.p0.app x x'
 | @byte c s w h ih=>
   by_cases e:c=10
   ·subst e
    exact h.p0
   have k: ∀s:Tx,bE (c::s)=bE s:=fun s=>by unfold bE;rw[apq (by simpa using e)]
   rw[k,k];exact ih
theorem P0.rest{s w:Tx}(h:P0 s w):P0 (bE (ax s)) (bE (ax w)):=Pd.rest h
theorem ug{c:UInt8}(hc:aq c=false){a:Tx}(h:Bl a):c∉a:=fun m=>by rw[h c m]at hc;cases hc
theorem Fo{c:UInt8}{a:Tx}(h:c∉a):a.dropWhile (· != c)=[]/\a.takeWhile (· != c)=a:=by
 have:=wU (c:=c) [] h;simpa using this.symm
theorem Pd.cut{c:UInt8}(hc:aq c=false){s w:Tx}(h:Pd s w):(c∈s<->c∈w)/\Pd (s.takeWhile (· != c)) (w.takeWhile (· != c))/\Pd ((s.dropWhile (· != c)).drop 1) ((w.dropWhile (· != c)).drop 1):=by
 induction h with
 | fin a b ha hb=>
   have na:=ug hc ha;have nb:=ug hc hb;rw[(Fo na).1,(Fo na).2,(Fo nb).1,(Fo nb).2];exact⟨⟨fun h=>absurd h na,fun h=>absurd h nb⟩,.fin a b ha hb,.nil⟩
 | sep a b ha hb h1 h2 h ih=>
   have na:=ug hc ha;have nb:=ug hc hb;rw[(wU _ na).1,(wU _ na).2,(wU _ nb).1,(wU _ nb).2];refine⟨?_,.sep a b ha hb h1 h2 ih.2.1,ih.2.2⟩;rw[aok,aok];exact⟨fun h=>.inr (ih.1.1 (h.resolve_left na)),fun h=>.inr (ih.1.2 (h.resolve_left nb))⟩
 | @byte d s w h ih=>
   by_cases e:d=c
   ·subst e
    simp only[aom,anV,bne_self_eq_false,Bool.false_eq_true,if_false,List.drop_one,List.tail_cons];exact⟨by simp,.nil,h⟩
   have e':(d != c)=true:=by simpa using e
   rw[aps (p:=fun x=>x != c) e',aps (p:=fun x=>x != c) e',apq (p:=fun x=>x != c) e',apq (p:=fun x=>x != c) e'];refine⟨?_,.byte d ih.2.1,ih.2.2⟩;rw[anE,anE,ih.1]
theorem mV(s:Tx):(ax s).length<=s.length:=(apr _).length_le
theorem aka(s:Tx):(bE s).length<=s.length:=by
 unfold bE;have:=(apr (l:=s) (· != 10)).length_le;rw[aoN];omega
theorem uR(s:Tx):(bE (ax s)).length<=s.length:=Nat.le_trans (aka _) (mV _)
theorem Fa{N:Nat}{s:Tx}{t:aG}:lz N s= .ok t<-> ∃a n r1 c r2 i r3 l r4 q x,fP N s= .ok (a,n,r1)/\eH N r1= .ok (c,r2)/\eM a N r2= .ok (i,r3)/\eR a N r3= .ok (l,r4)/\gL a N r4= .ok (q,x)/\pH a n c i l q x=t:=by
 unfold lz
 constructor
 ·intro h
  cases h1:fP N s with
  |error e=>rw[h1]at h;cases h
  | ok p=>
    obtain⟨a,n,r1⟩:=p;rw[h1]at h
    change (eH N r1 >>= _)=_ at h
    cases h2:eH N r1 with
    |error e=>rw[h2]at h;cases h
    | ok p=>
      obtain⟨c,r2⟩:=p;rw[h2]at h
      change (eM a N r2 >>= _)=_ at h
      cases h3:eM a N r2 with
      |error e=>rw[h3]at h;cases h
      | ok p=>
        obtain⟨i,r3⟩:=p;rw[h3]at h
        change (eR a N r3 >>= _)=_ at h
        cases h4:eR a N r3 with
        |error e=>rw[h4]at h;cases h
        | ok p=>
          obtain⟨l,r4⟩:=p;rw[h4]at h
          change (gL a N r4 >>= _)=_ at h
          cases h5:gL a N r4 with
          |error e=>rw[h5]at h;cases h
          | ok p=>
            obtain⟨q,x⟩:=p;rw[h5]at h;cases h;exact⟨a,n,r1,c,r2,i,r3,l,r4,q,x,rfl,h2,h3,h4,h5,rfl⟩
 rintro⟨a,n,r1,c,r2,i,r3,l,r4,q,x,h1,h2,h3,h4,h5,rfl⟩
 rw[h1]
 change (eH N r1 >>= _)=_
 rw[h2]
 change (eM a N r2 >>= _)=_
 rw[h3]
 change (eR a N r3 >>= _)=_
 rw[h4]
 change (gL a N r4 >>= _)=_
 rw[h5];rfl
mutual
theorem Tl: ∀(x:Nd) (acc:List Th),lX (bG x) acc=lX x acc
 | .mk k t v a c l,acc=>by rw[bG,lX,lX,Tk l]
theorem Tk: ∀(l:List Nd) (acc:List Th),fZ (eU l) acc=fZ l acc
 |[],acc=>by rw[eU]
 |x::r,acc=>by rw[eU,fZ,fZ,Tl x,Tk r]
end
theorem alw(q:Int)(x:Nd):kY q (bG x)=kY q x:=by
 unfold kY mX;rw[RS,Tl]
def mA(t:aG):aG:=pH t.af t.name t.bD t.init (gK t.code) t.q (bG t.node)
def sg(t:aG)(x:Nd):aG:=⟨t.af,t.name,t.bD,t.ia,t.ic,t.init,t.ca,t.cc,t.code,t.q,x⟩
theorem aaV(t:aG):mA t=sg (bare t) (bG (bare t).node):=by
 unfold mA pH sg bare oV gK;rw[apK];rfl
theorem alI(u:aG):cQ (sg u (bG u.node))=cQ u:=by
 have hA:lu (sg u (bG u.node))=lu u:=alw _ _;have hN:jO (sg u (bG u.node))=jO u:=by unfold jO uP;rw[hA];rfl
 have h1:dF (sg u (bG u.node))=dF u:=rfl;have h2:iV (sg u (bG u.node))=iV u:=rfl;have h3:cV (sg u (bG u.node)).af (sg u (bG u.node)).q (sg u (bG u.node)).node=cV u.af u.q u.node:=RS _ _ _;unfold cQ;rw[hA,hN,h1,h2,h3];rfl
theorem ZN(t:aG):cQ (mA t)=cQ t:=by
 rw[aaV,alI,alH]
theorem wG{s:Tx}(h:aC s=true):s.length<=32:=by
 cases s with
 |nil=>cases h
 | cons c r=>
   unfold aC at h;simp only[anS,decide_eq_true_eq]at h;simp only[ans];omega
def ue(x:aL):Prop:=(-2147483648<=x.thread/\x.thread<=2147483647)/\(-2147483648<=x.az/\x.az<=2147483647)/\x.loc.length<=32/\x.aT.length<=32
theorem alf{af:Int}{h:Tx}{x:aL}(e:kK af h=some x):ue x:=by
 unfold kK at e
 split at e
 ·split at e
  ·rename_i hn
   cases e;exact⟨⟨by simp,by simp⟩,⟨by simp,by simp⟩,wG hn,by simp⟩
  cases e
 split at e
 ·split at e
  ·rename_i n r hn hr
   split at e
   ·rename_i hb
    cases e;have h1:=(Df hr).1;have h2:dO af<=32:=by unfold dO;split<;>decide
    exact⟨⟨by simp only;omega,by simp only;omega⟩,⟨by simp only;omega,by simp only;omega⟩,by simp,by simp⟩
   cases e
  cases e
 split at e
 ·rename_i hn
  cases e;exact⟨⟨by simp,by simp⟩,⟨by simp,by simp⟩,wG hn,by simp⟩
 cases e
theorem al5{v l:Tx}{n:Int}(h:eG v=some (l,n)):l.length<=32:=by
 unfold eG at h
 split at h
 ·cases h;simp
 split at h
 ·rename_i hn;cases h;exact wG hn
 cases h
theorem aeg{af:Int}{s:Tx}{x:aL}(h:fR af s=some x):ue x:=by
 unfold fR at h
 split at h
 ·cases h
 cases h1:kK af (ak (s.takeWhile (· != 61)))with
 |none=>rw[h1,mL]at h;cases h
 | some y=>
   cases h2:eG (ak ((s.dropWhile (· != 61)).drop 1))with
   |none=>rw[h2,uH]at h;cases h
   | some p=>
     obtain⟨l,n⟩:=p;rw[h1,h2]at h;cases h;obtain⟨a,b,c,d⟩:=alf h1;exact⟨a,b,c,al5 h2⟩
theorem M9{af:Int}{N:Nat}: ∀{L:List Tx} {v:Tx} {acc l:List aL},(∀x∈acc,ue x)->gF af N L v acc= .ok l-> ∀x∈l,ue x
 |[],v,acc,l,ha,h=>by cases h;exact ha
 | p::L,v,acc,l,ha,h=>by
   rw[gF]at h
   split at h
   ·exact M9 ha h
   split at h
   ·cases h
   rename_i y hy
   refine M9 (fun x hx=>?_) h;rcases aok.1 hx with hx|hx
   ·exact ha x hx
   rcases aoi.1 hx with rfl
   exact aeg hy
theorem U9{af:Int}{N:Nat}{r r1:Tx}{l:List aL}(h:eM af N r= .ok (l,r1)): ∀x∈l,ue x:=by
 unfold eM at h
 dsimp only at h
 split at h
 ·cases h
 split at h
 ·cases h
 rename_i m hm
 cases h;exact M9 (fun x hx=>absurd hx (by simp)) hm
def sM(i:ay):Prop:=i.loc.length<=32/\i.label.length<=32
theorem abf{i:ay}(h:iF i=true):sM i:=by
 unfold iF at h;rw[anS,decide_eq_true_eq]at h;obtain⟨h1,h2⟩:=h;rw[h2];unfold eD at h1;unfold zM sM
 split at h1
 ·rename_i h0
  rw[if_pos h0];rw[anS]at h1;exact⟨wG h1.1,by simp⟩
 rename_i h0
 rw[if_neg h0]
 split at h1
 ·rename_i h3
  rw[if_pos h3];rw[anS]at h1;exact⟨wG h1.1,by simp⟩
 rename_i h3
 rw[if_neg h3]
 split at h1
 ·rename_i h4
  rw[if_pos h4];rw[anS]at h1;exact⟨wG h1.1,by simp⟩
 rename_i h4
 rw[if_neg h4]
 split<;>exact⟨by simp,by simp⟩
theorem abd{i:ay}(h:bX i=true):sM i:=by
 unfold bX at h;simp only[anS,decide_eq_true_eq]at h;obtain⟨⟨⟨⟨h1,h2⟩, -⟩, -⟩, -⟩:=h
 have hl:i.op=11\/i.op=12->i.label.length<=32:=fun h0=>by
  unfold fE at h1;rw[if_neg (by omega),if_pos h0]at h1;exact wG h1
 rw[h2];unfold nh sM
 repeat' split
 all_goals first
  |(refine⟨?_,?_⟩<;>(simp;done))
  |exact⟨apL _,hl (.inl (by assumption))⟩
  |exact⟨apL _,hl (.inr (by assumption))⟩
theorem ael{af:Int}{s:Tx}{i:ay}(h:mM af s=some i):sM i:=by
 unfold mM at h
 split at h
 ·exact abf (agS h)
 exact abd (agT h)
def xA(l:List (List ay)):Prop:= ∀r∈l,∀i∈r,sM i
theorem JF{af:Int}{N:Nat}: ∀{L:List Tx} {v:Tx} {acc l:List (List ay)},xA acc->dn af N L v acc= .ok l->xA l
 |[],v,acc,l,ha,h=>by cases h;exact ha
 |c::L,v,[],l,ha,h=>by cases h;exact ha
 | c::L,v,x::acc,l,ha,h=>by
   have ha2:xA acc:=fun r hr=>ha r (apF _ hr)
   rw[dn]at h
   split at h
   ·split at h
    ·cases h
    rename_i r hr
    cases h;intro y hy;rcases anE.1 hy with rfl|hy
    ·exact ha _ (apA ..)
    exact JF ha2 hr y hy
   split at h
   ·cases h
   rename_i i hi
   split at h
   ·cases h
   rename_i r hr
   cases h;intro y hy;rcases anE.1 hy with rfl|hy
   ·intro j hj
    rcases aok.1 hj with hj|hj
    ·exact ha _ (apA ..) j hj
    rcases aoi.1 hj with rfl
    exact ael hi
   exact JF ha2 hr y hy
theorem Y7{af:Int}{N:Nat}: ∀{n:Nat} {r:Tx} {acc l:List (List ay)} {r1:Tx},xA acc->jC af N n r acc= .ok (l,r1)->xA l
 |0,r,acc,l,r1,ha,h=>by cases h;exact ha
 | n+1,r,acc,l,r1,ha,h=>by
   rw[jC]at h
   try dsimp only at h
   split at h
   ·cases h;exact ha
   split at h
   ·cases h
   split at h
   ·cases h
   rename_i m hm
   exact Y7 (JF ha hm) h
theorem Zx{af:Int}{N:Nat}{r r1:Tx}{l:List (List ay)}(h:eR af N r= .ok (l,r1)):xA l:=by
 unfold eR at h
 dsimp only at h
 split at h
 ·cases h
 refine Y7 (fun x hx=>?_) h
 rw[apC hx];intro i hi;cases hi
theorem FP{N:Nat}{r n r1:Tx}{a:Int}(h:fP N r= .ok (a,n,r1)):bF a=true/\n.length<=r.length:=by
 unfold fP at h
 dsimp only at h
 split at h
 ·cases h
 rename_i w m hw
 split at h
 ·cases h
 rename_i b hb
 cases h;refine⟨?_,?_⟩
 ·unfold vz at hb
  split at hb
  ·cases hb;rfl
  split at hb
  ·cases hb;rfl
  cases hb
 unfold qJ at hw
 dsimp only at hw
 split at hw
 ·cases hw
 cases hw
 have h1:=(apr (l:=(aK (ax r)).dropWhile nb) aq).length_le;have h2:=(apr (l:=aK (ax r)) nb).length_le
 have h3:(aK (ax r)).length<=(ax r).length:=by
  obtain⟨b,h, -⟩:=mQ ((ax r).takeWhile (· != 10));have h4:=congrArg anO h;have h5:=(apv (l:=ax r) (· != 10)).length_le;rw[aoW]at h4;unfold aK;omega
 have h6:=mV r;omega
theorem Sv{N:Nat}{r c r1:Tx}(h:eH N r= .ok (c,r1)):c.length<=r.length:=by
 unfold eH at h
 dsimp only at h
 have h3:(aK (ax r)).length<=(ax r).length:=by
  obtain⟨b,h, -⟩:=mQ ((ax r).takeWhile (· != 10));have h4:=congrArg anO h;have h5:=(apv (l:=ax r) (· != 10)).length_le;rw[aoW]at h4;unfold aK;omega
 have h6:=mV r
 split at h
 ·cases h;simp
 split at h
 ·cases h
 cases h
 have h7:(ak ((aK (ax r)).drop 1).dropLast).length<=(((aK (ax r)).drop 1).dropLast).length:=jS _;rw[apG,aoN]at h7;omega
theorem M7{af:Int}{N:Nat}: ∀{L:List Tx} {v:Tx} {acc l:List aL},gF af N L v acc= .ok l->l.length<=acc.length+L.length
 |[],v,acc,l,h=>by cases h;simp
 | p::L,v,acc,l,h=>by
   rw[gF]at h
   split at h
   ·have:=M7 h
    simp only[ans];omega
   split at h
   ·cases h
   have:=M7 h
   simp only[ans,aoW,apa]at this ⊢; omega
theorem U5{af:Int}{N:Nat}{r r1:Tx}{l:List aL}(h:eM af N r= .ok (l,r1)):l.length<=r.length+1:=by
 unfold eM at h
 dsimp only at h
 split at h
 ·cases h
 split at h
 ·cases h
 rename_i m hm
 cases h;have h1:=M7 hm;have h2:=qG 59 (((ax r).takeWhile (· != 125)).drop 1);have h3:=(apv (l:=ax r) (· != 125)).length_le;have h4:=mV r;rw[aoN]at h2;simp only[apa]at h1;omega
def vb(n k:Nat)(l:List (List ay)):Prop:=l.length<=n/\ ∀r∈l,r.length<=k
theorem JC{af:Int}{N n k:Nat}: ∀{L:List Tx} {v:Tx} {acc l:List (List ay)},vb n k acc->dn af N L v acc= .ok l->vb n (k+1) l
 |[],v,acc,l,ha,h=>by cases h;exact⟨ha.1,fun r hr=>Nat.le_succ_of_le (ha.2 r hr)⟩
 |c::L,v,[],l,ha,h=>by cases h;exact⟨apL _,fun r hr=>by cases hr⟩
 | c::L,v,x::acc,l,ha,h=>by
   have h0:acc.length+1<=n:=ha.1;have ha2:vb (n-1) k acc:=⟨by omega,fun r hr=>ha.2 r (apF _ hr)⟩;have hx:=ha.2 x (apA ..);rw[dn]at h
   split at h
   ·split at h
    ·cases h
    rename_i r hr
    cases h;obtain⟨i1,i2⟩:=JC ha2 hr;refine⟨by simp only[ans];omega,fun y hy=>?_⟩;rcases anE.1 hy with rfl|hy
    ·omega
    exact i2 y hy
   split at h
   ·cases h
   split at h
   ·cases h
   rename_i r hr
   cases h;obtain⟨i1,i2⟩:=JC ha2 hr;refine⟨by simp only[ans];omega,fun y hy=>?_⟩;rcases anE.1 hy with rfl|hy
   ·simp only[aoW,ans,apa];omega
   exact i2 y hy
theorem Y3{af:Int}{N m:Nat}: ∀{n k:Nat} {r:Tx} {acc l:List (List ay)} {r1:Tx},vb m k acc->jC af N n r acc= .ok (l,r1)->vb m (k+n) l
 |0,k,r,acc,l,r1,ha,h=>by cases h;exact ha
 | n+1,k,r,acc,l,r1,ha,h=>by
   rw[jC]at h
   try dsimp only at h
   split at h
   ·cases h;exact⟨ha.1,fun r hr=>Nat.le_trans (ha.2 r hr) (Nat.le_add_right _ _)⟩
   split at h
   ·cases h
   split at h
   ·cases h
   rename_i y hy
   obtain⟨i1,i2⟩:=Y3 (JC ha hy) h;exact⟨i1,fun r hr=>by have:=i2 r hr;omega⟩
theorem Zu{af:Int}{N:Nat}{r r1:Tx}{l:List (List ay)}(h:eR af N r= .ok (l,r1)):vb (r.length+1) (r.length+1) l:=by
 unfold eR at h
 dsimp only at h
 split at h
 ·cases h
 have h1:(fh (ax r)).length<=r.length+1:=by
  have h2:=qG 124 (aK (ax r)).dropLast
  have h3:(aK (ax r)).length<=(ax r).length:=by
   obtain⟨b,h, -⟩:=mQ ((ax r).takeWhile (· != 10));have h4:=congrArg anO h;have h5:=(apv (l:=ax r) (· != 10)).length_le;rw[aoW]at h4;unfold aK;omega
  have h6:=mV r;rw[apG]at h2;unfold fh;omega
 have h7:vb (r.length+1) 0 (List.replicate (fh (ax r)).length ([]:List ay)):=⟨by rw[List.length_replicate];exact h1,fun x hx=>by rw[apC hx];exact anb _⟩;have:=Y3 h7 h
 rwa[Nat.zero_add]at this
def GZ:Tx:=[88,56,54,32,32,32,83,66,10,34,70,114,101,32,80,111,100,87,82,32,70,114,101,32,80,111,100,87,82,34,10,123,32,120,61,48,59,32,91,121,93,32,61,32,48,32,125,10,80,48,124,80,49,59,10,77,79,86,32,91,120,93,44,36,49,124,77,79,86,32,91,121,93,32,44,32,36,49,59,10,124,59,10,77,79,86,32,69,65,88,44,91,121,93,124,77,79,86,32,69,65,88,44,91,120,93,59,10,101,120,105,115,116,115,32,40,48,58,69,65,88,61,48,32,47,92,10,49,58,69,65,88,61,48,41,10]
def Jo:Tx:=[65,82,77,32,83,66]
def Jr:Tx:=[88,56,54,32,83,66,10,123,120,61,59,125]
def WO(p:EP aG):Bool:=match p with
 | .ok t=>(t.name==[83,66])&&((t.code.length==2)&&(((t.code[1]?).map (fun c=>c.l.length)==some 2)&&(t.init.length==2)))
 | .error _=>false
def J5(p:EP aG):Int × Nat:=match p with
 | .ok _=>(0,0)
 | .error x=>x
theorem akr:WO (fq GZ)=true:=dx
theorem aaH:J5 (fq Jo)=(5,0):=dx
theorem aaS:J5 (fq Jr)=(140,8):=dx
theorem aks: ∃t,fq GZ= .ok t/\t.name=[83,66]/\t.code.length=2/\(∃c,t.code[1]? =some c/\c.l.length=2)/\t.init.length=2:=by
 have h:=akr;cases e:fq GZ with
 |error x=>rw[e]at h;cases h
 | ok t=>
   rw[e]at h;unfold WO at h;simp only[anS,beq_iff_eq]at h;obtain⟨h1,h2,h3,h4⟩:=h;refine⟨t,rfl,h1,h2,?_,h4⟩;cases hc:t.code[1]? with
   |none=>rw[hc]at h3;cases h3
   |some c=>rw[hc]at h3;exact⟨c,rfl,by simpa using h3⟩
theorem SK{s:Tx}{n:Int}{k:Nat}(h:J5 (fq s)=(n,k))(hn:n≠0):fq s= .error (n,k):=by
 cases e:fq s with
 |error x=>rw[e]at h;exact congrArg _ h
 |ok t=>rw[e]at h;exact absurd (congrArg Prod.fst h).symm hn
theorem aaI:fq Jo= .error (5,0):=SK aaH (by decide)
theorem aaT:fq Jr= .error (140,8):=SK aaS (by decide)
theorem AR{a b:Tx}(ha:Bl a)(hb:Bl b):Bl (a++b):=fun c hc=>(aok.1 hc).elim (ha c) (hb c)
theorem Zh(p:Tx): ∃b,Bl b/\p=b++ax p:=⟨p.takeWhile aq,fun c hc=>anF.1 (aoX (p:=aq) (l:=p)) c hc,(aoj ..).symm⟩
theorem P0.sep{a b s w:Tx}(ha:Bl a)(hb:Bl b)(h1:(10:UInt8)∈a)(h2:(10:UInt8)∈b)(h:P0 s w):Pd (a++s) (b++w):=by
 obtain⟨u,hu,eu⟩:=Zh s;obtain⟨v,hv,ev⟩:=Zh w;rw[eu,ev,<-anZ,<-anZ];exact .sep (a++u) (b++v) (AR ha hu) (AR hb hv) (by simp[h1]) (by simp[h2]) h
def aW(s:Tx)(a b:Nat):Tx:=(s.take b).drop a
theorem wO{s:Tx}{a b:Nat}(hb:b<=s.length):(aW s a b).length=b-a:=by unfold aW;rw[aoN,ao2];omega
theorem Dk{s:Tx}{a b i:Nat}(h:a+i<b):(aW s a b)[i]? =s[a+i]? :=by
 unfold aW;rw[List.getElem?_drop,List.getElem?_take_of_lt h]
end Go.Proofs.YtkbbgjloifmmbaaGreatDoor
