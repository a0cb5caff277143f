/- What ReadPiecesP leans on, part 37. -/
import Derived.Test.YtkbbgjloifmmbaaGreatDoorRp36
set_option linter.unusedVariables false
set_option maxRecDepth 100000
set_option maxHeartbeats 3200000
namespace Go.Proofs.YtkbbgjloifmmbaaGreatDoor
open Go.RowKit Go.Sort
theorem wordsA_few: ∀(s u:Tx),(wordsA u s).length<=2*s.length+1/\ ∀w∈wordsA u s,w.length<=u.length+s.length
 | [],u=>by
   rw[wA_nil];unfold flushX;split
   ·exact⟨by simp,fun w hw=>by cases hw⟩
   ·exact⟨by simp,fun w hw=>by rcases List.mem_singleton.1 hw with rfl;simp⟩
 | c::r,u=>by
   have hf:(flushX u).length<=1/\ ∀w∈flushX u,w.length<=u.length:=by
    unfold flushX;split
    ·exact⟨by simp,fun w hw=>by cases hw⟩
    ·exact⟨by simp,fun w hw=>by rcases List.mem_singleton.1 hw with rfl;simp⟩
   rcases w_cases c with h|h|h
   ·obtain⟨i1,i2⟩:=wordsA_few r []
    rw[wA_blank u r h];unfold wordsX;refine⟨by rw[List.length_append,List.length_cons];omega,fun w hw=>?_⟩;rcases List.mem_append.1 hw with hw|hw
    ·have:=hf.2 w hw;simp only[List.length_cons];omega
    ·have:=i2 w hw;simp only[List.length_cons,List.length_nil]at this ⊢; omega
   ·obtain⟨i1,i2⟩:=wordsA_few r []
    rw[wA_sign u r h];unfold wordsX;refine⟨by rw[List.length_append,List.length_cons,List.length_cons];omega,fun w hw=>?_⟩;rcases List.mem_append.1 hw with hw|hw
    ·have:=hf.2 w hw;simp only[List.length_cons];omega
    ·rcases List.mem_cons.1 hw with rfl|hw
     ·simp only[List.length_cons,List.length_nil];omega
     ·have:=i2 w hw;simp only[List.length_cons,List.length_nil]at this ⊢; omega
   ·obtain⟨i1,i2⟩:=wordsA_few r (u++[c])
    rw[wA_in u r h];refine⟨by simp only[List.length_cons];omega,fun w hw=>?_⟩;have:=i2 w hw;simp only[List.length_append,List.length_cons,List.length_nil]at this ⊢; omega
theorem Txs.tail{w:World}{a:Option Addr}{p:Tx}{l:List Tx}(h:Txs w a (p::l))(c:Nat)(hc:c=1->l=[]):Txs w (cutA a (c=1) (1*1)) l:=⟨by have:=h.row.drop (1*1) (c=1) (fun h=>.inl (by simp[hc h]));simpa using this,by have:=h.len;simp at this;omega⟩
theorem pW_1{s:Tx}(hl:s.length<=262144)(h:wordsX s=[[77,70,69,78,67,69]]):parseX s=some ⟨5,0,0,0,0,[],[],0⟩:=by
 rw[<-parseW_eq];unfold parseW;rw[if_neg (by omega),if_pos h];rfl
theorem pW_2{s:Tx}(hl:s.length<=262144)(h:wordsX s≠[[77,70,69,78,67,69]])(h2:(wordsX s).length<4\/(wordsX s).head?≠some [77,79,86]\/apartB s=false):parseX s=none:=by
 rw[<-parseW_eq];unfold parseW;rw[if_neg (by omega),if_neg h,if_pos h2]
theorem pW_3{s:Tx}{L:List Tx}(hl:s.length<=262144)(h:wordsX s=[77,79,86]::L)(h2:3<=L.length)(h3:apartB s=true):parseX s=movedW L:=by
 rw[<-parseW_eq];unfold parseW
 rw[if_neg (by omega),if_neg (by rw[h];intro e;have:=(List.cons.inj e).1;revert this;decide),if_neg (by
  rw[h];rintro(h4|h4|h4)
  ·simp at h4;omega
  ·exact h4 rfl
  ·rw[h3]at h4;cases h4),h]
 rfl
theorem RetP.of{o:Option Ins}{i:Ins}{ok:Bool}{w w':World}{e:Ending}(h:OptV o i ok)(he:e= .returned (.tuple #[if ok=true then vI i else .agg #[.int .i64 0,.int .i64 0,.int .i64 0,.int .i64 0,.int .i64 0,.string ⟨#[]⟩,.string ⟨#[]⟩,.int .i64 0],.int .i64 (if ok=true then 0 else 91)]))(hb:Below w.heap.size w w'):RetP o w e w':=by
 cases ok with
 |true=>rw[h.yes];exact⟨he,hb⟩
 |false=>rw[h.no];exact⟨he,hb⟩
theorem r09Parse(s:Tx)(w:World)(g:Gl w):Calls Tryz.prog 46 #[.string (tx s)] w (RetP (parseX s) w):=by
 obtain⟨n,hn⟩: ∃n,(tx s).size=n:=⟨_,rfl⟩;have HN:=hid (show n=s.length by rw[<-hn,tx_size])
 by_cases hl:262144<s.length
 ·have HP:=hid (show parseX s=none by unfold parseX;rw[if_pos hl])
  have z:decide (262144<(n:Int))=true:=by have:=HN.out;simp;omega
  generalize parseX s=r at*;clear hl;go_enter Tryz.func46,Tryz.ntmps46;go_wp2_with fail;exact bodyPost_ret (by simp[results,Tryz.results46,go_sem]) rfl (RetP.no HP.out rfl blA)
 have hl:s.length<=262144:=by omega
 have z:decide (262144<(n:Int))=false:=by have:=HN.out;simp;omega
 have WD:=hid (fun w=>r09Words s hl w);have AP:=hid (fun w=>r09Apart s hl w);obtain⟨f1,f2⟩:=wordsA_few s [];obtain⟨L,hL⟩: ∃L,wordsX s=L:=⟨_,rfl⟩;have hL':wordsA [] s=L:=hL;rw[hL']at f1 f2;simp only[List.length_nil,Nat.zero_add]at f2;have g0:=hid g;have HW:=hid (show ∀w,Calls Tryz.prog 103 #[.string (tx s)] w fun e w'=> ∃a c,e= .returned (.slice a L.length c)/\Txs w' a L/\L.length<=c/\Below w.heap.size w w' from fun w=>(WD.out w).mono fun e w' ⟨a,c,h1,h2,h3⟩=>⟨a,c,by rw[<-hL];exact h1,by rw[<-hL];exact h2.txs (by rw[hL];omega),by rw[<-hL];exact(Own.cap h2).1,h3⟩)
 by_cases h1:L=[[77,70,69,78,67,69]]
 ·have HP:=hid (pW_1 hl (hL.trans h1))
  subst h1;generalize parseX s=r at*;have z2:((tx [77,70,69,78,67,69]).toList==[77,70,69,78,67,69])=true:=by rw[tx_toList];rfl
  clear hl hL hL' f1 f2;go_enter Tryz.func46,Tryz.ntmps46;go_wp2_with fail;refine(HW.out _).mono ?_;rintro e w1 ⟨a,c,rfl,T,hc,E⟩;have c0:=T.cell 0 (by simp);have i0: ∀w',(Instr.indexAt 42 (.slice a 1 c) (.int .i64 0)).run Tryz.prog w'=_:=T.idx 0 (by simp) c;simp only[Nat.add_zero,List.getElem_cons_zero]at i0 c0;obtain⟨⟨d0,d1,d2,d3,d4,d5,d6,d7⟩,hf,hlt,B⟩:=fresh8 E;generalize tx [77,70,69,78,67,69]=um at*;clear T;go_wp2_with fail;exact bodyPost_ret (by simp[results,Tryz.results46,go_sem,d0,d1,d2,d3,d4,d5,d6,d7,tx_nil]) rfl (RetP.yes HP.out rfl blA)
 by_cases h4:L.length<4\/L.head?≠some [77,79,86]
 ·have HP:=hid (pW_2 hl (by rw[hL];exact h1) (by rw[hL];rcases h4 with h|h;exact .inl h;exact .inr (.inl h)))
  generalize parseX s=r at*;obtain⟨m,hm⟩: ∃m,L.length=m:=⟨_,rfl⟩
  by_cases hm1:m=1
  ·match L,(hm.trans hm1)with
   | [x],_=>
     have zx:=tx_ne x [77,70,69,78,67,69] (fun e=>h1 (by rw[e]));clear hl hL hL' f1 f2 h1 h4 hm;go_enter Tryz.func46,Tryz.ntmps46;go_wp2_with fail;refine(HW.out _).mono ?_;rintro e w1 ⟨a,c,rfl,T,hc,E⟩;have c0:=T.cell 0 (by simp);have i0: ∀w',(Instr.indexAt 42 (.slice a 1 c) (.int .i64 0)).run Tryz.prog w'=_:=T.idx 0 (by simp) c;simp only[Nat.add_zero,List.getElem_cons_zero]at i0 c0;obtain⟨⟨d0,d1,d2,d3,d4,d5,d6,d7⟩,hf,hlt,B⟩:=fresh8 E;clear T;go_wp2_with fail;exact bodyPost_ret (by simp[results,Tryz.results46,go_sem,d0,d1,d2,d3,d4,d5,d6,d7]) rfl (RetP.no HP.out rfl blA)
  ·have zm:((m:Int)==1)=false:=by simp;omega
   by_cases hm4:m<4
   ·have zm4:decide ((m:Int)<4)=true:=by simp;omega
    have HM:=hid hm;rw[hm]at HW;clear hl hL hL' f1 f2 h1 h4 hm;go_enter Tryz.func46,Tryz.ntmps46;go_wp2_with fail;refine(HW.out _).mono ?_;rintro e w1 ⟨a,c,rfl,T,hc,E⟩;obtain⟨⟨d0,d1,d2,d3,d4,d5,d6,d7⟩,hf,hlt,B⟩:=fresh8 E;clear T;go_wp2_with fail;exact bodyPost_ret (by simp[results,Tryz.results46,go_sem,d0,d1,d2,d3,d4,d5,d6,d7]) rfl (RetP.no HP.out rfl blA)
   ·have zm4:decide ((m:Int)<4)=false:=by simp;omega
    have HM:=hid hm;obtain⟨x,hx⟩: ∃x,L[0]? =some x:=⟨_,List.getElem?_eq_getElem (by omega)⟩
    have zx:=tx_ne x [77,79,86] (fun e=>by
     rcases h4 with h|h
     ·omega
     ·exact h (by rw[List.head?_eq_getElem?,hx,e]))
    have HX:=hid hx;rw[hm]at HW;clear hl hL hL' f1 f2 h1 h4 hm hx;go_enter Tryz.func46,Tryz.ntmps46;go_wp2_with fail;refine(HW.out _).mono ?_;rintro e w1 ⟨a,c,rfl,T,hc,E⟩;have c0:=T.cell 0 (by have:=HM.out;omega);rw[(List.getElem?_eq_some_iff.1 HX.out).2]at c0;have i0: ∀w',(Instr.indexAt 42 (.slice a L.length c) (.int .i64 0)).run Tryz.prog w'=_:=T.idx 0 (by have:=HM.out;omega) c;rw[HM.out]at i0;simp only[Nat.add_zero]at i0 c0;obtain⟨⟨d0,d1,d2,d3,d4,d5,d6,d7⟩,hf,hlt,B⟩:=fresh8 E;clear T;go_wp2_with fail;exact bodyPost_ret (by simp[results,Tryz.results46,go_sem,d0,d1,d2,d3,d4,d5,d6,d7]) rfl (RetP.no HP.out rfl blA)
 rw[not_or]at h4;obtain⟨h4,h5⟩:=h4;cases L with
 |nil=>exact absurd (by simp) h4
 | cons x L=>
   obtain rfl:x=[77,79,86]:=by have:=Classical.byContradiction h5;simpa using this
   have hL3:3<=L.length:=by simp at h4;omega
   obtain⟨b,hb⟩: ∃b,apartB s=b:=⟨_,rfl⟩;rw[hb]at AP;obtain⟨m,hm⟩: ∃m,L.length=m:=⟨_,rfl⟩;obtain⟨q,hq⟩: ∃q,m+1=q:=⟨_,rfl⟩;have zm:((q:Int)==1)=false:=by simp;omega
   have zm4:decide ((q:Int)<4)=false:=by simp;omega
   have hq4:4<=q:=by omega
   have hqm:q-1=m:=by omega
   have z2:((tx [77,79,86]).toList==[77,79,86])=true:=by rw[tx_toList];rfl
   have HM:=hid (show([77,79,86]::L).length=q by rw[List.length_cons,hm,hq]);rw[HM.out]at HW;have hmb:q<=600001:=by simp at f1;omega
   cases b with
   | false=>
     have HP:=hid (pW_2 hl (by rw[hL];exact h1) (.inr (.inr hb)));generalize parseX s=r at*;clear hl hL hL' f1 f2 h1 h4 hm hb h5 hq;go_enter Tryz.func46,Tryz.ntmps46;go_wp2_with fail;refine(HW.out _).mono ?_;rintro e w1 ⟨a,c,rfl,T,hc,E⟩;have c0:=T.cell 0 (by simp);have i0: ∀w',(Instr.indexAt 42 (.slice a ([77,79,86]::L).length c) (.int .i64 0)).run Tryz.prog w'=_:=T.idx 0 (by simp) c;rw[HM.out]at i0;simp only[Nat.add_zero,List.getElem_cons_zero]at i0 c0;obtain⟨⟨d0,d1,d2,d3,d4,d5,d6,d7⟩,hf,hlt,B⟩:=fresh8 E;generalize tx [77,79,86]=um at*;clear T
     go_wp2_with (go_at_call 104;refine(AP.out _).mono ?_;rintro e w' ⟨rfl,rfl⟩)
     exact bodyPost_ret (by simp[results,Tryz.results46,go_sem,d0,d1,d2,d3,d4,d5,d6,d7]) rfl (RetP.no HP.out rfl blA)
   | true=>
     have HP:=hid (pW_3 hl hL hL3 hb);have HML:=hid hm;have MV:=hid (fun(a:Option Addr) (c:Nat) (hc:L.length<=c) (w:World) (T:Txs w a L) (g:Gl w)=>r09Moved L (fun x hx=>by have:=f2 x (List.mem_cons_of_mem _ hx);omega) a c hc w T (by omega) g);rw[hm]at MV;generalize parseX s=r at*;clear hl hL hL' f1 f2 h1 h4 hm hb h5 hL3 hq;go_enter Tryz.func46,Tryz.ntmps46;go_wp2_with fail;refine(HW.out _).mono ?_;rintro e w1 ⟨a,c,rfl,T,hc,E⟩;have c0:=T.cell 0 (by simp);have i0: ∀w',(Instr.indexAt 42 (.slice a ([77,79,86]::L).length c) (.int .i64 0)).run Tryz.prog w'=_:=T.idx 0 (by simp) c;rw[HM.out]at i0;simp only[Nat.add_zero,List.getElem_cons_zero]at i0 c0;have ct: ∀w',(Instr.sliceAt 42 (.slice a q c) (some (.int .i64 1)) none none).run Tryz.prog w'=_:=run_cut_from txl a q c 1 (by omega) .i64;rw[hqm]at ct;have MV:=hid (MV.out (cutA a (c=1) (1*1)) (c-1) (by omega) w1 (T.tail c (fun h=>by omega)) (g0.out.below (ext_trans (al w zI8) E)));generalize tx [77,79,86]=um at*;generalize cutA a (c=1) (1*1)=a2 at*;have HE:=hid E;clear T E
     go_wp2_with (first|(go_at_call 104;refine(AP.out _).mono ?_;rintro e w' ⟨rfl,rfl⟩)|fail)
     refine MV.out.mono ?_;rintro e w2 ⟨i,ok,rfl,HO,E2⟩;have E:=ext_trans HE.out E2;obtain⟨⟨d0,d1,d2,d3,d4,d5,d6,d7⟩,hf,hlt,B⟩:=fresh8 E;have HO:=hid (show OptV r i ok by rw[HP.out];exact HO);cases ok with
     | false=>
       go_wp2_with fail;exact bodyPost_ret (by simp[results,Tryz.results46,go_sem,d0,d1,d2,d3,d4,d5,d6,d7,hlt]) rfl (RetP.of HO.out rfl blA)
     | true=>
       go_wp2_with fail;exact bodyPost_ret (by simp[results,Tryz.results46,go_sem,d0,d1,d2,d3,d4,d5,d6,d7,hlt]) rfl (RetP.of HO.out rfl blA)
end Go.Proofs.YtkbbgjloifmmbaaGreatDoor
namespace Go.Proofs.YtkbbgjloifmmbaaGreatDoor
open Go.RowKit
def placeA:List Tx->Option Nat
 |[x,y]=>if x=[48]/\y.getLast?=some 41 then regOf (trimT y.dropLast)else none
 |_=>none
theorem placeA_eq(s:Tx):placeA ((splitC 40 s).map trimT)=addrT s:=placeV_eq s
theorem placeA_no{l:List Tx}(h:l.length≠2):placeA l=none:=by
 match l with
 |[]=>rfl
 |[_]=>rfl
 |[_,_]=>simp at h
 |_::_::_::_=>rfl
theorem splitC_sm(c:UInt8)(s:Tx)(hs:s.length<=1000000):Sm ((splitC c s).map trimT):=by
 intro x hx;obtain⟨y,hy,rfl⟩:=List.mem_map.1 hx;have h1:=trimT_length y;have h2:=splitC_le c s y hy;omega
def PlP(o:Option Nat)(w:World)(e:Ending)(w':World):Prop:=e= .returned (.tuple #[.int .i64 (optN o),.bool o.isSome])/\Below w.heap.size w w'
theorem PlP.no{w w':World}{o:Option Nat}(h:o=none)(hb:Below w.heap.size w w'):PlP o w (.returned (.tuple #[.int .i64 0,.bool false])) w':=by
 subst h;exact⟨rfl,hb⟩
theorem refPlace(s:Tx)(hs:s.length<=1000000)(w:World):Calls Tryz.prog 193 #[.string (tx s)] w (PlP (addrT s) w):=by
 have SP:=hid (fun w=>refSplit s 40 hs w);have hsm:=splitC_sm 40 s hs;rw[<-placeA_eq];generalize (splitC 40 s).map trimT=A at*
 by_cases h2:A.length=2
 ·obtain⟨x,y,rfl⟩:=len2 h2
  clear h2;have hx:=hsm x (by simp);have hy:=hsm y (by simp);have i0: ∀a w0,Txs w0 a [x,y]-> ∀c w',(Instr.indexAt 42 (.slice a 2 c) (.int .i64 0)).run Tryz.prog w'= .ok (.pointer (some ⟨bk a,fo a,none⟩)) w':=fun a w0 h c w'=>h.idx 0 (by simp) c w'
  have i1: ∀a w0,Txs w0 a [x,y]-> ∀c w',(Instr.indexAt 42 (.slice a 2 c) (.int .i64 1)).run Tryz.prog w'= .ok (.pointer (some ⟨bk a,fo a+1,none⟩)) w':=fun a w0 h c w'=>h.idx 1 (by simp) c w'
  have I0:=hid i0;have I1:=hid i1;clear i0 i1 hsm;have HP:=hid (show placeA [x,y]=if x=[48]/\y.getLast?=some 41 then regOf (trimT y.dropLast)else none from rfl);generalize placeA [x,y]=o at*
  by_cases h48:x=[48]
  ·subst h48
   have z1:((tx [48]).toList != [48])=false:=by rw[tx_toList];rfl
   have z1':(!((tx [48]).toList==[48]))=false:=by rw[tx_toList];rfl
   have z1q:((tx [48]).toList==[48])=true:=by rw[tx_toList];rfl
   rcases List.eq_nil_or_concat y with rfl|⟨Y,c,hyc⟩
   ·have HR:=hid (show o=none by rw[HP.out,if_neg (by simp)])
    have hz0:(tx ([]:Tx)).size=0:=rfl;clear HP;go_enter Tryz.func193,Tryz.ntmps193;go_wp2_with fail;refine(SP.out _).mono ?_;rintro e w1 ⟨a,c,rfl,t1,E⟩;have j0:=I0.out a w1 t1 c;have j1:=I1.out a w1 t1 c;have c0:w1.cell? ⟨bk a,fo a,none⟩=some (.string (tx [48])):=t1.cell 0 (by simp);have c1:w1.cell? ⟨bk a,fo a+1,none⟩=some (.string (tx [])):=t1.cell 1 (by simp);clear t1;go_wp2_with fail
    go_quiet (fail)
    go_wp2_with fail
    go_ret2
    exact PlP.no HR.out (E.trans ((below_drewN _ _).mono E.size))
   ·rw[List.concat_eq_append]at hyc
    subst hyc;obtain⟨k,hk⟩: ∃k,Y.length=k:=⟨_,rfl⟩;have hsz:(tx (Y++[c])).size=k+1:=by rw[tx_size];simp[hk]
    have hkb:k+1<=1000000:=by rw[<-hsz,tx_size];exact hy
    have ix:=run_ix (Y++[c]) k c (by simp[<-hk]);have hw1:IntKind.i64.wrap ((k:Int)+1-1)=k:=by rw[show(k:Int)+1-1=k by omega];exact IntWalk.i64_in _ (by omega)
    have hk1:decide ((k:Int)+1<1)=false:=by simp;omega
    by_cases h41:c=41
    ·subst h41
     have z2:(((41:UInt8).toNat:Int) != 41)=false:=by decide
     have z2q:(((41:UInt8).toNat:Int)==41)=true:=by decide
     have z2':(!(((41:UInt8).toNat:Int)==41))=false:=by decide
     have sl: ∀w,(Instr.sliceAt 9 (.string (tx (Y++[41]))) none (some (.int .i64 k)) none).run Tryz.prog w= .ok (.string (tx Y)) w:=fun w=>by
      have h1:=run_strto (Y++[41]) k (by rw[List.length_append,hk];omega) w;have e:List.take k (Y++[41])=Y:=by rw[<-hk];simp
      rw[e]at h1;exact h1
     have HR:=hid (show o=regOf (trimT Y) by rw[HP.out,if_pos ⟨rfl,by simp⟩,List.dropLast_concat]);have TR:=hid (fun w=>refTrim Y (by omega) w);have e1:=regN_opt (trimT Y);have e2:=regE_opt (trimT Y);rw[<-HR.out]at e1 e2;generalize trimT Y=T at*;have RG:=hid (fun w=>refRegOf T w);have H1:=hid e1;have H2:=hid e2;clear HP hk hy e1 e2;generalize Y++[41]=yy at*;go_enter Tryz.func193,Tryz.ntmps193;go_wp2_with fail;refine(SP.out _).mono ?_;rintro e w1 ⟨a,c,rfl,t1,E⟩;have j0:=I0.out a w1 t1 c;have j1:=I1.out a w1 t1 c;have c0:w1.cell? ⟨bk a,fo a,none⟩=some (.string (tx [48])):=t1.cell 0 (by simp);have c1:w1.cell? ⟨bk a,fo a+1,none⟩=some (.string (tx yy)):=t1.cell 1 (by simp);clear t1;go_wp2_with fail
     go_quiet (fail)
     go_wp2_with fail
     go_quiet (first|(go_at_call 106;refine(TR.out _).mono ?_;rintro e w' ⟨rfl,rfl⟩;exact⟨rfl,_,rfl⟩)|(go_at_call 192;refine(RG.out _).mono ?_;rintro e w' ⟨rfl,rfl⟩;exact⟨rfl,_,rfl⟩))
     go_wp2_with fail
     go_ret2
     exact⟨ret_ib H1.out H2.out,by first|exact E.trans ((below_drewN _ _).mono E.size)|(rw[World.drewN_drewN];exact E.trans ((below_drewN _ _).mono E.size))⟩
    ·have z2:((c.toNat:Int) != 41)=true:=u8_ne c 41 h41
     have z2q:((c.toNat:Int)==41)=false:=u8_neq c 41 h41;have z2':(!((c.toNat:Int)==41))=true:=by rw[z2q];rfl
     have HR:=hid (show o=none by rw[HP.out,if_neg (by simp;exact h41)]);clear HP hk hy h41;generalize Y++[c]=yy at*;go_enter Tryz.func193,Tryz.ntmps193;go_wp2_with fail;refine(SP.out _).mono ?_;rintro e w1 ⟨a,c,rfl,t1,E⟩;have j0:=I0.out a w1 t1 c;have j1:=I1.out a w1 t1 c;have c0:w1.cell? ⟨bk a,fo a,none⟩=some (.string (tx [48])):=t1.cell 0 (by simp);have c1:w1.cell? ⟨bk a,fo a+1,none⟩=some (.string (tx yy)):=t1.cell 1 (by simp);clear t1;go_wp2_with fail
     go_quiet (fail)
     go_wp2_with fail
     go_ret2
     exact PlP.no HR.out (E.trans ((below_drewN _ _).mono E.size))
  ·have z1:((tx x).toList != [48])=true:=by rw[tx_toList];simpa using h48
   have z1q:((tx x).toList==[48])=false:=by rw[tx_toList];simpa using h48
   have z1':(!((tx x).toList==[48]))=true:=by rw[z1q];rfl
   have HR:=hid (show o=none by rw[HP.out,if_neg (fun h=>h48 h.1)]);clear HP h48;go_enter Tryz.func193,Tryz.ntmps193;go_wp2_with fail;refine(SP.out _).mono ?_;rintro e w1 ⟨a,c,rfl,t1,E⟩;have j0:=I0.out a w1 t1 c;have j1:=I1.out a w1 t1 c;have c0:w1.cell? ⟨bk a,fo a,none⟩=some (.string (tx x)):=t1.cell 0 (by simp);have c1:w1.cell? ⟨bk a,fo a+1,none⟩=some (.string (tx y)):=t1.cell 1 (by simp);clear t1;go_wp2_with fail
   go_quiet (fail)
   go_wp2_with fail
   go_ret2
   exact PlP.no HR.out (E.trans ((below_drewN _ _).mono E.size))
 ·have HR:=hid (placeA_no h2)
  have z1:((A.length:Int) != 2)=true:=by simp;omega
  have z1q:((A.length:Int)==2)=false:=by simp;omega
  have z1':(!((A.length:Int)==2))=true:=by rw[z1q];rfl
  clear h2 hsm;generalize placeA A=o at*;go_enter Tryz.func193,Tryz.ntmps193;go_wp2_with fail;refine(SP.out _).mono ?_;rintro e w1 ⟨a,c,rfl,t1,E⟩;clear t1 SP;generalize A.length=n at*;go_wp2_with fail
  go_quiet (fail)
  go_wp2_with fail
  go_ret2
  exact PlP.no HR.out (E.trans ((below_drewN _ _).mono E.size))
def NoR(p s:Tx)(k:Nat):Prop:= ∀j:Nat,j<k-> ¬(fpart ((j:Int)/3)=p/\fpart ((j:Int)%3)=s)
theorem fence_hit{p s:Tx}{k:Nat}(hk:k<9)(h1:fpart ((k:Int)/3)=p)(h2:fpart ((k:Int)%3)=s):fenceV p s=3+k:=by
 subst h1 h2;have: ∀k:Fin 9,fenceV (fpart ((k.val:Int)/3)) (fpart ((k.val:Int)%3))=3+(k.val:Int):=by decide+kernel
 exact this ⟨k,hk⟩
theorem fence_miss{p s:Tx}(h:NoR p s 9):fenceV p s=0:=by
 unfold fenceV;cases hp:fpartOf p with
 |none=>rfl
 | some a=>
   cases hs:fpartOf s with
   |none=>rfl
   | some b=>
     obtain⟨i,hi,rfl,h1⟩:=fpartOf_some hp;obtain⟨j,hj,rfl,h2⟩:=fpartOf_some hs;exfalso;have key: ∀i:Fin 3,∀j:Fin 3,([[114],[119],[114,119]]:List Tx)[i.val]? =some (fpart (((3*i.val+j.val:Nat):Int)/3))/\([[114],[119],[114,119]]:List Tx)[j.val]? =some (fpart (((3*i.val+j.val:Nat):Int)%3)):=by decide+kernel
     obtain⟨k1,k2⟩:=key ⟨i,hi⟩ ⟨j,hj⟩;simp only at k1 k2;rw[h1]at k1;rw[h2]at k2;exact h (3*i+j) (by omega) ⟨(Option.some.inj k1).symm,(Option.some.inj k2).symm⟩
theorem NoR.step{p s:Tx}{k:Nat}(h:NoR p s k)(hn: ¬(fpart ((k:Int)/3)=p/\fpart ((k:Int)%3)=s)):NoR p s (k+1):=by
 intro j hj;rcases Nat.lt_succ_iff_lt_or_eq.1 hj with h'|h'
 ·exact h j h'
 ·subst h';exact hn
theorem refFence(p s:Tx)(w:World):Calls Tryz.prog 195 #[.string (tx p),.string (tx s)] w fun e w'=>e= .returned (.int .i64 (fenceV p s))/\w=w':=by
 go_enter Tryz.func195,Tryz.ntmps195;go_wp2_with fail
 go_loop [5] (fun i=> ∃k:Nat,k<=9/\i= .int .i64 k/\Hid (NoR p s k)) (fun i=>9-(intOf i).toNat)
 case atStart=>exact⟨0,by omega,rfl,fun j hj=>absurd hj (Nat.not_lt_zero j)⟩
 case round=>
  obtain⟨k,hk,rfl,HN⟩:=hrel
  by_cases hlt:k<9
  ·by_cases h1:fpart ((k:Int)/3)=p
   ·have z1:((tx (fpart ((k:Int)/3))).toList==(tx p).toList)=true:=by rw[tx_beq];simpa using h1
    by_cases h2:fpart ((k:Int)%3)=s
    ·have z2:((tx (fpart ((k:Int)%3))).toList==(tx s).toList)=true:=by rw[tx_beq];simpa using h2
     have HR:=hid (fence_hit hlt h1 h2);clear h1 h2
     go_wp2_with (go_at_call 257;refine(refPart _ _).mono ?_;rintro e w' ⟨rfl,rfl⟩)
     go_ret;exact⟨ret_int HR.out.symm,rfl⟩
    ·have z2:((tx (fpart ((k:Int)%3))).toList==(tx s).toList)=false:=tx_eq_false h2
     have HR:=hid (HN.out.step (fun h=>h2 h.2));clear h1 h2
     go_wp2_with (go_at_call 257;refine(refPart _ _).mono ?_;rintro e w' ⟨rfl,rfl⟩)
     go_round
     case rel=>exact⟨k+1,by omega,by go_num,HR⟩
     case measure=>simp[intOf];omega
   ·have z1:((tx (fpart ((k:Int)/3))).toList==(tx p).toList)=false:=tx_eq_false h1
    have HR:=hid (HN.out.step (fun h=>h1 h.1));clear h1
    go_wp2_with (go_at_call 257;refine(refPart _ _).mono ?_;rintro e w' ⟨rfl,rfl⟩)
    go_round
    case rel=>exact⟨k+1,by omega,by go_num,HR⟩
    case measure=>simp[intOf];omega
  ·obtain rfl:k=9:=by omega
   have HR:=hid (fence_miss HN.out);go_wp2_with fail;go_ret;exact⟨ret_int HR.out.symm,rfl⟩
abbrev zeroA:Obj:=.cells #[.int .i64 0,.int .i64 0,.int .i64 0] 201
abbrev zeroB:Obj:=.cells #[.bool false,.bool false,.bool false] 202
def gR(l:List Tx)(k j:Nat):Int:=if j<k then regN (l.getD j [])else 0
def gS(l:List Tx)(k j:Nat):Bool:=if j<k then regE (l.getD j [])==0 else false
structure OpsW(w wr:World)(l:List Tx)(k:Nat):Prop where
 i0: ∀j,j<8->wr.cell? ⟨w.heap.size,j,none⟩=(iC ins0)[j]?
 i1: ∀j,j<8->wr.cell? ⟨w.heap.size+1,j,none⟩=(iC ins0)[j]?
 r: ∀j,j<3->wr.cell? ⟨w.heap.size+2,j,none⟩=some (.int .i64 (gR l k j))
 s: ∀j,j<3->wr.cell? ⟨w.heap.size+3,j,none⟩=some (.bool (gS l k j))
 f: ∀b j,w.heap.size<=b->b<=w.heap.size+3->wr.frozen? ⟨b,j,none⟩=false
 size:w.heap.size+4<=wr.heap.size
 bel:Below w.heap.size w wr
theorem OpsW.below{w wr w':World}{l:List Tx}{k:Nat}(h:OpsW w wr l k)(hb:Below wr.heap.size wr w'):OpsW w w' l k:=by
 have hz:=h.size;refine⟨fun j hj=>?_,fun j hj=>?_,fun j hj=>?_,fun j hj=>?_,fun b j h1 h2=>?_,Nat.le_trans hz hb.size,h.bel.trans (hb.mono h.bel.size)⟩
 ·rw[hb.cell (p:=⟨w.heap.size,j,none⟩) (by dsimp only;omega)];exact h.i0 j hj
 ·rw[hb.cell (p:=⟨w.heap.size+1,j,none⟩) (by dsimp only;omega)];exact h.i1 j hj
 ·rw[hb.cell (p:=⟨w.heap.size+2,j,none⟩) (by dsimp only;omega)];exact h.r j hj
 ·rw[hb.cell (p:=⟨w.heap.size+3,j,none⟩) (by dsimp only;omega)];exact h.s j hj
 ·rw[hb.frozen (p:=⟨b,j,none⟩) (by dsimp only;omega)];exact h.f b j h1 h2
theorem OpsW.start(w:World)(l:List Tx):OpsW w ((((w.alloc zeroI).alloc zeroI).alloc zeroA).alloc zeroB) l 0:=by
 have s1:(w.alloc zeroI).heap.size=w.heap.size+1:=by simp
 have s2:((w.alloc zeroI).alloc zeroI).heap.size=w.heap.size+2:=by simp
 have s3:(((w.alloc zeroI).alloc zeroI).alloc zeroA).heap.size=w.heap.size+3:=by simp
 have s4:((((w.alloc zeroI).alloc zeroI).alloc zeroA).alloc zeroB).heap.size=w.heap.size+4:=by simp
 have B1:=al w zeroI;have B2:=al (w.alloc zeroI) zeroI;have B3:=al ((w.alloc zeroI).alloc zeroI) zeroA;have B4:=al (((w.alloc zeroI).alloc zeroI).alloc zeroA) zeroB;have h1:=heap_alloc_new w zeroI;have h2:=heap_alloc_new (w.alloc zeroI) zeroI;have h3:=heap_alloc_new ((w.alloc zeroI).alloc zeroI) zeroA;have h4:=heap_alloc_new (((w.alloc zeroI).alloc zeroI).alloc zeroA) zeroB
 have C1: ∀j,(w.alloc zeroI).cell? ⟨w.heap.size,j,none⟩=(iC ins0)[j]? :=fun j=>by
  simp only[World.cell?,h1];simp[iC,ins0];rfl
 have C2: ∀j,((w.alloc zeroI).alloc zeroI).cell? ⟨w.heap.size+1,j,none⟩=(iC ins0)[j]? :=fun j=>by
  rw[<-s1];simp only[World.cell?,h2];simp[iC,ins0];rfl
 have C3: ∀j,(((w.alloc zeroI).alloc zeroI).alloc zeroA).cell? ⟨w.heap.size+2,j,none⟩=([.int .i64 0,.int .i64 0,.int .i64 0]:List Value)[j]? :=fun j=>by
  rw[<-s2];simp only[World.cell?,h3];simp
 have C4: ∀j,((((w.alloc zeroI).alloc zeroI).alloc zeroA).alloc zeroB).cell? ⟨w.heap.size+3,j,none⟩=([.bool false,.bool false,.bool false]:List Value)[j]? :=fun j=>by
  rw[<-s3];simp only[World.cell?,h4];simp
 have F1: ∀j,(w.alloc zeroI).frozen? ⟨w.heap.size,j,none⟩=false:=fun j=>by simp only[World.frozen?,h1];simp
 have F2: ∀j,((w.alloc zeroI).alloc zeroI).frozen? ⟨w.heap.size+1,j,none⟩=false:=fun j=>by rw[<-s1];simp only[World.frozen?,h2];simp
 have F3: ∀j,(((w.alloc zeroI).alloc zeroI).alloc zeroA).frozen? ⟨w.heap.size+2,j,none⟩=false:=fun j=>by rw[<-s2];simp only[World.frozen?,h3];simp
 have F4: ∀j,((((w.alloc zeroI).alloc zeroI).alloc zeroA).alloc zeroB).frozen? ⟨w.heap.size+3,j,none⟩=false:=fun j=>by rw[<-s3];simp only[World.frozen?,h4];simp
 refine⟨fun j hj=>?_,fun j hj=>?_,fun j hj=>?_,fun j hj=>?_,fun b j hb hb2=>?_,by rw[s4];exact Nat.le_refl _,bel_alloc (bel_alloc (bel_alloc B1 _) _) _⟩
 ·rw[B4.cell (p:=⟨w.heap.size,j,none⟩) (by dsimp only;omega),B3.cell (p:=⟨w.heap.size,j,none⟩) (by dsimp only;omega),B2.cell (p:=⟨w.heap.size,j,none⟩) (by dsimp only;omega)];exact C1 j
 ·rw[B4.cell (p:=⟨w.heap.size+1,j,none⟩) (by dsimp only;omega),B3.cell (p:=⟨w.heap.size+1,j,none⟩) (by dsimp only;omega)];exact C2 j
 ·rw[B4.cell (p:=⟨w.heap.size+2,j,none⟩) (by dsimp only;omega),C3 j]
  have hj:j=0\/j=1\/j=2:=by omega
  rcases hj with rfl|rfl|rfl<;>rfl
 ·rw[C4 j]
  have hj:j=0\/j=1\/j=2:=by omega
  rcases hj with rfl|rfl|rfl<;>rfl
 ·have hb:b=w.heap.size\/b=w.heap.size+1\/b=w.heap.size+2\/b=w.heap.size+3:=by omega
  rcases hb with rfl|rfl|rfl|rfl
  ·rw[B4.frozen (p:=⟨w.heap.size,j,none⟩) (by dsimp only;omega),B3.frozen (p:=⟨w.heap.size,j,none⟩) (by dsimp only;omega),B2.frozen (p:=⟨w.heap.size,j,none⟩) (by dsimp only;omega)];exact F1 j
  ·rw[B4.frozen (p:=⟨w.heap.size+1,j,none⟩) (by dsimp only;omega),B3.frozen (p:=⟨w.heap.size+1,j,none⟩) (by dsimp only;omega)];exact F2 j
  ·rw[B4.frozen (p:=⟨w.heap.size+2,j,none⟩) (by dsimp only;omega)];exact F3 j
  ·exact F4 j
theorem adne{b b' i j:Nat}(h:b≠b'):(⟨b,i,none⟩:Addr)≠⟨b',j,none⟩:=by intro e;injection e with e1;exact h e1
theorem adnf{b b' i j:Nat}(h:i≠j):(⟨b,i,none⟩:Addr)≠⟨b',j,none⟩:=by intro e;injection e with e1 e2;exact h e2
theorem cso{w:World}{a b:Addr}{v:Value}(h:a≠b):(w.setCell a v).cell? b=w.cell? b:=World.cell?_setCell_other _ _ _ _ h
theorem css{w:World}{a:Addr}{v u:Value}(h:w.cell? a=some u):(w.setCell a v).cell? a=some v:=World.cell?_setCell_same _ _ _ h
theorem OpsW.step{w wr:World}{l:List Tx}{k:Nat}{t:Tx}(h:OpsW w wr l k)(hk:k<3)(ht:l[k]? =some t):OpsW w ((wr.setCell ⟨w.heap.size+2,k,none⟩ (.int .i64 (regN t))).setCell ⟨w.heap.size+3,k,none⟩ (.bool (regE t==0))) l (k+1):=by
 have hg:l.getD k []=t:=by rw[List.getD_eq_getElem?_getD,ht];rfl
 refine⟨fun j hj=>?_,fun j hj=>?_,fun j hj=>?_,fun j hj=>?_,fun b j h1 h2=>?_,by simpa using h.size,bel_set (bel_set h.bel (by dsimp only;omega) _) (by dsimp only;omega) _⟩
 ·rw[cso (adne (by omega)),cso (adne (by omega))];exact h.i0 j hj
 ·rw[cso (adne (by omega)),cso (adne (by omega))];exact h.i1 j hj
 ·rw[cso (adne (by omega))]
  by_cases hjk:j=k
  ·subst hjk
   rw[css (h.r j hj)];unfold gR;rw[if_pos (by omega),hg]
  ·rw[cso (adnf (fun e=>hjk e.symm)),h.r j hj]
   unfold gR
   by_cases hlt:j<k
   ·rw[if_pos hlt,if_pos (by omega)]
   ·rw[if_neg hlt,if_neg (by omega)]
 ·by_cases hjk:j=k
  ·subst hjk
   rw[css (u:=.bool (gS l j j)) (by rw[cso (adne (by omega))];exact h.s j hj)];unfold gS;rw[if_pos (by omega),hg]
  ·rw[cso (adnf (fun e=>hjk e.symm)),cso (adne (by omega)),h.s j hj]
   unfold gS
   by_cases hlt:j<k
   ·rw[if_pos hlt,if_pos (by omega)]
   ·rw[if_neg hlt,if_neg (by omega)]
 ·rw[World.frozen?_setCell,World.frozen?_setCell];exact h.f b j h1 h2
theorem keep_fenceR(x y:Tx):keepI ⟨13,0,0,0,0,[],[],fenceV x y⟩ true=readI [102,101,110,99,101] [x,y]:=by
 rw[read_fence2];unfold fenceV;cases hx:fpartOf x with
 |none=>rfl
 | some a=>
   cases hy:fpartOf y with
   |none=>rfl
   | some b=>
     obtain⟨i,hi,rfl, -⟩:=fpartOf_some hx;obtain⟨j,hj,rfl, -⟩:=fpartOf_some hy;exact keep_true (by rw[check_fence];simp;omega)
theorem read_none3{op:Tx}(h1:op≠[108,119])(h2:op≠[115,119])(h3:op≠[111,114,105])(h4:op≠[120,111,114])(h5:op≠[97,100,100])(h6:op≠[98,110,101])(h7:op≠[102,101,110,99,101])(l:List Tx):readI op l=none:=by
 by_cases hl:l.length=3
 ·obtain⟨x,y,z,rfl⟩:=len3 hl
  rw[read_3 _ _ _ h1 h2 h7];cases regOf x with
  |none=>rfl
  | some a=>cases regOf y with
    |none=>rfl
    | some b=>
      simp only;rw[if_neg h6,if_neg h3];cases regOf z with
      |none=>rfl
      |some c=>simp only;rw[if_neg h4,if_neg h5]
 ·exact read_3no h1 h2 h7 hl
end Go.Proofs.YtkbbgjloifmmbaaGreatDoor
