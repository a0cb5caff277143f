/- What ReadBackP leans on, part 25. -/
import Derived.Test.YtkbbgjloifmmbaaGreatDoorRb24
set_option linter.unusedVariables false
set_option maxRecDepth 100000
set_option maxHeartbeats 6400000
namespace Go.Proofs.YtkbbgjloifmmbaaGreatDoor
open _root_.Go.Proofs.Tryz
open _root_.Nat renaming le_trans->am1,le_refl->amS
open _root_.List renaming length_map->ao3,getElem?_eq_getElem->amK,getElem?_map->ao7,getElem?_eq_some_iff->ano,length_drop->aoJ,drop_eq_nil_of_le->amT,replicate->ao8,length_append->aoE
open _root_.Go.Lib renaming itoa->anj
open _root_.Option.some renaming inj->aoX
open Go.RowKit Go.Sort
def De(p:EP (List (List Ins) × Tx))(w1 w:World)(s:Tx)(t:ak)(e:Ending)(w':World):Prop:=
 (Below w1.heap.size w1 w'/\ ∃er k,p= .error (er,k)/\e=oM er k)\/
 ∃C r1 k' a n,p= .ok (C.map (·.l),r1)/\s.drop k'=r1/\e= .returned (.tuple #[])/\St w w' w1.heap.size/\bQ w1 w' s k' { t with ca:=a,cc:=n,code:=C }/\eo w' w.heap.size a n C
theorem aeh(u:Tx):(aI u).length<=u.length:=by
 obtain⟨b,h, -⟩:=qB (u.takeWhile (· != 10));have h1:=congrArg List.length h;have h2:=oq (· != 10) u;rw[aoE]at h1;unfold aI;omega
theorem Zx{a b:Tx}(h:a≠b):((tx a).toList==(tx b).toList)=false:=by rw[aW,aW];simpa using h
theorem cmp_eq(a:Tx):((tx a).toList==(tx a).toList)=true:=by simp
theorem aja{u b:Tx}(hb: ∀c∈b,aj c=true):(aD 124 (b++(aI u).dropLast)).map ah=(gB u).map ah:=N5 hb
theorem acd{l L:List Tx}(h:l.map ah=L)(h2: ∀j,j<L.length-> ∀c,L[j]? =some c->c=80::anj (j:Int)):qg l=true:=Qs.2 fun i c hc=>by
 subst h;have h3:i<(l.map ah).length:=by rw[ao3];exact(ano.1 hc).1
 exact h2 i h3 (ah c) (by rw[ao7,hc];rfl)
theorem ab8{l L:List Tx}(h:l.map ah=L){j:Nat}{c:Tx}(hj:L[j]? =some c)(h2:c≠80::anj (j:Int)):qg l=false:=by
 cases e:qg l with
 |false=>rfl
 | true=>
   subst h;rw[ao7]at hj;cases e2:l[j]? with
   |none=>rw[e2]at hj;cases hj
   | some d=>
     rw[e2]at hj;obtain rfl:ah d=c:=aoX hj;exact absurd (Qs.1 e j d e2) h2
theorem aib{w1 w:World}{s:Tx}{k:Nat}{t:ak}(R:bQ w1 w s k t)(ha:aH t.af=true)(h0:t.ca=none/\t.cc=0/\t.code=[]):Calls prog 30 #[.pointer (some ⟨w1.heap.size,0,none⟩)] w (De (gu t.af s.length (s.drop k)) w1 w s t):=by
 have hl:=R.sl;have RW:=hid (UR R);have FL:=hid (fun p er k w=>Bx p er k w);have HR:=hid R;obtain⟨u,hu⟩: ∃u,aq (s.drop k)=u:=⟨_,rfl⟩;obtain⟨N,hN⟩: ∃N,s.length=N:=⟨_,rfl⟩;have Iw:N<=262144:=by omega
 have P1:=hid (fun h=>akd (af:=t.af) (N:=N) (r:=s.drop k) h);have P2:=hid (fun h=>akb (af:=t.af) (N:=N) (r:=s.drop k) h);have P3:=hid (fun h h2=>ake (af:=t.af) (N:=N) (r:=s.drop k) h h2);rw[hu]at RW P1 P2 P3;rw[hN];have oC:=hid hN;have HU:=hid hu;have hkl:(s.drop k).length<=N:=by rw[aoJ];omega
 generalize gu t.af N (s.drop k)=hp at*;clear hl hu hN;go_in;go_wp2_with fail;refine RW.out.mono ?_;rintro e w2 h;unfold Gu at h;rcases h with⟨hr,rfl,E⟩|⟨b,n,ca,pa,pc,k2,hr,hb,hin,hn,rfl,hk2,ST,R2,TX, -⟩
 ·have P1:=hid (P1.out hr)
  have E:=hid E;rw[oC.out];clear hr;go_wp2_with fail;refine(FL.out _ _ _ _).mono ?_;rintro e w3 ⟨rfl,E3⟩;have E:=hid (ay E.out E3);clear E3;go_wp2_with fail;exact⟨rfl,.inl ⟨(HR.out.below E.out).bG,_,_,P1.out,rfl⟩⟩
 ·rw[aja hb]at TX
  have hn2:n=(gB u).length:=hn.trans (NW hb)
  have hnb:n<=262145:=by
   have:=uh 124 (aI u).dropLast;have h2:(aI u).length<=u.length:=aeh u;have h3:u.length<=N:=by have:=oC.out;omega
   rw[hn2];unfold gB;rw[List.length_dropLast]at this;omega
  have P2:=hid (fun L j c h h1 h2=>P2.out (ab8 (L:=L) (j:=j) (c:=c) h h1 h2));have P3:=hid (fun L h h2=>P3.out hr (acd (L:=L) h h2));obtain⟨Lt,Az⟩: ∃Lt,(gB u).map ah=Lt:=⟨_,rfl⟩;have yf:n=Lt.length:=by rw[<-Az,ao3];exact hn2
  have P2:=hid (fun j c h1 h2=>P2.out Lt j c Az h1 h2);have P3:=hid (fun h2=>P3.out Lt Az h2);rw[Az]at TX;rw[<-hn2]at P3;rw[oC.out];have gy:=hid yf;have TX:=hid TX;have R2:=hid R2;have ST:=hid ST;have fJ:=hid hk2;obtain⟨p0,gU⟩: ∃p0,bO N u=p0:=⟨_,rfl⟩;rw[gU];have P2:=hid (fun j c h1 h2=>(P2.out j c h1 h2).trans (by rw[gU]));clear hb hin hn hn2 hr Az yf hk2 gU P1;go_wp2_with fail
  go_loopw [30] (fun i wi=> ∃m:Nat,i= .int .i64 m/\m<=n/\Below w2.heap.size w2 wi/\Hid (∀j,j<m-> ∀c,Lt[j]? =some c->c=80::anj (j:Int))) (fun i _=>n-(intOf i).toNat)
  case atStart=>exact⟨0,rfl,Nat.zero_le _,Below.refl _ _,hid fun j hj=>absurd hj (Nat.not_lt_zero _)⟩
  case round=>
   obtain⟨m,rfl,hmn,E2,HH⟩:=hrel
   by_cases hlt:m<n
   ·obtain⟨c,hc⟩: ∃c,Lt[m]? =some c:=⟨_,amK (by rw[<-gy.out];exact hlt)⟩
    have TT:=Own.below TX.out E2;have ix:=Jk TT (m:=m) (by unfold jQ;rw[ao3,<-gy.out];exact hlt) (by omega);have cl:=TB TT hc;have IT:=hid (fun w g=>jV (m:Int) (by omega) (by omega) w g);have Cp:decide ((m:Int)<(n:Int))=true:=by simp;omega
    have g2:=R2.out.g.below E2;have HC:=hid hc;obtain⟨q,hq⟩: ∃q,anj (m:Int)=q:=⟨_,rfl⟩;rw[hq]at IT;have HQ:=hid hq;have Ja:q.length<=21:=by rw[<-hq];exact Lib.itoa_length_le _ (by omega) (by omega)
    have cc: ∀w,(Op.stringOp .add ⟨#[80]⟩ (tx q)).run prog w= .ok (.string (tx (80::q))) w:=cQ [80] q (by simp;omega);have E2:=hid E2;clear hc hq TT
    by_cases DX:c=80::q
    ·have y:=cmp_eq c
     have HE:=hid (show ∀j,j<m+1-> ∀c,Lt[j]? =some c->c=80::anj (j:Int)from fun j hj d hd=>by
      by_cases e:j=m
      ·subst e
       rw[HC.out]at hd;rw[HQ.out,<-aoX hd];exact DX
      ·exact HH.out j (by omega) d hd)
     subst DX;go_wp2_with fail;refine(IT.out _ g2).mono ?_;rintro e w3 ⟨rfl,E3⟩;have E3:=ay E2.out E3;go_wp2_with fail
     go_roundw
     case rel=>exact⟨m+1,by go_num,by omega,E3,HE⟩
     case measure=>simp[intOf];omega
    ·have y:=Zx DX
     have P2:=hid (P2.out m c HC.out (by rw[HQ.out];exact DX));go_wp2_with fail;refine(IT.out _ g2).mono ?_;rintro e w3 ⟨rfl,E3⟩;have E3:=ay E2.out E3;go_wp2_with fail;refine(FL.out _ _ _ _).mono ?_;rintro e w4 ⟨rfl,E4⟩;have E:=hid (ay E3 E4);clear E3 E4;go_wp2_with fail;exact⟨rfl,.inl ⟨(R2.out.below E.out).bG,_,_,P2.out,rfl⟩⟩
   ·obtain rfl:m=n:=by omega
    have P3:=hid (P3.out (fun j hj=>HH.out j (by rw[gy.out];exact hj)));have Cp:decide ((m:Int)<(m:Int))=false:=by simp
    have E2:=hid E2;have R3:=R2.out.below E2.out;have q6:=R3.bx.get 6 _ rfl;have hf6:=R3.gh 6;have acE:=R3.lt;rw[h0.1,h0.2.1,h0.2.2]at q6;have R3:=hid R3
    go_wp2_with (at_make;go_loud(refine zh Ae _ _ rfl rfl m rfl rfl rfl rfl (by omega) (by unfold maxLen;omega) (Below.refl wr.heap.size wr) (amS _) ?_))
    intro ac w5 o5 s5 B5;have R5:=R3.out.below B5;have q65:=R5.bx.get 6 _ rfl;have al7:=R5.gh 6;have yh:=R5.lt;rw[h0.1,h0.2.1,h0.2.2]at q65;have R6:=R5.put 6 (.slice ac m m) (k':=k2) (t':={ t with ca:=ac,cc:=m,code:=ao8 m ⟨none,0,[]⟩ }) (by simp[wm,cT]) R5.le;have hsz:=am1 R2.out.bG.size (amS _);have hww:w.heap.size<=w2.heap.size:=ST.out.grown.size;have C6:=hid (eo.kept (eo.mono (eo.new o5) (am1 hww E2.out.size)) R6.2.grown (fun b hb=>by have:=HR.out.lt;simp at hb;omega));have S6:=hid ((ST.out.trans (aX (bw:=w1.heap.size) (ay E2.out B5))).trans R6.2);have B6:w2.heap.size<=(w5.setCell ⟨w1.heap.size,6,none⟩ (.slice ac m m)).heap.size:=am1 E2.out.size (am1 B5.size R6.2.grown.size);replace R6:=hid R6.1;have P6:=hid (show hp=jj t.af N ((s.drop k).length+1) (s.drop k2) ((ao8 m (⟨none,0,[]⟩:Cd)).map (·.l)) by rw[P3.out,fJ.out,List.map_replicate])
    have hlk:(s.drop k2).length<=(s.drop k).length:=by
     have h1:=(BB u).length_le;have h2:=(pJ (s.drop k)).length_le;rw[fJ.out];rw[HU.out]at h2;omega
    have L6:=kH.new m k2;generalize ao8 m (⟨none,0,[]⟩:Cd)=C0 at*;generalize (s.drop k).length=fu at*;clear o5 s5 B5 R5 q6 hf6 acE hsz;go_wp2_with fail;have X7:=hid (fun(w:World) (k:Nat) (t:ak) (R:bQ w1 w s k t)=>UR R)
    go_loopw [8] (fun _ wi=> ∃(kk nn:Nat) (C:List Cd),Hid (hp=jj t.af N (nn+1) (s.drop kk) (C.map (·.l)))/\(s.drop kk).length<=nn/\Hid (bQ w1 wi s kk { t with ca:=ac,cc:=m,code:=C })/\Hid (eo wi w.heap.size ac m C)/\Hid (St w wi w1.heap.size)/\w2.heap.size<=wi.heap.size/\kH C 0 kk) (fun _ wi=>N-(intOf ((wi.cell? ⟨w1.heap.size,1,none⟩).getD undef)).toNat)
    case atStart=>exact⟨k2,fu,C0,P6,hlk,R6,C6,S6,B6,L6⟩
    case round=>
     obtain⟨kk,nn,C,HP,hnn,RR,OC,SS,hB2,Xp⟩:=hrel;have QC:=hid (X7.out wr kk _ RR.out);obtain⟨v,hv⟩: ∃v,aq (s.drop kk)=v:=⟨_,rfl⟩;have X1:=hid (fun h=>ajo (af:=t.af) (N:=N) (n:=nn) (r:=s.drop kk) (acc:=C.map (·.l)) h);have X2:=hid (fun h h2=>ajn (af:=t.af) (N:=N) (n:=nn) (r:=s.drop kk) (acc:=C.map (·.l)) h h2);have X3:=hid (fun h h2=>ajp (af:=t.af) (N:=N) (n:=nn) (r:=s.drop kk) (acc:=C.map (·.l)) h h2);rw[hv]at QC X1 X2 X3;have rR:=OC.out.len;rw[ao3,rR]at X2 X3;have HV:=hid hv;have FY:=hid rR;have hkN:kk<=N:=by have:=RR.out.le;have:=oC.out;omega
     have vF:=RR.out.bx.get 1 _ rfl;have Xm:=hid (show(wr.cell? ⟨w1.heap.size,1,none⟩).getD undef= .int .i64 kk by rw[vF];rfl);clear hv rR;go_wp2_with fail;refine QC.out.mono ?_;rintro e w6 h;unfold Gu at h;rcases h with⟨hr,rfl,E⟩|⟨b,n2,Ad,TJ,Km,k3,hr,hb,hin,hn,rfl,x9,zS,R7,xq,uX⟩
     ·have X1:=hid (X1.out hr)
      have E:=hid E;rw[oC.out];clear hr;go_wp2_with fail
      go_end0
      exact .inr ⟨C,s.drop kk,kk,ac,m,by rw[HP.out,X1.out],rfl,rfl,SS.out.trans (aX E.out),RR.out.below E.out,OC.out.below E.out⟩
     ·have yc:n2=(gB v).length:=hn.trans (NW hb)
      have rB:=hid (eo.step OC.out zS HR.out.lt);have Yh:=hid (SS.out.trans zS);have acL:wr.heap.size<=w6.heap.size:=zS.grown.size;rw[oC.out]at hin⊢;obtain⟨p3,D6⟩: ∃p3,bO N v=p3:=⟨_,rfl⟩;rw[D6]
      by_cases hne:n2=m
      ·obtain rfl:n2=m:=hne
       replace X3:=hid (X3.out hr yc.symm)
       have hrl:(aZ v).length<(s.drop kk).length:=by
        obtain⟨z,hz⟩:=KR hr;have h1:=ai7 hr;have h2:=(pJ (s.drop kk)).length_le;rw[HV.out]at h2;omega
       have amb:k3<=N:=by have:=R7.le;have:=oC.out;omega
       have amr:N-k3<N-kk/\(s.drop k3).length<(s.drop kk).length:=by
        rw[<-x9]at hrl;refine⟨?_,hrl⟩;rw[aoJ,aoJ,oC.out]at hrl;omega
       obtain⟨z,hz⟩:=ajk hr b;have hcb:=Zm (af:=t.af) (N:=N) (M:=(aI v).dropLast) (u:=v) hb (C.map (·.l));obtain⟨Ls,Qa⟩: ∃Ls,aD 124 (b++(aI v).dropLast)=Ls:=⟨_,rfl⟩;rw[Qa]at hz hcb xq uX hn;have QV:(b++v).length<=N:=by rw[aoE];exact hin
       obtain⟨x0,hx0⟩: ∃x0,b++v=x0:=⟨_,rfl⟩;rw[hx0]at hz hcb uX QV;obtain⟨pq,hpq⟩: ∃pq,dO t.af N (gB v) v (C.map (·.l))=pq:=⟨_,rfl⟩
       have Xy:=hid (show pq=KQ ((C.take 0).map (·.l)) (dO t.af N (Ls.drop 0) x0 ((C.drop 0).map (·.l))) by
        rw[<-hpq];show _=KQ [] _;rw[XZ];exact hcb.symm)
       rw[hpq]at X3;replace X3:=hid (X3.out.trans (show _=V8 t.af N nn (s.drop k3) pq by rw[x9]));have hLn:Ls.length=n2:=hn.symm;obtain⟨PP,DR⟩: ∃PP,mG N Ls x0=PP:=⟨_,rfl⟩;have xU:=Um N Ls x0;rw[DR,hLn]at xU;rw[oC.out,DR]at uX;have oG:=hid (show PP.drop 0=mG N (Ls.drop 0) x0 from DR.symm);have zne:((n2:Int) != (n2:Int))=false:=by simp
       replace xq:=hid (show Own w6 wr.heap.size 9 1 Ad n2 n2 (jQ (Ls.map ah))from xq);replace uX:=hid uX;replace R7:=hid R7;have CQ:=hid hLn;have Mm:=hid xU;have uO:=hid (show 0<n2->x0=lQ (59::z) (Ls.drop 0)from fun _=>hz);generalize wr.heap.size=Bc at*;have hB6:w2.heap.size<=w6.heap.size:=am1 hB2 acL;clear hr hb hin hn yc x9 zS D6 vF hrl hcb Qa hx0 hpq DR xU hLn hz X1 X2 RR OC SS FY;go_wp2_with fail
       go_loopw [70] (fun i wi=> ∃(q:Nat) (C2:List Cd) (x:Tx),i= .int .i64 q/\q<=n2/\x.length<=N/\Hid (q<n2->x=lQ (59::z) (Ls.drop q))/\Hid (pq=KQ ((C2.take q).map (·.l)) (dO t.af N (Ls.drop q) x ((C2.drop q).map (·.l))))/\Hid (PP.drop q=mG N (Ls.drop q) x)/\Hid (bQ w1 wi s k3 { t with ca:=ac,cc:=n2,code:=C2 })/\Hid (eo wi w.heap.size ac n2 C2)/\Hid (Own wi Bc 9 1 Ad n2 n2 (jQ (Ls.map ah)))/\Hid (cI wi Bc TJ n2 Km PP)/\Hid (St w wi w1.heap.size)/\w6.heap.size<=wi.heap.size/\kH C2 q kk) (fun i _=>n2-(intOf i).toNat)
       case atStart=>exact⟨0,C,x0,rfl,Nat.zero_le _,QV,uO,Xy,oG,R7,rB,xq,uX,Yh,amS _,Xp⟩
       case round=>
        obtain⟨q,C2,x,rfl,yg,Eg,HX,HQ,HD,RQ,OQ,TX,TP,SQ,hBq,CJ⟩:=hrel;have rR:=OQ.out.len
        by_cases hlt:q<n2
        ·obtain⟨p,ko⟩: ∃p,Ls[q]? =some p:=⟨_,amK (by rw[CQ.out];exact hlt)⟩
         obtain⟨d,r,hdr,ym,lK,Eh⟩:=Zj ko (HX.out hlt);obtain⟨y,vK⟩: ∃y,C2[q]? =some y:=⟨_,amK (by rw[rR];exact hlt)⟩;obtain⟨cs1,Dv⟩:=Zz vK;have hxl:x.length=p.length+1+r.length:=by rw[ym];simp;omega
         have vG:r.length<=N:=by omega
         have AX:p.length<=262144:=by omega
         have hq:=HQ.out;rw[hdr,cs1]at hq;have hd:=HD.out;rw[hdr,mG,lK]at hd
         have uG:=hid (show PP.drop (q+1)=mG N (Ls.drop (q+1)) r by
          rw[<-List.drop_drop,hd];rfl)
         have oI:=hid (show q+1<n2->r=lQ (59::z) (Ls.drop (q+1))from fun h=>Eh (by rw[CQ.out];exact h));have ix:=Jk TX.out (m:=q) (by unfold jQ;rw[ao3,ao3,CQ.out];exact hlt) (by omega);have hmp:(Ls.map ah)[q]? =some (ah p):=by rw[ao7,ko];rfl
         have cl:=TB TX.out hmp;have Cp:decide ((q:Int)<(n2:Int))=true:=by simp;omega
         have I8:=j3 p
         by_cases hb0:ah p=[]
         ·rw[hb0]at cl
          replace cl:wr.cell? ⟨bk Ad,fo Ad+q,none⟩=some (.string ⟨#[]⟩):=cl
          have zD:=hid (show pq=KQ ((C2.take (q+1)).map (·.l)) (dO t.af N (Ls.drop (q+1)) r ((C2.drop (q+1)).map (·.l))) by
           rw[hq,X5 hb0,lK,Dv])
          clear ko hdr ym lK Eh vK cs1 Dv hxl hq hd hmp AX I8 hb0 HX HQ HD;go_wp2_with fail
          go_roundw
          case rel=>exact⟨q+1,C2,r,by go_num,by omega,vG,oI,zD,uG,RQ,OQ,TX,TP,SQ,hBq,CJ.skip⟩
          case measure=>simp[intOf];omega
         ·obtain⟨ct,hct⟩: ∃ct,ah p=ct:=⟨_,rfl⟩
          have zt:(tx ct).toList.isEmpty=false:=by
           rw[aW,<-hct];cases e:ah p with
           |nil=>exact absurd e hb0
           |cons a b=>rfl
          have al4:ct.length<=262144:=by rw[<-hct];omega
          have RI:=hid (fun w g=>ah8 t.af ha ct w g);have q2:=RQ.out.bx.get 2 _ rfl;have gq:=RQ.out.g;have acG:=RQ.out.lt;rw[hct]at cl;cases hI:pE t.af (ah p)with
          | none=>
            have HE:=hid (show pq= .error (91,bO N (aq x)) by rw[hq,XX hb0 hI]);have hpl:=Ug (N:=N) (p:=p) (r:=r) (d:=d) hb0 (by rw[<-ym];exact Eg);rw[<-ym]at hpl
            have Qc:PP[q]? =some ((bO N (aq x):Nat):Int):=by
             have h1:(PP.drop q)[0]? =some ((bO N (aq x):Nat):Int):=by
              rw[hd,List.getElem?_cons_zero,<-hpl]
              congr 1;omega
             rwa[List.getElem?_drop,Nat.add_zero]at h1
            have Mn:=hid Qc;rw[hct]at hI;rw[hI]at RI;obtain⟨pp,kN⟩: ∃pp,bO N (aq x)=pp:=⟨_,rfl⟩;rw[kN]at HE Mn;clear ko hdr ym lK Eh vK cs1 Dv hxl hq hd hmp AX I8 hb0 hct hI hpl Qc kN HX HQ HD oI uG;go_wp2_with fail;refine(RI.out _ gq).mono ?_;rintro e w7 h;obtain⟨rfl,E7⟩:e= .returned (.tuple #[vI ⟨0,0,0,0,0,[],[],0⟩,.int .i64 91])/\Below wr.heap.size wr w7:=h
            go_upto_region 19 with(fail)
            have EW:Below wr.heap.size wr (w7.alloc (.cells #[.int .i64 0,.int .i64 0,.int .i64 0,.int .i64 0,.int .i64 0,.string (tx []),.string (tx []),.int .i64 0] 50)):=ay E7 (al w7 _);generalize w7.alloc (.cells #[.int .i64 0,.int .i64 0,.int .i64 0,.int .i64 0,.int .i64 0,.string (tx []),.string (tx []),.int .i64 0] 50)=W at*;have TI:=(Own.ints (Own.below TP.out EW)).1;have Qb:q<PP.length:=by rw[Mm.out];exact hlt
            have ip:=gz.idx TI Rz q Qb Km;rw[Mm.out]at ip;have cp:=TI.cell q Qb;rw[(ano.1 Mn.out).2]at cp;have EW:=hid EW;clear TI q2 gq;go_wp2_with fail;refine(FL.out _ _ _ _).mono ?_;rintro e w8 ⟨rfl,E8⟩;have E:=hid (ay EW.out E8);clear E8;go_wp2_with fail;exact⟨rfl,.inl ⟨(RQ.out.below E.out).bG,_,_,by rw[HP.out,X3.out,HE.out];rfl,rfl⟩⟩
          | some i=>
            have zD:=hid (show ∀a' c',pq=KQ (((C2.set q ⟨a',c',y.l++[i]⟩).take (q+1)).map (·.l)) (dO t.af N (Ls.drop (q+1)) r (((C2.set q ⟨a',c',y.l++[i]⟩).drop (q+1)).map (·.l)))from fun a' c'=>by
             rw[hq,X4 hb0 hI,lK,(Oh vK).1,(Oh vK).2])
            rw[hct]at hI;rw[hI]at RI;have uP:=hid vK;clear ko hdr ym lK Eh vK cs1 Dv hxl hq hd hmp AX I8 hb0 hct hI HX HQ HD;obtain⟨op,dd,aa,bb,ag,lo,la,fe⟩:=i;go_wp2_with fail;refine(RI.out _ gq).mono ?_;rintro e w7 h;obtain⟨rfl,E7⟩:e= .returned (.tuple #[vI ⟨op,dd,aa,bb,ag,lo,la,fe⟩,.int .i64 0])/\Below wr.heap.size wr w7:=h
            go_upto_region 21 with(fail)
            have XB:=aG.new w7 #[.int .i64 op,.int .i64 dd,.int .i64 aa,.int .i64 bb,.int .i64 ag,.string (tx lo),.string (tx la),.int .i64 fe] 50;have EW:Below wr.heap.size wr (w7.alloc (.cells #[.int .i64 op,.int .i64 dd,.int .i64 aa,.int .i64 bb,.int .i64 ag,.string (tx lo),.string (tx la),.int .i64 fe] 50)):=ay E7 (al w7 _);have IG:w7.heap.size≠w1.heap.size:=by have:=E7.size;omega
            have abW:=IG.symm;have abX:wr.heap.size<=w7.heap.size:=E7.size;generalize w7.alloc (.cells #[.int .i64 op,.int .i64 dd,.int .i64 aa,.int .i64 bb,.int .i64 ag,.string (tx lo),.string (tx la),.int .i64 fe] 50)=W at*;generalize w7.heap.size=b9 at*;have RW:=RQ.out.below EW;have OW:=hid (OQ.out.below EW);have MP:=hid (Own.below TX.out EW);have MN:=hid (Own.below TP.out EW);have SW:=hid (SQ.out.trans (aX (bw:=w1.heap.size) EW));have x0':=XB.get 0 _ rfl;have x1:=XB.get 1 _ rfl;have x2:=XB.get 2 _ rfl;have x3:=XB.get 3 _ rfl;have x4:=XB.get 4 _ rfl;have x5:=XB.get 5 _ rfl;have x6:=XB.get 6 _ rfl;have x7:=XB.get 7 _ rfl;have q6:=RW.bx.get 6 _ rfl;simp only at q6;rw[rR]at q6;have acF:=RW.lt;have hbW:=XB.1;have uN:=hid RW;obtain⟨y1,y2,iy⟩:=OW.out.cell uP.out;have Q1:=gR y1;simp only at Q1;have hwW:w.heap.size<=W.heap.size:=SW.out.grown.size;have yo:y.l.length<=262144:=by have:=CJ.at uP.out;omega
            have H7:=hid (dc (dD (Below.refl W.heap.size W) (.cells #[.int .i64 op,.int .i64 dd,.int .i64 aa,.int .i64 bb,.int .i64 ag,.string (tx lo),.string (tx la),.int .i64 fe] 50)));have HY:=List.mem_of_getElem? uP.out;have zB:=hid (Own.below (OW.out.own y HY) H7.out);have hac:w.heap.size<=bk ac:=(Own.lt OW.out.row (Own.some OW.out.row (by omega))).1;have abT:bk ac≠w1.heap.size:=by have:=HR.out.lt;omega
            have alY:=abT.symm
            have D1: ∀b,y.a.map (·.block)=some b->w1.heap.size<b:=fun b hb=>by
             cases e:y.a with
             |none=>rw[e]at hb;cases hb
             | some z=>
               have h1:=(Own.lt zB.out (by rw[e];simp)).1;rw[e]at hb h1;simp[bk]at hb h1;have:=HR.out.lt;omega
            have WX:=hid (show ∀a' c' w',Own w' w.heap.size 50 8 a' (y.l.length+1) c' (fE y.l++iC ⟨op,dd,aa,bb,ag,lo,la,fe⟩)->kG (W.alloc (.cells #[.int .i64 op,.int .i64 dd,.int .i64 aa,.int .i64 bb,.int .i64 ag,.string (tx lo),.string (tx la),.int .i64 fe] 50)).drew w' y.a y.c a' c'->
             (bQ w1 (w'.setCell ⟨bk ac,fo ac+q,none⟩ (.slice a' (y.l.length+1) c')) s k3 { t with ca:=ac,cc:=n2,code:=C2.set q ⟨a',c',y.l++[⟨op,dd,aa,bb,ag,lo,la,fe⟩]⟩ }/\eo (w'.setCell ⟨bk ac,fo ac+q,none⟩ (.slice a' (y.l.length+1) c')) w.heap.size ac n2 (C2.set q ⟨a',c',y.l++[⟨op,dd,aa,bb,ag,lo,la,fe⟩]⟩)/\Own (w'.setCell ⟨bk ac,fo ac+q,none⟩ (.slice a' (y.l.length+1) c')) Bc 9 1 Ad n2 n2 (jQ (Ls.map ah))/\cI (w'.setCell ⟨bk ac,fo ac+q,none⟩ (.slice a' (y.l.length+1) c')) Bc TJ n2 Km PP/\St w (w'.setCell ⟨bk ac,fo ac+q,none⟩ (.slice a' (y.l.length+1) c')) w1.heap.size/\W.heap.size<=(w'.setCell ⟨bk ac,fo ac+q,none⟩ (.slice a' (y.l.length+1) c')).heap.size)from fun a' c' w' ho hg=>by
             obtain⟨O9,s9⟩:=eo.put (OW.out.below H7.out) uP.out (i:=⟨op,dd,aa,bb,ag,lo,la,fe⟩) (by rw[Js];exact ho) hg;have MO:=(Own.step (Own.below MP.out H7.out) hg.step (EF (Own.below MP.out H7.out) zB.out (by decide))).1;have ML:=(Own.step (Own.below MN.out H7.out) hg.step (EF (Own.below MN.out H7.out) zB.out (by decide))).1;have MU:=(Own.step (OW.out.below H7.out).row hg.step ((OW.out.below H7.out).tB y HY)).1
             refine⟨bQ.code (C:=C2) (((uN.out.below H7.out).kept hg.step.grown D1).kept s9.grown (fun b hb=>by
              cases ac with
              |none=>cases hb
              |some z=>simp[bk]at hb hac;have:=HR.out.lt;omega)) (by rw[List.length_set]),O9,(Own.step MO s9 (EF MO MU (by decide))).1,(Own.step ML s9 (EF ML MU (by decide))).1,?_,?_⟩
             ·refine St.more (St.more (SW.out.trans (aX H7.out)) hg.step.grown (fun b hb=>?_)) s9.grown (fun b hb=>?_)
              ·cases e:y.a with
               |none=>rw[e]at hb;cases hb
               | some z=>
                 have h1:=(Own.lt zB.out (by rw[e];simp)).1;rw[e]at hb h1;simp[bk]at hb h1;omega
              ·cases ac with
               |none=>cases hb
               |some z=>simp[bk]at hb hac;omega
             ·exact am1 H7.out.size (am1 hg.step.grown.size s9.grown.size))
            have Qv: ∀b,y.a.map (·.block)=some b->b≠b9:=fun b hb=>by
             cases e:y.a with
             |none=>rw[e]at hb;cases hb
             | some z=>
               have h1:=(Own.lt (OQ.out.own y HY) (by rw[e];simp)).2;rw[e]at hb h1;simp[bk]at hb h1;omega
            have MS:=hid XB
            have abR:bk ac≠b9:=by
             have h1:=(Own.lt OQ.out.row (Own.some OQ.out.row (by omega))).2;omega
            have alW:=abR.symm;clear XB E7 EW RW q2 gq acG ix cl
            go_region_law
             ((refine VR inl (.tmp 108) (.tmp 110) (by rfl) (by rfl) (B:=w.heap.size) (n:=y.l.length) (c:=y.c) (sa:=y.a) (xs:=fE y.l) (by rfl) zB.out (xa:=some ⟨W.heap.size,0,none⟩) (xc:=1) (m:=1) (ys:=iC ⟨op,dd,aa,bb,ag,lo,la,fe⟩) (by rfl) ((ajh W ⟨op,dd,aa,bb,ag,lo,la,fe⟩ _).below (below_drewN _ 1)) (by rfl) (ada _) (am1 hwW H7.out.size) (by omega) (by unfold maxLen;omega) ?_
               intro a' c' w' ho hg;have tM:=hid hg;have D5:=hid ho;have R7:=(uN.out.below H7.out).kept hg.step.grown D1;have rB:=Own.step (OW.out.below H7.out).row hg.step (OW.out.tB y HY);have UD:=R7.bx.get 6 _ rfl;simp only at UD;rw[rR]at UD;have y17:=(NH rB.1 uP.out).1;have y27:=(NH rB.1 uP.out).2;clear ho hg R7 rB))
            all_goals
             obtain⟨R9,zL,Gw,Gv,S9,hs9⟩:=WX.out _ _ _ D5.out tM.out;have R9:=hid R9;have zL:=hid zL;have Gw:=hid Gw;have Gv:=hid Gv;have S9:=hid S9;have sg:=hid (zD.out a' c');go_wp2_with fail
             go_roundw
             case rel=>exact⟨q+1,_,r,by go_num,by omega,vG,oI,sg,uG,R9,zL,Gw,Gv,S9,by omega,CJ.put uP.out _ _ _⟩
             case measure=>simp[intOf];omega
        ·obtain rfl:q=n2:=by omega
         have zD:=hid (show pq= .ok (C2.map (·.l)) by
          rw[HQ.out,amT (by rw[CQ.out];exact amS _),XY,List.take_of_length_le (by rw[rR];exact amS _),amT (by rw[rR];exact amS _)];simp)
         have Xv:=hid (show hp=jj t.af N ((nn-1)+1) (s.drop k3) (C2.map (·.l)) by
          rw[HP.out,X3.out,zD.out,show nn-1+1=nn by omega];rfl)
         have Cp:decide ((q:Int)<(q:Int))=false:=by simp
         have aco:=RQ.out.bx.get 1 _ rfl;go_wp2_with fail
         go_roundw
         case rel=>exact⟨k3,nn-1,C2,Xv,by omega,RQ,OQ,SQ,by omega,CJ.all (by omega)⟩
         case measure=>
          have h1:(wr.cell? ⟨w1.heap.size,1,none⟩).getD undef= .int .i64 k3:=by rw[aco];rfl
          rw[h1];have h2:=Xm.out;rw[h2];simp[intOf];omega
      ·have zne:((n2:Int) != (m:Int))=true:=by simpa using fun h=>hne (by omega)
       have X2:=hid (X2.out hr (by rw[<-yc];exact hne));rw[D6]at X2;have R7:=hid R7
       have ami:n2<=9223372036854775807:=by
        have:=(Own.cap xq).2.1;unfold maxLen at this;omega
       clear hr hb hn yc x9 zS xq uX D6 vF;go_wp2_with fail;refine(FL.out _ _ _ _).mono ?_;rintro e w8 ⟨rfl,E8⟩;have E:=hid E8;clear E8;go_wp2_with fail;exact⟨rfl,.inl ⟨(R7.out.below E.out).bG,_,_,by rw[HP.out,X2.out],rfl⟩⟩
end Go.Proofs.YtkbbgjloifmmbaaGreatDoor
