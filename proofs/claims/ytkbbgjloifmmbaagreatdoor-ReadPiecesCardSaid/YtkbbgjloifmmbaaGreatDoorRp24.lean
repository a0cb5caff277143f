/- What ReadPiecesP leans on, part 24. -/
import Derived.Test.YtkbbgjloifmmbaaGreatDoorRp23
set_option linter.unusedVariables false
set_option maxRecDepth 100000
set_option maxHeartbeats 6400000
namespace Go.Proofs.YtkbbgjloifmmbaaGreatDoor
open Go.RowKit Go.Sort
def RetTb(p:EP (List (List Ins) × Tx))(w1 w:World)(s:Tx)(t:Tst)(e:Ending)(w':World):Prop:=
 (Below w1.heap.size w1 w'/\ ∃er k,p= .error (er,k)/\e=PanS er k)\/
 ∃C r1 k' a n,p= .ok (C.map (·.l),r1)/\s.drop k'=r1/\e= .returned (.tuple #[])/\St w w' w1.heap.size/\RdS w1 w' s k' { t with ca:=a,cc:=n,code:=C }/\OwnCs w' w.heap.size a n C
theorem lineL_le(u:Tx):(lineL u).length<=u.length:=by
 obtain⟨b,h, -⟩:=rdr_app (u.takeWhile (· != 10));have h1:=congrArg List.length h;have h2:=takeWhile_le (· != 10) u;rw[List.length_append]at h1;unfold lineL;omega
theorem cmp_ne{a b:Tx}(h:a≠b):((tx a).toList==(tx b).toList)=false:=by rw[tx_toList,tx_toList];simpa using h
theorem cmp_eq(a:Tx):((tx a).toList==(tx a).toList)=true:=by simp
theorem rowCells{u b:Tx}(hb: ∀c∈b,blankC c=true):(splitC 124 (b++(lineL u).dropLast)).map trimT=(cellsL u).map trimT:=cells_trim hb
theorem heads_yes{l L:List Tx}(h:l.map trimT=L)(h2: ∀j,j<L.length-> ∀c,L[j]? =some c->c=80::Lib.itoa (j:Int)):headsB l=true:=headsB_iff.2 fun i c hc=>by
 subst h;have h3:i<(l.map trimT).length:=by rw[List.length_map];exact(List.getElem?_eq_some_iff.1 hc).1
 exact h2 i h3 (trimT c) (by rw[List.getElem?_map,hc];rfl)
theorem heads_no{l L:List Tx}(h:l.map trimT=L){j:Nat}{c:Tx}(hj:L[j]? =some c)(h2:c≠80::Lib.itoa (j:Int)):headsB l=false:=by
 cases e:headsB l with
 |false=>rfl
 | true=>
   subst h;rw[List.getElem?_map]at hj;cases e2:l[j]? with
   |none=>rw[e2]at hj;cases hj
   | some d=>
     rw[e2]at hj;obtain rfl:trimT d=c:=Option.some.inj hj;exact absurd (headsB_iff.1 e j d e2) h2
theorem readTable{w1 w:World}{s:Tx}{k:Nat}{t:Tst}(R:RdS w1 w s k t)(ha:archB t.arch=true)(h0:t.ca=none/\t.cc=0/\t.code=[]):Calls Tryz.prog 30 #[.pointer (some ⟨w1.heap.size,0,none⟩)] w (RetTb (tableP t.arch s.length (s.drop k)) w1 w s t):=by
 have hl:=R.sl;have RW:=hid (readRow R);have FL:=hid (fun p er k w=>readFail p er k w);have HR:=hid R;obtain⟨u,hu⟩: ∃u,sgnL (s.drop k)=u:=⟨_,rfl⟩;obtain⟨N,hN⟩: ∃N,s.length=N:=⟨_,rfl⟩;have hN2:N<=262144:=by omega
 have P1:=hid (fun h=>tableP_no (arch:=t.arch) (N:=N) (r:=s.drop k) h);have P2:=hid (fun h=>tableP_bad (arch:=t.arch) (N:=N) (r:=s.drop k) h);have P3:=hid (fun h h2=>tableP_ok (arch:=t.arch) (N:=N) (r:=s.drop k) h h2);rw[hu]at RW P1 P2 P3;rw[hN];have HNs:=hid hN;have HU:=hid hu;have hkl:(s.drop k).length<=N:=by rw[List.length_drop];omega
 generalize tableP t.arch N (s.drop k)=hp at*;clear hl hu hN;go_enter Tryz.func30,Tryz.ntmps30;go_wp2_with fail;refine RW.out.mono ?_;rintro e w2 h;unfold RetRow at h;rcases h with⟨hr,rfl,E⟩|⟨b,n,ca,pa,pc,k2,hr,hb,hin,hn,rfl,hk2,ST,R2,TX, -⟩
 ·have P1:=hid (P1.out hr)
  have E:=hid E;rw[HNs.out];clear hr;go_wp2_with fail;refine(FL.out _ _ _ _).mono ?_;rintro e w3 ⟨rfl,E3⟩;have E:=hid (ext_trans E.out E3);clear E3;go_wp2_with fail;exact⟨rfl,.inl ⟨(HR.out.below E.out).bel,_,_,P1.out,rfl⟩⟩
 ·rw[rowCells hb]at TX
  have hn2:n=(cellsL u).length:=hn.trans (cells_len hb)
  have hnb:n<=262145:=by
   have:=splitC_length_le 124 (lineL u).dropLast;have h2:(lineL u).length<=u.length:=lineL_le u;have h3:u.length<=N:=by have:=HNs.out;omega
   rw[hn2];unfold cellsL;rw[List.length_dropLast]at this;omega
  have P2:=hid (fun L j c h h1 h2=>P2.out (heads_no (L:=L) (j:=j) (c:=c) h h1 h2));have P3:=hid (fun L h h2=>P3.out hr (heads_yes (L:=L) h h2));obtain⟨Lt,hLt⟩: ∃Lt,(cellsL u).map trimT=Lt:=⟨_,rfl⟩;have hn3:n=Lt.length:=by rw[<-hLt,List.length_map];exact hn2
  have P2:=hid (fun j c h1 h2=>P2.out Lt j c hLt h1 h2);have P3:=hid (fun h2=>P3.out Lt hLt h2);rw[hLt]at TX;rw[<-hn2]at P3;rw[HNs.out];have HLn:=hid hn3;have TX:=hid TX;have R2:=hid R2;have ST:=hid ST;have HK2:=hid hk2;obtain⟨p0,hp0⟩: ∃p0,plc N u=p0:=⟨_,rfl⟩;rw[hp0];have P2:=hid (fun j c h1 h2=>(P2.out j c h1 h2).trans (by rw[hp0]));clear hb hin hn hn2 hr hLt hn3 hk2 hp0 P1;go_wp2_with fail
  go_loopw [30] (fun i wi=> ∃m:Nat,i= .int .i64 m/\m<=n/\Below w2.heap.size w2 wi/\Hid (∀j,j<m-> ∀c,Lt[j]? =some c->c=80::Lib.itoa (j:Int))) (fun i _=>n-(intOf i).toNat)
  case atStart=>exact⟨0,rfl,Nat.zero_le _,Below.refl _ _,hid fun j hj=>absurd hj (Nat.not_lt_zero _)⟩
  case round=>
   obtain⟨m,rfl,hmn,E2,HH⟩:=hrel
   by_cases hlt:m<n
   ·obtain⟨c,hc⟩: ∃c,Lt[m]? =some c:=⟨_,List.getElem?_eq_getElem (by rw[<-HLn.out];exact hlt)⟩
    have TT:=Own.below TX.out E2;have ix:=idx9 TT (m:=m) (by unfold cellV;rw[List.length_map,<-HLn.out];exact hlt) (by omega);have cl:=own_cell TT hc;have IT:=hid (fun w g=>itoa_any (m:Int) (by omega) (by omega) w g);have zlt:decide ((m:Int)<(n:Int))=true:=by simp;omega
    have g2:=R2.out.g.below E2;have HC:=hid hc;obtain⟨q,hq⟩: ∃q,Lib.itoa (m:Int)=q:=⟨_,rfl⟩;rw[hq]at IT;have HQ:=hid hq;have hql:q.length<=21:=by rw[<-hq];exact Lib.itoa_length_le _ (by omega) (by omega)
    have cc: ∀w,(Op.stringOp .add ⟨#[80]⟩ (tx q)).run Tryz.prog w= .ok (.string (tx (80::q))) w:=run_cat [80] q (by simp;omega);have E2:=hid E2;clear hc hq TT
    by_cases hcq:c=80::q
    ·have y:=cmp_eq c
     have HE:=hid (show ∀j,j<m+1-> ∀c,Lt[j]? =some c->c=80::Lib.itoa (j:Int)from fun j hj d hd=>by
      by_cases e:j=m
      ·subst e
       rw[HC.out]at hd;rw[HQ.out,<-Option.some.inj hd];exact hcq
      ·exact HH.out j (by omega) d hd)
     subst hcq;go_wp2_with fail;refine(IT.out _ g2).mono ?_;rintro e w3 ⟨rfl,E3⟩;have E3:=ext_trans E2.out E3;go_wp2_with fail
     go_roundw
     case rel=>exact⟨m+1,by go_num,by omega,E3,HE⟩
     case measure=>simp[intOf];omega
    ·have y:=cmp_ne hcq
     have P2:=hid (P2.out m c HC.out (by rw[HQ.out];exact hcq));go_wp2_with fail;refine(IT.out _ g2).mono ?_;rintro e w3 ⟨rfl,E3⟩;have E3:=ext_trans E2.out E3;go_wp2_with fail;refine(FL.out _ _ _ _).mono ?_;rintro e w4 ⟨rfl,E4⟩;have E:=hid (ext_trans E3 E4);clear E3 E4;go_wp2_with fail;exact⟨rfl,.inl ⟨(R2.out.below E.out).bel,_,_,P2.out,rfl⟩⟩
   ·obtain rfl:m=n:=by omega
    have P3:=hid (P3.out (fun j hj=>HH.out j (by rw[HLn.out];exact hj)));have zlt:decide ((m:Int)<(m:Int))=false:=by simp
    have E2:=hid E2;have R3:=R2.out.below E2.out;have q6:=R3.bx.get 6 _ rfl;have hf6:=R3.frz 6;have hrb3:=R3.lt;rw[h0.1,h0.2.1,h0.2.2]at q6;have R3:=hid R3
    go_wp2_with (at_make;go_loud(refine wpList_mk cdl _ _ rfl rfl m rfl rfl rfl rfl (by omega) (by unfold maxLen;omega) (Below.refl wr.heap.size wr) (Nat.le_refl _) ?_))
    intro ac w5 o5 s5 B5;have R5:=R3.out.below B5;have q65:=R5.bx.get 6 _ rfl;have hf65:=R5.frz 6;have hrb5:=R5.lt;rw[h0.1,h0.2.1,h0.2.2]at q65;have R6:=R5.put 6 (.slice ac m m) (k':=k2) (t':={ t with ca:=ac,cc:=m,code:=List.replicate m ⟨none,0,[]⟩ }) (by simp[rdF,cT]) R5.le;have hsz:=Nat.le_trans R2.out.bel.size (Nat.le_refl _);have hww:w.heap.size<=w2.heap.size:=ST.out.grown.size;have C6:=hid (OwnCs.kept (OwnCs.mono (OwnCs.new o5) (Nat.le_trans hww E2.out.size)) R6.2.grown (fun b hb=>by have:=HR.out.lt;simp at hb;omega));have S6:=hid ((ST.out.trans (step_below (bw:=w1.heap.size) (ext_trans E2.out B5))).trans R6.2);have B6:w2.heap.size<=(w5.setCell ⟨w1.heap.size,6,none⟩ (.slice ac m m)).heap.size:=Nat.le_trans E2.out.size (Nat.le_trans B5.size R6.2.grown.size);replace R6:=hid R6.1;have P6:=hid (show hp=rowsP t.arch N ((s.drop k).length+1) (s.drop k2) ((List.replicate m (⟨none,0,[]⟩:Cd)).map (·.l)) by rw[P3.out,HK2.out,List.map_replicate])
    have hlk:(s.drop k2).length<=(s.drop k).length:=by
     have h1:=(rest_suf u).length_le;have h2:=(sgn_suf' (s.drop k)).length_le;rw[HK2.out];rw[HU.out]at h2;omega
    have L6:=Lim.new m k2;generalize List.replicate m (⟨none,0,[]⟩:Cd)=C0 at*;generalize (s.drop k).length=fu at*;clear o5 s5 B5 R5 q6 hf6 hrb3 hsz;go_wp2_with fail;have RWA:=hid (fun(w:World) (k:Nat) (t:Tst) (R:RdS w1 w s k t)=>readRow R)
    go_loopw [8] (fun _ wi=> ∃(kk nn:Nat) (C:List Cd),Hid (hp=rowsP t.arch N (nn+1) (s.drop kk) (C.map (·.l)))/\(s.drop kk).length<=nn/\Hid (RdS w1 wi s kk { t with ca:=ac,cc:=m,code:=C })/\Hid (OwnCs wi w.heap.size ac m C)/\Hid (St w wi w1.heap.size)/\w2.heap.size<=wi.heap.size/\Lim C 0 kk) (fun _ wi=>N-(intOf ((wi.cell? ⟨w1.heap.size,1,none⟩).getD undef)).toNat)
    case atStart=>exact⟨k2,fu,C0,P6,hlk,R6,C6,S6,B6,L6⟩
    case round=>
     obtain⟨kk,nn,C,HP,hnn,RR,OC,SS,hB2,HLim⟩:=hrel;have QC:=hid (RWA.out wr kk _ RR.out);obtain⟨v,hv⟩: ∃v,sgnL (s.drop kk)=v:=⟨_,rfl⟩;have X1:=hid (fun h=>rowsP_end (arch:=t.arch) (N:=N) (n:=nn) (r:=s.drop kk) (acc:=C.map (·.l)) h);have X2:=hid (fun h h2=>rowsP_bad (arch:=t.arch) (N:=N) (n:=nn) (r:=s.drop kk) (acc:=C.map (·.l)) h h2);have X3:=hid (fun h h2=>rowsP_row (arch:=t.arch) (N:=N) (n:=nn) (r:=s.drop kk) (acc:=C.map (·.l)) h h2);rw[hv]at QC X1 X2 X3;have hCl:=OC.out.len;rw[List.length_map,hCl]at X2 X3;have HV:=hid hv;have HCL:=hid hCl;have hkN:kk<=N:=by have:=RR.out.le;have:=HNs.out;omega
     have hk1:=RR.out.bx.get 1 _ rfl;have HK1:=hid (show(wr.cell? ⟨w1.heap.size,1,none⟩).getD undef= .int .i64 kk by rw[hk1];rfl);clear hv hCl;go_wp2_with fail;refine QC.out.mono ?_;rintro e w6 h;unfold RetRow at h;rcases h with⟨hr,rfl,E⟩|⟨b,n2,ca2,pa2,pc2,k3,hr,hb,hin,hn,rfl,hk3,ST3,R7,TX3,TP3⟩
     ·have X1:=hid (X1.out hr)
      have E:=hid E;rw[HNs.out];clear hr;go_wp2_with fail
      go_end0
      exact .inr ⟨C,s.drop kk,kk,ac,m,by rw[HP.out,X1.out],rfl,rfl,SS.out.trans (step_below E.out),RR.out.below E.out,OC.out.below E.out⟩
     ·have hlen2:n2=(cellsL v).length:=hn.trans (cells_len hb)
      have OC7:=hid (OwnCs.step OC.out ST3 HR.out.lt);have SS7:=hid (SS.out.trans ST3);have hsz7:wr.heap.size<=w6.heap.size:=ST3.grown.size;rw[HNs.out]at hin⊢;obtain⟨p3,hp3⟩: ∃p3,plc N v=p3:=⟨_,rfl⟩;rw[hp3]
      by_cases hne:n2=m
      ·obtain rfl:n2=m:=hne
       replace X3:=hid (X3.out hr hlen2.symm)
       have hrl:(restL v).length<(s.drop kk).length:=by
        obtain⟨z,hz⟩:=row_text hr;have h1:=rest_lt hr;have h2:=(sgn_suf' (s.drop kk)).length_le;rw[HV.out]at h2;omega
       have hk3N:k3<=N:=by have:=R7.le;have:=HNs.out;omega
       have hrl2:N-k3<N-kk/\(s.drop k3).length<(s.drop kk).length:=by
        rw[<-hk3]at hrl;refine⟨?_,hrl⟩;rw[List.length_drop,List.length_drop,HNs.out]at hrl;omega
       obtain⟨z,hz⟩:=row_parts hr b;have hcb:=cells_b (arch:=t.arch) (N:=N) (M:=(lineL v).dropLast) (u:=v) hb (C.map (·.l));obtain⟨Ls,hLs⟩: ∃Ls,splitC 124 (b++(lineL v).dropLast)=Ls:=⟨_,rfl⟩;rw[hLs]at hz hcb TX3 TP3 hn;have hx0l:(b++v).length<=N:=by rw[List.length_append];exact hin
       obtain⟨x0,hx0⟩: ∃x0,b++v=x0:=⟨_,rfl⟩;rw[hx0]at hz hcb TP3 hx0l;obtain⟨pq,hpq⟩: ∃pq,cellsP t.arch N (cellsL v) v (C.map (·.l))=pq:=⟨_,rfl⟩
       have HPQ:=hid (show pq=KQ ((C.take 0).map (·.l)) (cellsP t.arch N (Ls.drop 0) x0 ((C.drop 0).map (·.l))) by
        rw[<-hpq];show _=KQ [] _;rw[KQ_none];exact hcb.symm)
       rw[hpq]at X3;replace X3:=hid (X3.out.trans (show _=thenR t.arch N nn (s.drop k3) pq by rw[hk3]));have hLn:Ls.length=n2:=hn.symm;obtain⟨PP,hPP⟩: ∃PP,plX N Ls x0=PP:=⟨_,rfl⟩;have hPl:=plX_length N Ls x0;rw[hPP,hLn]at hPl;rw[HNs.out,hPP]at TP3;have HPP:=hid (show PP.drop 0=plX N (Ls.drop 0) x0 from hPP.symm);have zne:((n2:Int) != (n2:Int))=false:=by simp
       replace TX3:=hid (show Own w6 wr.heap.size 9 1 ca2 n2 n2 (cellV (Ls.map trimT))from TX3);replace TP3:=hid TP3;replace R7:=hid R7;have HLn2:=hid hLn;have HPl:=hid hPl;have HX0:=hid (show 0<n2->x0=partsB (59::z) (Ls.drop 0)from fun _=>hz);generalize wr.heap.size=Bc at*;have hB6:w2.heap.size<=w6.heap.size:=Nat.le_trans hB2 hsz7;clear hr hb hin hn hlen2 hk3 ST3 hp3 hk1 hrl hcb hLs hx0 hpq hPP hPl hLn hz X1 X2 RR OC SS HCL;go_wp2_with fail
       go_loopw [70] (fun i wi=> ∃(q:Nat) (C2:List Cd) (x:Tx),i= .int .i64 q/\q<=n2/\x.length<=N/\Hid (q<n2->x=partsB (59::z) (Ls.drop q))/\Hid (pq=KQ ((C2.take q).map (·.l)) (cellsP t.arch N (Ls.drop q) x ((C2.drop q).map (·.l))))/\Hid (PP.drop q=plX N (Ls.drop q) x)/\Hid (RdS w1 wi s k3 { t with ca:=ac,cc:=n2,code:=C2 })/\Hid (OwnCs wi w.heap.size ac n2 C2)/\Hid (Own wi Bc 9 1 ca2 n2 n2 (cellV (Ls.map trimT)))/\Hid (OwnI wi Bc pa2 n2 pc2 PP)/\Hid (St w wi w1.heap.size)/\w6.heap.size<=wi.heap.size/\Lim C2 q kk) (fun i _=>n2-(intOf i).toNat)
       case atStart=>exact⟨0,C,x0,rfl,Nat.zero_le _,hx0l,HX0,HPQ,HPP,R7,OC7,TX3,TP3,SS7,Nat.le_refl _,HLim⟩
       case round=>
        obtain⟨q,C2,x,rfl,hqn,hxN,HX,HQ,HD,RQ,OQ,TX,TP,SQ,hBq,HLm⟩:=hrel;have hCl:=OQ.out.len
        by_cases hlt:q<n2
        ·obtain⟨p,hpm⟩: ∃p,Ls[q]? =some p:=⟨_,List.getElem?_eq_getElem (by rw[HLn2.out];exact hlt)⟩
         obtain⟨d,r,hdr,hxe,hxd,hxr⟩:=cell_step hpm (HX.out hlt);obtain⟨y,hyC⟩: ∃y,C2[q]? =some y:=⟨_,List.getElem?_eq_getElem (by rw[hCl];exact hlt)⟩;obtain⟨cs1,cs2⟩:=code_step hyC;have hxl:x.length=p.length+1+r.length:=by rw[hxe];simp;omega
         have hrN:r.length<=N:=by omega
         have hpb:p.length<=262144:=by omega
         have hq:=HQ.out;rw[hdr,cs1]at hq;have hd:=HD.out;rw[hdr,plX,hxd]at hd
         have HD2:=hid (show PP.drop (q+1)=plX N (Ls.drop (q+1)) r by
          rw[<-List.drop_drop,hd];rfl)
         have HX2:=hid (show q+1<n2->r=partsB (59::z) (Ls.drop (q+1))from fun h=>hxr (by rw[HLn2.out];exact h));have ix:=idx9 TX.out (m:=q) (by unfold cellV;rw[List.length_map,List.length_map,HLn2.out];exact hlt) (by omega);have hmp:(Ls.map trimT)[q]? =some (trimT p):=by rw[List.getElem?_map,hpm];rfl
         have cl:=own_cell TX.out hmp;have zlt:decide ((q:Int)<(n2:Int))=true:=by simp;omega
         have hpt:=trimT_length p
         by_cases hb0:trimT p=[]
         ·rw[hb0]at cl
          replace cl:wr.cell? ⟨bk ca2,fo ca2+q,none⟩=some (.string ⟨#[]⟩):=cl
          have HQ2:=hid (show pq=KQ ((C2.take (q+1)).map (·.l)) (cellsP t.arch N (Ls.drop (q+1)) r ((C2.drop (q+1)).map (·.l))) by
           rw[hq,KQ_skip hb0,hxd,cs2])
          clear hpm hdr hxe hxd hxr hyC cs1 cs2 hxl hq hd hmp hpb hpt hb0 HX HQ HD;go_wp2_with fail
          go_roundw
          case rel=>exact⟨q+1,C2,r,by go_num,by omega,hrN,HX2,HQ2,HD2,RQ,OQ,TX,TP,SQ,hBq,HLm.skip⟩
          case measure=>simp[intOf];omega
         ·obtain⟨ct,hct⟩: ∃ct,trimT p=ct:=⟨_,rfl⟩
          have zt:(tx ct).toList.isEmpty=false:=by
           rw[tx_toList,<-hct];cases e:trimT p with
           |nil=>exact absurd e hb0
           |cons a b=>rfl
          have hctl:ct.length<=262144:=by rw[<-hct];omega
          have RI:=hid (fun w g=>readInstr t.arch ha ct w g);have q2:=RQ.out.bx.get 2 _ rfl;have gq:=RQ.out.g;have hrbq:=RQ.out.lt;rw[hct]at cl;cases hI:insP t.arch (trimT p)with
          | none=>
            have HE:=hid (show pq= .error (91,plc N (sgnL x)) by rw[hq,KQ_bad hb0 hI]);have hpl:=part_at (N:=N) (p:=p) (r:=r) (d:=d) hb0 (by rw[<-hxe];exact hxN);rw[<-hxe]at hpl
            have hPq:PP[q]? =some ((plc N (sgnL x):Nat):Int):=by
             have h1:(PP.drop q)[0]? =some ((plc N (sgnL x):Nat):Int):=by
              rw[hd,List.getElem?_cons_zero,<-hpl]
              congr 1;omega
             rwa[List.getElem?_drop,Nat.add_zero]at h1
            have HPq:=hid hPq;rw[hct]at hI;rw[hI]at RI;obtain⟨pp,hpp⟩: ∃pp,plc N (sgnL x)=pp:=⟨_,rfl⟩;rw[hpp]at HE HPq;clear hpm hdr hxe hxd hxr hyC cs1 cs2 hxl hq hd hmp hpb hpt hb0 hct hI hpl hPq hpp HX HQ HD HX2 HD2;go_wp2_with fail;refine(RI.out _ gq).mono ?_;rintro e w7 h;obtain⟨rfl,E7⟩:e= .returned (.tuple #[vI ⟨0,0,0,0,0,[],[],0⟩,.int .i64 91])/\Below wr.heap.size wr w7:=h
            go_upto_region 19 with(fail)
            have EW:Below wr.heap.size wr (w7.alloc (.cells #[.int .i64 0,.int .i64 0,.int .i64 0,.int .i64 0,.int .i64 0,.string (tx []),.string (tx []),.int .i64 0] 50)):=ext_trans E7 (al w7 _);generalize w7.alloc (.cells #[.int .i64 0,.int .i64 0,.int .i64 0,.int .i64 0,.int .i64 0,.string (tx []),.string (tx []),.int .i64 0] 50)=W at*;have TI:=(Own.ints (Own.below TP.out EW)).1;have hPlt:q<PP.length:=by rw[HPl.out];exact hlt
            have ip:=Ints.idx TI isl9 q hPlt pc2;rw[HPl.out]at ip;have cp:=TI.cell q hPlt;rw[(List.getElem?_eq_some_iff.1 HPq.out).2]at cp;have EW:=hid EW;clear TI q2 gq;go_wp2_with fail;refine(FL.out _ _ _ _).mono ?_;rintro e w8 ⟨rfl,E8⟩;have E:=hid (ext_trans EW.out E8);clear E8;go_wp2_with fail;exact⟨rfl,.inl ⟨(RQ.out.below E.out).bel,_,_,by rw[HP.out,X3.out,HE.out];rfl,rfl⟩⟩
          | some i=>
            have HQ2:=hid (show ∀a' c',pq=KQ (((C2.set q ⟨a',c',y.l++[i]⟩).take (q+1)).map (·.l)) (cellsP t.arch N (Ls.drop (q+1)) r (((C2.set q ⟨a',c',y.l++[i]⟩).drop (q+1)).map (·.l)))from fun a' c'=>by
             rw[hq,KQ_put hb0 hI,hxd,(code_put hyC).1,(code_put hyC).2])
            rw[hct]at hI;rw[hI]at RI;have HYC:=hid hyC;clear hpm hdr hxe hxd hxr hyC cs1 cs2 hxl hq hd hmp hpb hpt hb0 hct hI HX HQ HD;obtain⟨op,dd,aa,bb,imm,lo,la,fe⟩:=i;go_wp2_with fail;refine(RI.out _ gq).mono ?_;rintro e w7 h;obtain⟨rfl,E7⟩:e= .returned (.tuple #[vI ⟨op,dd,aa,bb,imm,lo,la,fe⟩,.int .i64 0])/\Below wr.heap.size wr w7:=h
            go_upto_region 21 with(fail)
            have XB:=BxL.new w7 #[.int .i64 op,.int .i64 dd,.int .i64 aa,.int .i64 bb,.int .i64 imm,.string (tx lo),.string (tx la),.int .i64 fe] 50;have EW:Below wr.heap.size wr (w7.alloc (.cells #[.int .i64 op,.int .i64 dd,.int .i64 aa,.int .i64 bb,.int .i64 imm,.string (tx lo),.string (tx la),.int .i64 fe] 50)):=ext_trans E7 (al w7 _);have hb9:w7.heap.size≠w1.heap.size:=by have:=E7.size;omega
            have hb9':=hb9.symm;have hb9w:wr.heap.size<=w7.heap.size:=E7.size;generalize w7.alloc (.cells #[.int .i64 op,.int .i64 dd,.int .i64 aa,.int .i64 bb,.int .i64 imm,.string (tx lo),.string (tx la),.int .i64 fe] 50)=W at*;generalize w7.heap.size=b9 at*;have RW:=RQ.out.below EW;have OW:=hid (OQ.out.below EW);have TXW:=hid (Own.below TX.out EW);have TPW:=hid (Own.below TP.out EW);have SW:=hid (SQ.out.trans (step_below (bw:=w1.heap.size) EW));have x0':=XB.get 0 _ rfl;have x1:=XB.get 1 _ rfl;have x2:=XB.get 2 _ rfl;have x3:=XB.get 3 _ rfl;have x4:=XB.get 4 _ rfl;have x5:=XB.get 5 _ rfl;have x6:=XB.get 6 _ rfl;have x7:=XB.get 7 _ rfl;have q6:=RW.bx.get 6 _ rfl;simp only at q6;rw[hCl]at q6;have hrbW:=RW.lt;have hbW:=XB.1;have HRW:=hid RW;obtain⟨y1,y2,iy⟩:=OW.out.cell HYC.out;have hyb:=cell?_lt y1;simp only at hyb;have hwW:w.heap.size<=W.heap.size:=SW.out.grown.size;have hyl:y.l.length<=262144:=by have:=HLm.at HYC.out;omega
            have H7:=hid (bel_drew (bel_alloc (Below.refl W.heap.size W) (.cells #[.int .i64 op,.int .i64 dd,.int .i64 aa,.int .i64 bb,.int .i64 imm,.string (tx lo),.string (tx la),.int .i64 fe] 50)));have HY:=List.mem_of_getElem? HYC.out;have HOY:=hid (Own.below (OW.out.own y HY) H7.out);have hac:w.heap.size<=bk ac:=(Own.lt OW.out.row (Own.some OW.out.row (by omega))).1;have hacr:bk ac≠w1.heap.size:=by have:=HR.out.lt;omega
            have hacr':=hacr.symm
            have hiar: ∀b,y.a.map (·.block)=some b->w1.heap.size<b:=fun b hb=>by
             cases e:y.a with
             |none=>rw[e]at hb;cases hb
             | some z=>
               have h1:=(Own.lt HOY.out (by rw[e];simp)).1;rw[e]at hb h1;simp[bk]at hb h1;have:=HR.out.lt;omega
            have FIN:=hid (show ∀a' c' w',Own w' w.heap.size 50 8 a' (y.l.length+1) c' (insC y.l++iC ⟨op,dd,aa,bb,imm,lo,la,fe⟩)->Grew (W.alloc (.cells #[.int .i64 op,.int .i64 dd,.int .i64 aa,.int .i64 bb,.int .i64 imm,.string (tx lo),.string (tx la),.int .i64 fe] 50)).drew w' y.a y.c a' c'->
             (RdS w1 (w'.setCell ⟨bk ac,fo ac+q,none⟩ (.slice a' (y.l.length+1) c')) s k3 { t with ca:=ac,cc:=n2,code:=C2.set q ⟨a',c',y.l++[⟨op,dd,aa,bb,imm,lo,la,fe⟩]⟩ }/\OwnCs (w'.setCell ⟨bk ac,fo ac+q,none⟩ (.slice a' (y.l.length+1) c')) w.heap.size ac n2 (C2.set q ⟨a',c',y.l++[⟨op,dd,aa,bb,imm,lo,la,fe⟩]⟩)/\Own (w'.setCell ⟨bk ac,fo ac+q,none⟩ (.slice a' (y.l.length+1) c')) Bc 9 1 ca2 n2 n2 (cellV (Ls.map trimT))/\OwnI (w'.setCell ⟨bk ac,fo ac+q,none⟩ (.slice a' (y.l.length+1) c')) Bc pa2 n2 pc2 PP/\St w (w'.setCell ⟨bk ac,fo ac+q,none⟩ (.slice a' (y.l.length+1) c')) w1.heap.size/\W.heap.size<=(w'.setCell ⟨bk ac,fo ac+q,none⟩ (.slice a' (y.l.length+1) c')).heap.size)from fun a' c' w' ho hg=>by
             obtain⟨O9,s9⟩:=OwnCs.put (OW.out.below H7.out) HYC.out (i:=⟨op,dd,aa,bb,imm,lo,la,fe⟩) (by rw[insC_app];exact ho) hg;have TX7:=(Own.step (Own.below TXW.out H7.out) hg.step (own_apart (Own.below TXW.out H7.out) HOY.out (by decide))).1;have TP7:=(Own.step (Own.below TPW.out H7.out) hg.step (own_apart (Own.below TPW.out H7.out) HOY.out (by decide))).1;have ac7:=(Own.step (OW.out.below H7.out).row hg.step ((OW.out.below H7.out).far y HY)).1
             refine⟨RdS.code (C:=C2) (((HRW.out.below H7.out).kept hg.step.grown hiar).kept s9.grown (fun b hb=>by
              cases ac with
              |none=>cases hb
              |some z=>simp[bk]at hb hac;have:=HR.out.lt;omega)) (by rw[List.length_set]),O9,(Own.step TX7 s9 (own_apart TX7 ac7 (by decide))).1,(Own.step TP7 s9 (own_apart TP7 ac7 (by decide))).1,?_,?_⟩
             ·refine St.more (St.more (SW.out.trans (step_below H7.out)) hg.step.grown (fun b hb=>?_)) s9.grown (fun b hb=>?_)
              ·cases e:y.a with
               |none=>rw[e]at hb;cases hb
               | some z=>
                 have h1:=(Own.lt HOY.out (by rw[e];simp)).1;rw[e]at hb h1;simp[bk]at hb h1;omega
              ·cases ac with
               |none=>cases hb
               |some z=>simp[bk]at hb hac;omega
             ·exact Nat.le_trans H7.out.size (Nat.le_trans hg.step.grown.size s9.grown.size))
            have hiab: ∀b,y.a.map (·.block)=some b->b≠b9:=fun b hb=>by
             cases e:y.a with
             |none=>rw[e]at hb;cases hb
             | some z=>
               have h1:=(Own.lt (OQ.out.own y HY) (by rw[e];simp)).2;rw[e]at hb h1;simp[bk]at hb h1;omega
            have XBW:=hid XB
            have h5ac:bk ac≠b9:=by
             have h1:=(Own.lt OQ.out.row (Own.some OQ.out.row (by omega))).2;omega
            have h5ac':=h5ac.symm;clear XB E7 EW RW q2 gq hrbq ix cl
            go_region_law
             ((refine step_app2 inl (.tmp 108) (.tmp 110) (by rfl) (by rfl) (B:=w.heap.size) (n:=y.l.length) (c:=y.c) (sa:=y.a) (xs:=insC y.l) (by rfl) HOY.out (xa:=some ⟨W.heap.size,0,none⟩) (xc:=1) (m:=1) (ys:=iC ⟨op,dd,aa,bb,imm,lo,la,fe⟩) (by rfl) ((row_lit8 W ⟨op,dd,aa,bb,imm,lo,la,fe⟩ _).below (below_drewN _ 1)) (by rfl) (insC_one8 _) (Nat.le_trans hwW H7.out.size) (by omega) (by unfold maxLen;omega) ?_
               intro a' c' w' ho hg;have hg7:=hid hg;have ho7:=hid ho;have R7:=(HRW.out.below H7.out).kept hg.step.grown hiar;have OC7:=Own.step (OW.out.below H7.out).row hg.step (OW.out.far y HY);have q67:=R7.bx.get 6 _ rfl;simp only at q67;rw[hCl]at q67;have y17:=(cd_at OC7.1 HYC.out).1;have y27:=(cd_at OC7.1 HYC.out).2;clear ho hg R7 OC7))
            all_goals
             obtain⟨R9,OC9,TX9,TP9,S9,hs9⟩:=FIN.out _ _ _ ho7.out hg7.out;have R9:=hid R9;have OC9:=hid OC9;have TX9:=hid TX9;have TP9:=hid TP9;have S9:=hid S9;have hq2:=hid (HQ2.out a' c');go_wp2_with fail
             go_roundw
             case rel=>exact⟨q+1,_,r,by go_num,by omega,hrN,HX2,hq2,HD2,R9,OC9,TX9,TP9,S9,by omega,HLm.put HYC.out _ _ _⟩
             case measure=>simp[intOf];omega
        ·obtain rfl:q=n2:=by omega
         have HQ2:=hid (show pq= .ok (C2.map (·.l)) by
          rw[HQ.out,List.drop_eq_nil_of_le (by rw[HLn2.out];exact Nat.le_refl _),KQ_nil,List.take_of_length_le (by rw[hCl];exact Nat.le_refl _),List.drop_eq_nil_of_le (by rw[hCl];exact Nat.le_refl _)];simp)
         have HPF:=hid (show hp=rowsP t.arch N ((nn-1)+1) (s.drop k3) (C2.map (·.l)) by
          rw[HP.out,X3.out,HQ2.out,show nn-1+1=nn by omega];rfl)
         have zlt:decide ((q:Int)<(q:Int))=false:=by simp
         have hk13:=RQ.out.bx.get 1 _ rfl;go_wp2_with fail
         go_roundw
         case rel=>exact⟨k3,nn-1,C2,HPF,by omega,RQ,OQ,SQ,by omega,HLm.all (by omega)⟩
         case measure=>
          have h1:(wr.cell? ⟨w1.heap.size,1,none⟩).getD undef= .int .i64 k3:=by rw[hk13];rfl
          rw[h1];have h2:=HK1.out;rw[h2];simp[intOf];omega
      ·have zne:((n2:Int) != (m:Int))=true:=by simpa using fun h=>hne (by omega)
       have X2:=hid (X2.out hr (by rw[<-hlen2];exact hne));rw[hp3]at X2;have R7:=hid R7
       have hnb2:n2<=9223372036854775807:=by
        have:=(Own.cap TX3).2.1;unfold maxLen at this;omega
       clear hr hb hn hlen2 hk3 ST3 TX3 TP3 hp3 hk1;go_wp2_with fail;refine(FL.out _ _ _ _).mono ?_;rintro e w8 ⟨rfl,E8⟩;have E:=hid E8;clear E8;go_wp2_with fail;exact⟨rfl,.inl ⟨(R7.out.below E.out).bel,_,_,by rw[HP.out,X2.out],rfl⟩⟩
end Go.Proofs.YtkbbgjloifmmbaaGreatDoor
