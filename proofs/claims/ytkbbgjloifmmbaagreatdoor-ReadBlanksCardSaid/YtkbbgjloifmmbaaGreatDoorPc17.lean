/- What ReadBlanksP leans on, part 17. -/
import Derived.Test.YtkbbgjloifmmbaaGreatDoorPc15
set_option linter.unusedVariables false
set_option maxRecDepth 100000
set_option maxHeartbeats 12800000
open _root_.Go.Proofs.Tryz
open _root_.List renaming getElem?_eq_some_iff->anx,getElem?_eq_getElem->am9
open _root_.Go.Ending renaming returned->api
open _root_.Nat renaming le_refl->anb
open _root_.UInt8 renaming toNat_ofNat'->apj,ofNat->aog
open _root_.Option renaming any_some->apb
namespace Go.Proofs.YtkbbgjloifmmbaaGreatDoor
open Go.RowKit
variable{n:Nat}{a s:Tx}{x:UInt8}
theorem iW(n:Nat)(hn:n<256):((x.toNat:Int)==(n:Int))=(x==aog n):=by
 rw[Bool.eq_iff_iff];simp only[beq_iff_eq]
 constructor
 ·intro h;exact UInt8.toNat_inj.1 (by rw[apj];omega)
 rintro rfl;rw[apj];omega
theorem aa6(hn:n<256)(h:x=aog n):((x.toNat:Int)==(n:Int))=true:=by rw[iW n hn];simpa using h
theorem Fb(hn:n<256)(h:x≠aog n):((x.toNat:Int)==(n:Int))=false:=by rw[iW n hn];simpa using h
theorem aaZ(h:aq x=true):((x.toNat:Int)==32)=true\/(((x.toNat:Int)==32)=false/\((x.toNat:Int)==9)=true)\/(((x.toNat:Int)==32)=false/\((x.toNat:Int)==9)=false/\((x.toNat:Int)==10)=true)\/(((x.toNat:Int)==32)=false/\((x.toNat:Int)==9)=false/\((x.toNat:Int)==10)=false/\((x.toNat:Int)==13)=true):=by
 unfold aq at h;have a:=iW (x:=x) 32 (by decide);have b:=iW (x:=x) 9 (by decide);have c:=iW (x:=x) 10 (by decide);have d:=iW (x:=x) 13 (by decide);have a':((x.toNat:Int)==32)=(x==32):=a;have b':((x.toNat:Int)==9)=(x==9):=b;have c':((x.toNat:Int)==10)=(x==10):=c;have d':((x.toNat:Int)==13)=(x==13):=d;rw[a',b',c',d']
 revert h
 cases(x==32)<;>cases(x==9)<;>cases(x==10)<;>cases(x==13)<;>simp
theorem aa0(h:aq x=false):((x.toNat:Int)==32)=false/\((x.toNat:Int)==9)=false/\((x.toNat:Int)==10)=false/\((x.toNat:Int)==13)=false:=by
 unfold aq at h;have a':((x.toNat:Int)==32)=(x==32):=iW (x:=x) 32 (by decide);have b':((x.toNat:Int)==9)=(x==9):=iW (x:=x) 9 (by decide);have c':((x.toNat:Int)==10)=(x==10):=iW (x:=x) 10 (by decide);have d':((x.toNat:Int)==13)=(x==13):=iW (x:=x) 13 (by decide);rw[a',b',c',d']
 revert h
 cases(x==32)<;>cases(x==9)<;>cases(x==10)<;>cases(x==13)<;>simp
abbrev zK(kind:Int)(u:Tx)(at' next:Int):Value:=.agg #[.int .i64 kind,.string (tx u),.int .i64 at',.int .i64 next]
abbrev Dz(N:Nat)(l:List Tok):Value:=zK (aY (au l)) (au l) (dz N l) (gh N l)
def Qy(p:UInt8->Bool)(s:Tx)(a q:Nat):Prop:=a<=q/\q<=s.length/\(∀k,a<=k->k<q-> ∃x,s[k]? =some x/\p x=true)/\ ∀x,s[q]? =some x->p x=false
def aaB(s:Tx)(j:Nat)(c:UInt8)(q:Nat)(kd:Nat):Prop:=
 (kd=1/\cg c=true/\Qy cP s (j+1) q)\/
 (kd=2/\cg c=false/\(aD c=true\/aD c=false/\((c.toNat:Int)==45)=true/\j+1<q)/\Qy aD s (j+1) q)\/
 (kd=3/\cg c=false/\aD c=false/\s.length<=j+1/\q=j+1)\/
 ∃d,kd=3/\cg c=false/\aD c=false/\s[j+1]? =some d/\(((c.toNat:Int)==45)=false\/aD d=false)/\q=if(((c.toNat:Int)==47)&&((d.toNat:Int)==92))||(((c.toNat:Int)==92)&&((d.toNat:Int)==47))then j+2 else j+1
theorem aly{j:Nat}{c:UInt8}(hc:s[j]? =some c)(hcb:aq c=false): ∃q kd,aaB s j c q kd/\Jg s (lex j (s.drop j)) j kd q:=by
 have hlt:=(anx.1 hc).1;have T:=alA hc hcb;cases hl:cg c
 ·rw[hl,if_neg (by decide)]at T
  cases hd:aD c||(c==45&&((s[j+1]?).any aD))
  ·rw[hd,if_neg (by decide),afy hc hl hd]at T
   simp only[Bool.or_eq_false_iff]at hd;cases hn:s[j+1]? with
   |none=>rw[hn]at T;exact⟨_,_,.inr (.inr (.inl ⟨rfl,hl,hd.1,List.getElem?_eq_none_iff.1 hn,rfl⟩)),by simpa using T⟩
   | some d=>
     rw[hn]at T hd;refine⟨_,_,.inr (.inr (.inr ⟨d,rfl,hl,hd.1,hn,?_,rfl⟩)),?_⟩
     ·have:=hd.2
      rw[show((c.toNat:Int)==45)=(c==45)from iW 45 (by decide)];simp only[apb]at this
      revert this
      cases(c==45)<;>cases aD d<;>simp
     rw[show((c.toNat:Int)==47)=(c==47)from iW 47 (by decide),show((d.toNat:Int)==92)=(d==92)from iW 92 (by decide),show((c.toNat:Int)==92)=(c==92)from iW 92 (by decide),show((d.toNat:Int)==47)=(d==47)from iW 47 (by decide)]
     exact T
  obtain⟨q,q1,q2,q3,q4,q5⟩:=pK aD s _ (j+1) (anb _) hlt
  rw[hd,if_pos rfl,afx hc hl hd q5 q1]at T;refine⟨q,2,.inr (.inl ⟨rfl,hl,?_,q1,q2,q3,q4⟩),T⟩;cases h:aD c
  ·rw[h,Bool.false_or,Bool.and_eq_true]at hd
   refine .inr ⟨rfl,(iW 45 (by decide)).trans hd.1,?_⟩;rcases Nat.lt_or_ge (j+1) q with h|h
   ·exact h
   obtain rfl:q=j+1:=by omega
   cases hx:s[j+1]? with
   |none=>rw[hx]at hd;cases hd.2
   |some d=>rw[hx]at hd;have:=q4 d hx;simp only[apb]at hd;rw[hd.2]at this;cases this
  exact .inl rfl
 obtain⟨q,q1,q2,q3,q4,q5⟩:=pK cP s _ (j+1) (anb _) hlt
 rw[hl,if_pos rfl,afz hc hl q5 q1]at T;exact⟨q,1,.inl ⟨rfl,hl,q1,q2,q3,q4⟩,T⟩
theorem af6{b:Bool}(h:cP x=b):((cg x||aD x)||((x.toNat:Int)==95))=b:=by
 rw[<-h,show((x.toNat:Int)==95)=(x==95)from iW 95 (by decide)];rfl
theorem GI(hl:s.length<=262144){i:Nat}(hi:i<=s.length)(w:World):Calls prog 119 #[.string (tx s),.int .i64 i] w (aJ w (Dz s.length (lex i (s.drop i)))):=by
 obtain⟨n,hn⟩:=aj ((tx s).size);have HN:=hid (show n=s.length by rw[<-hn,aM]);have hnb:n<=262144:=by rw[HN.out];exact hl
 obtain⟨j,hij,h2,h3,h4,h5⟩:=VH s _ i (anb _) hi;rw[h5];have hjn:j<=n:=by rw[HN.out];exact h2
 have HS:=hid h3;have HC:=hid (fun c (hc:s[j]? =some c)=>And.intro (h4 c hc) (aly hc (h4 c hc)));have HE:=hid (fun h=>alz (S:=s) (j:=j) h h2);generalize lex j (s.drop j)=l at*;obtain⟨R,hR⟩:=aj (Dz s.length l);rw[hR];have HR:=hid hR;clear hl h2 h3 h4 h5 hR;go_in;go_wp2_with fail
 go_loop [1] (fun x=> ∃k:Nat,i<=k/\k<=j/\x= .int .i64 k) (fun x=>j-(intOf x).toNat)
 ·exact⟨i,anb _,hij,rfl⟩
 obtain⟨k,hik,hkj,rfl⟩:=hrel
 by_cases hlt:k<j
 ·obtain⟨x,hx,gD⟩:=HS.out k hik hlt
  have ix:=bB s k x hx;have zk:decide ((k:Int)<(n:Int))=true:=ah;clear hx;rcases aaZ gD with z1|⟨z1,z2⟩|⟨z1,z2,z3⟩|⟨z1,z2,z3,z4⟩
  all_goals clear gD
  all_goals go_wp2_with fail
  all_goals go_round
  all_goals first|(case rel=>exact⟨k+1,by omega,by omega,by go_num⟩)|skip
  all_goals(case measure=>simp[intOf];omega)
 obtain rfl:k=j:=by omega
 clear hlt
 by_cases hje:n<=k
 ·obtain⟨⟨t1,t2,t3,t4⟩,t5⟩:=HE.out (by rw[<-HN.out];exact hje)
  have HZ:=hid (show zK 0 [] n n=R by rw[<-HR.out];unfold Dz;rw[t1,t2,t4,t5,HN.out];rfl);have zk:decide ((k:Int)<(n:Int))=false:=ah;clear t1 t2 t3 t4 t5;go_wp2;exact bodyPost_ret (by simp[results,results119,go_sem]<;>rfl) rfl ⟨congrArg api HZ.out,oz⟩
 have hkn:k<n:=by omega
 obtain⟨c,hc⟩: ∃c,s[k]? =some c:=⟨_,am9 (by rw[<-HN.out];exact hkn)⟩;obtain⟨hcb,q,kd,vP,t1,t2,t3,t4⟩:=HC.out c hc;have HZ:=hid (show ∀u,(s.take q).drop k=u->zK kd u k q=R from fun u hu=>by rw[<-HR.out];unfold Dz;rw[t1,t2,t4,t3,hu]);obtain⟨b1,b2,b3,b4⟩:=aa0 hcb;have ic:=bB s k c hc;have zk:decide ((k:Int)<(n:Int))=true:=ah;have zg:decide ((n:Int)<=(k:Int))=false:=ah;clear hc hcb t1 t2 t3 t4 HC HE;obtain⟨lc,hlc⟩: ∃b,cg c=b:=⟨_,rfl⟩;obtain⟨dc,hdc⟩: ∃b,aD c=b:=⟨_,rfl⟩;have LC:=hid (fun w=>X6 c w);have DC:=hid (fun w=>rU c w);rw[hlc]at LC;rw[hdc]at DC;rcases vP with⟨rfl,h1,P⟩|⟨rfl,h1,h2,P⟩|⟨rfl,h1,h2,h3,rfl⟩|⟨d,rfl,h1,h2,h3,h4,h5⟩
 rotate_left 2
 ·obtain rfl:false=lc:=h1.symm.trans hlc
  obtain rfl:false=dc:=h2.symm.trans hdc;have zj:decide ((k:Int)+1<(n:Int))=false:=by have:=HN.out;simp;omega
  have sl:=jD s k (k+1) (by omega) (aI HN.out);have HZ:=hid (HZ.out _ rfl);generalize (s.take (k+1)).drop k=u at*;rw[show((k+1:Nat):Int)=(k:Int)+1 by omega]at sl HZ;clear h1 h2 h3 hlc hdc
  go_wp2_with (first|(go_at_call 204;refine av (LC.out _) ?_)|(go_at_call 200;refine av (DC.out _) ?_))
  all_goals exact bodyPost_ret (by simp[results,results119,go_sem]<;>rfl) rfl ⟨congrArg api HZ.out,oz⟩
 ·obtain rfl:false=lc:=h1.symm.trans hlc
  obtain rfl:false=dc:=h2.symm.trans hdc;have fQ:k+1<n:=by have:=(anx.1 h3).1;have:=HN.out;omega
  have zj:decide ((k:Int)+1<(n:Int))=true:=ah;have id:=bB s (k+1) d h3;rw[show((k+1:Nat):Int)=(k:Int)+1 by omega]at id;have DD:=hid (fun w=>rU d w);obtain⟨dd,hdd⟩: ∃b,aD d=b:=⟨_,rfl⟩;rw[hdd]at DD h4;obtain⟨a1,ha1⟩: ∃b,((c.toNat:Int)==47)=b:=⟨_,rfl⟩;obtain⟨a2,ha2⟩: ∃b,((d.toNat:Int)==92)=b:=⟨_,rfl⟩;obtain⟨a3,Ky⟩: ∃b,((c.toNat:Int)==92)=b:=⟨_,rfl⟩;obtain⟨a4,ha4⟩: ∃b,((d.toNat:Int)==47)=b:=⟨_,rfl⟩;obtain⟨a5,TZ⟩: ∃b,((c.toNat:Int)==45)=b:=⟨_,rfl⟩;rw[ha1,ha2,Ky,ha4]at h5;rw[TZ]at h4;have y7:=jD s k (k+1) (by omega) (aI HN.out);have nR:=jD s k (k+2) (by omega) (aI HN.out);rw[show((k+1:Nat):Int)=(k:Int)+1 by omega]at y7;rw[show((k+2:Nat):Int)=(k:Int)+1+1 by omega]at nR
  have HZ:=hid (show ∀u1 u2,(s.take (k+1)).drop k=u1->(s.take (k+2)).drop k=u2->(if(a1&&a2)||(a3&&a4)then zK 3 u2 k ((k:Int)+1+1)else zK 3 u1 k ((k:Int)+1))=R from fun u1 u2 e1 e2=>by
   split<;>rename_i hb
   ·rw[if_pos hb]at h5;rw[<-HZ.out u2 (by rw[h5];exact e2),h5];congr 1
   rw[if_neg hb]at h5;rw[<-HZ.out u1 (by rw[h5];exact e1),h5];congr 1)
  have HZ:=hid (HZ.out _ _ rfl rfl);generalize (s.take (k+1)).drop k=u1 at*;generalize (s.take (k+2)).drop k=u2 at*;clear h1 h2 h3 h5 hlc hdc hdd
  have hx:(a5=true/\a1=false/\a3=false/\dd=false)\/(a5=false/\a1=true/\a3=false/\a2=true)\/(a5=false/\a1=true/\a3=false/\a2=false)\/(a5=false/\a1=false/\a3=true/\a4=true)\/(a5=false/\a1=false/\a3=true/\a4=false)\/(a5=false/\a1=false/\a3=false/\a4=a4):=by
   have e1:a5=true->a1=false/\a3=false:=by rw[<-TZ,<-ha1,<-Ky];simp only[beq_iff_eq,beq_eq_false_iff_ne];omega
   have e2:a1=true->a3=false:=by rw[<-ha1,<-Ky];simp only[beq_iff_eq,beq_eq_false_iff_ne];omega
   revert e1 e2 h4
   cases a5<;>cases a1<;>cases a3<;>cases a2<;>cases a4<;>cases dd<;>decide
  clear h4;rcases hx with⟨rfl,rfl,rfl,rfl⟩|⟨rfl,rfl,rfl,rfl⟩|⟨rfl,rfl,rfl,rfl⟩|⟨rfl,rfl,rfl,rfl⟩|⟨rfl,rfl,rfl,rfl⟩|⟨rfl,rfl,rfl, -⟩
  all_goals
   go_wp2_with (first|(go_at_call 204;refine av (LC.out _) ?_)|(go_at_call 200;first|(refine av (DC.out _) ?_)|(refine av (DD.out _) ?_)))
   exact bodyPost_ret (by simp[results,results119,go_sem]<;>rfl) rfl ⟨congrArg api HZ.out,oz⟩
 focus
  obtain rfl:true=lc:=h1.symm.trans hlc
 rotate_left
 obtain rfl:false=lc:=h1.symm.trans hlc;rw[hdc]at h2;rcases h2 with rfl|⟨rfl,z45,Uw⟩
 rotate_left
 focus
  obtain⟨d,hd,hdd⟩:=P.2.2.1 (k+1) (anb _) Uw;have id:=bB s (k+1) d hd;have zj:decide ((k:Int)+1<(n:Int))=true:=by have:=(anx.1 hd).1;have:=HN.out;simp;omega
  rw[show((k+1:Nat):Int)=(k:Int)+1 by omega]at id;have DD:=hid (fun w=>rU d w);rw[hdd]at DD;clear hd hdd
 iterate 3
  focus
   obtain⟨p1,p2,p3,p4⟩:=P;have rK:q<=n:=by rw[HN.out];exact p2
   have HQ:=hid p3;have IF:=hid p4;have sl:=jD s k q (by omega) p2;have HZ:=hid (HZ.out _ rfl);generalize (s.take q).drop k=u at*;clear p2 p3 p4 h1 hlc hdc
   go_wp2_with (first|(go_at_call 204;refine av (LC.out _) ?_)|(go_at_call 200;first|(refine av (DC.out _) ?_)|(refine av (DD.out _) ?_)))
   go_loop [5] (fun x=> ∃k2:Nat,k+1<=k2/\k2<=q/\x= .int .i64 k2) (fun x=>q-(intOf x).toNat)
   ·exact⟨k+1,anb _,p1,by go_num⟩
   obtain⟨k2,fQ,hk2,rfl⟩:=hrel
   by_cases amL:n<=k2
   ·obtain rfl:k2=q:=by omega
    have nj:decide ((k2:Int)<(n:Int))=false:=ah;go_wp2;exact bodyPost_ret (by simp[results,results119,go_sem]<;>rfl) rfl ⟨congrArg api HZ.out,oz⟩
   obtain⟨x,hx⟩: ∃x,s[k2]? =some x:=⟨_,am9 (aI HN.out)⟩;have ix:=bB s k2 x hx;have nj:decide ((k2:Int)<(n:Int))=true:=ah;have LX:=hid (fun w=>X6 x w);have DX:=hid (fun w=>rU x w);have hQ:=fun(h:k2<q)=>(HQ.out k2 fQ h).elim fun y hy=>(Option.some.inj (hx.symm.trans hy.1))▸hy.2
   have hN:=fun(h:k2=q)=>IF.out x (h▸hx)
   have hB:=af6 (x:=x) rfl;obtain⟨b1,e1⟩: ∃b,cg x=b:=⟨_,rfl⟩;obtain⟨b2,e2⟩: ∃b,aD x=b:=⟨_,rfl⟩;obtain⟨b3,z3⟩: ∃b,((x.toNat:Int)==95)=b:=⟨_,rfl⟩;rw[e1]at LX;rw[e2]at DX;rw[e1,e2,z3]at hB;clear hx
   by_cases bU:k2<q
   ·have hQ:=hQ bU
    first
     |(rw[<-hB]at hQ
       have hw:b1=true\/(b1=false/\b2=true)\/(b1=false/\b2=false/\b3=true):=by revert hQ;cases b1<;>cases b2<;>cases b3<;>decide
       clear hN hB hQ e1 e2;rcases hw with rfl|⟨rfl,rfl⟩|⟨rfl,rfl,rfl⟩)
     |(obtain rfl:true=b2:=hQ.symm.trans e2
       clear hN hB hQ e1 e2)
    all_goals
     go_wp2_with (first|(go_at_call 204;refine av (LX.out _) ?_)|(go_at_call 200;refine av (DX.out _) ?_))
     go_round
     case rel=>exact⟨k2+1,by omega,by omega,by go_num⟩
     case measure=>simp[intOf];omega
   obtain rfl:k2=q:=by omega
   have hN:=hN rfl
   first
    |(rw[<-hB]at hN
      have hw:b1=false/\b2=false/\b3=false:=by revert hN;cases b1<;>cases b2<;>cases b3<;>decide
      clear hQ hB hN e1 e2;obtain⟨rfl,rfl,rfl⟩:=hw)
    |(obtain rfl:false=b2:=hN.symm.trans e2
      clear hQ hB hN e1 e2)
   go_wp2_with (first|(go_at_call 204;refine av (LX.out _) ?_)|(go_at_call 200;refine av (DX.out _) ?_))
   exact bodyPost_ret (by simp[results,results119,go_sem]<;>rfl) rfl ⟨congrArg api HZ.out,oz⟩
def fC(af:Int)(l:List Tok):Option (aL × List Tok):=
 if aY (au l)=2 then
  (if au l.tail=[58]then(match aU (au l),dh af (au l.tail.tail)with
   |some n,some r=>if 0<=n/\n<16 then some (⟨n,r,[],[],0⟩,l.tail.tail.tail)else none
   |_,_=>none)else none)
 else if au l=[91]then(if aC (au l.tail)=true/\au l.tail.tail=[93]then some (⟨-1,0,au l.tail,[],0⟩,l.tail.tail.tail)else none)
 else if aC (au l)=true then some (⟨-1,0,au l,[],0⟩,l.tail)else none
def nH(af:Int)(l:List Tok):Option aL:=match fC af l with
 |none=>none
 |some (x,r)=>if au r=[61]then(match eG (au r.tail)with
  |some (lc,n)=>if r.tail.tail=[]then some ⟨x.thread,x.az,x.loc,lc,n⟩else none
  |none=>none)else none
theorem al3:eG []=none:=dx
theorem ajZ(af:Int):dh af []=none:=by
 cases h:dh af []with
 |none=>rfl
 |some n=>have:=Md h;cases this
theorem WG(h:aY a≠2):aU a=none:=by
 cases hn:aU a with
 |none=>rfl
 |some v=>exact absurd (Cg hn) h
theorem Wl(h:aY a=2):aC a=false:=by
 cases hn:aC a with
 |false=>rfl
 |true=>have:=yu hn;rw[h]at this;cases this
theorem af5:aC [91]=false:=dx
def lP(l:List Tok):List Tx:=l.map (·.1)
def sN(x:aL)(r:List Tok):Option aL:=if au r=[61]then(match eG (au r.tail)with
 |some (lc,n)=>if r.tail.tail=[]then some ⟨x.thread,x.az,x.loc,lc,n⟩else none
 |none=>none)else none
section
variable {af:Int} {a:Tx} {p:Nat} {l:List Tok} {x:aL}
theorem aea:nH af l=match fC af l with
 |none=>none
 |some (x,r)=>sN x r:=rfl
theorem akX(k:aY a=2):fC af ((a,p)::l)=if au l=[58]then(match aU a,dh af (au l.tail)with
 |some n,some r=>if 0<=n/\n<16 then some (⟨n,r,[],[],0⟩,l.tail.tail)else none
 |_,_=>none)else none:=by
 unfold fC;rw[if_pos (show aY (au ((a,p)::l))=2 from k)];rfl
theorem akY:fC af (([91],p)::l)=if aC (au l)=true/\au l.tail=[93]then some (⟨-1,0,au l,[],0⟩,l.tail.tail)else none:=by
 unfold fC;rw[if_neg (show ¬aY (au (([91],p)::l))=2 from(by decide: ¬aY [91]=2)),if_pos (show au (([91],p)::l)=[91]from rfl)];rfl
theorem akW(k:aY a≠2)(h:a≠[91]):fC af ((a,p)::l)=if aC a=true then some (⟨-1,0,a,[],0⟩,l)else none:=by
 unfold fC;rw[if_neg (show ¬aY (au ((a,p)::l))=2 from k),if_neg (show ¬au ((a,p)::l)=[91]from h)];rfl
theorem Jj:sN x []=none:=by unfold sN;rw[if_neg (show ¬au []=[61]from by decide)]
theorem Jk(t:Tok):sN x [t]=none:=by
 unfold sN;split
 ·rw[show au [t].tail=[]from rfl,al3]
 rfl
theorem Jl(e v:Tok):sN x [e,v]=if e.1=[61]then nG (some x) (eG v.1)else none:=by
 unfold sN;rw[show au [e,v]=e.1 from rfl,show au [e,v].tail=v.1 from rfl];split
 ·cases eG v.1 with
  |none=>rfl
  |some q=>rfl
 rfl
theorem AH(e v f:Tok)(r:List Tok):sN x (e::v::f::r)=none:=by
 unfold sN;split
 ·split
  ·exact if_neg (by simp)
  rfl
 rfl
end
theorem LW(af:Int)(a b c d:Tx):iK af [a,b,c,d]=none:=rfl
theorem LY(af:Int)(a b c d e f:Tx)(r:List Tx):iK af (a::b::c::d::e::f::r)=none:=rfl
theorem aeb(af:Int)(l:List Tok):nH af l=iK af (lP l):=by
 rw[aea]
 match l with
 | []=>
   rfl
 | (a,p)::l=>
   by_cases k:aY a=2
   ·have hn:=Wl k
    have gB:a≠[91]:=by rintro rfl;exact absurd k (by decide)
    have t1:lO af [a]=none:=by show(if aC a=true then some (⟨-1,0,a,[],0⟩:aL)else none)=none;rw[hn];rfl
    rw[akX k]
    match l with
    |[]=>rw[if_neg (show ¬au []=[58]from by decide)];rfl
    | [b]=>
      rw[show au [b].tail=[]from rfl,ajZ];split
      ·rename_i h;split at h
       ·cases aU a<;>rfl
       rfl
      rename_i h;split at h
      ·revert h;cases aU a<;>(intro h;cases h)
      cases h
    | [b,c]=>
      show _=iK af [a,b.1,c.1];rw[wu,t1,mL];simp only[ite_self];split
      ·rfl
      rename_i x r h
      split at h
      ·split at h
       ·split at h
        ·cases h;exact Jj
        cases h
       cases h
      cases h
    | [b,c,d]=>
      show _=iK af [a,b.1,c.1,d.1];rw[LW];split
      ·rfl
      rename_i x r h
      split at h
      ·split at h
       ·split at h
        ·cases h;exact Jk d
        cases h
       cases h
      cases h
    | [b,c,e,v]=>
      show _=iK af [a,b.1,c.1,e.1,v.1];rw[tn,Dr,if_neg (show ¬(a=[91]/\c.1=[93]/\aC b.1=true)from fun h=>gB h.1)];rw[show au [b,c,e,v]=b.1 from rfl,show au [b,c,e,v].tail=c.1 from rfl]
      by_cases hb:b.1=[58]
      ·rw[if_pos hb,if_pos hb]
       cases aU a with
       |none=>simp only[mL,ite_self]
       | some n=>
         cases dh af c.1 with
         |none=>simp only[mL,ite_self]
         | some r=>
           simp only
           by_cases hr:0<=n/\n<16
           ·rw[if_pos hr,if_pos hr];exact Jl e v
           rw[if_neg hr,if_neg hr];simp only[mL,ite_self]
      rw[if_neg hb,if_neg hb];simp only[mL,ite_self]
    | b::c::e::v::f::r=>
      show _=iK af (a::b.1::c.1::e.1::v.1::f.1::lP r);rw[LY];split
      ·rfl
      rename_i x r h
      split at h
      ·split at h
       ·split at h
        ·cases h;exact AH e v f _
        cases h
       cases h
      cases h
   have rJ:=WG k
   by_cases gB:a=[91]
   ·subst gB
    have t1:lO af [[91]]=none:=by show(if aC [91]=true then some (⟨-1,0,[91],[],0⟩:aL)else none)=none;rw[af5];rfl
    rw[akY]
    match l with
    |[]=>rfl
    | [b]=>
      rw[if_neg (fun h=>absurd h.2 (show ¬au [b].tail=[93]from by show ¬([]:Tx)=[93];decide))];rfl
    | [b,c]=>
      show _=iK af [[91],b.1,c.1];rw[wu,t1,mL];simp only[ite_self];split
      ·rfl
      rename_i x r h
      split at h
      ·cases h;exact Jj
      cases h
    | [b,c,d]=>
      show _=iK af [[91],b.1,c.1,d.1];rw[LW];split
      ·rfl
      rename_i x r h
      split at h
      ·cases h;exact Jk d
      cases h
    | [b,c,e,v]=>
      show _=iK af [[91],b.1,c.1,e.1,v.1];rw[tn,Dr,WA];rw[show au [b,c,e,v]=b.1 from rfl,show au [b,c,e,v].tail=c.1 from rfl]
      by_cases hb:aC b.1=true/\c.1=[93]
      ·rw[if_pos hb,if_pos (show([91]:Tx)=[91]/\c.1=[93]/\aC b.1=true from⟨rfl,hb.2,hb.1⟩)];exact Jl e v
      rw[if_neg hb,if_neg (show ¬(([91]:Tx)=[91]/\c.1=[93]/\aC b.1=true)from fun h=>hb ⟨h.2.2,h.2.1⟩)];simp only[mL,ite_self]
    | b::c::e::v::f::r=>
      show _=iK af ([91]::b.1::c.1::e.1::v.1::f.1::lP r);rw[LY];split
      ·rfl
      rename_i x r h
      split at h
      ·cases h;exact AH e v f _
      cases h
   rw[akW k gB]
   match l with
   | []=>
     split
     ·rfl
     rename_i x r h
     split at h
     ·cases h;exact Jj
     cases h
   | [b]=>
     split
     ·rfl
     rename_i x r h
     split at h
     ·cases h;exact Jk b
     cases h
   | [b,c]=>
     show _=iK af [a,b.1,c.1];rw[wu];show _=if b.1=[61]then nG (if aC a=true then some ⟨-1,0,a,[],0⟩else none) (eG c.1)else none
     by_cases hb:aC a=true
     ·rw[if_pos hb,if_pos hb];exact Jl b c
     rw[if_neg hb,if_neg hb];simp only[mL,ite_self]
   | [b,c,d]=>
     show _=iK af [a,b.1,c.1,d.1];rw[LW];split
     ·rfl
     rename_i x r h
     split at h
     ·cases h;exact AH b c d []
     cases h
   | [b,c,e,v]=>
     show _=iK af [a,b.1,c.1,e.1,v.1];rw[tn,Dr,if_neg (show ¬(a=[91]/\c.1=[93]/\aC b.1=true)from fun h=>gB h.1),rJ];simp only[ite_self,mL];split
     ·rfl
     rename_i x r h
     split at h
     ·cases h;exact AH b c e [v]
     cases h
   | b::c::e::v::f::r=>
     show _=iK af (a::b.1::c.1::e.1::v.1::f.1::lP r);rw[LY];split
     ·rfl
     rename_i x r h
     split at h
     ·cases h;exact AH b c e _
     cases h
end Go.Proofs.YtkbbgjloifmmbaaGreatDoor
