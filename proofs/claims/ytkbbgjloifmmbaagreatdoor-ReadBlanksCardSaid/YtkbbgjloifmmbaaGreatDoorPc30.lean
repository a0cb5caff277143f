/- What ReadBlanksP leans on, part 30. -/
import Derived.Test.YtkbbgjloifmmbaaGreatDoorPc28
import Derived.Test.YtkbbgjloifmmbaaGreatDoorPc26
import Derived.Test.YtkbbgjloifmmbaaGreatDoorPc24
set_option linter.unusedVariables false
set_option maxRecDepth 100000
set_option maxHeartbeats 12800000
open _root_.Go.Proofs.Tryz
open _root_.List renaming length_cons->ans,length_append->aoW,drop_drop->apD,takeWhile_append_dropWhile->aoj,length_drop->aoN,getElem?_eq_getElem->am9,length_eq_zero_iff->aqe,length->anO,dropWhile_suffix->apr,mem_of_getElem?->anw,mem_cons->anE,getElem?_drop->ao5
open _root_.Nat renaming le_trans->ap1,le_refl->anb
open _root_.Go.RowKit.Below renaming refl->anM
namespace Go.Proofs.YtkbbgjloifmmbaaGreatDoor
open Go.RowKit Go.Sort
variable{L:List Tx}{J i:Nat}{Y p r s x:Tx}{d:UInt8}
def Ja(p:EP (List aL × Tx))(w1 w:World)(s:Tx)(t:aG)(e:Ending)(w':World):Prop:=
 (∃x,p= .error x/\va x w1 w' s e)\/
 ∃l r1 k' a c,p= .ok (l,r1)/\s.drop k'=r1/\e= .returned (.bool true)/\St w w' w1.heap.size/\bW w1 w' s k' 0 0 { t with ia:=a,ic:=c,init:=l }/\nY w' w.heap.size a l.length c l
theorem aef{af:Int}(hl:p.length<=262144):fR af (ax p)=fR af p:=by
 have kC:(ax p).length<=262144:=ap1 (apr _).length_le hl;rw[Ce kC,Ce hl,Mo]
theorem agX(Y p:Tx)(L:List Tx): ∃d r,lN (125::Y) (p::L)=p++d::r/\(L=[]->d=125/\r=Y)/\(L≠[]->d=59/\r=lN (125::Y) L):=by
 cases L with
 |nil=>exact⟨125,Y,rfl,fun _=>⟨rfl,rfl⟩,fun h=>absurd rfl h⟩
 |cons x L=>exact⟨59,_,rfl,fun h=>(by cases h),fun _=>⟨rfl,rfl⟩⟩
theorem M5(W:Tx): ∀L:List Tx,L≠[]->W.length<=(lN W L).length
 |[],h=>absurd rfl h
 |[p],_=>by rw[lN,aoW];omega
 | p::q::L,_=>by
   have:=M5 W (q::L) (by simp);show W.length<=(p++59::lN W (q::L)).length;rw[aoW,ans];omega
theorem Zl(c:UInt8): ∀(s:Tx),∀m∈aH c s,c∉m
 |[],m,h=>by rcases List.mem_singleton.1 h with rfl;simp
 | d::s,m,h=>by
   have ih:=Zl c s;cases hd:d==c with
   | true=>
     rw[aH,if_pos hd]at h;rcases anE.1 h with rfl|h
     ·simp
     exact ih m h
   | false=>
     rw[aH,if_neg (by rw[hd];decide)]at h;cases e:aH c s with
     |nil=>exact absurd e (mW c s)
     | cons x t=>
       rw[e]at h;have hdc:c≠d:=fun e=>by rw[e]at hd;simp at hd
       rcases anE.1 h with rfl|h
       ·exact List.not_mem_cons_of_ne_of_not_mem hdc (ih x (by rw[e];simp))
       exact ih m (by rw[e];simp[h])
theorem agV(hd:s.drop i=x)(hx:x=p++d::r)(hJ:s.drop J=125::Y)(hi:i<=s.length)(h1:L=[]->d=125/\r=Y)(h2:L≠[]->d=59/\r=lN (125::Y) L)(hp:(59:UInt8)∉p):
 i+p.length<=J/\(∀q,i<=q->q<i+p.length-> ∃y,s[q]? =some y/\y≠59)/\(i+p.length<J->s[i+p.length]? =some 59)/\s.drop (i+p.length+1)=r/\i+p.length+1+r.length=s.length/\aW s i (i+p.length)=p:=by
 have hxl:x.length=p.length+1+r.length:=by rw[hx];simp;omega
 have l5:s.length=i+x.length:=by rw[<-hd,aoN];omega
 have hJl:s.length=J+(Y.length+1):=by have:=congrArg anO hJ;rw[aoN,ans]at this;omega
 have hat:s[i+p.length]? =some d:=by
  have:=congrArg (·[p.length]?) hd;simp only[ao5]at this;rw[this,hx];simp
 refine⟨?_,fun q q1 q2=>?_,fun h=>?_,?_,by omega,?_⟩
 ·by_cases hL:L=[]
  ·have:=(h1 hL).2;subst this;omega
  have:=(h2 hL).2
  have h3:=M5 (125::Y) L hL;rw[<-this,ans]at h3;omega
 ·have h3:q-i<p.length:=by omega
  refine⟨p[q-i],?_,fun e=>hp (e▸List.getElem_mem h3)⟩;have:=congrArg (·[q-i]?) hd;simp only[ao5]at this;rw[show i+(q-i)=q by omega]at this;rw[this,hx,List.getElem?_append_left h3,am9 h3]
 ·by_cases hL:L=[]
  ·have:=(h1 hL).2;subst this;omega
  rw[hat,(h2 hL).1]
 ·rw[show i+p.length+1=i+(p.length+1) by omega,<-apD,hd,hx,<-apD];simp
 rw[Zd hd (by omega),hx,show i+p.length-i=p.length by omega];simp
theorem agU(hd:s.drop i=x)(hx:x=p++d::r)(hJ:s.drop J=125::Y)(hi:i<=s.length)(h1:L=[]->d=125/\r=Y)(h2:L≠[]->d=59/\r=lN (125::Y) L):(L=[]->i+p.length=J)/\(L≠[]->i+p.length<J):=by
 have hxl:x.length=p.length+1+r.length:=by rw[hx];simp;omega
 have l5:s.length=i+x.length:=by rw[<-hd,aoN];omega
 have hJl:s.length=J+(Y.length+1):=by have:=congrArg anO hJ;rw[aoN,ans]at this;omega
 refine⟨fun hL=>?_,fun hL=>?_⟩
 ·have:=(h1 hL).2;subst this;omega
 have:=(h2 hL).2
 have h3:=M5 (125::Y) L hL;rw[<-this,ans]at h3;omega
theorem N0:(ax p).length=0<->ak p=[]:=by
 rw[aqe]
 constructor
 ·intro h;exact(wT p).2 (ru h)
 intro h
 have h2:=(wT p).1 h
 have key: ∀l:Tx,(∀c∈l,aq c=true)->l.dropWhile aq=[]:=by
  intro l
  induction l with
  |nil=>intro _;rfl
  |cons c r ih=>intro h;rw[List.dropWhile_cons_of_pos (h c (by simp))];exact ih fun d hd=>h d (by simp[hd])
 exact key p h2
theorem jr.two(o:Option aL): ∃(th rg:Int) (lc vl:Tx) (vn er:Int),(∀w e w',jr o w e w'->Below w.heap.size w w'/\e= .returned (.tuple #[lQ ⟨th,rg,lc,vl,vn⟩,.int .i64 er]))/\((er=140/\o=none)\/(er=0/\o=some ⟨th,rg,lc,vl,vn⟩)):=by
 cases o with
 |none=>exact⟨0,0,[],[],0,140,fun _ _ _ h=>h,.inl ⟨rfl,rfl⟩⟩
 |some z=>obtain⟨th,rg,lc,vl,vn⟩:=z;exact⟨th,rg,lc,vl,vn,0,fun _ _ _ h=>h,.inr ⟨rfl,rfl⟩⟩
theorem aiC{w1 w:World}{k:Nat}{t:aG}(R:bW w1 w s k 0 0 t)(ha:bF t.af=true)(h0:t.ia=none/\t.ic=0/\t.init=[]):Calls prog 34 #[.pointer (some ⟨w1.heap.size,0,none⟩)] w (Ja (eM t.af s.length (s.drop k)) w1 w s t):=by
 have hl:=R.sl;have LN:=hid (Da R);have WR:=hid (fun(wx:World) (t:aG) (R:bW w1 wx s k 0 0 t) n a=>yQ R n a);have HR:=hid R;have hds:=Bh s k;obtain⟨u,hu⟩:=aj (ax (s.drop k));have P1:=hid (fun h=>U8 (af:=t.af) (N:=s.length) (r:=s.drop k) h);have P2:=hid (fun v h h2=>U6 (af:=t.af) (N:=s.length) (r:=s.drop k) (v:=v) h h2);rw[hu]at P1 P2 hds;generalize eM t.af s.length (s.drop k)=hp at*;have IJ:=hid (noInit h0)
 go_in
 go_wp2_with fail;refine LN.out.mono ?_;rintro e w2 ⟨hv,E2⟩;unfold uc at hv;rw[hu]at hv;have R2:=hid (HR.out.below E2);have hw2:=E2.size;have oQ:=hid (aX (bw:=w1.heap.size) E2);rcases hv with⟨mg,rfl⟩|⟨nx,mg,-, -, rfl⟩
 ·have P1:=hid (P1.out (.inl (by rw[mg];simp)))
  rw[mg,yK]at P1;clear hu mg hds hl E2;go_wp2_with fail;refine(WR.out _ _ R2.out _ _).mono ?_;rintro e w9 ⟨rfl,RB⟩;go_wp2_with fail;go_ret;exact .inl ⟨_,P1.out,rfl,_,_,RB⟩
 obtain⟨p0,di⟩:=aj (bJ s.length u)
 rw[di]at hds
 obtain⟨c,v,rfl⟩: ∃c v,u=c::v:=by
  cases u with
  |nil=>exact absurd rfl mg
  |cons c v=>exact⟨c,v,rfl⟩
 have P1:=hid (fun h=>(P1.out h).trans (by rw[di]));rw[di];generalize (aK (c::v)).length=ll at*;have hN:p0+(v.length+1)=s.length:=by have:=congrArg anO hds;rw[aoN,ans]at this;omega
 have i0:=bB s p0 c (by have:=congrArg (·[0]?) hds;simpa using this);have c0:=R2.out.bx.get 0 _ rfl;have vZ:=R2.out.lt
 by_cases hc:c=123
 ·subst hc
  have z0:(((123:UInt8).toNat:Int) != 123)=false:=rfl;obtain⟨n,hn⟩:=aj ((tx s).size);have fk:n=s.length:=by rw[<-hn,aM]
  obtain⟨J,j1,j2,j3,j4,j5⟩:=pK (· != 125) s _ p0 (anb _) (by omega);rw[hds,List.takeWhile_cons_of_pos (by decide),ans]at j5
  have HS:=hid (show ∀q,p0<=q->q<J-> ∃y,s[q]? =some y/\y≠125 from fun q q1 q2=>by
   obtain⟨y,hy,hb⟩:=j3 q q1 q2;exact⟨y,hy,by simpa using hb⟩)
  have hnb:n<=262144:=by omega
  have amu:J<=n:=by omega
  have HN:=hid fk;have Pu:=hid j4;have zX:=hid hds;have Iw:=hid j5;have Ah:=hid hN;have qR:=hid hl;clear hu mg hds hl E2 j2 j3 j4 j5 hN fk h0 di;go_wp2_with fail
  go_loopw [7] (fun x wi=> ∃q:Nat,p0<=q/\q<=J/\x= .int .i64 q/\wi=w2) (fun x _=>J-(intOf x).toNat)
  ·exact⟨p0,anb _,j1,rfl,gf⟩
  obtain⟨q,q1,q2,rfl,rfl⟩:=hrel
  by_cases hlt:q<J
  ·obtain⟨y,hy,eL⟩:=HS.out q q1 hlt
   have iy:=bB s q y hy;have zq:decide ((q:Int)<(n:Int))=true:=ah;have zy:((y.toNat:Int) != 125)=true:=mZ y 125 eL;clear hy eL;go_wp2_with fail
   go_roundw;exact⟨q+1,by omega,by omega,by go_num,gf⟩;simp[intOf];omega
  obtain rfl:q=J:=by omega
  by_cases rK:q<n
  ·obtain⟨A,hA⟩:=aj (v.takeWhile (· != 125))
   have Kk:q=p0+1+A.length:=by have:=Iw.out;rw[hA]at this;omega
   obtain⟨Y,hY⟩: ∃Y,v.dropWhile (· != 125)=125::Y:=by
    cases hd:v.dropWhile (· != 125)with
    | nil=>
      have h2:=aoj (p:=(· != 125)) (l:=v);rw[hA,hd,List.append_nil]at h2;have:=Ah.out;have:=HN.out;rw[h2]at Kk;omega
    | cons d Y=>
      have:=je (l:=v) (p:=(· != 125)) (c:=d) (by rw[hd];rfl);have:d=125:=by simpa using this
      subst this;exact⟨Y,rfl⟩
   have hv:v=A++125::Y:=by rw[<-hA,<-hY];exact(aoj ..).symm
   have IG:=hid (show s.drop q=125::Y by rw[Kk,show p0+1+A.length=p0+(A.length+1) by omega,<-apD,zX.out,List.drop_succ_cons,hv,List.drop_left]);have HDQ:=hid (show s.drop (q+1)=Y by rw[<-apD,IG.out];rfl);have HVD:=hid (show s.drop (p0+1)=v by rw[<-apD,zX.out];rfl);have P2:=hid (P2.out v rfl (by rw[hv];simp));rw[hA,hY,List.drop_one,List.tail_cons]at P2;have hJ:=M6 (125::Y) A;rw[<-hv]at hJ;have HJ:=hid hJ;have hne:=mW 59 A;have ID:=hid (fun p hp=>wQ 59 A p hp);have aaj:=hid (fun p hp=>Zl 59 A p hp);have hLn:=qG 59 A;have Ts:A.length<=262144:=by have:=Ah.out;rw[hv,aoW]at this;have:=qR.out;omega
   clear hJ;generalize aH 59 A=L at*;obtain⟨n2,hn2⟩:=aj L.length;have hn0:n2≠0:=fun h=>hne (aqe.1 (hn2.trans h))
   have adI:n2<=262145:=by omega
   have eT:=hid hn2;obtain⟨pp,eC⟩:=aj (gF t.af s.length L v []);rw[eC]at P2;have iA:=hid eC;obtain⟨y,hy⟩: ∃y,s[q]? =some y:=⟨_,am9 (aI HN.out)⟩;obtain rfl:y=125:=by simpa using Pu.out y hy
   have iy:=bB s q 125 hy;have zq:decide ((q:Int)<(n:Int))=true:=ah;have zy:(((125:UInt8).toNat:Int) != 125)=false:=rfl;have zqn:((q:Int)==(n:Int))=false:=ah;have hpq:p0+1<=q:=by omega
   have R0:=hid (show bW w1 _ s k 0 0 { t with ia:=none,ic:=0,init:=[] }from by rw[IJ.out];exact R2.out);clear hA hY hv hne hLn hn2 eC hy zX Pu Iw P1 LN Kk HS hlt;go_wp2_with fail
   go_loopw [8] (fun x wi=> ∃(m i:Nat) (r:Tx) (acc:List aL) (ia:Option Addr) (ic:Nat),x= .int .i64 i/\m<=n2/\i<=n/\acc.length<=m/\((m<n2/\i<=q)\/(m=n2/\i=q+1))/\Hid (s.drop i=r)/\Hid (m<n2->r=lN (125::Y) (L.drop m))/\Hid (pp=gF t.af s.length (L.drop m) r acc)/\Hid (bW w1 wi s k 0 0 { t with ia:=ia,ic:=ic,init:=acc })/\Hid (nY wi w.heap.size ia acc.length ic acc)/\Hid (St w wi w1.heap.size)/\w.heap.size<=wi.heap.size) (fun x _=>q+2-(intOf x).toNat)
   ·exact⟨0,p0+1,v,[],none,0,by go_num,Nat.zero_le _,by omega,anb _,.inl ⟨by omega,hpq⟩,HVD,hid fun _=>by rw[List.drop_zero];exact HJ.out.symm,hid (by rw[List.drop_zero];exact iA.out.symm),R0,hid (Own.nil _ _ _ _),oQ,hw2⟩
   obtain⟨m,i,x,acc,ia,ic,rfl,hmn,hin,adm,vP,ua,HX,HP,RR,OO,SS,hB⟩:=hrel;have c0:=RR.out.bx.get 0 _ rfl;have hrr:=RR.out.lt;rcases vP with⟨hlt,KX⟩|⟨hme,hie⟩
   ·obtain⟨p,jL⟩: ∃p,L[m]? =some p:=⟨_,am9 (by rw[eT.out];exact hlt)⟩
    have hdr:L.drop m=p::L.drop (m+1):=by
     obtain⟨h1,h2⟩:=List.getElem?_eq_some_iff.1 jL;rw[List.drop_eq_getElem_cons h1,h2]
    obtain⟨d,r,ex,e1,e2⟩:=agX Y p (L.drop (m+1));have hx:=HX.out hlt;rw[hdr,ex]at hx;have KW:i<=s.length:=by rw[<-HN.out];exact hin
    obtain⟨K1,K2,K3,K4,K5,K6⟩:=agV ua.out hx IG.out KW e1 e2 (aaj.out p (anw jL));obtain⟨E1,E2⟩:=agU ua.out hx IG.out KW e1 e2;have dK:L.drop (m+1)=[]<->m+1=n2:=by rw[List.drop_eq_nil_iff,eT.out];omega
    have hpl:p.length<=262144:=by have:=ID.out p (anw jL);omega
    obtain⟨K,hK⟩:=aj (i+p.length);rw[hK]at K1 K2 K3 K4 K5 K6 E1 E2
    have Pm:=hid (show(m+1<n2/\K+1<=q)\/(m+1=n2/\K+1=q+1)from by
     by_cases h:L.drop (m+1)=[]
     ·exact .inr ⟨dK.1 h,by rw[E1 h]⟩
     exact .inl ⟨by have:=mt dK.2 h;omega,E2 h⟩)
    have iB:=hid (show m+1<n2->r=lN (125::Y) (L.drop (m+1))from fun h=>(e2 (fun e=>by have:=dK.1 e;omega)).2);have qP:=hid K4;have P8:=hid (show x.drop (p.length+1)=r by rw[hx,<-apD];simp);have SG:=hid (fun w=>Db s i K (by omega) (aI HN.out) qR.out w);rw[K6]at SG;obtain⟨fl,hfl⟩:=aj ((ax p).length);rw[hfl]at SG;have amH:fl<=p.length:=by rw[<-hfl];exact mV p
    obtain⟨a9,T9⟩:=aj (K-fl);rw[T9]at SG;have DY:=hid (show a9+fl=K by omega)
    have sl: ∀w,(Instr.sliceAt 9 (.string (tx s)) (some (.int .i64 a9)) (some (.int .i64 K)) none).run prog w= .ok (.string (tx (ax p))) w:=by
     have h1:=jD s a9 K (by omega) (aI HN.out)
     have h2:(s.take K).drop a9=ax p:=by
      have h3:(s.take K).drop i=p:=K6;rw[show a9=i+(p.length-fl) by omega,<-apD,h3,<-hfl];exact(List.suffix_iff_eq_drop.1 (apr _)).symm
     rw[h2]at h1;exact h1
    have aao:=hid (show fl≠0->fR t.af p=none->hp= .error (140,a9)from fun h1 h2=>by
     have h3:ak p≠[]:=fun h=>h1 (hfl.symm.trans (N0.2 h))
     have h4:pp= .error (140,a9):=by
      rw[HP.out,hdr,Xs h3 h2,hx,NW h3]
      congr 2
      unfold bJ;rw[aoW,ans,hfl];omega
     rw[P2.out,h4])
    have aaq:=hid (show fl=0->pp=gF t.af s.length (L.drop (m+1)) r acc from fun h1=>by rw[HP.out,hdr,Xu (N0.1 (hfl.trans h1)),P8.out])
    have aap:=hid (show ∀z,fl≠0->fR t.af p=some z->pp=gF t.af s.length (L.drop (m+1)) r (acc++[z])from fun z h1 h2=>by
     have h3:ak p≠[]:=fun h=>h1 (hfl.symm.trans (N0.2 h))
     rw[HP.out,hdr,Xt h3 h2,P8.out])
    have RI:=hid (fun w=>aiz t.af ha (ax p) w);rw[aef hpl]at RI;obtain⟨th,rg,lc,vl,vn,er,Bz,BQ⟩:=jr.two (fR t.af p);have RI:=hid (fun w=>(RI.out w).mono fun e w' h=>Bz w e w' h);have IA:=hid BQ;have cE:=hid K2;have vk:=hid K3;have zi:decide ((i:Int)<=(q:Int))=true:=ah;have FT:i<=K:=by omega
    have hKs:K+1<=n:=by have:=HN.out;omega
    clear jL hdr ex e1 e2 hx KW K2 K3 K4 K5 K6 E1 E2 dK hK hfl T9 Bz BQ ua HX;go_wp2_with fail
    go_loopw [9] (fun y wx=> ∃j:Nat,i<=j/\j<=K/\y= .int .i64 j/\wx=wr) (fun y _=>K-(intOf y).toNat)
    ·exact⟨i,anb _,FT,rfl,gf⟩
    obtain⟨j,j1,j2,rfl,rfl⟩:=hrel
    by_cases KY:j<K
    ·obtain⟨y,hy,eL⟩:=cE.out j j1 KY
     have iy:=bB s j y hy;have zj:decide ((j:Int)<(q:Int))=true:=ah;have zy:((y.toNat:Int) != 59)=true:=mZ y 59 eL;clear hy eL;go_wp2_with fail
     go_roundw;exact⟨j+1,by omega,by omega,by go_num,gf⟩;simp[intOf];omega
    obtain rfl:j=K:=by omega
    rcases Nat.lt_or_ge j q with rG|rG
    focus
     have iy:=bB s j 59 (vk.out rG);have zj:decide ((j:Int)<(q:Int))=true:=ah;have zy:(((59:UInt8).toNat:Int) != 59)=false:=rfl
    rotate_left
    focus
     have zj:decide ((j:Int)<(q:Int))=false:=ah
    all_goals
     rcases Nat.eq_zero_or_pos fl with hf|hf
     ·have z9:decide ((a9:Int)<(j:Int))=false:=by have:=DY.out;simp;omega
      have hge:j<=a9:=by have:=DY.out;omega
      have dm:=hid (aaq.out hf)
      go_wp2_with (go_at_call 86;refine av (SG.out _) ?_)
      go_roundw;exact⟨m+1,j+1,r,acc,ia,ic,by go_num,by omega,by omega,by omega,Pm.out,qP,iB,dm,RR,OO,SS,hB⟩;simp[intOf];omega
     have z9:decide ((a9:Int)<(j:Int))=true:=by have:=DY.out;simp;omega
     have hl9:a9<j:=by have:=DY.out;omega
     go_upto_region 16 with(go_at_call 86;refine av (SG.out _) ?_)
     have pZ:=hid (fun(w':World) (E:Below wr.heap.size wr w')=>And.intro ((RR.out.below E).bx.get 0 _ rfl) ((RR.out.below E).bx.get 4 _ rfl));have dV:=RR.out.lt;have B0:=anM wr.heap.size wr;clear c0
     go_cut [11,12] (fun a b wx=> ∃b9:Nat,a= .pointer (some ⟨b9,0,none⟩)/\b= .int .i64 er/\Below wr.heap.size wr wx/\wr.heap.size<=b9/\aA wx b9 [.int .i64 th,.int .i64 rg,.string (tx lc),.string (tx vl),.int .i64 vn])
     case first=>
      go_region_held3 (fun w'=>Below wr.heap.size wr w'/\w'.cell? ⟨w1.heap.size,0,none⟩=some (.string (tx s))/\w'.cell? ⟨w1.heap.size,4,none⟩=some (.int .i64 t.af))
       (exact⟨aF,pZ.out _ aF⟩)
       (first
        |(go_at_call 22
          refine(RI.out _).mono ?_;rintro e w9 ⟨E9,rfl⟩;have B9:=aB (jt (anM wr.heap.size wr)) E9;obtain⟨a1,a2⟩:=pZ.out _ B9)
        |(go_at_call 22
          refine(RI.out _).mono ?_;rintro e w9 ⟨E9,rfl⟩;have B9:=aB (jt (eZ (anM wr.heap.size wr) _)) E9;obtain⟨a1,a2⟩:=pZ.out _ B9;have XN:=((aA.new wr #[.int .i64 0,.int .i64 0,.string ⟨#[]⟩,.string ⟨#[]⟩,.int .i64 0] 56).below (below_drewN _ 1)).below E9;obtain⟨n0,n1,n2,n3,n4⟩:=XN.fc;have nf: ∀j,w9.frozen? ⟨wr.heap.size,j,none⟩=false:=fun j=>(E9.frozen (p:=⟨wr.heap.size,j,none⟩) (by simp)).trans (aV wr _ _ j)
          have f0:=nf 0;have f1:=nf 1;have f2:=nf 2;have f3:=nf 3;have f4:=nf 4))
      all_goals(go_wp2_with fail;go_meet)
      ·exact⟨w9.heap.size,rfl,rfl,(uJ B9.size),B9.size,aA.new _ _ _⟩
      exact⟨wr.heap.size,rfl,rfl,(uJ B9.size),anb _,((((XN.set 0 (.int .i64 th)).set 1 (.int .i64 rg)).set 2 (.string (tx lc))).set 3 (.string (tx vl))).set 4 (.int .i64 vn)⟩
     obtain⟨b9,rfl,rfl,B9,BC,XB⟩:=hcut;rcases IA.out with⟨rfl,hI⟩|⟨rfl,hI⟩
     ·have PE:=hid (aao.out (by omega) hI)
      have R9:=hid (RR.out.below B9);clear hI XB B9 B0;go_wp2_with fail;refine(WR.out _ _ R9.out _ _).mono ?_;rintro e Hs ⟨rfl,RB⟩;go_wp2_with fail;go_ret;exact .inl ⟨_,PE.out,rfl,_,_,RB⟩
     have dm:=hid (aap.out _ (by omega) hI)
     clear hI dV B0
     go_upto_region 19 with(fail)
     have RW:=RR.out.below B9;have OW:=Own.below OO.out B9;have SW:=hid (SS.out.trans (aX (bw:=w1.heap.size) B9));obtain⟨x0,x1,x2,x3,x4⟩:=XB.fc;have q7:=RW.bx.get 7 _ rfl;have hf7:=RW.dG 7;have Ll:=RW.lt;have hbW:=XB.1;have yo:w.heap.size<=wc.heap.size:=ap1 hB B9.size;have Kz:acc.length<=262145:=by omega
     have sC:=hid RW;have Ae:=hid OW;have hw1:=HR.out.lt;have amw:b9≠w1.heap.size:=by omega
     have rE: ∀b,ia.map (·.block)=some b->w1.heap.size<b:=fun b hb=>by
      cases ia with
      |none=>cases hb
      | some z=>
        have:=(Own.lt OW (by simp)).1;simp[bk]at hb this;omega
     have FU: ∀b,ia.map (·.block)=some b->b≠b9:=fun b hb=>by
      cases ia with
      |none=>cases hb
      | some z=>
        have h1:=(Own.lt OO.out (by simp)).2;simp[bk]at hb h1;omega
     have EH:=hid XB;have H7:=hid (jt (eZ (anM wc.heap.size wc) (.cells #[.int .i64 th,.int .i64 rg,.string (tx lc),.string (tx vl),.int .i64 vn] 56)));clear RW OW XB B9
     go_region_law
      ((refine Oi pF (.tmp 119) (.tmp 121) (by rfl) (by rfl) (B:=w.heap.size) (n:=acc.length) (c:=ic) (sa:=ia) (xs:=flat fN acc) (by rfl) (Own.below Ae.out H7.out) (xa:=some ⟨wc.heap.size,0,none⟩) (xc:=1) (m:=1) (ys:=fN ⟨th,rg,lc,vl,vn⟩) (by rfl) ((YU wc ⟨th,rg,lc,vl,vn⟩ _).below (below_drewN _ 1)) (by rfl) (Ri _) (ap1 yo H7.out.size) (by omega) cz ?_
        intro a' c' w' ho hg;have qm:=hid hg;have vW:=hid ho;have R7:=(sC.out.below H7.out).kept hg.step.grown rE;have XW:=aA.gr EH.out H7.out hg.step.grown FU;have q77:=R7.bx.get 7 _ rfl;have amF:=R7.dG 7;obtain⟨y0,y1,y2,y3,y4⟩:=XW.fc;have R7:=hid R7;clear ho hg XW))
     all_goals
      have R8:=R7.out.put 7 (.slice a' (acc.length+1) c') (k':=k) (fI:=0) (fH:=0) (t':={ t with ia:=a',ic:=c',init:=acc++[⟨th,rg,lc,vl,vn⟩] }) (by simp[wL,cT]) R7.out.le;have Et:=hid (Own.below Ae.out H7.out);have S7:=hid (St.app (SW.out.trans (aX (bw:=w1.heap.size) H7.out)) Et.out (anb _) qm.out);have S8:=hid (S7.out.trans R8.2);have hz:=qm.out.step.grown.size
      have O8:=hid (show nY _ w.heap.size a' (acc++[(⟨th,rg,lc,vl,vn⟩:aL)]).length c' (acc++[(⟨th,rg,lc,vl,vn⟩:aL)])from by
       have:=Own.kept vW.out R8.2.grown (by
        by_cases h:a'=none
        ·exact .inl h
        have:=(Own.lt vW.out h).1;right;simp;omega)
       rw[aoW,nY,j9,lG];exact this)
      have Ip:=ap1 yo (ap1 H7.out.size (ap1 hz R8.2.grown.size));replace R8:=hid R8.1;go_wp2_with fail
      go_roundw;exact⟨m+1,j+1,r,acc++[⟨th,rg,lc,vl,vn⟩],a',c',by go_num,by omega,by omega,by rw[aoW];simp;omega,Pm.out,qP,iB,dm,R8,O8,S8,Ip⟩;simp[intOf];omega
   have dm:=hid (show hp= .ok (acc,Y) by
    have h4:pp= .ok acc:=by rw[HP.out,List.drop_eq_nil_of_le (by rw[eT.out];omega)];rfl
    rw[P2.out,h4])
   have zi:decide ((i:Int)<=(q:Int))=false:=ah;have R5:=RR.out;have q1':=R5.bx.get 1 _ rfl;have uA:=R5.dG 1;have hw1:=HR.out.lt;have R6:=R5.put 1 (.int .i64 (q+1:Nat)) (k':=q+1) (fI:=0) (fH:=0) (t':={ t with ia:=ia,ic:=ic,init:=acc }) rfl (aI HN.out);have ST:=hid (SS.out.trans R6.2)
   have OK:=hid (Own.kept OO.out R6.2.grown (by
    by_cases h:ia=none
    ·exact .inl h
    have:=(Own.lt OO.out h).1;right;simp;omega))
   rw[show((q+1:Nat):Int)=(q:Int)+1 by omega]at R6 ST OK;replace R6:=hid R6.1;clear R5 HX ua HP;go_wp2_with fail;exact bodyPost_ret (by simp[results,results34,go_sem]) rfl (.inr ⟨acc,Y,q+1,ia,ic,dm.out,HDQ.out,rfl,ST.out,R6.out,OK.out⟩)
  have zq:decide ((q:Int)<(n:Int))=false:=ah
  have zqn:((q:Int)==(n:Int))=true:=ah
  have P1:=hid (P1.out (.inr (by
   rw[anE];rintro(f|f)
   ·revert f;decide
   have h1:(v.takeWhile (· != 125)).length=v.length:=by have:=Iw.out;have:=Ah.out;have:=HN.out;omega
   have h2:=aoj (p:=(· != 125)) (l:=v);have h3:=congrArg anO h2;rw[aoW,h1]at h3;have h4:v.dropWhile (· != 125)=[]:=aqe.1 (by omega);exact absurd (ru h4 125 f) (by simp))))
  go_wp2_with fail;refine(WR.out _ _ R2.out _ _).mono ?_;rintro e w9 ⟨rfl,RB⟩;go_wp2_with fail;go_ret;exact .inl ⟨_,P1.out,rfl,_,_,RB⟩
 have P1:=hid (P1.out (.inl (by simpa using hc)))
 have z0:((c.toNat:Int) != 123)=true:=mZ c 123 hc;clear hu mg hds hl E2 hN h0 di P2;go_wp2_with fail;refine(WR.out _ _ R2.out _ _).mono ?_;rintro e w9 ⟨rfl,RB⟩;go_wp2_with fail;go_ret;exact .inl ⟨_,P1.out,rfl,_,_,RB⟩
end Go.Proofs.YtkbbgjloifmmbaaGreatDoor
