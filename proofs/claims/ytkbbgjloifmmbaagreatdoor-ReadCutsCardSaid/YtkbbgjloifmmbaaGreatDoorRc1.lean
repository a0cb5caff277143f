/- What ReadCutsP leans on, part 1. -/
import Derived.Test.YtkbbgjloifmmbaaGreatDoorRb28
set_option linter.unusedVariables false
namespace Go.Proofs.YtkbbgjloifmmbaaGreatDoor
open _root_.List renaming cons_append->anr,mem_append->anu,mem_cons->amY,append_eq_append_iff->apn,length_cons->ans,nil_append->anJ,append_assoc->anF,all_eq_true->anq,append_nil->anz,takeWhile_prefix->apx,singleton_append->anl,dropWhile_suffix->aoI,map_cons->anT,all_takeWhile->aoa,length_append->aoE
open _root_.List.cons renaming inj->aoZ
open _root_.Nat renaming le_refl->amS,zero_le->apj
open _root_.Bool renaming and_eq_true->am6
theorem auf(i:Nat)(t:ak):(10:UInt8)∉lN i t/\ ∃c u,lN i t=c::u/\c=32:=by
 refine⟨?_,32,dV (ji i t)++[32,59],by rw[JR];simp,rfl⟩;rw[JR];intro m;simp only[anu]at m;rcases m with(m|m)|m
 ·simp at m
 ·exact Nb (Vk i t) (by decide) (by decide) (by decide) m
 ·simp at m
def aAr(s:Tx):Int:=if s=[40]then 1 else if s=[41]then -1 else 0
def dT:List Tok->Int
 |[]=>0
 |t::l=>aAr t.1+dT l
theorem arX(t:Tok)(l:List Tok):dT (t::l)=aAr t.1+dT l:=rfl
theorem arM{s:Tx}{l r:List Tok}(h:bt s l= .ok r):dT l=aAr s+dT r:=by
 obtain⟨t,rfl,e⟩:=Fu h;rw[arX,e]
theorem ax4{s:Tx}(h:az s=true):aAr s=0:=by
 obtain⟨c,r,rfl,hc⟩:=Bn h;unfold aAr;rw[if_neg (by intro e;have:=(aoZ e).1;subst this;revert hc;decide),if_neg (by intro e;have:=(aoZ e).1;subst this;revert hc;decide)]
theorem w_num(v:Int):aAr (Lib.itoa v)=0:=by
 have h:=si v
 have no: ∀d:UInt8,qs d=false->Lib.itoa v≠[d]:=fun d hd e=>by
  have:=h d (by rw[e];simp);rw[hd]at this;cases this
 unfold aAr;rw[if_neg (no 40 (by decide)),if_neg (no 41 (by decide))]
theorem ax5{af:Int}{s:Tx}{k:Nat}(h:dQ af s=some k):aAr s=0:=by
 obtain⟨a,rfl⟩:=Bz h;have h1: ∀n:Fin 15,aAr (aO n.val)=0:=by decide+kernel
 have h2: ∀n:Fin 32,aAr (bH n.val)=0:=by decide+kernel
 unfold cz cE at*;split
 ·rename_i e;rw[if_pos e]at a;exact h1 ⟨k,by omega⟩
 ·rename_i e;rw[if_neg e]at a;exact h2 ⟨k,by omega⟩
theorem auc{a b n:Int}{l r:List Tok}(h:jf a b l= .ok (n,r)):dT l=dT r:=by
 obtain⟨t,rfl,e, -⟩:=Rs h;rw[arX,(mC.1 e).1,w_num];omega
theorem auh{l r:List Tok}{s:Tx}(h:jg l= .ok (s,r)):dT l=dT r:=by
 obtain⟨t,rfl,e,hn⟩:=Sq h;rw[arX,e,ax4 hn];omega
theorem arR(l:List Tok){s:Tx}(h:aA l=s)(h0:s≠[]):dT l=aAr s+dT l.tail:=by
 cases l with
 |nil=>exact absurd h.symm h0
 |cons t l=>rw[arX];rw[show t.1=s from h];rfl
theorem axS{af:Int}{l r:List Tok}{t:Th}(h:gv af l= .ok (t,r)):dT l=dT r:=by
 unfold gv at h
 split at h
 ·rename_i h0
  split at h
  ·cases h
  ·rename_i x r1 e1
   split at h
   ·cases h
   ·rename_i r2 e2
    cases h;rw[arR l h0 (by decide),auh e1,arM e2];have a:aAr [91]=0:=rfl;have b:aAr [93]=0:=rfl;omega
 ·split at h
  ·split at h
   ·cases h
   ·rename_i n r1 e1
    split at h
    ·cases h
    ·rename_i r2 e2
     split at h
     ·cases h
     ·rename_i k hk
      cases h;rw[auc e1,arM e2];cases r2 with
      |nil=>rfl
      | cons u r2=>
        have hu:aAr u.1=0:=ax5 hk;rw[arX,hu];show aAr [58]+(0+dT r2)=dT r2;have:aAr [58]=0:=rfl;omega
  ·split at h
   ·cases h
   ·rename_i x r1 e1
    cases h;exact auh e1
def arN(one:List Tok->PR Nd):Prop:= ∀l x r,one l= .ok (x,r)->dT l=dT r
theorem avp(af:Int):arN (jN af):=by
 intro l x r h;unfold jN at h
 split at h
 ·cases h
 ·rename_i t r1 e1
  split at h
  ·cases h
  ·rename_i r2 e2
   split at h
   ·cases h
   ·rename_i v r3 e3
    cases h;rw[axS e1,arM e2,auc e3];show aAr [61]+_=_;have:aAr [61]=0:=rfl;omega
theorem auQ{k:Int}{sign:Tx}{one:List Tok->PR Nd}(h0:sign≠[])(hw:aAr sign=0)(H:arN one): ∀(n:Nat) (acc:List Nd) (l:List Tok) (x:Nd) (r:List Tok),gN k sign one n acc l= .ok (x,r)->dT l=dT r
 |0,acc,l,x,r,h=>by cases h;rfl
 | n+1,acc,l,x,r,h=>by
   unfold gN at h
   split at h
   ·rename_i hs
    split at h
    ·cases h
    ·rename_i y r1 e1
     rw[arR l hs h0,hw,H _ _ _ e1,auQ h0 hw H n _ _ _ _ h];omega
   ·cases h;rfl
theorem auT{k:Int}{sign:Tx}{one:List Tok->PR Nd}(h0:sign≠[])(hw:aAr sign=0)(H:arN one):arN (fR k sign one):=by
 intro l x r h;unfold fR at h
 split at h
 ·cases h
 ·rename_i y r1 e1
  rw[H _ _ _ e1,auQ h0 hw H _ _ _ _ _ h]
theorem auo{one:List Tok->PR Nd}(H:arN one):arN (gI one):=auT (by decide) rfl (auT (by decide) rfl H)
theorem atg(af:Int): ∀n:Nat,arN (bg af n)
 |0=>fun l x r h=>by cases h
 | n+1=>fun l x r h=>by
   unfold bg at h
   split at h
   ·rename_i h0
    split at h
    ·cases h
    ·rename_i y r1 e1
     cases h;rw[arR l h0 (by decide),atg af n _ _ _ e1];have:aAr [126]=0:=rfl;omega
   ·split at h
    ·rename_i h0
     split at h
     ·cases h
     ·rename_i y r1 e1
      split at h
      ·cases h
      ·rename_i r2 e2
       cases h;rw[arR l h0 (by decide),auo (atg af n) _ _ _ e1,arM e2];have a:aAr [40]=1:=rfl;have b:aAr [41]= -1:=rfl;omega
    ·split at h
     ·rename_i h0
      cases h;rw[arR l h0.1 (by decide)];have:aAr [116,114,117,101]=0:=rfl;omega
     ·exact avp af l x r h
def arG:List (List Tx):=[[[102,111,114,97,108,108]],[[126],[101,120,105,115,116,115]],[[101,120,105,115,116,115]]]
theorem atP{l:List Tok}{s:Tx}(h:aA l=s)(h0:s≠[]):l.map (·.1)=s::l.tail.map (·.1):=by
 cases l with
 |nil=>exact absurd h.symm h0
 |cons t l=>rw[anT];rw[show t.1=s from h];rfl
theorem atC{s:Tx}{l r:List Tok}(h:bt s l= .ok r):l.map (·.1)=s::r.map (·.1):=by
 obtain⟨t,rfl,e⟩:=Fu h;rw[anT,e]
theorem avx{l r:List Tok}{q:Int}(h:kf l= .ok (q,r)): ∃f∈arG,l.map (·.1)=f++r.map (·.1)/\dT l=dT r:=by
 unfold kf at h
 split at h
 ·rename_i h0
  cases h;exact⟨[[102,111,114,97,108,108]],by unfold arG;simp,atP h0 (by decide),by rw[arR l h0 (by decide)];have:aAr [102,111,114,97,108,108]=0:=rfl;omega⟩
 ·split at h
  ·rename_i h0
   split at h
   ·cases h
   ·rename_i r1 e1
    cases h;refine⟨[[126],[101,120,105,115,116,115]],by unfold arG;simp,by rw[atP h0 (by decide),atC e1];rfl,?_⟩;rw[arR l h0 (by decide),arM e1];have a:aAr [126]=0:=rfl;have b:aAr [101,120,105,115,116,115]=0:=rfl;omega
  ·split at h
   ·cases h
   ·rename_i r1 e1
    cases h;refine⟨[[101,120,105,115,116,115]],by unfold arG;simp,by rw[atC e1];rfl,?_⟩;rw[arM e1];have b:aAr [101,120,105,115,116,115]=0:=rfl;omega
theorem avA{af:Int}{l:List Tok}{p:Int × Nd}(h:ep af l= .ok p):dT l=0/\ ∃f∈arG,∃m,l.map (·.1)=f++[40]::m:=by
 unfold ep at h
 split at h
 ·cases h
 ·rename_i q l1 e1
  obtain⟨f,hf,e,d1⟩:=avx e1
  split at h
  ·cases h
  ·rename_i l2 e2
   have d2:=arM e2
   split at h
   ·cases h
   ·rename_i x l3 e3
    have d3:=auo (atg af _) _ _ _ e3
    split at h
    ·cases h
    ·rename_i l4 e4
     have d4:=arM e4
     split at h
     ·rename_i h0
      refine⟨?_,f,hf,l2.map (·.1),by rw[e,atC e2]⟩;rw[d1,d2,d3,d4,h0];rfl
     ·cases h
def az1(l:List Tx):Int:=dT (cq l)
theorem atU(s:Tx)(l:List Tx):az1 (s::l)=aAr s+az1 l:=rfl
theorem atV: ∀l:List Tok,dT l=az1 (l.map (·.1))
 |[]=>rfl
 |t::l=>by rw[arX,atV l,anT,atU]
theorem axT(c:UInt8)(r:Tx)(hb:aj c=false):aAr ((c::r).take (bS (c::r)))=dB ((c::r).take (bS (c::r))):=by
 by_cases h1:Ke c=true
 ·have e:bS (c::r)=1:=by
   unfold Ke at h1;simp only[am6,Bool.not_eq_true',bne_iff_ne,ne_eq]at h1;obtain⟨g1,g2,g3,g4,g5,g6⟩:=h1;rw[ju];simp[g2,g3,g4,g5,g6]
  rw[e];show aAr [c]=dB [c]
  by_cases h40:c=40
  ·subst h40;rfl
  ·by_cases h41:c=41
   ·subst h41;rfl
   ·unfold aAr
    rw[if_neg (by simpa using h40),if_neg (by simpa using h41),OX (by simpa using fun e=>h40 e.symm) (by simpa using fun e=>h41 e.symm)]
 ·have hc:c≠40/\c≠41:=⟨(by rintro rfl;exact h1 (by decide)),(by rintro rfl;exact h1 (by decide))⟩
  have hw:aAr ((c::r).take (bS (c::r)))=0:=by
   have hp:=mB c r;obtain⟨m,hm⟩: ∃m,bS (c::r)=m+1:=⟨bS (c::r)-1,by omega⟩;rw[hm,List.take_succ_cons];unfold aAr;rw[if_neg (by intro e;exact hc.1 (aoZ e).1),if_neg (by intro e;exact hc.2 (aoZ e).1)]
  rw[hw]
  have key: ∀(p:UInt8->Bool),p 40=false->p 41=false-> ∀d∈r.takeWhile p,d≠40/\d≠41:=fun p p1 p2 d hd=>by
   have:=anq.1 (aoa (p:=p) (l:=r)) d hd;exact⟨(by rintro rfl;rw[p1]at this;cases this),(by rintro rfl;rw[p2]at this;cases this)⟩
  have tk: ∀(p:UInt8->Bool),(c::r).take (1+(r.takeWhile p).length)=c::r.takeWhile p:=fun p=>by
   rw[Nat.add_comm,List.take_succ_cons]
   congr 1
   exact(List.prefix_iff_eq_take.1 (apx p)).symm
  have fin: ∀s:Tx,(∀d∈s,d≠40/\d≠41)->dB (c::s)=0:=fun s hs=>OX (by
   rw[amY];rintro(e|e)
   ·exact hc.1 e.symm
   ·exact(hs _ e).1 rfl) (by
   rw[amY];rintro(e|e)
   ·exact hc.2 e.symm
   ·exact(hs _ e).2 rfl)
  symm
  rw[ju];split
  ·rw[tk];exact fin _ (key _ (by decide) (by decide))
  ·split
   ·rw[tk];exact fin _ (key _ (by decide) (by decide))
   ·split
    ·rename_i h2
     cases r with
     |nil=>simp at h2
     | cons d r=>
       have hd:d=92\/d=47:=by
        simp at h2;rcases h2 with⟨-, e⟩|⟨-, e⟩
        ·exact .inl e
        ·exact .inr e
       show dB [c,d]=0;refine fin [d] fun x hx=>?_
       rcases List.mem_singleton.1 hx with rfl;rcases hd with rfl|rfl<;>decide
    ·exact fin [] (by simp)
theorem atd: ∀(n:Nat) (s:Tx),s.length<=n->az1 (av s)=dB s
 |_,[],_=>rfl
 |0,_::_,h=>absurd h (by simp)
 | n+1,c::r,h=>by
   simp only[ans]at h;cases hb:aj c with
   | true=>
     rw[ku _ hb,atd n r (by omega),<-anl (l:=r),xI,OX (s:=[c])]
     ·omega
     ·simp;rintro rfl;revert hb;decide
     ·simp;rintro rfl;revert hb;decide
   | false=>
     have hp:=mB c r;rw[kP _ hb,atU,atd n _ (by simp;omega),axT c r hb,<-xI,List.take_append_drop]
theorem aur{af:Int}{s:Tx}{p:Int × Nd}(h:cM af s= .ok p):dB s=0/\ ∃f∈arG,∃m,av s=f++[40]::m:=by
 unfold cM at h
 split at h
 ·cases h
 ·split at h
  ·cases h
  ·split at h
   ·cases h
   ·rename_i q x e
    obtain⟨a,b⟩:=avA e;rw[atV,JO,atd _ _ (amS _)]at a;rw[JO]at b;exact⟨a,b⟩
theorem atY{f:List Tx}(h:f∈arG):([40]:Tx)∉f/\([44]:Tx)∉f:=by
 unfold arG at h;simp only[amY,List.not_mem_nil,or_false]at h;rcases h with rfl|rfl|rfl<;>decide
theorem au4{c:Tx}: ∀{a b r s:List Tx},a++c::r=b++c::s->c∉a->c∉b->a=b
 |[],[],_,_,_,_,_=>rfl
 | [],y::b,_,_,h,_,hb=>by
   rw[anJ,anr]at h;exact absurd (by rw[(aoZ h).1];simp) hb
 | x::a,[],_,_,h,ha,_=>by
   rw[anJ,anr]at h;exact absurd (by rw[<-(aoZ h).1];simp) ha
 | x::a,y::b,_,_,h,ha,hb=>by
   rw[anr,anr]at h;obtain⟨h1,h2⟩:=aoZ h;rw[h1,au4 h2 (fun m=>ha (by simp[m])) (fun m=>hb (by simp[m]))]
theorem auq{af:Int}{s:Tx}{p:Int × Nd}(h:cM af s= .ok p): ∃A B,s=A++40::B/\(40:UInt8)∉A/\(44:UInt8)∉A:=by
 obtain⟨-, f,hf,m,e⟩:=aur h;have h40:(40:UInt8)∈s:=Ep (w:=[40]) (by rw[e];simp) (by simp);obtain⟨A,B,rfl,hA⟩:=DI 40 _ h40;refine⟨A,B,rfl,hA,fun mo=>?_⟩
 have cut: ∀{c:UInt8} (A B:Tx),Ke c=true->bU c=false->aR c=false->av (A++c::B)=av A++[c]::av B:=fun {c} A B h1 h2 h3=>by
  rw[vV _ A _ (amS _) (fun d hd=>by
   have:d=c:=by simpa using hd.symm
   subst this;refine⟨h2,h3,.inl ?_⟩
   constructor
   ·rintro rfl;revert h1;decide
   ·rintro rfl;revert h1;decide),sj _ h1]
 rw[cut A B (by decide) (by decide) (by decide)]at e;have hn:([40]:Tx)∉av A:=fun hm=>hA (Ep hm (by simp))
 have ef:=au4 e hn (atY hf).1;obtain⟨C,D,rfl, -⟩:=DI 44 _ mo;rw[cut C D (by decide) (by decide) (by decide)]at ef;exact(atY hf).2 (by rw[<-ef];simp)
theorem au6{af:Int}{and:Bool}{sep:Tx}(hs:qN sep): ∀{l:List Nd},(∀x∈l,qN (bD af x))->qN (jk af and sep l)
 |[],_=>by rw[lZ];exact .plain (by simp) (by simp)
 | x::l,h=>by
   rw[ou];exact hs.app (((h x (by simp)).dY _).app (au6 hs fun y hy=>h y (by simp[hy])))
theorem atD{af:Int}{and:Bool}{sep:Tx}(hs:qN sep){l:List Nd}(h: ∀x∈l,qN (bD af x)):qN (fG af and sep l):=by
 cases l with
 |nil=>rw[yU];exact .plain (by simp) (by simp)
 |cons x l=>rw[pK];exact((h x (by simp)).dY _).app (au6 hs fun y hy=>h y (by simp[hy]))
theorem au5{af:Int}(ha:aH af=true): ∀{x:Nd},bK af x->qN (bD af x):=by
 intro x
 induction x using Nd.ind with
 | h x ih=>
   intro hx;have hk: ∀k∈x.kids,qN (bD af k):=fun k hk=>ih k hk (hx.dm k hk)
   rw[jZ];rcases qp hx.may with⟨h1, -⟩|⟨h1,h2, -⟩|⟨h1, -⟩|⟨h1, -⟩|⟨h1, -⟩
   ·rw[if_pos h1];exact .plain (by decide) (by decide)
   ·rw[if_neg (by omega),if_pos h1]
    exact .plain (fun m=>absurd (M6 ha h2 _ m) (by decide)) (fun m=>absurd (M6 ha h2 _ m) (by decide))
   ·rw[if_neg (by omega),if_neg (by omega),if_pos h1]
    exact qN.app (a:=[126]) (.plain (by decide) (by decide)) (atD (.plain (by decide) (by decide)) hk)
   ·rw[if_neg (by omega),if_neg (by omega),if_neg (by omega),if_pos h1];exact atD (.plain (by decide) (by decide)) hk
   ·rw[if_neg (by omega),if_neg (by omega),if_neg (by omega),if_neg (by omega)];exact atD (.plain (by decide) (by decide)) hk
theorem avN(q:Int): ∃W,iQ q=W++[40]/\(40:UInt8)∉W/\(41:UInt8)∉W:=by
 unfold iQ;split
 ·exact⟨[101,120,105,115,116,115,32],rfl,by decide,by decide⟩
 ·split
  ·exact⟨[126,101,120,105,115,116,115,32],rfl,by decide,by decide⟩
  ·exact⟨[102,111,114,97,108,108,32],rfl,by decide,by decide⟩
theorem avB{af q:Int}{x:Nd}(h:bF af q x=0){p r:Tx}(e:eF af q x=p++r)(hr:r≠[]){c:Int × Nd}:cM af p≠ .ok c:=by
 intro hc;obtain⟨hd,f,hf,m,em⟩:=aur hc;have h40:(40:UInt8)∈p:=Ep (w:=[40]) (by rw[em];simp) (by simp);obtain⟨ha,-, -, ho, -⟩:=rL h;obtain⟨W,az3,w1,w2⟩:=avN q;have e2:W++40::(bD af x++[41])=p++r:=by rw[<-e];unfold eF;rw[az3];simp
 rcases apn.1 e2 with⟨C,e3,e4⟩|⟨C,e3,e4⟩
 ·cases C with
  |nil=>rw[anz]at e3;rw[e3]at h40;exact w1 h40
  | cons d C=>
    rw[anr]at e4;obtain⟨rfl,e5⟩:=aoZ e4
    have hp:dB p=1+dB C:=by
     rw[e3,xI,OX w1 w2,<-anl,xI];show(0:Int)+(1-0+_)=_;omega
    have hC:0<=dB C:=by
     rcases apn.1 e5 with⟨D,e6,e7⟩|⟨D,e6,e7⟩
     ·cases D with
      |nil=>rw[e6,anz,(au5 ha ho).2];exact Int.le_refl _
      | cons y D=>
        have hl:=congrArg List.length e7;rw[aoE]at hl;simp only[ans,List.length_nil]at hl;exact absurd (List.length_eq_zero_iff.1 (by omega)) hr
     ·exact(au5 ha ho).1 C D e6
    omega
 ·rw[e3]at w1
  exact w1 (by simp[h40])
theorem awF{i:Ins}(h:dy i=true):ow (dJ i):=by
 refine .plain ?_;have n40: ∀{l:Tx},az l=true->(40:UInt8)∉l:=fun hl m=>absurd (yB hl _ m) (by decide)
 have i40: ∀n:Int,(40:UInt8)∉Lib.itoa n:=fun n m=>absurd (si n _ m) (by decide)
 have r40: ∀{a:Nat},a<15->(40:UInt8)∉aO a:=fun ha m=>absurd (U5 ha _ m) (by decide)
 rcases Zp h with⟨l,n,rfl,h1⟩|⟨l,a,rfl,h1,h2⟩|⟨l,d,rfl,h1,h2⟩|⟨n,d,rfl,h2⟩|rfl
 ·have:=n40 h1;have:=i40 n
  unfold dJ;simp[*]
 ·have:=n40 h1;have:=r40 h2
  unfold dJ;simp[mI, *]
 ·have:=n40 h1;have:=r40 h2
  unfold dJ;simp[mI, *]
 ·have:=i40 n;have:=r40 h2
  unfold dJ;simp[mI, *]
 ·decide
theorem ast(n:Nat):(40:UInt8)∉cR n:=by
 intro m
 have d40: ∀n:Nat,lD n≠40:=fun n e=>by
  have h1: ∀k:Fin 10,lD k.val≠40:=by decide
  have h2:lD n=lD (n%10):=by unfold lD;rw[Nat.mod_mod]
  exact h1 ⟨n%10,Nat.mod_lt _ (by omega)⟩ (by rw[<-h2];exact e)
 unfold cR at m
 split at m
 ·simp at m;exact d40 _ m.symm
 ·split at m
  ·simp at m;rcases m with e|e<;>exact d40 _ e.symm
  ·split at m
   ·simp at m;rcases m with e|e|e<;>exact d40 _ e.symm
   ·simp at m;rcases m with e|e|e|e<;>exact d40 _ e.symm
theorem atw(n:Int):(40:UInt8)∉rT n:=by
 unfold rT bH;rw[amY];rintro(e|e)
 ·revert e;decide
 ·exact ast _ e
theorem avG(n:Int):(40:UInt8)∉gD n:=by
 unfold gD;split
 ·rw[amY];rintro(e|e)
  ·revert e;decide
  ·exact ast _ e
 ·exact ast _
theorem atZ(n:Int):(40:UInt8)∉iN n:=by unfold iN;split<;>(try split)<;>decide
theorem awE{i:Ins}(h:aU i=true):ow (bV i):=by
 obtain⟨ho, -⟩:=xD h
 have n40:i.op=11\/i.op=12->(40:UInt8)∉i.label:=fun e m=>by
  unfold dn at ho;rw[if_neg (by omega),if_pos e]at ho;exact absurd (yB ho _ m) (by decide)
 have d1:=atw i.d;have d2:=atw i.a;have d3:=atw i.b;have d4:=avG i.ag;have f1:=atZ ((i.ai-3)/3);have f2:=atZ ((i.ai-3)%3);unfold bV
 by_cases h6:i.op=6
 ·rw[if_pos h6]
  have:=ow.comma (a:=[108,119,32]++rT i.d) (b:=[48,40]++rT i.a++[41]) (by simp[d1]);simpa using this
 rw[if_neg h6]
 by_cases h7:i.op=7
 ·rw[if_pos h7]
  have:=ow.comma (a:=[115,119,32]++rT i.b) (b:=[48,40]++rT i.a++[41]) (by simp[d3]);simpa using this
 rw[if_neg h7]
 by_cases h8:i.op=8
 ·rw[if_pos h8];exact .plain (by simp[d1,d2,d4])
 rw[if_neg h8]
 by_cases h9:i.op=9
 ·rw[if_pos h9];exact .plain (by simp[d1,d2,d3])
 rw[if_neg h9]
 by_cases h10:i.op=10
 ·rw[if_pos h10];exact .plain (by simp[d1,d2,d3])
 rw[if_neg h10]
 by_cases h11:i.op=11
 ·rw[if_pos h11];have:=n40 (.inl h11);exact .plain (by simp[d2,d3,this])
 rw[if_neg h11]
 by_cases h12:i.op=12
 ·rw[if_pos h12];have:=n40 (.inr h12);exact .plain (by simp[this])
 rw[if_neg h12];split
 ·exact .plain (by decide)
 ·refine .plain fun m=>?_
  rcases anu.1 m with m|m
  ·rcases anu.1 m with m|m
   ·rcases anu.1 m with m|m
    ·revert m;decide
    ·exact f1 m
   ·revert m;decide
  ·exact f2 m
theorem avt(af:Int)(i:Ins):ow (dL af i).1:=by
 unfold dL;split
 ·split
  ·rename_i h;exact awF h
  ·exact .plain (by simp)
 ·split
  ·split
   ·rename_i h;exact awE h
   ·exact .plain (by simp)
  ·exact .plain (by simp)
theorem avv(af:Int)(k:Nat)(l:List Ins)(j:Nat):ow ((cm af k l).getD j []):=by
 rw[List.getD_eq_getElem?_getD];cases e:(cm af k l)[j]? with
 |none=>exact .plain (by simp)
 | some s=>
   have hs:=List.mem_of_getElem? e;show ow s;unfold cm at hs;rcases amY.1 hs with rfl|hs
   ·refine .plain ?_
    rw[anu];rintro(e|e)
    ·revert e;decide
    ·exact ast _ e
   ·obtain⟨i,hi,rfl⟩:=List.mem_map.1 hs
    exact avt af i
theorem atL: ∀{l:List Tx},(∀s∈l,ow s)->ow (dV l)
 |[],_=>.plain (by simp[dV,List.intercalate])
 |[x],h=>by rw[xw];exact h x (by simp)
 | x::y::r,h=>by
   rw[xy];exact(h x (by simp)).app ((ow.plain (by decide)).app (atL fun s hs=>h s (by simp at hs ⊢; exact .inr hs)))
theorem av4(i:Nat)(t:ak):ow (lN i t):=by
 rw[JR];refine((ow.plain (by decide)).app (atL fun s hs=>?_)).app (.plain (by decide));unfold ji at hs;obtain⟨c,hc,rfl⟩:=List.mem_map.1 hs;unfold rK at hc;obtain⟨k,hk⟩:=List.mem_iff_getElem?.1 hc;rw[List.getElem?_mapIdx]at hk;cases e:t.code[k]? with
 |none=>rw[e]at hk;cases hk
 | some x=>
   rw[e]at hk;have hk2:=Option.some.inj hk;rw[<-hk2];unfold lP;refine(avv _ _ _ _).app (.plain fun m=>?_);have:=(List.mem_replicate.1 m).2
   revert this;decide
theorem axv(p:Tx): ∃b,Bl b/\p=b++aq p:=⟨p.takeWhile aj,fun c hc=>anq.1 (aoa (p:=aj) (l:=p)) c hc,(List.takeWhile_append_dropWhile ..).symm⟩
theorem axt{af:Int}{i:Nat}{t:ak}{p r:Tx}(e:lN i t=p++r){c:Int × Nd}:cM af (aq p)≠ .ok c:=by
 intro hc;obtain⟨A,B,eA,h1,h2⟩:=auq hc;obtain⟨b,hb,az6⟩:=axv p;have hp:ow p:=by have:=av4 i t;rw[e]at this;exact this.pre
 have:=hp (b++A) B (by rw[anF,<-eA];exact az6);rcases anu.1 this with h|h
 ·have:=hb 44 h;revert this;decide
 ·exact h2 h
theorem awt{af:Int}{c:Int × Nd}:cM af []≠ .ok c:=by
 intro h;obtain⟨A,B,e, -⟩:=auq h;cases A<;>cases e
theorem arH(N:Nat)(u:Tx):bO N u<=N:=Nat.sub_le _ _
theorem avP{N:Nat}{r:Tx}{e:Int}{k:Nat}(h:gE N r= .error (e,k)):k<=N:=by
 unfold gE at h
 dsimp only at h
 split at h
 ·cases h;exact arH _ _
 ·split at h
  ·cases h;exact arH _ _
  ·cases h
theorem avE{N:Nat}{r:Tx}{e:Int}{k:Nat}(h:eP N r= .error (e,k)):k<=N:=by
 unfold eP at h
 dsimp only at h
 split at h
 ·cases h
 ·split at h
  ·cases h;exact arH _ _
  ·cases h
theorem atl{af:Int}{N:Nat}: ∀{L:List Tx} {v:Tx} {acc:List aF} {e:Int} {k:Nat},gM af N L v acc= .error (e,k)->k<=N
 |[],v,acc,e,k,h=>by cases h
 | p::L,v,acc,e,k,h=>by
   rw[gM]at h
   split at h
   ·exact atl h
   ·split at h
    ·cases h;exact arH _ _
    ·exact atl h
theorem avX{af:Int}{N:Nat}{r:Tx}{e:Int}{k:Nat}(h:fD af N r= .error (e,k)):k<=N:=by
 unfold fD at h
 dsimp only at h
 split at h
 ·cases h;exact arH _ _
 ·split at h
  ·rename_i x hx;obtain⟨x1,x2⟩:=x;cases h;exact atl hx
  ·cases h
theorem asP{af:Int}{N:Nat}: ∀{L:List Tx} {v:Tx} {acc:List (List Ins)} {e:Int} {k:Nat},dO af N L v acc= .error (e,k)->k<=N
 |[],v,acc,e,k,h=>by cases h
 |c::L,v,[],e,k,h=>by cases h
 | c::L,v,x::acc,e,k,h=>by
   rw[dO]at h
   split at h
   ·split at h
    ·rename_i y hy;obtain⟨y1,y2⟩:=y;cases h;exact asP hy
    ·cases h
   ·split at h
    ·cases h;exact arH _ _
    ·split at h
     ·rename_i y hy;obtain⟨y1,y2⟩:=y;cases h;exact asP hy
     ·cases h
theorem auX{af:Int}{N:Nat}: ∀{n:Nat} {r:Tx} {acc:List (List Ins)} {e:Int} {k:Nat},jj af N n r acc= .error (e,k)->k<=N
 |0,r,acc,e,k,h=>by cases h
 | n+1,r,acc,e,k,h=>by
   rw[jj]at h
   try dsimp only at h
   split at h
   ·cases h
   ·split at h
    ·cases h;exact arH _ _
    ·split at h
     ·rename_i y hy;obtain⟨y1,y2⟩:=y;cases h;exact asP hy
     ·exact auX h
theorem axB{af:Int}{N:Nat}{r:Tx}{e:Int}{k:Nat}(h:gu af N r= .error (e,k)):k<=N:=by
 unfold gu at h
 dsimp only at h
 split at h
 ·cases h;exact arH _ _
 ·exact auX h
theorem avz{af:Int}{N:Nat}{r:Tx}{e:Int}{k:Nat}(hr:r.length<=N)(h:kK af N r= .error (e,k)):k<=N:=by
 unfold kK at h
 dsimp only at h
 split at h
 ·cases h
 ·rename_i e2 k2 hk
  cases h;have a:=T9 hk;have b:=yS r;split
  ·exact apj _
  ·unfold bO;omega
theorem auV{af:Int}{N:Nat}: ∀{n:Nat} {r:Tx} {acc l:List (List Ins)} {r1:Tx},jj af N n r acc= .ok (l,r1)->r1.length<=r.length
 |0,r,acc,l,r1,h=>by cases h;exact amS _
 | n+1,r,acc,l,r1,h=>by
   rw[jj]at h
   try dsimp only at h
   split at h
   ·cases h;exact amS _
   ·split at h
    ·cases h
    ·split at h
     ·cases h
     ·have:=auV h
      have:=Vb r;omega
theorem axz{af:Int}{N:Nat}{r r1:Tx}{l:List (List Ins)}(h:gu af N r= .ok (l,r1)):r1.length<=r.length:=by
 unfold gu at h
 dsimp only at h
 split at h
 ·cases h
 ·have:=auV h
  have:=Vb r;omega
theorem aww{s:Tx}{e:Int}{k:Nat}(h:gL s= .error (e,k)):k<=s.length:=by
 unfold gL at h
 split at h
 ·cases h;exact apj _
 split at h
 ·rename_i x hx
  cases h;unfold jO at hx;cases h1:gE s.length s with
  |error x=>rw[h1]at hx;obtain⟨x1,x2⟩:=x;cases hx;exact avP h1
  | ok p=>
    obtain⟨a,n,r1⟩:=p;rw[h1]at hx
    change (eP s.length r1 >>= _)=_ at hx
    have l1:r1.length<=s.length:=by rw[ab3 h1];exact Vb _
    cases h2:eP s.length r1 with
    |error x=>rw[h2]at hx;obtain⟨x1,x2⟩:=x;cases hx;exact avE h2
    | ok p=>
      obtain⟨c,r2⟩:=p;rw[h2]at hx
      change (fD a s.length r2 >>= _)=_ at hx
      have l2:r2.length<=r1.length:=by
       rcases aaR h2 with⟨e, -⟩|e
       ·rw[e];exact amS _
       ·rw[e];exact Vb _
      cases h3:fD a s.length r2 with
      |error x=>rw[h3]at hx;obtain⟨x1,x2⟩:=x;cases hx;exact avX h3
      | ok p=>
        obtain⟨i,r3⟩:=p;rw[h3]at hx
        change (gu a s.length r3 >>= _)=_ at hx
        have l3:=(ac3 h3).2.2;cases h4:gu a s.length r3 with
        |error x=>rw[h4]at hx;obtain⟨x1,x2⟩:=x;cases hx;exact axB h4
        | ok p=>
          obtain⟨l,r4⟩:=p;rw[h4]at hx
          change (kK a s.length r4 >>= _)=_ at hx
          have l4:=axz h4;cases h5:kK a s.length r4 with
          |error x=>rw[h5]at hx;obtain⟨x1,x2⟩:=x;cases hx;exact avz (by omega) h5
          |ok p=>obtain⟨q,x⟩:=p;rw[h5]at hx;cases hx
 ·split at h
  ·cases h
  ·cases h;exact apj _
theorem asz{u:Tx}(h:(10:UInt8)∉u):aZ u=[]:=by unfold aZ;rw[(DC h).1];rfl
theorem ar3{u:Tx}{c:UInt8}(h:c∉u):c∉aq u:=fun m=>h ((aoI _).subset m)
theorem auu{a b p r:Tx}(e:a++b=p++r):(∃q,a=p++q)\/ ∃p',p=a++p'/\b=p'++r:=by
 rcases apn.1 e with⟨C,e1,e2⟩|⟨C,e1,e2⟩
 ·exact .inr ⟨C,e1,e2⟩
 ·exact .inl ⟨C,e1⟩
theorem asv{a b p r:Tx}(e:a++10::b=p++r):(∃q,a=p++q)\/ ∃p',p=a++10::p'/\b=p'++r:=by
 rcases auu e with h|⟨p',e1,e2⟩
 ·exact .inl h
 ·cases p' with
  |nil=>exact .inl ⟨[],by rw[e1];simp⟩
  | cons c p'=>
    rw[anr]at e2;obtain⟨rfl,e3⟩:=aoZ e2;exact .inr ⟨p',e1,e3⟩
def NoC(af:Int)(N:Nat)(o:EP (List (List Ins) × Tx)):Prop:= ∀l r,o= .ok (l,r)-> ∀c,kK af N r≠ .ok c
theorem asU{af:Int}{N:Nat}{r:Tx}{c:Int × Nd}(h:kK af N r= .ok c):cM af (aq r)= .ok c:=by
 unfold kK at h
 dsimp only at h
 split at h
 ·rename_i c' e;rw[e];exact h
 ·cases h
theorem atO{af:Int}{N:Nat}{c:Int × Nd}:kK af N []≠ .ok c:=fun h=>awt (asU h)
theorem auZ{af:Int}{N:Nat}: ∀(n:Nat) (acc:List (List Ins)),jj af N n [] acc= .ok (acc,[])
 |0,acc=>rfl
 |n+1,acc=>by rw[jj];exact if_pos rfl
theorem axr{u:Tx}(h:(59:UInt8)∉u):gp u=false:=by
 unfold gp;cases e:(aI u).getLast?==some 59 with
 |false=>rfl
 | true=>
   exfalso;have e2:(aI u).getLast?=some 59:=by simpa using e
   have m:=List.mem_of_getLast? e2;unfold aI at m;obtain⟨b,hb, -⟩:=qB (u.takeWhile (· != 10));have m2:(59:UInt8)∈u.takeWhile (· != 10):=by rw[hb];simp[m]
   exact h ((apx _).subset m2)
theorem avw{s:Tx}(h:gw s):(59:UInt8)∉s:=fun m=>absurd (h _ m) (by decide)
theorem auY{t:ak}{N:Nat}(h5:bF t.af t.q t.node=0)(h0:t.code≠[]): ∀(m n j:Nat) (p r:Tx) (acc:List (List Ins)),p.length<n->nw t j m (eF t.af t.q t.node)=p++r->r≠[]->NoC t.af N (jj t.af N n p acc)
 |m,0,j,p,r,acc,hn,_,_=>absurd hn (by omega)
 | 0,n+1,j,p,r,acc,hn,e,hr=>by
   rw[nw]at e;have hp:(59:UInt8)∉p:=fun m=>avw (akj h5) (by rw[e];simp[m])
   rw[jj]
   try dsimp only
   rw[if_pos (axr (ar3 hp))];intro l r1 hl c hc;cases hl
   have e2:aq p=p:=by
    cases p with
    |nil=>rfl
    | cons c p=>
      obtain⟨d,s,e3,hd⟩:=akk t.af t.q t.node;rw[e3,anr]at e;exact BH _ (by rw[<-(aoZ e).1];exact hd)
   have:=asU hc;rw[e2]at this;exact avB h5 e hr this
 | m+1,n+1,j,p,r,acc,hn,e,hr=>by
   rw[nw]at e;rcases asv e with⟨q,e1⟩|⟨p',e1,e2⟩
   ·have hp:(10:UInt8)∉p:=fun m=>(auf j t).1 (by rw[e1];simp[m])
    rw[jj]
    try dsimp only
    split
    ·intro l r1 hl c hc
     cases hl;exact axt e1 (asU hc)
    ·split
     ·intro l r1 hl;cases hl
     ·split
      ·intro l r1 hl;cases hl
      ·rw[asz (ar3 hp),auZ]
       intro l r1 hl c hc;cases hl;exact atO hc
   ·obtain⟨a,b, -⟩:=Vm j t p' h0
    rw[e1]at hn⊢;rw[jj]
    try dsimp only
    rw[a,if_neg (by decide),b];split
    ·intro l r1 hl;cases hl
    ·split
     ·intro l r1 hl;cases hl
     ·exact auY h5 h0 m n (j+1) p' r _ (by simp at hn;omega) e2 hr
theorem axC{t:ak}{N:Nat}(h5:bF t.af t.q t.node=0)(h0:t.code≠[]){p r:Tx}(e:10::(((ig t).flatMap fun l=>l++[10])++eF t.af t.q t.node)=p++r)(hr:r≠[]):NoC t.af N (gu t.af N p):=by
 rw[akg]at e;cases p with
 | nil=>
   unfold gu
   dsimp only
   rw[if_pos (.inl rfl)];intro l r1 hl;cases hl
 | cons c p=>
   rw[anr]at e;obtain⟨rfl,e0⟩:=aoZ e;unfold gu
   dsimp only
   rw[ajH];rw[nw]at e0;rcases asv e0 with⟨q,e1⟩|⟨p',e1,e2⟩
   ·have hp:(10:UInt8)∉p:=fun m=>(auf 0 t).1 (by rw[e1];simp[m])
    split
    ·intro l r1 hl;cases hl
    ·rw[asz (ar3 hp),auZ]
     intro l r1 hl c hc;cases hl;exact atO hc
   ·obtain⟨a,b, -⟩:=Vm 0 t p' h0
    rw[e1,b];split
    ·intro l r1 hl;cases hl
    ·exact auY h5 h0 _ _ _ p' r _ (by simp;omega) e2 hr
theorem awj{N:Nat}{s:Tx}{t:ak}(h: ∀a n r1 c r2,gE N s= .ok (a,n,r1)->eP N r1= .ok (c,r2)-> ∀i r3 l r4 x,fD a N r2= .ok (i,r3)->gu a N r3= .ok (l,r4)->kK a N r4≠ .ok x):jO N s≠ .ok t:=by
 intro hb;obtain⟨a,n,r1,c,r2,i,r3,l,r4,q,x,h1,h2,h3,h4,h5, -⟩:=Nx.1 hb;exact h a n r1 c r2 h1 h2 i r3 l r4 (q,x) h3 h4 h5
theorem aub{af:Int}{N:Nat}{i:List aF}{r:Tx}:fD af N []≠ .ok (i,r):=by
 intro h;have:=(ac3 h).1;cases this
theorem atT{N:Nat}{p c r2:Tx}{af:Int}{i:List aF}{r3:Tx}(h10:(10:UInt8)∉p)(hp:p=[]\/(aI (aq p)).head?=some 34)(h:eP N p= .ok (c,r2)):fD af N r2≠ .ok (i,r3):=by
 intro h2;rcases aaR h with⟨e1,e2⟩|e1
 ·rcases hp with hp|hp
  ·rw[e1,hp]at h2;exact aub h2
  ·exact e2 hp
 ·rw[e1,asz (ar3 h10)]at h2;exact aub h2
theorem aug{c:UInt8}(x:Tx)(hb:aj c=false)(h10:c≠10):(aI (c::x)).head?=some c:=by
 unfold aI;rw[List.takeWhile_cons_of_pos (by simpa using h10)];obtain⟨b,e,kM⟩:=qB (c::x.takeWhile (· != 10));cases f:dz (c::x.takeWhile (· != 10))with
 | nil=>
   rw[f,anJ]at e;have:=kM c (by rw[<-e];simp);rw[hb]at this;cases this
 | cons d m=>
   rw[f,anr]at e;rw[(aoZ e).1];rfl
theorem aua{t:ak}{N:Nat}(h:bI t=0)(hl:(qb t []).length<=262144){p r:Tx}(e:123::10::(t.init.flatMap (dI t.af)++125::10::(((ig t).flatMap fun l=>l++[10])++eF t.af t.q t.node))=p++r)(hr:r≠[]){i:List aF}{r3 r4:Tx}{l:List (List Ins)}{x:Int × Nd}(h3:fD t.af N p= .ok (i,r3))(h4:gu t.af N r3= .ok (l,r4)):kK t.af N r4≠ .ok x:=by
 obtain⟨ha,-, -, c3,c4,h5⟩:=akX h;obtain⟨d1,d2,d3⟩:=ZB c3;have li:(t.init.flatMap (dI t.af)).length<=262144:=by unfold qb at hl;simp only[aoE,ans]at hl;omega
 have hno:(125:UInt8)∉123::10::t.init.flatMap (dI t.af):=by
  rw[amY,amY];rintro(f|f|f)
  ·revert f;decide
  ·revert f;decide
  ·exact ac8 ha d3 (YP c4) f
 have e':(123::10::t.init.flatMap (dI t.af))++125::(10::(((ig t).flatMap fun l=>l++[10])++eF t.af t.q t.node))=p++r:=e
 have key:(∃q,123::10::t.init.flatMap (dI t.af)=p++q)\/ ∃p',p=(123::10::t.init.flatMap (dI t.af))++125::p'/\10::(((ig t).flatMap fun l=>l++[10])++eF t.af t.q t.node)=p'++r:=by
  rcases auu e' with h|⟨p',e1,e2⟩
  ·exact .inl h
  ·cases p' with
   |nil=>exact .inl ⟨[],by rw[e1];simp⟩
   | cons c p'=>
     rw[anr]at e2;obtain⟨rfl,e3⟩:=aoZ e2;exact .inr ⟨p',e1,e3⟩
 rcases key with⟨q,e1⟩|⟨p',e1,e2⟩
 ·exfalso
  exact ar3 (fun m=>hno (by rw[e1];simp[m])) (ac3 h3).2.1
 ·have hb:=ac6 N ha d3 (YP c4) li p'
  rw[e1]at h3;have h3':fD t.af N (123::10::(t.init.flatMap (dI t.af)++125::p'))= .ok (i,r3):=h3;rw[hb]at h3';cases h3';exact axC h5 d2 e2 hr l r4 h4 x
theorem awx{t:ak}(h:bI t=0)(hl:(qb t []).length<=262144){p r:Tx}(e:qb t []=p++r)(hr:r≠[]){u:ak}:gL p≠ .ok u:=by
 intro hu;obtain⟨-, hb, -⟩:=afG.1 hu
 revert hb
 obtain⟨ha,ht,hc,c3,c4,h5⟩:=akX h;generalize p.length=N;refine awj fun a n r1 c r2 h1 h2 i r3 l r4 x h3 h4=>?_
 have avQ:(10:UInt8)∉DZ t.af++t.name:=by
  unfold eW at ht;simp only[am6,decide_eq_true_eq]at ht;rw[anu];rintro(m|m)
  ·revert m;unfold DZ;split<;>decide
  ·exact(ajL (anq.1 ht.2.2 10 m) (amS _)).2 rfl
 unfold qb at e;rw[anz,<-anF]at e;rcases asv e with⟨q,e1⟩|⟨p1,e1,e2⟩
 ·exfalso
  have hp:(10:UInt8)∉p:=fun m=>avQ (by rw[e1];simp[m])
  rw[ab3 h1,asz (ar3 hp)]at h2;exact atT (by simp) (.inl rfl) h2 h3
 rw[e1,anF,ab6 N p1 ha ht]at h1;simp only[Except.ok.injEq,Prod.mk.injEq]at h1;obtain⟨rfl,rfl,qh⟩:=h1;subst qh
 by_cases Ql:t.aC=[]
 ·rw[if_pos Ql,anJ]at e2
  have hp2:r2=p1:=by
   cases p1 with
   | nil=>
     rcases aaR h2 with⟨f, -⟩|f
     ·exact f
     ·rw[f];rfl
   | cons d p1=>
     rw[anr]at e2;obtain⟨rfl, -⟩:=aoZ e2;rcases aaR h2 with⟨f, -⟩|f
     ·exact f
     ·exfalso
      unfold eP at h2
      dsimp only at h2
      rw[BH _ (by decide),if_pos (by rw[aug _ (by decide) (by decide)];simp)]at h2;cases h2;have hlen:=congrArg List.length f;have:=ai6 (aq (123::p1));rw[BH _ (by decide)]at this hlen;unfold aZ at hlen;have hs:=(aoI (l:=123::p1) (· != 10)).length_le;rw[List.length_drop]at hlen;simp only[ans]at hlen hs;omega
  rw[hp2]at h3;exact aua h hl e2 hr h3 h4
 ·rw[if_neg Ql]at e2
  have hc0:=hc;unfold eY at hc0;simp only[am6,decide_eq_true_eq]at hc0;obtain⟨n10,n34⟩:=ajM hc0.2.1 (by omega);have e3:(34::(t.aC++[34]))++10::(123::10::(t.init.flatMap (dI t.af)++125::10::(((ig t).flatMap fun l=>l++[10])++eF t.af t.q t.node)))=p1++r:=by rw[<-e2];simp
  have at2:(10:UInt8)∉34::(t.aC++[34]):=by
   rw[amY,anu];rintro(m|m|m)
   ·revert m;decide
   ·exact n10 m
   ·revert m;decide
  rcases asv e3 with⟨q,e4⟩|⟨p2,e4,e5⟩
  ·exfalso
   have hp:(10:UInt8)∉p1:=fun m=>at2 (by rw[e4];simp[m])
   refine atT hp ?_ h2 h3;cases p1 with
   |nil=>exact .inl rfl
   | cons d p1=>
     rw[anr]at e4;obtain⟨rfl, -⟩:=aoZ e4
     right
     rw[BH _ (by decide)];exact aug _ (by decide) (by decide)
  ·have hp2:r2=p2:=by
    obtain⟨x1,x2⟩:=Er (L:=34::(t.aC++[34])) p2 at2 (fun c hc=>by
     have:(34::(t.aC++[34])).getLast?=some 34:=by rw[<-anr,List.getLast?_concat]
     rw[this]at hc;cases hc;decide)
    have hs:aq p1=(34::(t.aC++[34]))++10::p2:=by rw[e4];exact BH _ (by decide)
    rcases aaR h2 with⟨-, f⟩|f
    ·rw[hs,x1]at f
     exact absurd rfl f
    ·rw[f,hs,x2]
   rw[hp2]at h3;exact aua h hl e5 hr h3 h4
end Go.Proofs.YtkbbgjloifmmbaaGreatDoor
