/- What ReadBackP leans on, part 10. -/
import Derived.Test.YtkbbgjloifmmbaaGreatDoorRb9
set_option linter.unusedVariables false
namespace Go.Proofs.YtkbbgjloifmmbaaGreatDoor
open _root_.Go.Proofs.Tryz
open _root_.List renaming dropWhile_cons->amO,drop_append_of_le_length->ank,singleton_append->anl,mem_cons->amY,reverse_append->ann,getElem?_eq_some_iff->ano,reverse_cons->anp,all_eq_true->anq,cons_append->anr,length_cons->ans,mem_append->anu,mem_singleton->anw,length_eq_zero_iff->anx,append_nil->anz,reverse_singleton->anA,drop_eq_nil_of_le->amT,dropWhile_append->anB,takeWhile_cons->anC,append_assoc->anF,take_length->anG,mem_reverse->anH
open _root_.Bool renaming and_eq_true->am6,or_eq_true->anI
open _root_.Go.Lib renaming itoa->anj,decDigits->anm,atoiAll->anv
open _root_.UInt8 renaming le_iff_toNat_le->ant
open _root_.Nat renaming le_refl->amS,lt_of_lt_of_le->anD
open _root_.Int renaming toNat_natCast->anE
def yP(af:Int)(k:Nat):Prop:=(af=1/\k<15)\/(af=2/\k<32)
theorem KG{af:Int}{k:Nat}(h:yP af k):(kS af k).length<=5:=by
 unfold kS;rcases h with⟨h1,h2⟩|⟨h1,h2⟩
 ·rw[if_neg (by omega),mI];have:=pI h2;omega
 ·rw[if_pos h1];unfold rT;rw[anE];exact kU h2
theorem Ap{af:Int}{n:Nat}{x:aF}(ha:aH af=true)(hn:n<=16)(h:eT af n x=true):
 (∃loc nn,x=⟨-1,0,loc,[],nn⟩/\az loc=true/\aY nn=true)\/(∃(i k:Nat) (v:Tx) (nn:Int),x=⟨i,k,[],v,nn⟩/\i<16/\i<n/\yP af k/\((v≠[]/\az v=true/\nn=0)\/(v=[]/\aY nn=true))):=by
 obtain⟨th,rg,loc,v,nn⟩:=x;unfold eT at h;simp only at h
 by_cases h1:th= -1
 ·rw[if_pos h1]at h
  simp only[am6,decide_eq_true_eq]at h;exact .inl ⟨loc,nn,by rw[h1,h.2.1,h.2.2.1],h.1,h.2.2.2⟩
 rw[if_neg h1]at h
 by_cases h2:th<0\/(n:Int)<=th\/loc≠[]
 ·rw[if_pos h2]at h;cases h
 rw[if_neg h2]at h;have h2a:0<=th:=by omega
 have h2b:th<(n:Int):=by omega
 have h2c:loc=[]:=by
  by_cases e:loc=[]
  ·exact e
  ·exact absurd (.inr (.inr e)) h2
 unfold aH at ha;simp only[anI,decide_eq_true_eq]at ha
 by_cases h3:(if af=2 then rg<1\/31<rg else rg<0\/14<rg)
 ·rw[if_pos h3]at h;cases h
 rw[if_neg h3]at h
 have hk:yP af rg.toNat/\0<=rg:=by
  rcases ha with ha|ha
  ·rw[if_neg (by omega)]at h3
   exact⟨.inl ⟨ha,by omega⟩,by omega⟩
  ·rw[if_pos ha]at h3
   exact⟨.inr ⟨ha,by omega⟩,by omega⟩
 refine .inr ⟨th.toNat,rg.toNat,v,nn,?_,by omega,by omega,hk.1,?_⟩
 ·rw[h2c,show((th.toNat:Nat):Int)=th by omega,show((rg.toNat:Nat):Int)=rg by have:=hk.2;omega]
 ·by_cases hv:v=[]
  ·rw[if_neg (by simpa using hv)]at h;exact .inr ⟨hv,h⟩
  ·rw[if_pos hv]at h
   simp only[am6,decide_eq_true_eq]at h;exact .inl ⟨hv,h.1,h.2⟩
theorem aiZ: ∀m n:Fin 15,aO m.val=aO n.val->m=n:=by decide+kernel
theorem aiT: ∀m n:Fin 32,bH m.val=bH n.val->m=n:=by decide+kernel
theorem yB{s:Tx}(h:az s=true): ∀b∈s,bU b=true:=by
 cases s with
 |nil=>simp
 | cons c r=>
   unfold az at h;simp only[am6,decide_eq_true_eq]at h;intro b hb;rcases amY.1 hb with rfl|hb
   ·unfold bU;rw[h.1.2];rfl
   ·exact anq.1 h.2 b hb
theorem Bn{s:Tx}(h:az s=true): ∃c r,s=c::r/\cG c=true:=by
 cases s with
 |nil=>cases h
 | cons c r=>
   unfold az at h;simp only[am6,decide_eq_true_eq]at h;exact⟨c,r,rfl,h.1.2⟩
theorem ad8(c:UInt8)(h:cG c=true):qs c=false:=by
 have:=kZ (p:=fun c=> !cG c|| !qs c) (by decide+kernel) c;rw[h]at this;simpa using this
theorem aeS{s:Tx}{n:Int}(h:az s=true):s≠anj n:=fun e=>by
 obtain⟨c,r,rfl,hc⟩:=Bn h;have:=si n c (by rw[<-e];simp);rw[ad8 c hc]at this;cases this
theorem Bo{p:UInt8->Bool}{s:Tx}{c:UInt8}(h: ∀b∈s,p b=true)(hc:p c=false):c∉s:=fun m=>by
 have:=h c m;rw[hc]at this;cases this
def lp(b:UInt8):Bool:=bU b||b==45
theorem Bp(b:UInt8)(h:qs b=true):lp b=true:=by
 have:=kZ (p:=fun c=> !qs c||lp c) (by decide+kernel) b;rw[h]at this;simpa using this
theorem J5(b:UInt8)(h:bU b=true):lp b=true:=by unfold lp;rw[h];rfl
mutual
def aL:Nd->Nd
 | .mk k t v a c l=>.mk k t v none 0 (dx l)
def dx:List Nd->List Nd
 |[]=>[]
 |x::r=>aL x::dx r
end
theorem vh(x:Nd):aL x= .mk x.kind x.th x.val none 0 (dx x.kids):=by cases x;rw[aL];rfl
theorem oQ:dx []=[]:=by rw[dx]
theorem tj{x:Nd}{r:List Nd}:dx (x::r)=aL x::dx r:=by rw[dx]
theorem zU: ∀l:List Nd,dx l=l.map aL
 |[]=>oQ
 |x::r=>by rw[tj,zU r];rfl
theorem Dl(l:List Nd):(dx l).length=l.length:=by rw[zU];simp
theorem YH(l r:List Nd):dx (l++r)=dx l++dx r:=by simp only[zU,List.map_append]
theorem YI{x y:Nd}:aL x=aL y<->x.kind=y.kind/\x.th=y.th/\x.val=y.val/\dx x.kids=dx y.kids:=by
 rw[vh,vh];simp
def nA(b:UInt8):Bool:=lp b||(b==58||b==61)
def F0(r:Tx):Prop:= ∀c∈r.head?,nA c=false
theorem F0.nil:F0 []:=fun c h=>by simp at h
theorem F0.cons{c:UInt8}{r:Tx}(h:nA c=false):F0 (c::r):=fun d hd=>by
 simp at hd;subst hd;exact h
theorem U2{af:Int}{k:Nat}(ha:aH af=true)(h:(k:Int)<cE af): ∀b∈cz af k,lp b=true:=by
 have h1: ∀n:Fin 15,(aO n.val).all lp=true:=by decide+kernel
 have h2: ∀n:Fin 32,(bH n.val).all lp=true:=by decide+kernel
 unfold cz cE at*;split
 ·rename_i e;rw[if_pos e]at h;exact anq.1 (h1 ⟨k,by omega⟩)
 ·rename_i e;rw[if_neg e]at h;exact anq.1 (h2 ⟨k,by omega⟩)
theorem aiF{af:Int}{k l:Nat}(hk:(k:Int)<cE af)(hl:(l:Int)<cE af)(h:cz af k=cz af l):k=l:=by
 unfold cz cE at*
 split at h
 ·rename_i e;rw[if_pos e]at hk hl
  have:=aiZ ⟨k,by omega⟩ ⟨l,by omega⟩ h;simpa using this
 ·rename_i e;rw[if_neg e]at hk hl
  have:=aiT ⟨k,by omega⟩ ⟨l,by omega⟩ h;simpa using this
theorem akp{af:Int}{t:Th}(ha:aH af=true)(h:bE af t=true): ∀b∈l7 af t,(lp b||b==58)=true:=by
 rcases yX h with⟨h1,h2,h3⟩|⟨i,k,rfl,hi,hk⟩<;>unfold l7
 ·rw[if_pos h1]
  intro b hb;rw[J5 b (yB h3 b hb)];rfl
 ·rw[if_neg (by simp only;omega)]
  intro b hb;simp only[anu,anw,anE]at hb;rcases hb with(hb|rfl)|hb
  ·rw[Bp b (si _ b hb)];rfl
  ·rfl
  ·rw[U2 ha hk b hb];rfl
theorem M6{af:Int}{t:Th}{v:Int}(ha:aH af=true)(ht:bE af t=true): ∀b∈oP af t v,nA b=true:=by
 intro b hb;unfold oP at hb;simp only[anu,anw]at hb;unfold nA;rcases hb with(hb|rfl)|hb
 ·have:=akp ha ht b hb
  rw[anI]at this;rcases this with e|e
  ·rw[e];rfl
  ·rw[e];simp
 ·rfl
 ·rw[Bp b (si _ b hb)];rfl
def F2(r:Tx):Prop:=F0 r/\ ∀t,r≠32::47::t
def F1(r:Tx):Prop:=F0 r/\r.head?≠some 32
theorem F1.two{r:Tx}(h:F1 r):F2 r:=⟨h.1,fun t e=>h.2 (by rw[e];rfl)⟩
theorem F1.nil:F1 []:=⟨F0.nil,by simp⟩
theorem F1.cons{c:UInt8}{r:Tx}(h:nA c=false)(h2:c≠32):F1 (c::r):=⟨F0.cons h,by simpa using h2⟩
def lY(af:Int)(x:Nd):Tx:=dY (weak true x.kind) (bD af x)
def tf(af:Int)(x:Nd):Tx:=dY (weak false x.kind) (bD af x)
def pV(x:Nd):List Nd:=if x.kind=4 then x.kids else[x]
def qw(x:Nd):List Nd:=if x.kind=5 then x.kids else[x]
theorem Yr{af:Int}{x:Nd}(h:bK af x): ∃z L,pV x=z::L:=by
 unfold pV;split
 ·rename_i e
  rcases qp h.may with⟨h1,_⟩|⟨h1,_⟩|⟨h1,_⟩|⟨h1,h2⟩|⟨h1,_⟩
  ·omega
  ·omega
  ·omega
  ·cases hk:x.kids with
   |nil=>rw[hk]at h2;simp at h2
   |cons z L=>exact⟨z,L,rfl⟩
  ·omega
 ·exact⟨x,[],rfl⟩
theorem afc{af:Int}{x:Nd}(h:bK af x): ∃z L,qw x=z::L:=by
 unfold qw;split
 ·rename_i e
  rcases qp h.may with⟨h1,_⟩|⟨h1,_⟩|⟨h1,_⟩|⟨h1,_⟩|⟨h1,h2⟩
  ·omega
  ·omega
  ·omega
  ·omega
  ·cases hk:x.kids with
   |nil=>rw[hk]at h2;simp at h2
   |cons z L=>exact⟨z,L,rfl⟩
 ·exact⟨x,[],rfl⟩
theorem Yt{af:Int}{x z:Nd}{L:List Nd}(h:pV x=z::L):tf af x=lY af z++jk af true kV L:=by
 unfold pV at h
 split at h
 ·rename_i e
  unfold tf;rw[jZ,e,h];rw[if_neg (by decide),if_neg (by decide),if_neg (by decide),if_pos rfl,pK];rfl
 ·rename_i e
  cases h;rw[lZ,anz];unfold tf lY weak;simp[e]
theorem abF{af:Int}{x z:Nd}{L:List Nd}(h:qw x=z::L):bD af x=tf af z++jk af false kW L:=by
 unfold qw at h
 split at h
 ·rename_i e
  rw[jZ,e,h];rw[if_neg (by decide),if_neg (by decide),if_neg (by decide),if_neg (by decide),pK];rfl
 ·rename_i e
  cases h;rw[lZ,anz];unfold tf weak dY;simp[e]
theorem F2.tail{af:Int}(K:List Nd){q:Tx}(hq:F2 q):F0 (jk af true kV K++q):=by
 cases K with
 |nil=>rw[lZ];exact hq.1
 |cons z K=>rw[ou];simp only[kV,anr];exact F0.cons (by decide)
theorem F1.tail{af:Int}(K:List Nd){q:Tx}(hq:F1 q):F2 (jk af false kW K++q):=by
 cases K with
 |nil=>rw[lZ];exact hq.two
 |cons z K=>rw[ou];simp only[kW,anr];exact⟨F0.cons (by decide),fun t e=>by simp at e⟩
theorem J2{af k v:Int}{t:Th}{n:Nat}(h:dN af k t v n=true)(hk:k≠2):t=eN/\v=0:=by
 unfold dN at h;rw[if_neg hk]at h;simp only[am6,decide_eq_true_eq]at h;exact h.1
theorem adF{af:Int}{x:Nd}(h:bK af x)(hk:x.kind=4\/x.kind=5):2<=x.kids.length:=by
 rcases qp h.may with⟨h1,_⟩|⟨h1,_⟩|⟨h1,_⟩|⟨_,h2⟩|⟨_,h2⟩
 ·omega
 ·omega
 ·omega
 ·exact h2
 ·exact h2
def wH:Tx:=[116,114,117,101]
theorem aki{af:Int}{x:Nd}(h:bK af x):(x.kind=1/\x.kids=[]/\lY af x=wH)\/(x.kind=2/\x.kids=[]/\bE af x.th=true/\lY af x=oP af x.th x.val)\/(x.kind=3/\ ∃k,x.kids=[k]/\lY af x=126::lY af k)\/((x.kind=4\/x.kind=5)/\lY af x=40::(bD af x++[41])):=by
 rcases qp h.may with⟨h1,h2⟩|⟨h1,h2,h3,h4⟩|⟨h1,h2⟩|⟨h1,h2⟩|⟨h1,h2⟩
 ·refine .inl ⟨h1,anx.1 h2,?_⟩
  unfold lY;rw[h1,jZ,h1];rfl
 ·refine .inr (.inl ⟨h1,anx.1 h4,h2,?_⟩)
  unfold lY;rw[h1,jZ,h1];rfl
 ·refine .inr (.inr (.inl ⟨h1,?_⟩))
  obtain⟨k,hk⟩:=List.length_eq_one_iff.1 h2;refine⟨k,hk,?_⟩;unfold lY;rw[h1,jZ af x,h1,hk,if_neg (by decide),if_neg (by decide),if_pos rfl,pK,lZ,anz];rfl
 ·refine .inr (.inr (.inr ⟨.inl h1,?_⟩))
  unfold lY;rw[h1];rfl
 ·refine .inr (.inr (.inr ⟨.inr h1,?_⟩))
  unfold lY;rw[h1];rfl
theorem akU: ∀b∈wH,nA b=true:=by decide
end Go.Proofs.YtkbbgjloifmmbaaGreatDoor
namespace Go.Proofs.YtkbbgjloifmmbaaGreatDoor
open _root_.Go.Proofs.Tryz
open _root_.List renaming dropWhile_cons->amO,drop_append_of_le_length->ank,singleton_append->anl,mem_cons->amY,reverse_append->ann,getElem?_eq_some_iff->ano,reverse_cons->anp,all_eq_true->anq,cons_append->anr,length_cons->ans,mem_append->anu,mem_singleton->anw,length_eq_zero_iff->anx,append_nil->anz,reverse_singleton->anA,drop_eq_nil_of_le->amT,dropWhile_append->anB,takeWhile_cons->anC,append_assoc->anF,take_length->anG,mem_reverse->anH
open _root_.Bool renaming and_eq_true->am6,or_eq_true->anI
open _root_.Go.Lib renaming itoa->anj,decDigits->anm,atoiAll->anv
open _root_.UInt8 renaming le_iff_toNat_le->ant
open _root_.Nat renaming le_refl->amS,lt_of_lt_of_le->anD
open _root_.Int renaming toNat_natCast->anE
open Go.RowKit
theorem lU:rq bX 191:=fun c=>U9 c _ (by decide)
def Te(n:Int):Bool:=decide (-2147483648<=n)&&decide (n<=2147483647)
theorem U0(n:Int)(w:World):Calls prog 257 #[.int .i64 n] w fun e w'=>e= .returned (.string (tx (iN n)))/\w=w':=by
 by_cases h0:n=0
 ·subst h0
  go_in
  go_wp2
  go_ret;exact⟨rfl,rfl⟩
 by_cases h1:n=1
 ·subst h1
  go_in
  go_wp2
  go_ret;exact⟨rfl,rfl⟩
 have z0:(n==0)=false:=by simpa using h0
 have z1:(n==1)=false:=by simpa using h1
 have hf:iN n=[114,119]:=by unfold iN;rw[if_neg h0,if_neg h1]
 rw[hf];clear hf h0 h1;go_in
 go_wp2
 go_ret;exact⟨rfl,rfl⟩
theorem lT:SF az 190:=fun l hl=>yD l hl _ (by decide)
theorem Lm: ∀l:Tx,((l.dropWhile aj).reverse.dropWhile aj).reverse=ah l
 |[]=>by decide
 | c::r=>by
   have ih:=Lm r;rw[sF]at ih⊢
   by_cases hb:aj c=true
   ·rw[amO,if_pos hb,ih,anp,anB]
    cases hx:r.reverse.dropWhile aj with
    |nil=>simp[hb]
    | cons y ys=>
      rw[if_neg (by simp),ann,anA,anl,amO,if_pos hb]
   ·rw[amO,if_neg hb,anp,anB]
    cases hx:r.reverse.dropWhile aj with
    |nil=>simp[hb]
    | cons y ys=>
      rw[if_neg (by simp),ann,anA,anl,amO,if_neg hb]
def MD(w:World)(B:Nat)(a:Option Addr)(n c:Nat)(l:List Tx):Prop:=Own w B 9 1 a n c (l.map fun x=>Value.string (tx x))
theorem MD.kY{w:World}{B n c:Nat}{a:Option Addr}{l:List Tx}(h:MD w B a n c l)(hl:l.length<=1000000000000000000):cP w a l:=⟨Own.row h,hl⟩
def lu(b:UInt8)(s:Tx)(A:List Tx)(k f:Nat)(P:List Tx):Prop:=
 (k<=s.length->f<=k/\P++(aD b (s.drop f)).map ah=A/\b∉(s.take k).drop f)/\(k=s.length+1->P=A)
theorem lu.zero(b:UInt8)(s:Tx):lu b s ((aD b s).map ah) 0 0 []:=⟨fun _=>⟨amS _,by simp,by simp⟩,fun h=>by omega⟩
theorem lu.step{b x:UInt8}{s:Tx}{A P:List Tx}{k f:Nat}(h:lu b s A k f P)(hx:s[k]? =some x)(hne:x≠b):lu b s A (k+1) f P:=by
 obtain⟨hk, -⟩:=ano.1 hx;obtain⟨h1,h2,h3⟩:=h.1 (by omega);refine⟨fun _=>⟨by omega,h2,?_⟩,fun e=>by omega⟩;rw[List.take_add_one,hx,ank (by simp;omega)];simp only[Option.toList_some,anu,anw,not_or];exact⟨h3,fun e=>hne e.symm⟩
theorem aa1{s:Tx}{k f:Nat}(h1:f<=k)(h2:k<=s.length):s.drop f=(s.take k).drop f++s.drop k:=by
 conv=>lhs;rw[<-List.take_append_drop k s]
 rw[ank (by simp;omega)]
theorem lu.cut{b:UInt8}{s:Tx}{A P:List Tx}{k f:Nat}(h:lu b s A k f P)(hx:s[k]? =some b):lu b s A (k+1) (k+1) (P++[ah ((s.take k).drop f)]):=by
 obtain⟨hk,he⟩:=ano.1 hx;obtain⟨h1,h2,h3⟩:=h.1 (by omega);refine⟨fun _=>⟨amS _,?_,by rw[amT (by simp;omega)];simp⟩,fun e=>by omega⟩;rw[aa1 h1 (by omega),List.drop_eq_getElem_cons hk,he,wE b _ _ h3]at h2;rw[<-h2];simp
theorem lu.fin{b:UInt8}{s:Tx}{A P:List Tx}{k f:Nat}(h:lu b s A k f P)(hk:k=s.length):lu b s A (k+1) (k+1) (P++[ah ((s.take k).drop f)]):=by
 subst hk;obtain⟨h1,h2,h3⟩:=h.1 (amS _);refine⟨fun e=>by omega,fun _=>?_⟩;rw[anG]at h3⊢;rw[wF b _ h3]at h2;rw[<-h2];simp
theorem lu.le{b:UInt8}{s:Tx}{A P:List Tx}{k f:Nat}(h:lu b s A k f P)(hk:k<=s.length):f<=k:=(h.1 hk).1
theorem lu.all{b:UInt8}{s:Tx}{A P:List Tx}{k f:Nat}(h:lu b s A k f P)(hk:k=s.length+1):P=A:=h.2 hk
def wg(s:Tx):Option Int:=
 if s=[]\/11<s.length then none
 else if s.head?=some 45 then(if s.drop 1=[]\/(s.drop 1).head?=some 48\/(s.drop 1).all aR=false then none else some (-(jn 0 (s.drop 1):Int)))
 else if(s.head?=some 48/\1<s.length)\/s.all aR=false then none else some (jn 0 s:Int)
def X6(s:Tx)(v:Int)(ok:Bool):Prop:=(wg s=none/\v=0/\ok=false)\/(wg s=some v/\ok=Te v)
def C9(s:Tx)(w:World)(e:Ending)(w':World):Prop:=(∃v ok,e= .returned (.tuple #[.int .i64 v,.bool ok])/\X6 s v ok)/\w=w'
theorem C9.no{s:Tx}(w:World)(h:wg s=none):C9 s w (.returned (.tuple #[.int .i64 0,.bool false])) w:=⟨⟨0,false,rfl,.inl ⟨h,rfl,rfl⟩⟩,rfl⟩
theorem C9.yes{s:Tx}(w:World){v:Int}(h:wg s=some v):C9 s w (.returned (.tuple #[.int .i64 v,.bool (Te v)])) w:=⟨⟨v,_,rfl,.inr ⟨h,rfl⟩⟩,rfl⟩
theorem Wo(x:UInt8): ∀(l:Tx) (a:Nat),jn a (l++[x])=10*jn a l+(x.toNat-48)
 |[],a=>rfl
 |c::r,a=>Wo x r _
def rA(s:Tx)(i k V:Nat):Prop:=i<=k/\V=jn 0 ((s.take k).drop i)/\((s.take k).drop i).all aR=true/\V<10 ^ (k-i)
theorem aaZ{x:UInt8}(h:aR x=true):48<=x.toNat/\x.toNat<=57:=by
 unfold aR at h;simp only[am6,decide_eq_true_eq,ant]at h;exact h
theorem rA.zero(s:Tx)(i:Nat):rA s i i 0:=by
 have e:(s.take i).drop i=[]:=amT (by simp;omega);exact⟨amS _,by rw[e];rfl,by rw[e];rfl,by simp⟩
theorem rA.step{s:Tx}{i k V:Nat}{x:UInt8}(h:rA s i k V)(hx:s[k]? =some x)(hd:aR x=true):rA s i (k+1) (10*V+(x.toNat-48)):=by
 obtain⟨h1,h2,h3,h4⟩:=h;obtain⟨hk, -⟩:=ano.1 hx
 have e:(s.take (k+1)).drop i=(s.take k).drop i++[x]:=by
  rw[List.take_add_one,hx,ank (by simp;omega)];rfl
 have hb:=(aaZ hd).2;refine⟨by omega,by rw[e,Wo,<-h2],by rw[e,List.all_append,h3];simp[hd],?_⟩;rw[show k+1-i=(k-i)+1 by omega,Nat.pow_succ];omega
theorem rA.small{s:Tx}{i k V:Nat}(h:rA s i k V)(hk:k<=11):V<=100000000000:=by
 have h1:10 ^ (k-i)<=10 ^ 11:=Nat.pow_le_pow_right (by omega) (by omega);have h2:=h.2.2.2;have h3:(10:Nat) ^ 11=100000000000:=by decide
 omega
theorem rA.done{s:Tx}{i k V:Nat}(h:rA s i k V)(hk:k=s.length):V=jn 0 (s.drop i)/\(s.drop i).all aR=true:=by
 subst hk;have:=h.2;rw[anG]at this;exact⟨this.1,this.2.1⟩
end Go.Proofs.YtkbbgjloifmmbaaGreatDoor
namespace Go.Proofs.YtkbbgjloifmmbaaGreatDoor
open _root_.Go.Proofs.Tryz
open _root_.List renaming dropWhile_cons->amO,drop_append_of_le_length->ank,singleton_append->anl,mem_cons->amY,reverse_append->ann,getElem?_eq_some_iff->ano,reverse_cons->anp,all_eq_true->anq,cons_append->anr,length_cons->ans,mem_append->anu,mem_singleton->anw,length_eq_zero_iff->anx,append_nil->anz,reverse_singleton->anA,drop_eq_nil_of_le->amT,dropWhile_append->anB,takeWhile_cons->anC,append_assoc->anF,take_length->anG,mem_reverse->anH
open _root_.Bool renaming and_eq_true->am6,or_eq_true->anI
open _root_.Go.Lib renaming itoa->anj,decDigits->anm,atoiAll->anv
open _root_.UInt8 renaming le_iff_toNat_le->ant
open _root_.Nat renaming le_refl->amS,lt_of_lt_of_le->anD
open _root_.Int renaming toNat_natCast->anE
theorem Am(p:UInt8->Bool)(c:UInt8)(hc:p c=false)(ys:Tx): ∀xs:Tx,(xs++c::ys).dropWhile p=xs.dropWhile p++c::ys
 |[]=>by simp[hc]
 | x::xs=>by
   rw[anr,amO,amO]
   by_cases hx:p x=true
   ·rw[if_pos hx,if_pos hx,Am p c hc ys xs]
   ·rw[if_neg hx,if_neg hx];rfl
theorem O6(p:UInt8->Bool)(c:UInt8)(hc:p c=false): ∀xs:Tx,c∈xs->c∈xs.dropWhile p
 |[],h=>h
 | x::xs,h=>by
   rw[amO]
   by_cases hx:p x=true
   ·rw[if_pos hx]
    rcases amY.1 h with e|e
    ·subst e;rw[hc]at hx;cases hx
    ·exact O6 p c hc xs e
   ·rw[if_neg hx];exact h
theorem O7(p:UInt8->Bool)(c:UInt8)(xs:Tx)(h:c∈xs.dropWhile p):c∈xs:=(List.dropWhile_suffix p).subset h
theorem aa2(p:UInt8->Bool)(xs:Tx):(xs.dropWhile p).dropWhile p=xs.dropWhile p:=xL (fun c hc=>js hc)
theorem akN(l:Tx):ah (l.dropWhile aj)=ah l:=by
 rw[<-Lm,<-Lm,aa2]
def dz(l:Tx):Tx:=(l.reverse.dropWhile aj).reverse
theorem pL(l:Tx):ah l=(dz l).dropWhile aj:=sF l
theorem BO(A B:Tx)(c:UInt8)(hc:aj c=false):ah (A++c::B)=A.dropWhile aj++c::dz B:=by
 rw[sF,ann,anp,anF,anl,Am _ _ hc,ann,anp,List.reverse_reverse,anF,anl,Am _ _ hc];rfl
theorem wI(c:UInt8)(B:Tx): ∀A:Tx,c∉A->(A++c::B).takeWhile (· != c)=A/\(A++c::B).dropWhile (· != c)=c::B
 |[],_=>by simp
 | x::A,h=>by
   simp only[amY,not_or]at h;obtain⟨h1,h2⟩:=wI c B A h.2;rw[anr,anC,amO,if_pos (by simpa using Ne.symm h.1),if_pos (by simpa using Ne.symm h.1),h1,h2];exact⟨rfl,rfl⟩
theorem Fy{c:UInt8}{l:Tx}(h:c∈ah l):c∈l:=by
 rw[sF]at h;have:=O7 _ _ _ h;rw[anH]at this;exact anH.1 (O7 _ _ _ this)
theorem DI(c:UInt8): ∀l:Tx,c∈l-> ∃A B,l=A++c::B/\c∉A
 |[],h=>by simp at h
 | x::l,h=>by
   by_cases hx:x=c
   ·exact⟨[],l,by rw[hx];rfl,by simp⟩
   ·have hm:c∈l:=by rcases amY.1 h with e|e;exact absurd e.symm hx;exact e
    obtain⟨A,B,rfl,hA⟩:=DI c l hm;exact⟨x::A,B,rfl,by simp only[amY,not_or];exact⟨Ne.symm hx,hA⟩⟩
theorem tV{l:Tx}{c:UInt8}:l.getLast?=some c<-> ∃X,l=X++[c]:=by
 constructor
 ·intro h
  have hne:l≠[]:=by intro e;subst e;simp at h
  refine⟨l.dropLast,?_⟩;rw[List.getLast?_eq_some_getLast hne]at h;simp at h;rw[<-h];exact(List.dropLast_concat_getLast hne).symm
 ·rintro⟨X,rfl⟩;simp
theorem y8{p:UInt8->Bool}: ∀{l:Tx},(∀x∈l,p x=true)->l.takeWhile p=l/\l.dropWhile p=[]
 |[],_=>⟨rfl,rfl⟩
 | c::r,h=>by
   obtain⟨a,b⟩:=y8 (l:=r) (fun x hx=>h x (by simp[hx]));rw[anC,amO,if_pos (h c (by simp)),if_pos (h c (by simp)),a,b];exact⟨rfl,rfl⟩
theorem rM{p:UInt8->Bool}: ∀{l:Tx},l.dropWhile p=[]-> ∀x∈l,p x=true
 |[],_,x,hx=>by cases hx
 | c::r,h,x,hx=>by
   rw[amO]at h
   split at h
   ·rename_i hc
    rcases amY.1 hx with rfl|hx
    ·exact hc
    ·exact rM h x hx
   ·cases h
theorem Wp: ∀(l:Tx) (a:Nat),jn a l=l.foldl (fun n b=>10*n+(b.toNat-48)) a
 |[],a=>rfl
 |c::r,a=>Wp r _
theorem FD(u:Nat):jn 0 (anm u)=u:=by rw[Wp];exact ak8 u
theorem ala(n:Int):wL (anj n)=n:=by
 unfold anj;split
 ·show(if(45:UInt8)=45 then -((jn 0 (anm n.natAbs):Nat):Int)else((jn 0 (45::anm n.natAbs):Nat):Int))=n
  rw[if_pos rfl,FD];omega
 ·have h1:=FD n.toNat
  have h2:=xK n.toNat;have h3:=xJ n.toNat;generalize anm n.toNat=d at*;cases d with
  |nil=>exact absurd rfl h2
  | cons c r=>
    have:=h3 c (by simp);show(if c=45 then -((jn 0 r:Nat):Int)else((jn 0 (c::r):Nat):Int))=n;rw[if_neg (by intro e;subst e;simp at this),h1];omega
def cD(s:Tx):Option Int:=if anj (wL s)=s/\aY (wL s)=true then some (wL s)else none
theorem mC{s:Tx}{v:Int}:cD s=some v<->s=anj v/\aY v=true:=by
 unfold cD
 constructor
 ·intro h
  split at h
  ·rename_i hh;cases h;exact⟨hh.1.symm,hh.2⟩
  ·cases h
 ·rintro⟨rfl,h⟩
  rw[ala,if_pos ⟨rfl,h⟩]
theorem ae8{s:Tx}{v:Int}(h:s=anj v->True)(hv: ∀u,cD s=some u->u=v):cD s=if anj v=s/\aY v=true then some v else none:=by
 by_cases hh:anj v=s/\aY v=true
 ·rw[if_pos hh];exact mC.2 ⟨hh.1.symm,hh.2⟩
 ·rw[if_neg hh]
  cases hn:cD s with
  |none=>rfl
  |some u=>exact absurd (by have:=hv u hn;subst this;have:=mC.1 hn;exact⟨this.1.symm,this.2⟩) hh
theorem Wq: ∀(l:Tx) (a:Nat),a<=jn a l
 |[],a=>amS _
 |c::r,a=>by have:=Wq r (10*a+(c.toNat-48));unfold jn;omega
theorem TU: ∀(l:Tx) (a:Nat),(∀b∈l,48<=b.toNat/\b.toNat<=57)->jn a l<18446744073709551616->Lib.parseUint10 a l= .ok (jn a l)
 |[],a,_,_=>rfl
 | c::r,a,hd,h=>by
   have h1:=hd c (by simp);have h2:=Wq r (10*a+(c.toNat-48));unfold jn at h⊢;have h3:=TU r _ (fun b hb=>hd b (by simp[hb])) h;unfold Lib.parseUint10;rw[if_pos h1,if_neg (by omega),if_neg (by omega),show a*10+(c.toNat-48)=10*a+(c.toNat-48) by omega,h3]
theorem M5{v:Int}(h:aY v=true):anv (anj v)= .ok v:=by
 unfold aY at h;simp only[am6,decide_eq_true_eq]at h
 have key: ∀u:Nat,u<18446744073709551616->Lib.parseMag (anm u)= .ok u:=fun u hu=>by
  unfold Lib.parseMag;rw[if_neg (xK u),TU _ _ (xJ u) (by rw[FD];exact hu),FD]
 unfold anj;split
 ·have:=key v.natAbs (by omega)
  unfold anv;simp only[show(45:UInt8).toNat=45 from rfl,or_true,if_true,this];rw[if_neg (by simp),if_neg (by simp;omega)];simp;omega
 ·have h1:=key v.toNat (by omega)
  have h2:=xK v.toNat;have h3:=xJ v.toNat;generalize anm v.toNat=d at*;cases d with
  |nil=>exact absurd rfl h2
  | cons c r=>
    have:=h3 c (by simp);unfold anv;simp only[show ¬(c.toNat=43\/c.toNat=45) by omega,if_false,h1];rw[if_neg (by omega),if_neg (by omega),if_neg (by omega)];simp;omega
theorem Ka{s:Tx}{v:Int}(h:anv s= .ok v):cD s=if anj v=s/\aY v=true then some v else none:=
 ae8 (fun _=>trivial) fun u hu=>by
  obtain⟨rfl,h2⟩:=mC.1 hu;rw[M5 h2]at h;cases h;rfl
theorem Tf{s:Tx}(h: ∀v,anv s≠ .ok v):cD s=none:=by
 cases hn:cD s with
 |none=>rfl
 |some u=>obtain⟨rfl,h2⟩:=mC.1 hn;exact absurd (M5 h2) (h u)
def uz(a:Nat):Tx->Nat
 |[]=>a
 |c::r=>uz (if aR c then 10*a+(c.toNat-48)else a) r
theorem O1{c:UInt8}:aR c=true<->48<=c.toNat/\c.toNat<=57:=by
 unfold aR;rw[am6,decide_eq_true_eq,decide_eq_true_eq,ant,ant];rfl
theorem LI: ∀(k:Nat) (l:Tx) (a:Nat),l.length<=k->uz a l<(a+1)*10 ^ k
 | k,[],a,_=>by
   unfold uz;have:1<=10 ^ k:=Nat.one_le_pow _ _ (by omega)
   calc a<a+1:=by omega
    _<=(a+1)*10 ^ k:=Nat.le_mul_of_pos_right _ this
 |0,_::_,_,h=>absurd h (by simp)
 | k+1,c::r,a,h=>by
   unfold uz;simp only[ans]at h;split
   ·rename_i hd
    have hd:=O1.1 hd;have:=LI k r (10*a+(c.toNat-48)) (by omega);refine anD this ?_;rw[Nat.pow_succ,Nat.mul_comm (10 ^ k) 10,<-Nat.mul_assoc];exact Nat.mul_le_mul_right _ (by omega)
   ·have:=LI k r a (by omega)
    refine anD this ?_;rw[Nat.pow_succ,<-Nat.mul_assoc];omega
theorem O3{l:Tx}(h: ∀b∈l,48<=b.toNat/\b.toNat<=57):l.all aR=true:=anq.2 fun b hb=>O1.2 (h b hb)
def dQ(af:Int)(s:Tx):Option Nat:=(List.range (cE af).toNat).find? fun n=>cz af n==s
def bS:Tx->Nat
 |[]=>0
 | c::r=>
   if cG c then 1+(r.takeWhile bU).length
   else if aR c||(c==45&&(r.head?.any aR))then 1+(r.takeWhile aR).length
   else if(c==47&&r.head?==some 92)||(c==92&&r.head?==some 47)then 2 else 1
abbrev Tok:=Tx × Nat
def gW:Nat->Nat->Tx->List Tok
 |0,_,_=>[]
 |_+1,_,[]=>[]
 |n+1,p,c::r=>if aj c then gW n (p+1) r else((c::r).take (bS (c::r)),p)::gW n (p+bS (c::r)) ((c::r).drop (bS (c::r)))
def lex(p:Nat)(s:Tx):List Tok:=gW s.length p s
theorem ju(c:UInt8)(r:Tx):bS (c::r)=if cG c then 1+(r.takeWhile bU).length
 else if aR c||(c==45&&(r.head?.any aR))then 1+(r.takeWhile aR).length
 else if(c==47&&r.head?==some 92)||(c==92&&r.head?==some 47)then 2 else 1:=rfl
theorem mB(c:UInt8)(r:Tx):1<=bS (c::r):=by
 rw[ju];split
 ·omega
 ·split
  ·omega
  ·split<;>omega
theorem oq{α:Type}(p:α->Bool)(l:List α):(l.takeWhile p).length<=l.length:=by
 have:=congrArg List.length (List.takeWhile_append_dropWhile (p:=p) (l:=l));rw[List.length_append]at this;omega
theorem tZ(c:UInt8)(r:Tx):bS (c::r)<=r.length+1:=by
 rw[ju];have h1:=oq bU r;have h2:=oq aR r;split
 ·omega
 ·split
  ·omega
  ·split
   ·rename_i h
    cases r with
    |nil=>simp at h
    |cons d r=>simp
   ·omega
theorem JH: ∀(n m p:Nat) (s:Tx),s.length<=n->s.length<=m->gW n p s=gW m p s
 |0,0,_,_,_,_=>rfl
 |0,m+1,p,[],_,_=>rfl
 |0,_+1,_,_::_,h,_=>absurd h (by simp)
 |n+1,0,p,[],_,_=>rfl
 |_+1,0,_,_::_,_,h=>absurd h (by simp)
 |n+1,m+1,p,[],_,_=>rfl
 | n+1,m+1,p,c::r,h1,h2=>by
   have hp:=mB c r;simp only[ans]at h1 h2;show(if aj c then gW n (p+1) r else _::gW n _ _)=(if aj c then gW m (p+1) r else _::gW m _ _);rw[JH n m (p+1) r (by omega) (by omega),JH n m (p+bS (c::r)) ((c::r).drop (bS (c::r))) (by simp;omega) (by simp;omega)]
theorem lex_nil(p:Nat):lex p []=[]:=rfl
theorem yx(p:Nat){c:UInt8}(r:Tx)(h:aj c=true):lex p (c::r)=lex (p+1) r:=by
 show(if aj c then gW r.length (p+1) r else _)=_;rw[if_pos h];rfl
theorem Bh(p:Nat){c:UInt8}(r:Tx)(h:aj c=false):lex p (c::r)=((c::r).take (bS (c::r)),p)::lex (p+bS (c::r)) ((c::r).drop (bS (c::r))):=by
 show(if aj c then _ else _::gW r.length _ _)=_;rw[if_neg (by rw[h];decide)];have hp:=mB c r
 congr 1
 exact JH _ _ _ _ (by simp;omega) (by simp)
theorem Bg: ∀(n p:Nat) (s:Tx),s.length<=n->(lex p s).length<=s.length
 |_,p,[],_=>by rw[lex_nil];simp
 |0,_,_::_,h=>absurd h (by simp)
 | n+1,p,c::r,h=>by
   simp only[ans]at h;cases hb:aj c with
   |true=>rw[yx p r hb];have:=Bg n (p+1) r (by omega);simp;omega
   | false=>
     rw[Bh p r hb];have hp:=mB c r;have:=Bg n (p+bS (c::r)) ((c::r).drop (bS (c::r))) (by simp;omega);simp only[ans,List.length_drop]at this ⊢; omega
abbrev PR(α:Type):=Except (List Tok) (α × List Tok)
def aA:List Tok->Tx
 |[]=>[]
 |t::_=>t.1
def bt(s:Tx):List Tok->Except (List Tok) (List Tok)
 |[]=>.error []
 |t::r=>if t.1=s then .ok r else .error (t::r)
def jf(a b:Int):List Tok->PR Int
 |[]=>.error []
 | t::r=>match cD t.1 with
   |some n=>if a<=n/\n<=b then .ok (n,r)else .error (t::r)
   |none=>.error (t::r)
def jg:List Tok->PR Tx
 |[]=>.error []
 |t::r=>if az t.1 then .ok (t.1,r)else .error (t::r)
def qu:Tx->Bool
 |[]=>false
 |c::_=>aR c||c==45
def gv(af:Int)(l:List Tok):PR Th:=
 if aA l=[91]then
  match jg l.tail with
  | .error e=>.error e
  | .ok (x,r)=>match bt [93] r with
    | .error e=>.error e
    | .ok r=>.ok (⟨-1,0,x⟩,r)
 else if qu (aA l)then
  match jf 0 15 l with
  | .error e=>.error e
  | .ok (n,r)=>match bt [58] r with
    | .error e=>.error e
    | .ok r=>match dQ af (aA r)with
      |none=>.error r
      |some k=>.ok (⟨n,k,[]⟩,r.tail)
 else match jg l with
  | .error e=>.error e
  | .ok (x,r)=>.ok (⟨-1,0,x⟩,r)
def uc(k:Int)(l:List Nd):Nd:=.mk k eN 0 none 0 l
def jN(af:Int)(l:List Tok):PR Nd:=
 match gv af l with
 | .error e=>.error e
 | .ok (t,r)=>match bt [61] r with
   | .error e=>.error e
   | .ok r=>match jf (-2147483648) 2147483647 r with
     | .error e=>.error e
     | .ok (v,r)=>.ok (.mk 2 t v none 0 [],r)
def pF(k:Int):List Nd->Nd
 |[x]=>x
 |l=>uc k l
def gN(k:Int)(sign:Tx)(one:List Tok->PR Nd):Nat->List Nd->List Tok->PR Nd
 |0,acc,l=>.ok (pF k acc,l)
 | n +1,acc,l=>if aA l=sign then
     match one l.tail with
     | .error e=>.error e
     | .ok (x,r)=>gN k sign one n (acc++[x]) r
   else .ok (pF k acc,l)
def fR(k:Int)(sign:Tx)(one:List Tok->PR Nd)(l:List Tok):PR Nd:=
 match one l with
 | .error e=>.error e
 | .ok (x,r)=>gN k sign one r.length [x] r
def gI(one:List Tok->PR Nd)(l:List Tok):PR Nd:=fR 5 [92,47] (fR 4 [47,92] one) l
def bg(af:Int):Nat->List Tok->PR Nd
 |0,l=>.error l
 | n+1,l=>
   if aA l=[126]then
    match bg af n l.tail with
    | .error e=>.error e
    | .ok (x,r)=>.ok (uc 3 [x],r)
   else if aA l=[40]then
    match gI (bg af n) l.tail with
    | .error e=>.error e
    | .ok (x,r)=>match bt [41] r with
      | .error e=>.error e
      | .ok r=>.ok (x,r)
   else if aA l=[116,114,117,101]/\aA l.tail≠[61]then .ok (uc 1 [],l.tail)
   else jN af l
def kf(l:List Tok):PR Int:=
 if aA l=[102,111,114,97,108,108]then .ok (3,l.tail)
 else if aA l=[126]then
  match bt [101,120,105,115,116,115] l.tail with
  | .error e=>.error e
  | .ok r=>.ok (2,r)
 else match bt [101,120,105,115,116,115] l with
  | .error e=>.error e
  | .ok r=>.ok (1,r)
def ep(af:Int)(l:List Tok):Except (List Tok) (Int × Nd):=
 match kf l with
 | .error e=>.error e
 | .ok (q,l)=>match bt [40] l with
   | .error e=>.error e
   | .ok l=>match gI (bg af (l.length+1)) l with
     | .error e=>.error e
     | .ok (x,l)=>match bt [41] l with
       | .error e=>.error e
       | .ok l=>if l=[]then .ok (q,x)else .error l
def cM(af:Int)(s:Tx):Except (Int × Nat) (Int × Nd):=
 if aH af=false then .error (5,0)
 else if 262144<s.length then .error (2,0)
 else match ep af (lex 0 s)with
  | .error e=>.error (80,(e.head?.map (·.2)).getD s.length)
  | .ok (q,x)=>if bF af q x=0 then .ok (q,x)else .error (bF af q x,0)
theorem Zi{s:Tx}(h:bu s):(124:UInt8)∉s/\(10:UInt8)∉s/\(59:UInt8)∉s:=
 ⟨Bo h (by decide),Bo h (by decide),Bo h (by decide)⟩
theorem Nh(s:Tx)(h:bu s):(124:UInt8)∉s++[32]:=by
 intro m;rcases anu.1 m with m|m
 ·exact(Zi h).1 m
 ·simp at m
end Go.Proofs.YtkbbgjloifmmbaaGreatDoor
