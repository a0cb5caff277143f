/- What ReadBackP leans on, part 23. -/
import Derived.Test.YtkbbgjloifmmbaaGreatDoorRb22
set_option linter.unusedVariables false
namespace Go.Proofs.YtkbbgjloifmmbaaGreatDoor
open _root_.List renaming dropWhile_cons_of_neg->ao0,dropWhile_cons_of_pos->aoG,mem_append->anu,mem_cons->amY,append_assoc->anF,dropWhile_append_of_pos->aoD,cons_append->anr,takeWhile_cons_of_pos->aoF,mem_singleton->anw,dropWhile_suffix->aoI,nil_append->anJ,takeWhile_append_of_pos->ao1,singleton_append->anl,tail_cons->anS,getElem?_eq_none->an8,mem_of_getLast?->amV,getLast?_concat->ao2,drop_one->anU,all_eq_true->anq,append_nil->anz
open _root_.Nat renaming le_refl->amS
open _root_.Go.Lib renaming itoa->anj
open _root_.Bool renaming and_eq_true->am6,or_eq_true->anI
theorem D0(s:Tx)(l:List Tx):aA (cq (s::l))=s:=rfl
theorem ab1(r:Tx):nS (kV++r)=some [47,92]:=by unfold nS;rw[Sc];rfl
theorem Qo(r:Tx):nS (kW++r)=some [92,47]:=by unfold nS;rw[Sd];rfl
theorem WZ(r:Tx):G0 (kV++r):=⟨F0.cons (by decide),by rw[ab1];decide⟩
theorem Xa(r:Tx):G2 (kW++r):=⟨⟨F0.cons (by decide),by rw[Qo];decide⟩,by rw[Qo];decide⟩
theorem Vo{af k:Int}{sign sep:Tx}{one:List Tok->PR Nd}{T:Nd->Tx}{R:List Nd->Tx}{G:Tx->Prop}{N:Nat}(H: ∀l,pQ af l (one l))(hs:sign≠[])(hsep: ∀r,av (sep++r)=sign::av r)
 (xV:R []=[]) (AB: ∀x K,R (x::K)=sep++(T x++R K)) (hG: ∀x K r,G (R (x::K)++r)) (z:Nd) (K:List Nd) (r:Tx)
 (h1: ∀x∈z::K,∀r,(av (T x++r)).length<N->G r->one (cq (av (T x++r)))= .ok (aL x,cq (av r))) (hg:G r) (hr:nS r≠some sign) (hN:(av (T z++R K++r)).length<N):
 fR k sign one (cq (av (T z++R K++r)))= .ok (pF k (dx (z::K)),cq (av r)):=by
 unfold fR;rw[anF]at hN⊢
 have e:=h1 z (by simp) (R K++r) hN (by
  cases K with
  |nil=>rw[xV];exact hg
  |cons y K=>exact hG y K r)
 have hl:=RZ H e;rw[e];show gN k sign one (cq (av (R K++r))).length [aL z] (cq (av (R K++r)))=_;rw[Vl (N:=N) H hs hsep xV AB hG K _ _ r (fun y hy=>h1 y (by simp[hy])) hg hr (by omega) (by simp[cq]),tj];rfl
theorem Ts(k:Int)(x:Nd):pF k (dx [x])=aL x:=by rw[tj,oQ];rfl
theorem Tp{af k:Int}{x:Nd}(h:bK af x)(hk:x.kind=k)(h4:k=4\/k=5):pF k (dx x.kids)=aL x:=by
 have h2:=adF h (by omega);obtain⟨a,b⟩:=J2 h.may (by omega);rw[vh,a,b,hk];have hl:2<=(dx x.kids).length:=by rw[Dl];exact h2
 match e:dx x.kids,hl with
 |y::z::r,_=>rfl
theorem YL{af:Int}{x:Nd}(h:bK af x):pF 4 (dx (pV x))=aL x:=by
 unfold pV;split
 ·rename_i e;exact Tp h e (.inl rfl)
 ·exact Ts _ _
theorem YM{af:Int}{x:Nd}(h:bK af x):pF 5 (dx (qw x))=aL x:=by
 unfold qw;split
 ·rename_i e;exact Tp h e (.inr rfl)
 ·exact Ts _ _
theorem Gz{af:Int}{x:Nd}(hx:bK af x)(hk: ∀z∈pV x,uY af z):wP af x:=by
 intro n r hn hr;obtain⟨z,L,e⟩:=Yr hx;rw[Yt e]at hn⊢;rw[<-YL hx,e]
 exact Vo (T:=lY af) (R:=jk af true kV) (G:=G0) (N:=n) (we af n) (by decide) Sc lZ (fun x K=>ou) (fun x K r=>by rw[ou,anF];exact WZ _) z L r
  (fun y hy r hN hr=>hk y (by rw[e];exact hy) n r hN hr) hr.1 hr.2 hn
theorem Ik{af:Int}{x:Nd}(hx:bK af x)(hk: ∀z∈qw x,wP af z):zj af x:=by
 intro n r hn hr;obtain⟨z,L,e⟩:=afc hx;rw[abF e]at hn⊢;rw[<-YM hx,e]
 exact Vo (T:=tf af) (R:=jk af false kW) (G:=G2) (N:=n) (Ff (.inl rfl) (we af n)) (by decide) Sd lZ (fun x K=>ou) (fun x K r=>by rw[ou,anF];exact Xa _) z L r
  (fun y hy r hN hr=>hk y (by rw[e];exact hy) n r hN hr) hr.1 hr.2 hn
theorem aeb{r:Tx}(h:F0 r):av (wH++r)=wH::av r:=by
 rw[Sg akU h];rfl
theorem ae4{af:Int}{n:Nat}{s:Tx}{m:List Tx}(h1:s≠[126])(h2:s≠[40])(h3:s=wH->m.head?=some [61]):bg af (n+1) (cq (s::m))=jN af (cq (s::m)):=by
 unfold bg;rw[D0,if_neg h1,if_neg h2,if_neg];rintro⟨a,b⟩;have:=h3 a;cases m with
 |nil=>cases this
 |cons u m=>exact b (show u=[61] by simpa using this)
theorem Le{af:Int}{x:Nd}(ha:aH af=true)(hx:bK af x)(h3: ∀k∈x.kids,x.kind=3->uY af k)(h4:x.kind=4\/x.kind=5->zj af x):uY af x:=by
 intro n r hn hr;cases n with
 |zero=>omega
 |succ n=>
 rcases aki hx with⟨k1,n1,e1⟩|⟨k1,n1,t1,e1⟩|⟨k1,u,n1,e1⟩|⟨k1,e1⟩
 ·obtain⟨a,b⟩:=J2 hx.may (by omega)
  rw[e1,aeb hr.1];unfold bg;rw[D0,if_neg (by decide),if_neg (by decide),if_pos ⟨rfl,by rw[Fs,Qq];exact PU hr.2 (by decide)⟩,vh,a,b,k1,n1,oQ];rfl
 ·have hv:aY x.val=true:=by
   rcases qp hx.may with⟨a,_⟩|⟨_,_,a,_⟩|⟨a,_⟩|⟨a,_⟩|⟨a,_⟩
   ·omega
   ·exact a
   ·omega
   ·omega
   ·omega
  rw[e1,Sg (M6 ha t1) hr.1,aec t1,anF];show bg af (n+1) (cq (sE af x.th++[61]::anj x.val::av r))=_;obtain⟨s,m,f1,f2,f3,f4⟩:=akG (af:=af) (anj x.val::av r) t1;have:=Yz (af:=af) (av r) t1 hv;rw[f1]at this⊢;rw[ae4 f2 f3 f4,this,vh,k1,n1,oQ]
 ·obtain⟨a,b⟩:=J2 hx.may (by omega)
  rw[e1,anr,sj _ (by decide)];unfold bg;rw[D0,if_pos rfl,Fs,h3 u (by rw[n1];simp) k1 n r (by rw[e1,anr,sj _ (by decide)]at hn;simpa using hn) hr,vh x,a,b,k1,n1,tj,oQ];rfl
 ·rw[e1,anr,sj _ (by decide),anF]
  unfold bg;rw[D0,if_neg (by decide),if_pos rfl,Fs,anl];rw[h4 k1 n (41::r) (by rw[e1,anr,sj _ (by decide),anF]at hn;simpa using hn) (G1.sign r (by decide) (by decide)),sj _ (by decide)]
  dsimp only
  rw[Ft]
theorem akn{af:Int}(ha:aH af=true): ∀{x:Nd},bK af x->uY af x/\wP af x/\zj af x:=by
 intro x
 induction x using Nd.ind with
 | h x ih=>
   intro hx;have k1: ∀z∈x.kids,uY af z:=fun z hz=>(ih z hz (hx.dm z hz)).1
   have k2: ∀z∈x.kids,wP af z:=fun z hz=>(ih z hz (hx.dm z hz)).2.1
   by_cases h5:x.kind=5
   ·have f:zj af x:=Ik hx (by unfold qw;rw[if_pos h5];exact k2)
    have t:uY af x:=Le ha hx (fun k hk _=>k1 k hk) (fun _=>f);refine⟨t,Gz hx ?_,f⟩;unfold pV;rw[if_neg (by omega)];intro z hz;rcases anw.1 hz with rfl;exact t
   ·by_cases h4:x.kind=4
    ·have a:wP af x:=Gz hx (by unfold pV;rw[if_pos h4];exact k1)
     have f:zj af x:=Ik hx (by
      unfold qw;rw[if_neg h5];intro z hz;rcases anw.1 hz with rfl;exact a)
     exact⟨Le ha hx (fun k hk _=>k1 k hk) (fun _=>f),a,f⟩
    ·have t:uY af x:=Le ha hx (fun k hk _=>k1 k hk) (fun h=>by omega)
     have a:wP af x:=Gz hx (by
      unfold pV;rw[if_neg h4];intro z hz;rcases anw.1 hz with rfl;exact t)
     exact⟨t,a,Ik hx (by
      unfold qw;rw[if_neg h5];intro z hz;rcases anw.1 hz with rfl;exact a)⟩
mutual
theorem WA(af:Int): ∀(x:Nd) (met deep:Nat),dA af (aL x) met deep=dA af x met deep
 | .mk k t v a c l,met,deep=>by
   rw[aL,dA,dA,Dl,Wx af l]
theorem Wx(af:Int): ∀(l:List Nd) (met deep:Nat),gP af (dx l) met deep=gP af l met deep
 |[],met,deep=>by rw[dx]
 |x::r,met,deep=>by rw[dx,gP,gP,WA af x,Wx af r]
end
theorem Hj(af q:Int)(x:Nd):bF af q (aL x)=bF af q x:=by unfold bF;rw[WA]
theorem ab0{q:Int}(h:1<=q/\q<=3)(r:Tx): ∃l,av (iQ q++r)=l++[40]::av r/\ ∀m,kf (cq (l++m))= .ok (q,cq m):=by
 have KS: ∀r,av (32::40::r)=[40]::av r:=fun r=>by rw[ku _ (by decide),sj _ (by decide)]
 have cut: ∀A:Tx,Cut A (32::40::r):=fun A c hc=>by
  have:c=32:=by simpa using hc.symm
  subst this;exact⟨by decide,by decide,.inl (by decide)⟩
 unfold iQ;split
 ·rename_i e;subst e
  refine⟨[[101,120,105,115,116,115]],?_,fun m=>rfl⟩;show av ([101,120,105,115,116,115]++32::40::r)=_;rw[vV _ _ _ (amS _) (cut _),KS];rfl
 ·split
  ·rename_i e;subst e
   refine⟨[[126],[101,120,105,115,116,115]],?_,fun m=>rfl⟩;show av (126::([101,120,105,115,116,115]++32::40::r))=_;rw[sj _ (by decide),vV _ _ _ (amS _) (cut _),KS];rfl
  ·obtain rfl:q=3:=by omega
   refine⟨[[102,111,114,97,108,108]],?_,fun m=>rfl⟩;show av ([102,111,114,97,108,108]++32::40::r)=_;rw[vV _ _ _ (amS _) (cut _),KS];rfl
theorem Sa{z:Tx}(h: ∀c∈z,aj c=true):av z=[]:=by
 have:=tW _ [] z (amS _) h;simpa[vW]using this
theorem aan{af q:Int}{x:Nd}(h:bF af q x=0)(z:Tx)(hz: ∀c∈z,aj c=true):ep af (lex 0 (eF af q x++z))= .ok (q,aL x):=by
 refine OE ?_;obtain⟨ha,h1,h3,ho, -⟩:=rL h;unfold eF;rw[anF,anF];obtain⟨l,e1,e2⟩:=ab0 ⟨h1,h3⟩ (bD af x++([41]++z));rw[e1];unfold ep;rw[e2]
 dsimp only
 rw[Ft]
 dsimp only
 rw[anl,(akn ha ho).2.2 _ (41::z) (by simp[cq]) (G1.sign z (by decide) (by decide)),sj _ (by decide),Sa hz];rfl
theorem afC{af q:Int}{x:Nd}(h:bF af q x=0)(z:Tx)(hz: ∀c∈z,aj c=true)(hl:(eF af q x++z).length<=262144):cM af (eF af q x++z)= .ok (q,aL x):=by
 unfold cM;rw[if_neg (by rw[(rL h).1];decide),if_neg (by omega),aan h z hz];show(if bF af q (aL x)=0 then _ else _)=_;rw[Hj,if_pos h]
abbrev Bl(a:Tx):Prop:= ∀c∈a,aj c=true
inductive Pd:Tx->Tx->Prop where
 |fin (a b:Tx) (ha:Bl a) (hb:Bl b):Pd a b
 |sep (a b:Tx) {s w:Tx} (ha:Bl a) (hb:Bl b) (h1:(10:UInt8)∈a) (h2:(10:UInt8)∈b) (h:Pd s w):Pd (a++s) (b++w)
 |byte (c:UInt8) {s w:Tx} (h:Pd s w):Pd (c::s) (c::w)
theorem Pd.nil:Pd [] []:=.fin [] [] (by decide) (by decide)
theorem Pd.refl: ∀s:Tx,Pd s s
 |[]=>.nil
 |c::s=>.byte c (Pd.refl s)
theorem Pd.app(A:Tx){s w:Tx}(h:Pd s w):Pd (A++s) (A++w):=by
 induction A with
 |nil=>exact h
 |cons c A ih=>exact .byte c ih
theorem BD{a:Tx}(s:Tx)(h:Bl a):aq (a++s)=aq s:=by unfold aq;exact aoD h
theorem BG{a:Tx}(h:Bl a):aq a=[]:=by have:=BD [] h;simpa[aq]using this
theorem VG(s:Tx):aq (aq s)=aq s:=by
 unfold aq;cases h:s.dropWhile aj with
 |nil=>rfl
 | cons c r=>
   have:=js (l:=s) (c:=c) (by rw[h];rfl);rw[ao0 (by rw[this];decide)]
theorem Pd.VF{s w:Tx}(h:Pd s w):(aq s=[]/\aq w=[])\/ ∃c s' w',aj c=false/\aq s=c::s'/\aq w=c::w'/\Pd s' w':=by
 induction h with
 |fin a b ha hb=>exact .inl ⟨BG ha,BG hb⟩
 |sep a b ha hb h1 h2 h ih=>rw[BD _ ha,BD _ hb];exact ih
 | byte c h ih=>
   cases hb:aj c with
   | true=>
     have e: ∀s,aq (c::s)=aq s:=fun s=>by unfold aq;rw[aoG hb]
     rw[e,e];exact ih
   | false=>
     have e: ∀s,aq (c::s)=c::s:=fun s=>by unfold aq;rw[ao0 (by rw[hb];decide)]
     exact .inr ⟨c,_,_,hb,e _,e _,h⟩
def P0(s w:Tx):Prop:=Pd (aq s) (aq w)
theorem Pd.p0{s w:Tx}(h:Pd s w):P0 s w:=by
 unfold P0;rcases h.VF with⟨a,b⟩|⟨c,s',w',-, a,b,h⟩
 ·rw[a,b];exact .nil
 ·rw[a,b];exact .byte c h
theorem P0.app{s w a b:Tx}(ha:Bl a)(hb:Bl b)(h:P0 s w):P0 (a++s) (b++w):=by unfold P0 at h ⊢; rw[BD _ ha,BD _ hb];exact h
theorem P0.cases{s w:Tx}(h:P0 s w):(aq s=[]/\aq w=[])\/ ∃c s' w',aj c=false/\aq s=c::s'/\aq w=c::w'/\Pd s' w':=by
 have:=Pd.VF h
 rwa[VG,VG]at this
theorem P0.head{s w:Tx}(h:P0 s w):(aq s).head?=(aq w).head?:=by
 rcases h.cases with⟨a,b⟩|⟨c,s',w',-, a,b,h⟩<;>rw[a,b]<;>rfl
theorem Pd.lex{s w:Tx}(h:Pd s w): ∀A:Tx,av (A++s)=av (A++w):=by
 have cut: ∀(A a s:Tx),Bl a->(10:UInt8)∈a->av (A++(a++s))=av A++av s:=fun A a s ha h1=>by
  cases a with
  |nil=>cases h1
  | cons c a=>
    have hc:=ha c (by simp)
    have hno:bU c=false/\aR c=false/\c≠47/\c≠92:=by
     have k:=kZ (p:=fun c=> !aj c||(!bU c&& !aR c&&c != 47&&c != 92)) (by decide+kernel) c;rw[hc]at k;simpa[and_assoc]using k
    rw[vV _ A _ (amS _) (fun d hd=>by
     have:d=c:=by simpa using hd.symm
     subst this;exact⟨hno.1,hno.2.1,.inl hno.2.2⟩)]
    have e:av ((c::a)++s)=av s:=by
     have:=Be ((c::a)++s);rw[aoD ha,Be]at this;exact this.symm
    rw[e]
 induction h with
 |fin a b ha hb=>intro A;rw[tW _ A a (amS _) ha,tW _ A b (amS _) hb]
 |sep a b ha hb h1 h2 h ih=>intro A;rw[cut A a _ ha h1,cut A b _ hb h2];have:=ih [];rw[anJ,anJ]at this;rw[this]
 |byte c h ih=>intro A;have:=ih (A++[c]);simpa using this
theorem Pd.av{s w:Tx}(h:Pd s w):av s=av w:=h.lex []
theorem yL{A b:Tx}(h:Bl b):dz (A++b)=dz A:=by
 unfold dz;rw[List.reverse_append,aoD (fun c hc=>h c (List.mem_reverse.1 hc))]
theorem Ly{c:UInt8}(s:Tx): ∀{a:Tx},c∈a->(a++s).takeWhile (· != c)=a.takeWhile (· != c)/\(a++s).dropWhile (· != c)=a.dropWhile (· != c)++s
 |[],h=>by cases h
 | d::a,h=>by
   by_cases e:d=c
   ·subst e;simp
   ·have h':c∈a:=by rcases amY.1 h with rfl|h;exact absurd rfl e;exact h
    obtain⟨x,y⟩:=Ly s h';rw[anr,aoF (by simpa using e),aoF (by simpa using e),aoG (by simpa using e),aoG (by simpa using e),x,y];exact⟨rfl,rfl⟩
theorem uw{c:UInt8}(s:Tx){a:Tx}(h:c∉a):(a++s).takeWhile (· != c)=a++s.takeWhile (· != c)/\(a++s).dropWhile (· != c)=s.dropWhile (· != c):=by
 have k: ∀x∈a,(x != c)=true:=fun x hx=>by
  rw[bne_iff_ne];rintro rfl;exact h hx
 exact⟨ao1 k,aoD k⟩
theorem Lv{c:UInt8}{a:Tx}(h:Bl a):Bl (a.takeWhile (· != c)):=fun d hd=>h d (List.takeWhile_prefix _ |>.subset hd)
theorem O5{c:UInt8}{a:Tx}(h:Bl a):Bl (a.dropWhile (· != c)):=fun d hd=>h d (aoI _ |>.subset hd)
theorem Pd.line{s w:Tx}(h:Pd s w): ∀A:Tx,(10:UInt8)∉A->aI (A++s)=aI (A++w):=by
 have f: ∀A a:Tx,(10:UInt8)∉A->Bl a->aI (A++a)=dz A:=fun A a hA ha=>by
  unfold aI;rw[(uw a hA).1,yL (Lv ha)]
 have g: ∀A a s:Tx,(10:UInt8)∉A->Bl a->(10:UInt8)∈a->aI (A++(a++s))=dz A:=fun A a s hA ha h1=>by
  unfold aI;rw[(uw _ hA).1,(Ly s h1).1,yL (Lv ha)]
 induction h with
 |fin a b ha hb=>intro A hA;rw[f A a hA ha,f A b hA hb]
 |sep a b ha hb h1 h2 h ih=>intro A hA;rw[g A a _ hA ha h1,g A b _ hA hb h2]
 | @byte c s w h ih=>
   intro A hA
   by_cases e:c=10
   ·subst e
    have k: ∀s:Tx,aI (A++10::s)=dz A:=fun s=>by
     unfold aI;rw[(wI 10 s A hA).1]
    rw[k,k]
   ·have:=ih (A++[c]) (by
     rw[anu];rintro(h|h)
     ·exact hA h
     ·exact e (anw.1 h).symm)
    simpa using this
theorem P0.line{s w:Tx}(h:P0 s w):aI (aq s)=aI (aq w):=Pd.line h [] (by simp)
theorem Pd.rest{s w:Tx}(h:Pd s w):P0 (aZ s) (aZ w):=by
 have f: ∀a s:Tx,Bl a->(10:UInt8)∈a-> ∃b,Bl b/\aZ (a++s)=b++s:=fun a s ha h1=>by
  unfold aZ;rw[(Ly s h1).2];cases e:a.dropWhile (· != 10)with
  | nil=>
    have:=rM e 10 h1;simp at this
  |cons d b=>exact⟨b,fun c hc=>O5 (c:=10) ha c (by rw[e];simp[hc]),rfl⟩
 induction h with
 | fin a b ha hb=>
   have k: ∀a:Tx,Bl a->Bl (aZ a):=fun a ha c hc=>O5 (c:=10) ha c (List.drop_subset _ _ hc)
   unfold P0;rw[BG (k a ha),BG (k b hb)];exact .nil
 | sep a b ha hb h1 h2 h ih=>
   obtain⟨a',x,y⟩:=f a _ ha h1;obtain⟨b',x',y'⟩:=f b _ hb h2;rw[y,y'];exact h.p0.app x x'
 | @byte c s w h ih=>
   by_cases e:c=10
   ·subst e
    exact h.p0
   ·have k: ∀s:Tx,aZ (c::s)=aZ s:=fun s=>by unfold aZ;rw[aoG (by simpa using e)]
    rw[k,k];exact ih
theorem P0.rest{s w:Tx}(h:P0 s w):P0 (aZ (aq s)) (aZ (aq w)):=Pd.rest h
theorem tn{c:UInt8}(hc:aj c=false){a:Tx}(h:Bl a):c∉a:=fun m=>by rw[h c m]at hc;cases hc
theorem DC{c:UInt8}{a:Tx}(h:c∉a):a.dropWhile (· != c)=[]/\a.takeWhile (· != c)=a:=by
 have:=uw (c:=c) [] h;simpa using this.symm
theorem Pd.cut{c:UInt8}(hc:aj c=false){s w:Tx}(h:Pd s w):(c∈s<->c∈w)/\Pd (s.takeWhile (· != c)) (w.takeWhile (· != c))/\Pd ((s.dropWhile (· != c)).drop 1) ((w.dropWhile (· != c)).drop 1):=by
 induction h with
 | fin a b ha hb=>
   have na:=tn hc ha;have nb:=tn hc hb;rw[(DC na).1,(DC na).2,(DC nb).1,(DC nb).2];exact⟨⟨fun h=>absurd h na,fun h=>absurd h nb⟩,.fin a b ha hb,.nil⟩
 | sep a b ha hb h1 h2 h ih=>
   have na:=tn hc ha;have nb:=tn hc hb;rw[(uw _ na).1,(uw _ na).2,(uw _ nb).1,(uw _ nb).2];refine⟨?_,.sep a b ha hb h1 h2 ih.2.1,ih.2.2⟩;rw[anu,anu];exact⟨fun h=>.inr (ih.1.1 (h.resolve_left na)),fun h=>.inr (ih.1.2 (h.resolve_left nb))⟩
 | @byte d s w h ih=>
   by_cases e:d=c
   ·subst e
    simp only[List.takeWhile_cons,List.dropWhile_cons,bne_self_eq_false,Bool.false_eq_true,if_false,anU,anS];exact⟨by simp,.nil,h⟩
   ·have e':(d != c)=true:=by simpa using e
    rw[aoF (p:=fun x=>x != c) e',aoF (p:=fun x=>x != c) e',aoG (p:=fun x=>x != c) e',aoG (p:=fun x=>x != c) e'];refine⟨?_,.byte d ih.2.1,ih.2.2⟩;rw[amY,amY,ih.1]
inductive Dc:List Tx->List Tx->Prop where
 |nil:Dc [] []
 |cons {s w:Tx} {L M:List Tx} (h:Pd s w) (t:Dc L M):Dc (s::L) (w::M)
theorem VK{c b:UInt8}(r:Tx)(h:(b==c)=true):aD c (b::r)=[]::aD c r:=by rw[aD,if_pos h]
theorem Fq{c b:UInt8}{r x:Tx}{t:List Tx}(h:(b==c)=false)(e:aD c r=x::t):aD c (b::r)=(b::x)::t:=by rw[aD,if_neg (by rw[h];decide),e]
theorem KX{c:UInt8}{s x:Tx}{t:List Tx}(e:aD c s=x::t): ∀{a:Tx},c∉a->aD c (a++s)=(a++x)::t
 |[],_=>e
 | d::a,h=>by
   have hd:(d==c)=false:=by
    rw[beq_eq_false_iff_ne];rintro rfl;exact h (by simp)
   exact Fq hd (KX e (fun m=>h (by simp[m])))
theorem Pd.split{c:UInt8}(hc:aj c=false){s w:Tx}(h:Pd s w):Dc (aD c s) (aD c w):=by
 induction h with
 | fin a b ha hb=>
   rw[wF c a (tn hc ha),wF c b (tn hc hb)];exact .cons (.fin a b ha hb) .nil
 | @sep a b s w ha hb h1 h2 h ih=>
   cases e:aD c s with
   |nil=>exact absurd e (om c s)
   | cons x t=>
     cases f:aD c w with
     |nil=>exact absurd f (om c w)
     | cons y u=>
       rw[e,f]at ih;rw[KX e (tn hc ha),KX f (tn hc hb)];cases ih with
       |cons p q=>exact .cons (.sep a b ha hb h1 h2 p) q
 | @byte d s w h ih=>
   cases hd:d==c with
   |true=>rw[VK _ hd,VK _ hd];exact .cons .nil ih
   | false=>
     cases e:aD c s with
     |nil=>exact absurd e (om c s)
     | cons x t=>
       cases f:aD c w with
       |nil=>exact absurd f (om c w)
       | cons y u=>
         rw[e,f]at ih;rw[Fq hd e,Fq hd f];cases ih with
         |cons p q=>exact .cons (.byte d p) q
theorem yS(s:Tx):(aq s).length<=s.length:=(aoI _).length_le
theorem ai6(s:Tx):(aZ s).length<=s.length:=by
 unfold aZ;have:=(aoI (l:=s) (· != 10)).length_le;rw[List.length_drop];omega
theorem Vb(s:Tx):(aZ (aq s)).length<=s.length:=Nat.le_trans (ai6 _) (yS _)
theorem Ln(p:Tx):ah p=[]<->av p=[]:=by
 constructor
 ·intro h;rw[<-tX,h,vW]
 ·intro h
  have hb:Bl p:=Eo h;have:=yL (A:=[]) hb;rw[anJ]at this;rw[pL,this];rfl
theorem Nx{N:Nat}{s:Tx}{t:ak}:jO N s= .ok t<-> ∃a n r1 c r2 i r3 l r4 q x,gE N s= .ok (a,n,r1)/\eP N r1= .ok (c,r2)/\fD a N r2= .ok (i,r3)/\gu a N r3= .ok (l,r4)/\kK a N r4= .ok (q,x)/\sn a n c i l q x=t:=by
 unfold jO
 constructor
 ·intro h
  cases h1:gE N s with
  |error e=>rw[h1]at h;cases h
  | ok p=>
    obtain⟨a,n,r1⟩:=p;rw[h1]at h
    change (eP N r1 >>= _)=_ at h
    cases h2:eP N r1 with
    |error e=>rw[h2]at h;cases h
    | ok p=>
      obtain⟨c,r2⟩:=p;rw[h2]at h
      change (fD a N r2 >>= _)=_ at h
      cases h3:fD a N r2 with
      |error e=>rw[h3]at h;cases h
      | ok p=>
        obtain⟨i,r3⟩:=p;rw[h3]at h
        change (gu a N r3 >>= _)=_ at h
        cases h4:gu a N r3 with
        |error e=>rw[h4]at h;cases h
        | ok p=>
          obtain⟨l,r4⟩:=p;rw[h4]at h
          change (kK a N r4 >>= _)=_ at h
          cases h5:kK a N r4 with
          |error e=>rw[h5]at h;cases h
          | ok p=>
            obtain⟨q,x⟩:=p;rw[h5]at h;cases h;exact⟨a,n,r1,c,r2,i,r3,l,r4,q,x,rfl,h2,h3,h4,h5,rfl⟩
 ·rintro⟨a,n,r1,c,r2,i,r3,l,r4,q,x,h1,h2,h3,h4,h5,rfl⟩
  rw[h1]
  change (eP N r1 >>= _)=_
  rw[h2]
  change (fD a N r2 >>= _)=_
  rw[h3]
  change (gu a N r3 >>= _)=_
  rw[h4]
  change (kK a N r4 >>= _)=_
  rw[h5];rfl
theorem afG{s:Tx}{t:ak}:gL s= .ok t<->s.length<=262144/\jO s.length s= .ok t/\bI t=0:=by
 unfold gL
 by_cases hl:262144<s.length
 ·rw[if_pos hl]
  exact⟨fun h=>(by cases h),fun h=>(by omega)⟩
 ·rw[if_neg hl]
  cases e:jO s.length s with
  |error x=>exact⟨fun h=>(by cases h),fun h=>(by cases h.2.1)⟩
  | ok u=>
    dsimp only
    by_cases h0:bI u=0
    ·rw[if_pos h0]
     exact⟨fun h=>(by cases h;exact⟨by omega,rfl,h0⟩),fun h=>h.2.1⟩
    ·rw[if_neg h0]
     exact⟨fun h=>(by cases h),fun h=>(by have:=h.2.1;cases this;exact absurd h.2.2 h0)⟩
theorem NU{af:Int}{i:Ins}(ha:aH af=true)(h:gF af i=true):dS (dL af i).1:=by
 unfold aH at ha;simp only[anI,decide_eq_true_eq]at ha;unfold gF at h;unfold dL;rcases ha with rfl|rfl
 ·rw[if_pos rfl]at h ⊢; rw[if_pos h];exact af9 h
 ·rw[if_neg (by decide)]at h ⊢; rw[if_pos rfl,if_pos h];exact af6 h
def dG(l:List Cd):List (List Ins):=l.map (·.l)
theorem tu{l:List Cd}{k:Nat}{x:Cd}(h:l[k]? =some x):(dG l)[k]? =some x.l:=by unfold dG;rw[List.getElem?_map,h];rfl
theorem vm(l:List Cd):(dG l).length=l.length:=by unfold dG;simp
theorem JV{α:Type}{a b:List α}(hl:a.length=b.length)(h: ∀k,k<a.length->a[k]? =b[k]?):a=b:=by
 refine List.ext_getElem? fun k=>?_
 by_cases hk:k<a.length
 ·exact h k hk
 ·rw[an8 (by omega),an8 (by omega)]
def Cr(t:ak):Prop:= ∀x∈t.code,∀i∈x.l,gF t.af i=true
theorem acn(t:ak){z:Cd}(hz:z∈t.code):z.l.length<=pg t:=by
 have key: ∀(l:List Cd) (n:Nat),n<=l.foldl (fun n x=>max n x.l.length) n/\ ∀z∈l,z.l.length<=l.foldl (fun n x=>max n x.l.length) n:=by
  intro l
  induction l with
  |nil=>intro n;simp
  | cons x r ih=>
    intro n;have:=ih (max n x.l.length);refine⟨by have:=this.1;simp only[List.foldl_cons];omega,fun z hz=>?_⟩;simp only[List.foldl_cons];rcases amY.1 hz with rfl|hz
    ·have:=this.1;omega
    ·exact this.2 z hz
 exact(key t.code 0).2 z hz
theorem Nb{b:UInt8}: ∀{l:List Tx},(∀s∈l,bu s)->b≠32->b≠124->mU b=false->b∉dV l
 |[],_,_,_,_=>by simp[dV,List.intercalate]
 |[x],h,_,_,hb=>by rw[xw];exact Bo (h x (by simp)) hb
 | x::y::r,h,h1,h2,hb=>by
   rw[xy];intro m;rcases anu.1 m with m|m
   ·exact Bo (h x (by simp)) hb m
   ·rcases anu.1 m with m|m
    ·simp at m;rcases m with e|e
     ·exact h1 e
     ·rcases e with e|e
      ·exact h2 e
      ·exact h1 e
    ·exact Nb (l:=y::r) (fun s hs=>h s (by simp at hs ⊢; exact .inr hs)) h1 h2 hb m
theorem EX{L:Tx}(h: ∀c,L.getLast?=some c->aj c=false):dz L=L:=by
 unfold dz
 have e:L.reverse.dropWhile aj=L.reverse:=by
  cases f:L.reverse with
  |nil=>rfl
  | cons c r=>
    have:=h c (by rw[<-List.head?_reverse,f];rfl);rw[ao0 (by rw[this];decide)]
 rw[e,List.reverse_reverse]
theorem akO{L:Tx}(h0: ∀c,L.head?=some c->aj c=false)(h: ∀c,L.getLast?=some c->aj c=false):ah L=L:=by
 rw[pL,EX h];cases L with
 |nil=>rfl
 |cons c r=>rw[ao0 (by rw[h0 c rfl];decide)]
theorem BH{c:UInt8}(r:Tx)(h:aj c=false):aq (c::r)=c::r:=by unfold aq;rw[ao0 (by rw[h];decide)]
theorem Er{L:Tx}(X:Tx)(h:(10:UInt8)∉L)(hl: ∀c,L.getLast?=some c->aj c=false):aI (L++10::X)=L/\aZ (L++10::X)=X:=by
 obtain⟨a,b⟩:=wI 10 X L h;unfold aI aZ;rw[a,b];exact⟨EX hl,rfl⟩
theorem ajL{lo:Nat}{c:UInt8}(h:iW lo c=true)(hlo:33<=lo):aj c=false/\c≠10:=by
 have k:=kZ (p:=fun c=> !(decide (33<=c.toNat))||(!aj c&&c != 10)) (by decide+kernel) c;unfold iW at h;simp only[am6,decide_eq_true_eq]at h;rw[show decide (33<=c.toNat)=true by simp;omega]at k;simpa using k
theorem ak0{W n:Tx}(hW: ∀c∈W,aj c=false)(hn: ∀c∈n,aj c=false)(h0:n≠[]):sG (W++32::n)=some (W,n):=by
 have nW: ∀c∈W,nb c=true:=fun c hc=>by unfold nb;rw[hW c hc];rfl
 have e1:(W++32::n).takeWhile nb=W:=by
  rw[ao1 nW,List.takeWhile_cons_of_neg (by decide),anz]
 have e2:(W++32::n).dropWhile nb=32::n:=by
  rw[aoD nW,ao0 (by decide)]
 have e3:(32::n).dropWhile aj=n:=by
  rw[aoG (by decide)];cases n with
  |nil=>rfl
  |cons c r=>rw[ao0 (by rw[hn c (by simp)];decide)]
 have e4:n.any aj=false:=by
  rw[List.any_eq_false];intro c hc;rw[hn c hc];decide
 unfold sG;simp only[e1,e2,e3,e4];rw[if_neg (by simp[h0])]
theorem ab6{af:Int}{name:Tx}(N:Nat)(X:Tx)(ha:aH af=true)(h:eW name=true):gE N (DZ af++(name++10::X))= .ok (af,name,X):=by
 unfold eW at h;simp only[am6,decide_eq_true_eq]at h;obtain⟨h1,-, h3⟩:=h;have hb: ∀c∈name,aj c=false/\c≠10:=fun c hc=>ajL (anq.1 h3 c hc) (amS _)
 have n0:name≠[]:=by intro e;rw[e]at h1;simp at h1
 have key: ∀W:Tx,(∀c∈W,aj c=false)->W≠[]->xu W=some af->gE N (W++32::(name++10::X))= .ok (af,name,X):=by
  intro W hW hne hA;have e:W++32::(name++10::X)=(W++32::name)++10::X:=by simp
  have hs:aq (W++32::(name++10::X))=(W++32::name)++10::X:=by
   rw[<-e];cases W with
   |nil=>exact absurd rfl hne
   |cons c W=>exact BH _ (hW c (by simp))
  obtain⟨a,b⟩:=Er (L:=W++32::name) X (by
   rw[anu,amY];rintro(h|h|h)
   ·have:=hW 10 h;revert this;decide
   ·revert h;decide
   ·exact(hb 10 h).2 rfl) (fun c hc=>by
   rw[El (by simp)]at hc
   have:(32::name).getLast?=name.getLast?:=by
    cases name with
    |nil=>exact absurd rfl n0
    |cons x y=>simp
   rw[this]at hc;exact(hb c (amV hc)).1)
  unfold gE
  dsimp only
  rw[hs,a,b,ak0 hW (fun c hc=>(hb c hc).1) n0]
  dsimp only
  rw[hA]
 unfold aH at ha;simp only[anI,decide_eq_true_eq]at ha;unfold DZ;rcases ha with rfl|rfl
 ·exact key [88,56,54] (by decide) (by decide) rfl
 ·exact key [82,73,83,67,86] (by decide) (by decide) rfl
theorem aaO{gC:Tx}(N:Nat)(X:Tx)(h:eY gC=true):eP N ((if gC=[]then[]else[34]++gC++[34,10])++123::10::X)= .ok (gC,123::10::X):=by
 by_cases e:gC=[]
 ·subst e
  rw[if_pos rfl,anJ];obtain⟨a, -⟩:=Er (L:=[123]) X (by decide) (fun c hc=>by simp at hc;subst hc;decide);unfold eP
  dsimp only
  rw[BH _ (by decide)];rw[show(123:UInt8)::10::X=[123]++10::X from rfl,a,if_pos (by decide)]
 ·rw[if_neg e]
  unfold eY at h;simp only[am6,decide_eq_true_eq]at h;obtain⟨-, h2,h3⟩:=h;obtain⟨n10,n34⟩:=ajM h2 (by omega)
  have hsh: ∀c∈gC,c≠32->aj c=false:=fun c hc hne=>by
   have k:=kZ (p:=fun c=> !(decide (32<=c.toNat))||(c==32|| !aj c)) (by decide+kernel) c;have:=anq.1 h2 c hc;unfold iW at this;simp only[am6,decide_eq_true_eq]at this;rw[show decide (32<=c.toNat)=true by simp;omega]at k;simpa[hne]using k
  have ht:ah gC=gC:=by
   unfold oU at h3;have hi:gC.isEmpty=false:=by cases gC with|nil=>exact absurd rfl e|cons a b=>rfl
   rw[hi,Bool.false_or,am6]at h3;refine akO (fun c hc=>hsh c (List.mem_of_head? hc) ?_) (fun c hc=>hsh c (amV hc) ?_)
   ·rintro rfl;have:=h3.1;rw[hc]at this;revert this;decide
   ·rintro rfl;have:=h3.2;rw[hc]at this;revert this;decide
  obtain⟨a,b⟩:=Er (L:=34::(gC++[34])) (123::10::X) (by
   rw[amY,anu];rintro(h|h|h)
   ·revert h;decide
   ·exact n10 h
   ·revert h;decide) (fun c hc=>by
   have:(34::(gC++[34])).getLast?=some 34:=by rw[<-anr,ao2]
   rw[this]at hc;cases hc;decide)
  have e1:([34]++gC++[34,10])++123::10::X=34::(gC++[34])++10::123::10::X:=by simp
  have hc:(34::(gC++[34])).count 34=2:=by
   rw[List.count_cons_self,List.count_append,List.count_eq_zero_of_not_mem n34];rfl
  unfold eP
  dsimp only
  rw[e1,show aq (34::(gC++[34])++10::123::10::X)=34::(gC++[34])++10::123::10::X from BH _ (by decide),a,b,if_neg (by simp),if_neg (by
   rw[hc,<-anr,ao2];simp)]
  rw[anU,anS,List.dropLast_concat,ht]
def Dn(c:UInt8):Bool:=lp c||(c==58||c==61)
theorem aiJ{af:Int}{k:Nat}(h:yP af k):kS af k=cz af k/\(k:Int)<cE af:=by
 unfold kS cz cE;rcases h with⟨rfl,h2⟩|⟨rfl,h2⟩
 ·exact⟨mI _,by simp;omega⟩
 ·refine⟨?_,by simp;omega⟩
  rw[if_pos rfl,if_neg (by decide)];unfold rT;rw[Int.toNat_natCast]
theorem Wr{n:Int}(h:aY n=true):fH (anj n)=some ([],n):=by
 unfold fH;rw[mC.2 ⟨rfl,h⟩]
theorem ale{v:Tx}(h:az v=true):fH v=some (v,0):=by
 unfold fH;cases e:cD v with
 |some n=>exact absurd (mC.1 e).1 (aeS h)
 |none=>exact if_pos h
theorem Sf(b:Tx):av (10::b)=av b:=ku _ (by decide)
theorem aef{v:Tx}{n:Int}(h:(v≠[]/\az v=true/\n=0)\/(v=[]/\aY n=true)):av (if v=[]then anj n else v)=[if v=[]then anj n else v]/\fH (if v=[]then anj n else v)=some (v,n)/\ ∀c∈(if v=[]then anj n else v),lp c=true:=by
 rcases h with⟨a,b,c⟩|⟨a,b⟩
 ·rw[if_neg a,c];exact⟨yC b,ale b,fun c hc=>J5 c (yB b c hc)⟩
 ·rw[if_pos a,a];exact⟨vQ n,Wr b,fun c hc=>Bp c (si n c hc)⟩
theorem Re{af:Int}{n:Nat}{x:aF}(ha:aH af=true)(hn:n<=16)(h:eT af n x=true): ∃b,dI af x=b++[59,10]/\(∀c∈b,Dn c=true)/\(b.length<262144->kO af (10::b)=some x):=by
 have w1: ∀c,lp c=true->Dn c=true:=fun c h=>by unfold Dn;rw[h];rfl
 rcases Ap ha hn h with⟨loc,nn,rfl,h1,h2⟩|⟨i,k,v,nn,rfl,h1,-, h2,h3⟩
 ·refine⟨loc++61::anj nn,by unfold dI;simp,fun c hc=>?_,fun hl=>?_⟩
  ·rcases anu.1 hc with hc|hc
   ·exact w1 c (J5 c (yB h1 c hc))
   ·rcases amY.1 hc with rfl|hc
    ·rfl
    ·exact w1 c (Bp c (si _ c hc))
  ·rw[Jr (by simp at hl ⊢; omega),Sf,nX _ _ _ (amS _) (by decide),yC h1,vQ]
   show nc af [loc,[61],anj nn]=_;rw[A8,if_pos rfl,Wr h2];show mZ (if az loc=true then _ else _) _=_;rw[if_pos h1];rfl
 ·obtain⟨r1,r2⟩:=aiJ h2
  obtain⟨v1,v2,v3⟩:=aef h3;have hi:aY (i:Int)=true:=by unfold aY;simp;omega
  refine⟨anj i++58::(cz af k++61::(if v=[]then anj nn else v)),?_,fun c hc=>?_,fun hl=>?_⟩
  ·unfold dI
   rw[if_neg (show ¬((i:Int)= -1) by omega),r1];simp
  ·rcases anu.1 hc with hc|hc
   ·exact w1 c (Bp c (si _ c hc))
   ·rcases amY.1 hc with rfl|hc
    ·rfl
    ·rcases anu.1 hc with hc|hc
     ·exact w1 c (U2 ha r2 c hc)
     ·rcases amY.1 hc with rfl|hc
      ·rfl
      ·exact w1 c (v3 c hc)
  ·rw[Jr (by simp at hl ⊢; omega),Sf,nX _ _ _ (amS _) (by decide),nX _ _ _ (amS _) (by decide),vQ,Fa r2,v1]
   show nc af [anj i,[58],cz af k,[61],(if v=[]then anj nn else v)]=_;rw[vM,if_pos rfl,v2,Li,if_neg (fun h=>(JB _).1 h.1),if_pos rfl,mC.2 ⟨rfl,hi⟩,U3 r2]
   dsimp only
   rw[if_pos (by omega)];rfl
theorem Ny{b:Tx}(h: ∀c∈b,Dn c=true):(59:UInt8)∉b/\(125:UInt8)∉b/\(10:UInt8)∉b:=
 ⟨fun m=>absurd (h _ m) (by decide),fun m=>absurd (h _ m) (by decide),fun m=>absurd (h _ m) (by decide)⟩
theorem Uj{af:Int}{n N:Nat}(ha:aH af=true)(hn:n<=16): ∀(L:List aF) (v:Tx) (acc:List aF),(∀x∈L,eT af n x=true)->(L.flatMap (dI af)).length<=262144->gM af N (aD 59 (10::L.flatMap (dI af))) v acc= .ok (acc++L)
 | [],v,acc,_,_=>by
   have e:aD 59 (10::([]:List aF).flatMap (dI af))=[[10]]:=rfl;rw[e,gM,if_pos ((Ln _).2 rfl),gM,anz]
 | x::L,v,acc,h,hl=>by
   obtain⟨b,e1,e2,e3⟩:=Re ha hn (h x (by simp));rw[List.flatMap_cons,e1]at hl⊢;simp only[List.length_append,List.length_cons,List.length_nil]at hl
   have e:aD 59 (10::(b++[59,10]++L.flatMap (dI af)))=(10::b)::aD 59 (10::L.flatMap (dI af)):=by
    have:=wE 59 (10::b) (10::L.flatMap (dI af)) (by
     rw[amY];rintro(h|h)
     ·revert h;decide
     ·exact(Ny e2).1 h)
    rw[<-this];simp
   have hr:=e3 (by omega)
   rw[e,gM,if_neg (fun f=>by
    rw[Jr (by simp;omega),(Ln _).1 f]at hr;cases hr),hr]
   dsimp only
   rw[Uj ha hn L _ _ (fun y hy=>h y (by simp[hy])) (by omega),anF];rfl
theorem ac8{af:Int}{n:Nat}(ha:aH af=true)(hn:n<=16){L:List aF}(h: ∀x∈L,eT af n x=true):(125:UInt8)∉L.flatMap (dI af):=by
 intro m;obtain⟨x,hx,hm⟩:=List.mem_flatMap.1 m;obtain⟨b,e1,e2, -⟩:=Re ha hn (h x hx);rw[e1,anu]at hm;rcases hm with hm|hm
 ·exact(Ny e2).2.1 hm
 ·revert hm;decide
theorem ac6{af:Int}{n:Nat}(N:Nat)(ha:aH af=true)(hn:n<=16){L:List aF}(h: ∀x∈L,eT af n x=true)(hl:(L.flatMap (dI af)).length<=262144)(Y:Tx):
 fD af N (123::10::(L.flatMap (dI af)++125::Y))= .ok (L,Y):=by
 have hno:(125:UInt8)∉123::10::L.flatMap (dI af):=by
  rw[amY,amY];rintro(f|f|f)
  ·revert f;decide
  ·revert f;decide
  ·exact ac8 ha hn h f
 have e:123::10::(L.flatMap (dI af)++125::Y)=(123::10::L.flatMap (dI af))++125::Y:=rfl;obtain⟨a,b⟩:=wI 125 Y _ hno;unfold fD
 dsimp only
 rw[BH _ (by decide),e,a,b,if_neg (by
  rintro(f|f)
  ·exact f rfl
  ·exact f (by simp))]
 rw[anU,anS,Uj ha hn L _ _ h hl];rfl
end Go.Proofs.YtkbbgjloifmmbaaGreatDoor
