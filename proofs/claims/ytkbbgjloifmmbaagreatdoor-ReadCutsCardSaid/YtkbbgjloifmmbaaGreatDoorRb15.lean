/- What ReadBackP leans on, part 15. -/
import Derived.Test.YtkbbgjloifmmbaaGreatDoorRb14
import Derived.RegionDies
set_option linter.unusedVariables false
set_option maxRecDepth 100000
set_option maxHeartbeats 6400000
namespace Go.Proofs.YtkbbgjloifmmbaaGreatDoor
open _root_.Go.Proofs.Tryz
open _root_.List renaming getElem?_eq_getElem->amK,getElem?_eq_some_iff->ano,drop_eq_getElem_cons->aot,drop_eq_nil_of_le->amT,mem_of_getElem?->aou,drop_length->aom
open _root_.Option renaming some->aos
open _root_.Go.Lib renaming atoiAll->anv,itoa->anj,atoiAll_bounds->aow
open _root_.Nat renaming zero_add->amZ
open _root_.And renaming intro->aov
open Go.RowKit Go.Sort
@[reducible] def Ac(t:Tok):List Value:=[.string (tx t.1),.int .i64 t.2]
theorem jb(t:Tok):(Ac t).length=2:=rfl
theorem Fx:gQ prog 182 232 (.agg #[.string ByteArray.empty,.int .i64 0]) 2 24:=⟨underlying182,by kernel_rfl,rfl,by decide⟩
theorem bf.tok{w:World}{a:Option Addr}{l:List Tok}(h:bf Ac w a l){k:Nat}{x:Tok}(hk:l[k]? =some x):
 w.cell? ⟨bk a,fo a+k*2,none⟩=some (.string (tx x.1))/\w.cell? ⟨bk a,fo a+k*2+1,none⟩=some (.int .i64 x.2):=
 ⟨h.cell0 jb hk (by omega),h.cell jb hk 1 (by omega)⟩
theorem On:UF aj 234:=fun c=>Nv c _ (by decide)
abbrev zN(w:World)(B:Nat)(a:Option Addr)(n c:Nat)(l:List Tok):Prop:=Own w B 232 2 a n c (flat Ac l)
def MI(s:Tx)(w:World)(e:Ending)(w':World):Prop:= ∃a c,e= .returned (.slice a (lex 0 s).length c)/\zN w' w.heap.size a (lex 0 s).length c (lex 0 s)/\Below w.heap.size w w'
theorem Si{s:Tx}{k:Nat}{c:UInt8}(h:s[k]? =some c):lex k (s.drop k)=if aj c then lex (k+1) (s.drop (k+1))else((s.drop k).take (bS (s.drop k)),k)::lex (k+bS (s.drop k)) (s.drop (k+bS (s.drop k))):=by
 obtain⟨hlt,rfl⟩:=ano.1 h;rw[aot hlt];split
 ·rename_i hb;rw[yx _ _ hb]
 ·rename_i hb
  rw[Bh _ _ (by simpa using hb),<-aot hlt,List.drop_drop]
theorem Hq(s:Tx)(hl:s.length<=262144)(w:World):Calls prog 157 #[.string (tx s)] w (MI s w):=by
 obtain⟨n,hn⟩: ∃n,(tx s).size=n:=⟨_,rfl⟩;have HN:=hid (show n=s.length by rw[<-hn,aP]);have HL:=hid hl;have hnb:n<=262144:=by rw[HN.out];exact hl
 obtain⟨T,hT⟩: ∃T,lex 0 s=T:=⟨_,rfl⟩;have HT:=hid (show lex 0 (s.drop 0)=T by rw[List.drop_zero];exact hT);have XM:=hid (show T.length<=262144 by rw[<-hT];have:=Bg _ 0 s (Nat.le_refl _);omega);unfold MI;rw[hT];clear hl hT;go_in;go_wp2_with fail
 go_loopw [3,4] (fun o i wr=> ∃(k:Nat) (a:Option Addr) (c:Nat) (out:List Tok),k<=n/\i= .int .i64 k/\o= .slice a out.length c/\zN wr w.heap.size a out.length c out/\Hid (T=out++lex k (s.drop k))/\Below w.heap.size w wr) (fun o i _=>n-(intOf i).toNat)
 case atStart=>exact⟨0,none,0,[],by omega,rfl,rfl,Own.nil _ _ _ _,HT.out.symm,aN⟩
 case round=>
  obtain⟨k,a,c,out,hk,rfl,rfl,hO,HO,E⟩:=hrel
  by_cases hlt:k<n
  ·obtain⟨x,hx⟩: ∃x,s[k]? =some x:=⟨_,amK (by have:=HN.out;omega)⟩
   have ix:=iV s k x hx;have hst:=Si hx;have HX:=hid hx;clear hx;cases hb:aj x with
   | true=>
     have HB:=hid hb;have qZ:=hid (show T=out++lex (k+1) (s.drop (k+1)) by rw[HO.out,hst,hb];rfl);clear hb hst
     go_wp2_with (go_at_call 234;refine(On x _).mono ?_;rintro e w' ⟨rfl,rfl⟩;rw[HB.out])
     go_roundw
     case rel=>exact⟨k+1,a,c,out,by omega,by go_num,rfl,hO,qZ,E⟩
     case measure=>simp[intOf];omega
   | false=>
     have HB:=hid hb;rw[hb]at hst
     have hne:s.drop k≠[]:=by
      intro e;have:=congrArg List.length e;have h2:=HN.out;simp at this;omega
     have hdl:(s.drop k).length=n-k:=by rw[List.length_drop,HN.out]
     have CL:=hid (fun w=>ZS (s.drop k) hne (by have:=HL.out;simp;omega) w)
     have hlp:1<=bS (s.drop k)/\bS (s.drop k)<=n-k:=by
      rw[<-hdl];cases hd:s.drop k with
      |nil=>exact absurd hd hne
      |cons y r=>exact⟨mB y r,tZ y r⟩
     have sf:=wB s k (by have:=HN.out;omega);obtain⟨m,hm⟩: ∃m,bS (s.drop k)=m:=⟨_,rfl⟩;rw[hm]at hst hlp CL;have sl:=wC s k (k+m) (by omega) (by have:=HN.out;omega);obtain⟨u,hu⟩: ∃u,(s.take (k+m)).drop k=u:=⟨_,rfl⟩;have QO:(s.drop k).take m=u:=by rw[<-hu,List.take_add,List.drop_append_of_le_length (by simp;have:=HN.out;omega)];simp
     rw[hu]at sl;rw[QO]at hst;rw[show((k+m:Nat):Int)=(k:Int)+m by omega]at sl;have qZ:=hid (show T=(out++[(u,k)])++lex (k+m) (s.drop (k+m)) by rw[HO.out,hst];simp)
     have hol:out.length<=262143:=by
      have h1:=XM.out;have h2:=congrArg List.length qZ.out;simp only[List.length_append,List.length_cons,List.length_nil]at h2;omega
     clear hb hst hne hdl hm hu QO
     go_wp2_with (first|(go_at_call 234;refine(On x _).mono ?_;rintro e w' ⟨rfl,rfl⟩;rw[HB.out])|fail)
     refine(CL.out _).mono ?_;rintro e w1 ⟨rfl,E1⟩;have hO:=Own.below hO E1;have E:=E.trans (E1.mono E.size)
     go_wp2_with (at_builtin;go_loud(refine wO Fx (.tmp 20) (.tmp 29) rfl rfl rfl hO rfl rfl (by intro u hu;simp at hu;rcases hu with rfl|rfl<;>rfl) E E.size (by omega) (by unfold maxLen;omega) ?_))
     intro a' c' w2 DO hG nQ
     have AA:zN w2 w.heap.size a' (out++[(u,k)]).length c' (out++[(u,k)]):=by
      unfold zN;rw[nO,rP];simpa using DO
     go_wp2_with fail
     go_roundw
     case rel=>exact⟨k+m,a',c',out++[(u,k)],by omega,by go_num,by simp,AA,qZ,nQ⟩
     case measure=>simp[intOf];omega
  ·obtain rfl:k=n:=by omega
   have HF:=hid (show T=out by
    rw[HO.out,show s.drop k=[]from amT (by have:=HN.out;omega),lex_nil,List.append_nil])
   go_wp2_with fail;go_ret;have hf:=HF.out;subst hf;exact⟨a,c,rfl,hO,E⟩
end Go.Proofs.YtkbbgjloifmmbaaGreatDoor
namespace Go.Proofs.YtkbbgjloifmmbaaGreatDoor
open _root_.Go.Proofs.Tryz
open _root_.List renaming getElem?_eq_getElem->amK,getElem?_eq_some_iff->ano,drop_eq_getElem_cons->aot,drop_eq_nil_of_le->amT,mem_of_getElem?->aou,drop_length->aom
open _root_.Option renaming some->aos
open _root_.Go.Lib renaming atoiAll->anv,itoa->anj,atoiAll_bounds->aow
open _root_.Nat renaming zero_add->amZ
open _root_.And renaming intro->aov
open Go.RowKit
def sW(af:Int)(l:List Nd)(met deep:Nat)(R:Nat × Int):Prop:=gP af l met deep=R
theorem ahf(af:Int): ∀(x:Nd) (met deep:Nat) (w:World),cH w x->met<=1024->deep<=64->
 Calls prog 217 #[.int .i64 af,vN x,.int .i64 met,.int .i64 deep] w (ax w (.tuple #[.int .i64 ((dA af x met deep).1:Nat),.int .i64 (dA af x met deep).2])):=by
 intro x
 induction x using Nd.ind with
 |h x ih=>
 intro met deep w hI hm hd;have B:=al w (aS x);have b0:=j5.new w x;obtain⟨p,hp⟩: ∃p,dA af x met deep=p:=⟨_,rfl⟩;have hq:=hp;rw[BY]at hq;rw[hp];clear hp
 by_cases h1:1024<=met\/64<=deep
 ·rw[if_pos h1]at hq
  have HQ:=hid hq.symm;clear hq
  by_cases h2:1024<=met
  ·have z2:decide (1024<=met)=true:=decide_eq_true h2
   clear h1;go_in;go_wp2_with fail
   go_ret2
   exact⟨wz (by rw[HQ.out]) (by rw[HQ.out]),aN⟩
  ·have z2:decide (1024<=met)=false:=decide_eq_false h2
   have z3:decide (64<=deep)=true:=decide_eq_true (by omega);have h3:64<=deep:=by omega
   clear h1;go_in;go_wp2_with fail
   go_ret2
   exact⟨wz (by rw[HQ.out]) (by rw[HQ.out]),aN⟩
 ·rw[if_neg h1]at hq
  have h2:met<1024:=by omega
  have h3:deep<64:=by omega
  have z2:decide (1024<=met)=false:=decide_eq_false (by omega);have z3:decide (64<=deep)=false:=decide_eq_false (by omega);clear h1;obtain⟨mb,hmb⟩: ∃mb,dN af x.kind x.th x.val x.kids.length=mb:=⟨_,rfl⟩;rw[hmb]at hq;have CM:=hid (show ∀w,Calls prog 274 #[.int .i64 af,vN x] w (ax w (.bool mb))from fun w=>hmb▸ag3 af x hI.loc w);have HI:=hid hI;have pR:=hid ih;clear hmb ih hI;cases mb
  ·rw[if_pos rfl]at hq
   have HQ:=hid hq.symm;clear hq;go_in;go_wp2_with fail;refine(CM.out _).mono ?_;rintro e w1 ⟨rfl,E1⟩;have B:=B.trans (E1.mono B.size);go_wp2_with fail
   go_ret2
   exact⟨wz (by rw[HQ.out]) (by rw[HQ.out]),aN⟩
  ·rw[if_neg (by simp)]at hq
   have HQ:=hid hq;clear hq;go_in;go_wp2_with fail;refine(CM.out _).mono ?_;rintro e w1 ⟨rfl,E1⟩;have b1:=b0.below E1;have CE:=hid ((HI.out.keep B).keep E1);have B:=B.trans (E1.mono B.size);clear E1 b0;go_wp2_with fail
   go_loopw [2,10] (fun ms i wr=> ∃k m:Nat,k<=x.kids.length/\i= .int .i64 k/\ms= .int .i64 m/\m<=1024/\Below w1.heap.size w1 wr/\Hid (sW af (x.kids.drop k) m (deep+1) p)) (fun _ i _=>x.kids.length-(intOf i).toNat)
   case atStart=>exact⟨0,met+1,Nat.zero_le _,rfl,by go_num,by omega,Below.refl _ _,HQ.out⟩
   case round=>
    obtain⟨k,m,hk,rfl,rfl,yd,E,HR⟩:=hrel;have br:=b1.below E;have hlt:=br.1;obtain⟨q0,q1,q2,q3,q4,q5⟩:=br.cells
    by_cases hlk:k<x.kids.length
    ·obtain⟨y,hy⟩: ∃y,x.kids[k]? =some y:=⟨_,amK hlk⟩
     have di:=CE.out.keep E;obtain⟨p0,p1,p2,p3,p4,p5⟩:=di.els.nd hy;have ix:=di.els.idx nk ja k hlk x.c;have Q2:=di.dm y (aou hy);have CY:=pR.out y (aou hy) m (deep+1) wr Q2 yd (by omega);have hle:=WB af y m (deep+1) yd;have hst:=HR.out;unfold sW at hst;rw[Wy hy]at hst;rw[show((deep+1:Nat):Int)=(deep:Int)+1 by omega]at CY;generalize dA af y m (deep+1)=r at*;obtain⟨m2,e2⟩:=r;simp only at hst CY hle;have CY:=hid CY;have hkl:=di.els.len;clear hy Q2 di HR br
     by_cases he:e2=0
     ·subst he
      rw[if_pos rfl]at hst;have HST:=hid (show sW af (x.kids.drop (k+1)) m2 (deep+1) p from hst);clear hst;go_wp2_with fail;refine CY.out.mono ?_;rintro e w2 ⟨rfl,E2⟩;have E:=E.trans (E2.mono E.size);clear q0 q1 q2 q3 q4 q5 p0 p1 p2 p3 p4 p5 ix;go_wp2_with fail
      go_roundw
      case rel=>exact⟨k+1,m2,by omega,by go_num,rfl,hle,E,HST⟩
      case measure=>simp[intOf];omega
     ·rw[if_neg he]at hst
      have ze:(e2 != 0)=true:=by simpa using he
      have HST:=hid hst.symm;clear hst he;go_wp2_with fail;refine CY.out.mono ?_;rintro e w2 ⟨rfl,E2⟩;have E:=E.trans (E2.mono E.size);clear q0 q1 q2 q3 q4 q5 p0 p1 p2 p3 p4 p5 ix;go_wp2_with fail
      go_ret2
      have B:=B.trans (E.mono B.size);exact⟨wz (by rw[HST.out]) (by rw[HST.out]),aN⟩
    ·obtain rfl:k=x.kids.length:=by omega
     have hst:=HR.out;unfold sW at hst;rw[aom,BX]at hst;have HST:=hid hst.symm;clear hst HR;go_wp2_with fail
     go_ret2
     have B:=B.trans (E.mono B.size);exact⟨wz (by rw[HST.out]) (by rw[HST.out]),aN⟩
@[reducible] def vC(q:Int)(x:Nd):Value:=.agg #[.int .i64 q,.int .i64 x.kind,.int .i64 x.th.thread,.int .i64 x.th.au,.string (tx x.th.loc),.int .i64 x.val,.slice x.a x.kids.length x.c]
abbrev gX(q:Int)(x:Nd):Obj:=.cells #[.int .i64 q,.int .i64 x.kind,.int .i64 x.th.thread,.int .i64 x.th.au,.string (tx x.th.loc),.int .i64 x.val,.slice x.a x.kids.length x.c] 30
theorem Ot{af q:Int}{x:Nd}(ha:aH af=true)(h1:1<=q)(h2:q<=3):bF af q x=(dA af x 0 0).2:=by
 unfold bF;rw[if_neg (by rw[ha];simp),if_neg (by omega)]
theorem Du{af q:Int}{x:Nd}(ha:aH af=true)(h:q<1\/3<q):bF af q x=80:=by
 unfold bF;rw[if_neg (by rw[ha];simp),if_pos h]
theorem Oo{af q:Int}{x:Nd}(ha:aH af=false):bF af q x=5:=by
 unfold bF;rw[if_pos ha]
theorem Kr(af q:Int)(x:Nd)(w:World)(hI:cH w x):
 Calls prog 131 #[.int .i64 af,vC q x] w (ax w (.int .i64 (bF af q x))):=by
 have B:=al w (gX q x);obtain⟨ab,hab⟩: ∃ab,aH af=ab:=⟨_,rfl⟩;have CA:=hid (show ∀w,Calls prog 45 #[.int .i64 af] w fun e w'=>e= .returned (.bool ab)/\w=w' from fun w=>hab▸ag1 af w);cases ab
 ·have HE:=hid (Oo (q:=q) (x:=x) hab)
  clear hab;go_in
  go_wp2_with (go_at_call 45;refine(CA.out _).mono ?_;rintro e w' ⟨rfl,rfl⟩)
  go_ret;exact⟨bJ HE.out.symm,aN⟩
 ·by_cases h1:q<1
  ·have HE:=hid (Du (x:=x) hab (.inl h1))
   clear hab;go_in
   go_wp2_with (go_at_call 45;refine(CA.out _).mono ?_;rintro e w' ⟨rfl,rfl⟩)
   go_ret;exact⟨bJ HE.out.symm,aN⟩
  by_cases h2:q<=3
  ·have h1:1<=q:=by omega
   have CW:=ahf af x 0 0 (w.alloc (gX q x)) (hI.keep B) (by omega) (by omega);have HE:=hid (Ot (x:=x) hab h1 h2);generalize dA af x 0 0=r at*;obtain⟨m2,e2⟩:=r;have CW:=hid CW;clear hab hI;go_in
   go_wp2_with (first|(go_at_call 45;refine(CA.out _).mono ?_;rintro e w' ⟨rfl,rfl⟩)|(go_at_call 217;refine CW.out.mono ?_;rintro e w2 ⟨rfl,E2⟩;have B:=B.trans (E2.mono B.size);clear E2))
   go_ret;exact⟨bJ HE.out.symm,aN⟩
  ·have HE:=hid (Du (q:=q) (x:=x) hab (.inr (by omega)))
   have h1:1<=q:=by omega
   clear hab;go_in
   go_wp2_with (go_at_call 45;refine(CA.out _).mono ?_;rintro e w' ⟨rfl,rfl⟩)
   go_ret;exact⟨bJ HE.out.symm,aN⟩
end Go.Proofs.YtkbbgjloifmmbaaGreatDoor
namespace Go.Proofs.YtkbbgjloifmmbaaGreatDoor
open _root_.Go.Proofs.Tryz
open _root_.List renaming getElem?_eq_getElem->amK,getElem?_eq_some_iff->ano,drop_eq_getElem_cons->aot,drop_eq_nil_of_le->amT,mem_of_getElem?->aou,drop_length->aom
open _root_.Option renaming some->aos
open _root_.Go.Lib renaming atoiAll->anv,itoa->anj,atoiAll_bounds->aow
open _root_.Nat renaming zero_add->amZ
open _root_.And renaming intro->aov
open Go.RowKit Go.Sort
abbrev wkC(af:Int)(seen:Nat)(err:Int):List Value:=[.int .i64 af,.int .i64 seen,.int .i64 err]
abbrev mQ(w:World)(B bw:Nat)(af:Int)(seen:Nat)(err:Int):Prop:=Own w B 170 3 (aos ⟨bw,0,none⟩) 1 1 (wkC af seen err)
theorem mQ.cells{w:World}{B bw:Nat}{af err:Int}{seen:Nat}(h:mQ w B bw af seen err):w.cell? ⟨bw,0,none⟩=aos (.int .i64 af)/\w.cell? ⟨bw,1,none⟩=aos (.int .i64 seen)/\w.cell? ⟨bw,2,none⟩=aos (.int .i64 err)/\w.frozen? ⟨bw,1,none⟩=false/\w.frozen? ⟨bw,2,none⟩=false:=by
 have f1:=Own.frozen h (by simp) 1;have f2:=Own.frozen h (by simp) 2;have c0:=(Own.row h).cell 0 (by simp);have c1:=(Own.row h).cell 1 (by simp);have c2:=(Own.row h).cell 2 (by simp);simp only[fk,gb,amZ]at f1 f2 c0 c1 c2;exact⟨c0,c1,c2,f1,f2⟩
theorem aG.step{w w':World}{b bw:Nat}{l:List Value}(h:aG w b l)(hs:Step w w' (aos ⟨bw,0,none⟩) (aos ⟨bw,0,none⟩))(hne:b≠bw):aG w' b l:=by
 refine⟨Nat.lt_of_lt_of_le h.1 hs.grown.size,fun k hk=>?_⟩;have h1:=h.2 k hk;rw[amK hk]at h1⊢;exact hs.grown.cell h1 (by simpa using hne)
def Yc(w0 w:World)(bw:Nat)(af:Int)(p:Nat × Int)(e:Ending)(w':World):Prop:=
 e= .returned (.bool (p.2==0))/\Step w w' (some ⟨bw,0,none⟩) (some ⟨bw,0,none⟩)/\ ∃s,mQ w' w0.heap.size bw af s p.2/\(p.2=0->s=p.1)
theorem aX{w w':World}{bw:Nat}(h:Below w.heap.size w w'):Step w w' (some ⟨bw,0,none⟩) (some ⟨bw,0,none⟩):=
 ⟨⟨h.os,h.tape,h.output,h.size,fun k hk _=>h.block k hk⟩,.inl rfl⟩
theorem Z1(af:Int): ∀(x:Nd) (met deep bw:Nat) (w0 w:World),cH w0 x->Below w0.heap.size w0 w->mQ w w0.heap.size bw af met 0->met<=1024->deep<=64->
 Calls prog 143 #[.pointer (some ⟨bw,0,none⟩),vN x,.int .i64 deep] w (Yc w0 w bw af (dA af x met deep)):=by
 intro x
 induction x using Nd.ind with
 |h x ih=>
 intro met deep bw w0 w hI hB hO hm hd;obtain⟨p,hp⟩: ∃p,dA af x met deep=p:=⟨_,rfl⟩;have hq:=hp;rw[BY]at hq;rw[hp];clear hp;have hbw:w0.heap.size<=bw/\bw<w.heap.size:=by have:=Own.lt hO (by simp);simpa using this
 have B:=al w (aS x);have b0:aG (w.alloc (aS x)) w.heap.size (cN x):=aG.new w _ _;have oB:=Own.below hO B;have VQ:Step w (w.alloc (aS x)) (some ⟨bw,0,none⟩) (some ⟨bw,0,none⟩):=aX B;have hlt:w.heap.size<(w.alloc (aS x)).heap.size:=by simp
 have HI:=hid hI;have pR:=hid ih;have HB:=hid hB;have HO:=hid hO;have Mo:=hid hq;clear hI ih hB hO hq B;go_in
 go_upto_region 1 with(fail)
 generalize w.alloc (aS x)=W0 at*;obtain⟨c0,c1,c2,f1,f2⟩:=mQ.cells oB;obtain⟨o1,iG⟩:=Own.set oB (by simp) 1 (.int .i64 ((met:Int)+1));simp only[fk,gb,amZ]at o1 iG;have b1:=b0.step iG (by omega);have iG:=VQ.trans iG;have o1:mQ (W0.setCell ⟨bw,1,none⟩ (.int .i64 ((met:Int)+1))) w0.heap.size bw af (met+1) 0:=o1;clear b0 oB VQ;have QQ:=hid (aov b1 (aov iG o1));clear b1 iG o1;have hm9:(met:Int)<=1024:=by omega
 go_upto_region 2 with(fail)
 generalize hW1:W0.setCell ⟨bw,1,none⟩ (.int .i64 ((met:Int)+1))=W1 at*;clear hW1;obtain⟨b1,iG,o1⟩:=QQ.out;clear QQ c0 c1 c2 f1 f2;obtain⟨k0,k1,k2,j1,j2⟩:=mQ.cells o1;have hq:=Mo.out;clear Mo
 by_cases h1:1024<=met\/64<=deep
 ·rw[if_pos h1]at hq
  have HQ:=hid hq.symm;clear hq;obtain⟨o2,qI⟩:=Own.set o1 (by simp) 2 (.int .i64 2);simp only[fk,gb,amZ]at o2 qI;have o2:mQ (W1.setCell ⟨bw,2,none⟩ (.int .i64 2)) w0.heap.size bw af (met+1) 2:=o2;have qI:=iG.trans qI;clear b1 iG o1
  by_cases h2:1024<=met
  ·have z2:(1024:Int)<=met:=by omega
   clear h1;go_wp2_with fail;go_ret;exact⟨aJ (by rw[HQ.out];rfl),qI,_,by rw[HQ.out];exact o2,fun h=>by rw[HQ.out]at h;cases h⟩
  ·have z2:(met:Int)<1024:=by omega
   have h3:64<=deep:=by omega
   clear h1;go_wp2_with fail;go_ret;exact⟨aJ (by rw[HQ.out];rfl),qI,_,by rw[HQ.out];exact o2,fun h=>by rw[HQ.out]at h;cases h⟩
 ·rw[if_neg h1]at hq
  have h2:met<1024:=by omega
  have h3:deep<64:=by omega
  clear h1;obtain⟨mb,hmb⟩: ∃mb,dN af x.kind x.th x.val x.kids.length=mb:=⟨_,rfl⟩;rw[hmb]at hq;have CM:=hid (show ∀w,Calls prog 227 #[.int .i64 af,vN x] w (ax w (.bool mb))from fun w=>hmb▸ZZ af x HI.out.loc w);clear hmb;have HQ:=hid hq;clear hq;have RR:=hid (aov b1 (aov iG o1));have q0:=b1.get 0 _ rfl;have q1:=b1.get 1 _ rfl;have q2:=b1.get 2 _ rfl;have q3:=b1.get 3 _ rfl;have q4:=b1.get 4 _ rfl;have q5:=b1.get 5 _ rfl;clear b1 iG o1;go_wp2_with fail;have cA:=fun(d:Nat) (os:Array Obj)=>Calls.regrown_of (kB (CM.out (grow (redrawn W1 d) os)))
  have q0:=cell_regrown q0;have q1:=cell_regrown q1;have q2:=cell_regrown q2;have q3:=cell_regrown q3;have q4:=cell_regrown q4;have q5:=cell_regrown q5;have k0:=cell_regrown k0;refine wp_region_quiet_below (by kernel_rfl) (by kernel_rfl) ?_
  repeat(go_big_quiet_step (exact cA _ _))
  refine wpQuiet_nil ?_;intro _ hw';obtain⟨⟨dq,aV⟩,hw''⟩:=hw';subst hw'';have jI:=below_regrown W1 dq aV;generalize grow (redrawn W1 dq) aV=wq at*;obtain⟨b1,iG,o1⟩:=RR.out;have b1:=b1.below jI;have o1:=Own.below o1 jI;have iG:=iG.trans (aX jI);clear q0 q1 q2 q3 q4 q5 k0 k1 k2 j1 j2 cA RR jI;have D8:=HQ.out;clear HQ;cases mb
  ·have HQ:=hid (show p=(met,(80:Int)) by simpa using D8.symm)
   clear D8;obtain⟨k0,k1,k2,j1,j2⟩:=mQ.cells o1;obtain⟨o2,qI⟩:=Own.set o1 (by simp) 2 (.int .i64 80);simp only[fk,gb,amZ]at o2 qI;have o2:mQ (wq.setCell ⟨bw,2,none⟩ (.int .i64 80)) w0.heap.size bw af (met+1) 80:=o2;have qI:=iG.trans qI;clear b1 iG o1;go_wp2_with fail;go_ret;exact⟨aJ (by rw[HQ.out];rfl),qI,_,by rw[HQ.out];exact o2,fun h=>by rw[HQ.out]at h;cases h⟩
  ·have HQ:=hid (show gP af x.kids (met+1) (deep+1)=p by simpa using D8)
   clear D8;simp only[Bool.not_true];obtain⟨b,hb⟩: ∃b,w.heap.size=b:=⟨_,rfl⟩;rw[hb]at b1 hlt⊢;have eJ:b≠bw:=by omega
   clear hb;have q5:=b1.get 5 _ rfl;go_wp2_with fail;clear q5
   go_loopw [43] (fun i wr=> ∃k m:Nat,k<=x.kids.length/\i= .int .i64 k/\m<=1024/\Step w wr (some ⟨bw,0,none⟩) (some ⟨bw,0,none⟩)/\aG wr b (cN x)/\mQ wr w0.heap.size bw af m 0/\Hid (sW af (x.kids.drop k) m (deep+1) p)) (fun i _=>x.kids.length-(intOf i).toNat)
   case atStart=>exact⟨0,met+1,Nat.zero_le _,rfl,by omega,iG,b1,o1,HQ.out⟩
   case round=>
    obtain⟨k,m,hk,rfl,yd,st,br,oW,HR⟩:=hrel;have q5:=br.get 5 _ rfl;have nR:=st.below HO.out HB.out HB.out.size;have di:=HI.out.keep nR
    by_cases hlk:k<x.kids.length
    ·obtain⟨y,hy⟩: ∃y,x.kids[k]? =some y:=⟨_,amK hlk⟩
     obtain⟨p0,p1,p2,p3,p4,p5⟩:=di.els.nd hy;have ix:=di.els.idx nk ja k hlk x.c;have hkl:=di.els.len;have oA:=Own.below oW (al wr (aS y));have bA:=br.below (al wr (aS y));have sA:=st.trans (aX (al wr (aS y)));have CY:=pR.out y (aou hy) m (deep+1) bw w0 (wr.alloc (aS y)) (HI.out.dm y (aou hy)) (nR.alloc nR.size _) oA yd (by omega);have hle:=WB af y m (deep+1) yd;have hst:=HR.out;unfold sW at hst;rw[Wy hy]at hst;rw[show((deep+1:Nat):Int)=(deep:Int)+1 by omega]at CY;generalize dA af y m (deep+1)=r at*;obtain⟨m2,e2⟩:=r;simp only at hst hle;have CY:=hid CY;clear hy di HR br oW oA st
     by_cases he:e2=0
     ·subst he
      rw[if_pos rfl]at hst;have HST:=hid (show sW af (x.kids.drop (k+1)) m2 (deep+1) p from hst);clear hst;go_wp2_with fail;refine CY.out.mono ?_;rintro e w2 ⟨rfl,s2,s,oS,hs⟩;obtain rfl:=hs rfl;have b2:=bA.step s2 eJ;have st:=sA.trans s2;clear q5 p0 p1 p2 p3 p4 p5 ix sA bA s2;go_wp2_with fail
      go_roundw
      case rel=>exact⟨k+1,s,by omega,by go_num,hle,st,b2,oS,HST⟩
      case measure=>simp[intOf];omega
     ·rw[if_neg he]at hst
      have ze:(e2==0)=false:=by simpa using he
      have HST:=hid hst.symm;clear hst he;go_wp2_with fail;refine CY.out.mono ?_;rintro e w2 ⟨rfl,s2,s,oS, -⟩;have st:=sA.trans s2;simp only[ze];clear q5 p0 p1 p2 p3 p4 p5 ix sA bA s2;go_wp2_with fail;go_ret;exact⟨aJ (by rw[HST.out];exact ze.symm),st,s,by rw[HST.out];exact oS,fun h=>by rw[HST.out]at h;rw[show e2=0 from h]at ze;cases ze⟩
    ·obtain rfl:k=x.kids.length:=by omega
     have hst:=HR.out;unfold sW at hst;rw[aom,BX]at hst;have HST:=hid hst.symm;clear hst HR;go_wp2_with fail;go_ret;exact⟨aJ (by rw[HST.out];rfl),st,m,by rw[HST.out];exact oW,fun _=>by rw[HST.out]⟩
theorem Ah(af q:Int)(x:Nd)(w:World)(hI:cH w x):
 Calls prog 71 #[.int .i64 af,vC q x] w (ax w (.int .i64 (bF af q x))):=by
 have B:=al w (gX q x);obtain⟨ab,hab⟩: ∃ab,aH af=ab:=⟨_,rfl⟩;have CA:=hid (show ∀w,Calls prog 142 #[.int .i64 af] w fun e w'=>e= .returned (.bool ab)/\w=w' from fun w=>hab▸xE af w);cases ab
 ·have HE:=hid (Oo (q:=q) (x:=x) hab)
  clear hab;go_in
  go_wp2_with (go_at_call 142;refine(CA.out _).mono ?_;rintro e w' ⟨rfl,rfl⟩)
  go_ret;exact⟨bJ HE.out.symm,aN⟩
 ·by_cases h1:q<1
  ·have HE:=hid (Du (x:=x) hab (.inl h1))
   clear hab;go_in
   go_wp2_with (go_at_call 142;refine(CA.out _).mono ?_;rintro e w' ⟨rfl,rfl⟩)
   go_ret;exact⟨bJ HE.out.symm,aN⟩
  by_cases h2:q<=3
  ·have h1:1<=q:=by omega
   have B2:=al (w.alloc (gX q x)) (.cells #[.int .i64 af,.int .i64 0,.int .i64 0] 170)
   have oW:mQ ((w.alloc (gX q x)).alloc (.cells #[.int .i64 af,.int .i64 0,.int .i64 0] 170)) (w.alloc (gX q x)).heap.size (w.alloc (gX q x)).heap.size af 0 0:=
    World.ownsRow_lit (w.alloc (gX q x)) #[.int .i64 af,.int .i64 0,.int .i64 0] 1 (Nat.le_refl _) (by unfold maxLen;omega) (by simp)
   have CW:=Z1 af x 0 0 (w.alloc (gX q x)).heap.size (w.alloc (gX q x)) _ (hI.keep B) B2 oW (by omega) (by omega);have HE:=hid (Ot (x:=x) hab h1 h2);generalize dA af x 0 0=r at*;obtain⟨m2,e2⟩:=r;have hsz:(w.alloc (gX q x)).heap.size=w.heap.size+1:=by simp
   have CW:=hid CW;have HO:=hid oW;have HS:=hid hsz;rw[hsz]at CW;clear hab hI oW hsz;go_in
   go_wp2_with (go_at_call 142;refine(CA.out _).mono ?_;rintro e w' ⟨rfl,rfl⟩)
   refine CW.out.mono ?_;rintro e w2 ⟨rfl,s2,s,oS, -⟩;have hO:=HO.out;rw[HS.out]at hO;have B3:=s2.below hO (by rw[<-HS.out];exact B2) (by simp);have B:=B.trans (B3.mono (by simp));obtain⟨c0,c1,c2,f1,f2⟩:=mQ.cells oS;clear oS s2 B2 B3 hO;go_wp2_with fail;go_ret;exact⟨bJ HE.out.symm,aN⟩
  ·have HE:=hid (Du (q:=q) (x:=x) hab (.inr (by omega)))
   have h1:1<=q:=by omega
   clear hab;go_in
   go_wp2_with (go_at_call 142;refine(CA.out _).mono ?_;rintro e w' ⟨rfl,rfl⟩)
   go_ret;exact⟨bJ HE.out.symm,aN⟩
abbrev rdC(af:Int)(s:Tx)(a:Option Addr)(n c:Nat)(k:Int):List Value:=[.int .i64 af,.string (tx s),.slice a n c,.int .i64 k]
structure b7(w:World)(B rb:Nat)(af:Int)(s:Tx)(a:Option Addr)(c:Nat)(L:List Tok)(k:Nat):Prop where
 own:Own w B 185 4 (aos ⟨rb,0,none⟩) 1 1 (rdC af s a L.length c k)
 toks:bf Ac w a L
 ne:L≠[]->bk a≠rb
 le:k<=L.length
 sm:L.length<=262144
 sl:s.length<=262144
section
variable {w:World} {B rb:Nat} {af:Int} {s:Tx} {a:Option Addr} {c:Nat} {L:List Tok} {k:Nat}
theorem b7.cells(h:b7 w B rb af s a c L k):w.cell? ⟨rb,0,none⟩=aos (.int .i64 af)/\w.cell? ⟨rb,1,none⟩=aos (.string (tx s))/\w.cell? ⟨rb,2,none⟩=aos (.slice a L.length c)/\w.cell? ⟨rb,3,none⟩=aos (.int .i64 k)/\w.frozen? ⟨rb,3,none⟩=false/\rb<w.heap.size:=by
 have f3:=Own.frozen h.own (by simp) 3;have c0:=(Own.row h.own).cell 0 (by simp);have c1:=(Own.row h.own).cell 1 (by simp);have c2:=(Own.row h.own).cell 2 (by simp);have c3:=(Own.row h.own).cell 3 (by simp);have lt:=Own.lt h.own (by simp);simp only[fk,gb,amZ]at f3 c0 c1 c2 c3 lt;exact⟨c0,c1,c2,c3,f3,lt.2⟩
theorem b7.below{w':World}(h:b7 w B rb af s a c L k)(hb:Below w.heap.size w w'):b7 w' B rb af s a c L k:=
 ⟨Own.below h.own hb,h.toks.below hb,h.ne,h.le,h.sm,h.sl⟩
theorem bf.step{α:Type}{enc:α->List Value}{m:Nat}{w w':World}{a:Option Addr}{l:List α}{rb:Nat}(hm: ∀x,(enc x).length=m)(hpos:0<m)(h:bf enc w a l)(hs:Step w w' (aos ⟨rb,0,none⟩) (aos ⟨rb,0,none⟩))(hne:l≠[]->bk a≠rb):bf enc w' a l:=by
 refine⟨⟨h.row.head,fun i hi=>?_⟩,h.len⟩;have h1:=h.row.cell i hi;rw[amK hi]at h1⊢;refine hs.grown.cell h1 ?_;have hl:l≠[]:=by intro e;subst e;simp[flat]at hi
 have:=hne hl;simpa using this
theorem b7.next(h:b7 w B rb af s a c L k)(hk:k<L.length):b7 (w.setCell ⟨rb,3,none⟩ (.int .i64 ((k:Int)+1))) B rb af s a c L (k+1)/\Step w (w.setCell ⟨rb,3,none⟩ (.int .i64 ((k:Int)+1))) (aos ⟨rb,0,none⟩) (aos ⟨rb,0,none⟩):=by
 obtain⟨o,st⟩:=Own.set h.own (by simp) 3 (.int .i64 ((k:Int)+1));simp only[fk,gb,amZ]at o st;exact⟨⟨o,bf.step jb (by omega) h.toks st h.ne,h.ne,by omega,h.sm,h.sl⟩,st⟩
end
theorem rU{L:List Tok}{k:Nat}{t:Tok}(h:L[k]? =some t):aA (L.drop k)=t.1:=by
 obtain⟨hlt,rfl⟩:=ano.1 h;rw[aot hlt];rfl
theorem xZ{L:List Tok}{k:Nat}(h:L.length<=k):aA (L.drop k)=[]:=by rw[amT h];rfl
theorem aj3{L:List Tok}{k N:Nat}{t:Tok}(h:L[k]? =some t):iX N (L.drop k)=t.2:=by
 obtain⟨hlt,rfl⟩:=ano.1 h;rw[aot hlt];rfl
theorem aj6{L:List Tok}{k N:Nat}(h:L.length<=k):iX N (L.drop k)=N:=by rw[amT h];rfl
theorem ai9{a b:Tx}(h:a=b):Ending.returned (.string (tx a))= .returned (.string (tx b)):=by rw[h]
theorem Aj{w:World}{B rb:Nat}{af:Int}{s:Tx}{a:Option Addr}{c:Nat}{L:List Tok}{k:Nat}(R:b7 w B rb af s a c L k)(d:Nat)(hd:d<=1):
 Calls prog 236 #[.pointer (some ⟨rb,0,none⟩),.int .i64 d] w (sY w (.string (tx (aA (L.drop (k+d)))))):=by
 obtain⟨c0,c1,c2,c3,f3,lt⟩:=R.cells;have hle:=R.le;have hsm:=R.sm
 by_cases hk:k+d<L.length
 ·obtain⟨t,ht⟩: ∃t,L[k+d]? =some t:=⟨_,amK hk⟩
  obtain⟨d0,d1⟩:=R.toks.tok ht;have ix:=R.toks.idx Fx jb (k+d) hk c;rw[show((k+d:Nat):Int)=(k:Int)+d by omega]at ix;have HF:=hid (rU ht);clear ht R;obtain⟨u,hu⟩: ∃u,aA (L.drop (k+d))=u:=⟨_,rfl⟩;rw[hu]at HF⊢;generalize L.length=n at*;have z:decide ((k:Int)+d<(n:Int))=true:=by simp;omega
  clear hu;go_in;go_wp2_with fail
  go_big_region
  all_goals go_wp2_with fail
  all_goals go_big_region
  all_goals go_wp2_with fail
  all_goals go_ret
  all_goals exact⟨ai9 HF.out.symm,(by repeat(first|exact QW.refl _|refine QW.d ?_ _))⟩
 ·have HF:=hid (xZ (L:=L) (k:=k+d) (by omega))
  clear R;obtain⟨u,hu⟩: ∃u,aA (L.drop (k+d))=u:=⟨_,rfl⟩;rw[hu]at HF⊢;generalize L.length=n at*;have z:decide ((k:Int)+d<(n:Int))=false:=by simp;omega
  clear hu;go_in;go_wp2_with fail
  go_big_region
  all_goals go_wp2_with fail
  all_goals go_ret
  all_goals exact⟨by rw[HF.out];rfl,(by repeat(first|exact QW.refl _|refine QW.d ?_ _))⟩
def dU(n:Int):Ending:=.panicked [{ v:=.iface 180 (.agg #[.int .i64 n]),recovered:=false }]
theorem TS{m n:Int}(h:m=n):dU m=dU n:=by rw[h]
theorem Ai{w:World}{B rb:Nat}{af:Int}{s:Tx}{a:Option Addr}{c:Nat}{L:List Tok}{k:Nat}(R:b7 w B rb af s a c L k):
 Calls prog 239 #[.pointer (some ⟨rb,0,none⟩)] w fun e w'=>e=dU (iX s.length (L.drop k))/\QW w w':=by
 obtain⟨c0,c1,c2,c3,f3,lt⟩:=R.cells;have hle:=R.le;have hsm:=R.sm;have nV:=R.sl
 by_cases hk:k<L.length
 ·obtain⟨t,ht⟩: ∃t,L[k]? =some t:=⟨_,amK hk⟩
  obtain⟨d0,d1⟩:=R.toks.tok ht;have ix:=R.toks.idx Fx jb k hk c;have HF:=hid (aj3 (N:=s.length) ht);clear ht R;obtain⟨u,hu⟩: ∃u,iX s.length (L.drop k)=u:=⟨_,rfl⟩;rw[hu]at HF⊢;generalize L.length=n at*;have z:decide ((k:Int)<(n:Int))=true:=by simp;omega
  clear hu;go_in;go_wp2_with fail
  go_big_region
  all_goals go_wp2_with fail
  all_goals go_region_dies
  all_goals(try go_wp2_with fail)
  all_goals exact⟨rfl,TS (by rw[HF.out]),(by repeat(first|exact QW.refl _|refine QW.d ?_ _))⟩
 ·have HF:=hid (aj6 (N:=s.length) (L:=L) (k:=k) (by omega))
  clear R;obtain⟨u,hu⟩: ∃u,iX s.length (L.drop k)=u:=⟨_,rfl⟩;rw[hu]at HF⊢;generalize L.length=n at*;have hsz:(tx s).size=s.length:=aP s;have z:decide ((k:Int)<(n:Int))=false:=by simp;omega
  clear hu;go_in;go_wp2_with fail
  go_big_region
  all_goals go_wp2_with fail
  all_goals exact⟨rfl,TS (by rw[HF.out]),(by repeat(first|exact QW.refl _|refine QW.d ?_ _))⟩
end Go.Proofs.YtkbbgjloifmmbaaGreatDoor
namespace Go.Proofs.YtkbbgjloifmmbaaGreatDoor
open _root_.Go.Proofs.Tryz
open _root_.List renaming getElem?_eq_getElem->amK,getElem?_eq_some_iff->ano,drop_eq_getElem_cons->aot,drop_eq_nil_of_le->amT,mem_of_getElem?->aou,drop_length->aom
open _root_.Option renaming some->aos
open _root_.Go.Lib renaming atoiAll->anv,itoa->anj,atoiAll_bounds->aow
open _root_.Nat renaming zero_add->amZ
open _root_.And renaming intro->aov
open Go.RowKit
def dr{α:Type}(o:Option α)(v:α)(ok:Bool):Prop:=o=if ok=true then some v else none
theorem dr.yes{α:Type}{o:Option α}{v:α}(h:dr o v true):o=some v:=h
theorem dr.no{α:Type}{o:Option α}{v:α}(h:dr o v false):o=none:=h
def MJ(o:Option Int)(w:World)(e:Ending)(w':World):Prop:= ∃v ok,e= .returned (.tuple #[.int .i64 v,.bool ok])/\dr o v ok/\Below w.heap.size w w'
theorem Tl{s:Tx}{v:Int}(h:anv s= .ok v)(hn:aY v=true):dr (cD s) v (anj v==s):=by
 unfold dr;rw[Ka h]
 by_cases hh:anj v=s
 ·rw[if_pos ⟨hh,hn⟩,if_pos (by simpa using hh)]
 ·rw[if_neg (fun h=>hh h.1),if_neg (by simpa using hh)]
theorem Tj{s:Tx}{v:Int}(h:anv s= .ok v)(hn:aY v=false)(u:Int):dr (cD s) u false:=by
 unfold dr;rw[Ka h,if_neg (by rw[hn];rintro⟨-, h⟩;cases h)];rfl
theorem Ti{s:Tx}(h: ∀v,anv s≠ .ok v)(u:Int):dr (cD s) u false:=Tf h
theorem Ev{v:Int}:aY v=true<-> -2147483648<=v/\v<=2147483647:=by unfold aY;rw[Bool.and_eq_true,decide_eq_true_eq,decide_eq_true_eq]
theorem adl(s:Tx)(hl:s.length<=1000000)(w:World)(g:Gl w):Calls prog 175 #[.string (tx s)] w (MJ (cD s) w):=by
 by_cases hv: ∃v,anv s= .ok v
 ·obtain⟨v,hv⟩:=hv
  obtain⟨b1,b2⟩:=aow hv;have AT:=hid (Dj s hl v hv);have IT:=hid (fun(w:World) (g:Gl w)=>jV v b1 b2 w g);cases hb:aY v with
  | true=>
    have HB:=hid hb;have HO:=hid (Tl hv hb);obtain⟨c1,c2⟩:=Ev.1 hb;obtain⟨u,hu⟩: ∃u,anj v=u:=⟨_,rfl⟩;rw[hu]at HO IT;have hz:((tx u).toList==(tx s).toList)=(u==s):=jG u s;generalize (u==s)=bb at*;have z1:decide (-2147483648<=v)=true:=by simpa using c1
    have z2:decide (v<=2147483647)=true:=by simpa using c2
    clear hv hb hu b1 b2 c1 c2 hl;go_in;go_wp2_with fail;refine(AT.out _).mono ?_;rintro e w1 ⟨rfl,E⟩;have g1:=g.below E
    go_wp2_with (first|fail|(go_at_call 178;refine(Jy v _).mono ?_;rintro e w' ⟨rfl,rfl⟩;rw[HB.out]))
    refine(IT.out _ g1).mono ?_;rintro e w2 ⟨rfl,E2⟩;have E:=E.trans (E2.mono E.size);cases bb<;>
    ·go_wp2_with fail
     go_ret2
     exact⟨v,_,rfl,HO.out,E⟩
  | false=>
    have HB:=hid hb;have HO:=hid (Tj hv hb);clear hv hb b1 b2 hl;go_in;go_wp2_with fail;refine(AT.out _).mono ?_;rintro e w1 ⟨rfl,E⟩
    go_wp2_with (first|fail|(go_at_call 178;refine(Jy v _).mono ?_;rintro e w' ⟨rfl,rfl⟩;rw[HB.out]))
    go_ret2
    exact⟨v,_,rfl,HO.out _,E⟩
 ·have hv: ∀v,anv s≠ .ok v:=fun v h=>hv ⟨v,h⟩
  have AT:=hid (Di s hl hv);have HO:=hid (Ti hv);clear hv hl;go_in;go_wp2_with fail;refine(AT.out _ g).mono ?_;rintro e w1 ⟨n,tp,p,rfl,E⟩;go_wp2_with fail
  go_ret2
  exact⟨n,_,rfl,HO.out _,E⟩
theorem UQ(s:Tx)(hl:s.length<=1000000)(w:World)(g:Gl w):Calls prog 51 #[.string (tx s)] w (MJ (cD s) w):=by
 by_cases hv: ∃v,anv s= .ok v
 ·obtain⟨v,hv⟩:=hv
  obtain⟨b1,b2⟩:=aow hv;have AT:=hid (Dj s hl v hv);have IT:=hid (fun(w:World) (g:Gl w)=>jV v b1 b2 w g);cases hb:aY v with
  | true=>
    have HB:=hid hb;have HO:=hid (Tl hv hb);obtain⟨c1,c2⟩:=Ev.1 hb;obtain⟨u,hu⟩: ∃u,anj v=u:=⟨_,rfl⟩;rw[hu]at HO IT;have hz:((tx u).toList==(tx s).toList)=(u==s):=jG u s;generalize (u==s)=bb at*;have z1:decide (-2147483648<=v)=true:=by simpa using c1
    have z2:decide (v<=2147483647)=true:=by simpa using c2
    clear hv hb hu b1 b2 c1 c2 hl;go_in;go_wp2_with fail;refine(AT.out _).mono ?_;rintro e w1 ⟨rfl,E⟩;have g1:=g.below E
    go_wp2_with (first|fail)
    refine(IT.out _ g1).mono ?_;rintro e w2 ⟨rfl,E2⟩;have E:=E.trans (E2.mono E.size);cases bb<;>
    ·go_wp2_with fail
     go_ret2
     exact⟨v,_,rfl,HO.out,E⟩
  | false=>
    have HO:=hid (Tj hv hb)
    have c:v< -2147483648\/(-2147483648<=v/\2147483647<v):=by
     rcases Int.lt_or_le v (-2147483648)with h|h
     ·exact .inl h
     ·refine .inr ⟨h,?_⟩
      rcases Int.lt_or_le 2147483647 v with h'|h'
      ·exact h'
      ·rw[Ev.2 ⟨h,h'⟩]at hb;cases hb
    obtain⟨u,hu⟩: ∃u,anj v=u:=⟨_,rfl⟩;rw[hu]at IT;have hz:((tx u).toList==(tx s).toList)=(u==s):=jG u s;generalize (u==s)=bb at*;clear hv hb hu b1 b2 hl;rcases c with c|⟨c1,c2⟩
    ·have z1:decide (-2147483648<=v)=false:=by simp;omega
     clear c;go_in;go_wp2_with fail;refine(AT.out _).mono ?_;rintro e w1 ⟨rfl,E⟩;have g1:=g.below E;go_wp2_with fail;refine(IT.out _ g1).mono ?_;rintro e w2 ⟨rfl,E2⟩;have E:=E.trans (E2.mono E.size);cases bb<;>
     ·go_wp2_with fail
      go_ret2
      exact⟨v,_,rfl,HO.out _,E⟩
    ·have z1:decide (-2147483648<=v)=true:=by simpa using c1
     have z2:decide (v<=2147483647)=false:=by simp;omega
     clear c1 c2;go_in;go_wp2_with fail;refine(AT.out _).mono ?_;rintro e w1 ⟨rfl,E⟩;have g1:=g.below E;go_wp2_with fail;refine(IT.out _ g1).mono ?_;rintro e w2 ⟨rfl,E2⟩;have E:=E.trans (E2.mono E.size);cases bb<;>
     ·go_wp2_with fail
      go_ret2
      exact⟨v,_,rfl,HO.out _,E⟩
 ·have hv: ∀v,anv s≠ .ok v:=fun v h=>hv ⟨v,h⟩
  have AT:=hid (Di s hl hv);have HO:=hid (Ti hv);clear hv hl;go_in;go_wp2_with fail;refine(AT.out _ g).mono ?_;rintro e w1 ⟨n,tp,p,rfl,E⟩;go_wp2_with fail
  go_ret2
  exact⟨n,_,rfl,HO.out _,E⟩
def sw(o:Option Nat):Int × Int:=match o with
 |some n=>(n,0)
 |none=>(0,90)
theorem aiY{s:Tx}{n:Nat}(h:n<15)(e:aO n=s):sw (cU s)=((n:Int),0):=by subst e;rw[Fb h];rfl
theorem ai1{s:Tx}(h: ∀m,m<15->aO m≠s):sw (cU s)=(0,90):=by
 cases hr:cU s with
 |none=>rfl
 |some n=>obtain⟨h1,h2⟩:=Fc hr;exact absurd h2.symm (h n h1)
theorem Vc{a b c d:Int}(h:a=c)(h':b=d):Ending.returned (.tuple #[.int .i64 a,.int .i64 b])= .returned (.tuple #[.int .i64 c,.int .i64 d]):=by rw[h,h']
end Go.Proofs.YtkbbgjloifmmbaaGreatDoor
namespace Go.Proofs.YtkbbgjloifmmbaaGreatDoor
open _root_.Go.Proofs.Tryz
open _root_.List renaming getElem?_eq_getElem->amK,getElem?_eq_some_iff->ano,drop_eq_getElem_cons->aot,drop_eq_nil_of_le->amT,mem_of_getElem?->aou,drop_length->aom
open _root_.Option renaming some->aos
open _root_.Go.Lib renaming atoiAll->anv,itoa->anj,atoiAll_bounds->aow
open _root_.Nat renaming zero_add->amZ
open _root_.And renaming intro->aov
open Go.RowKit Go.Sort
abbrev St(w w':World)(rb:Nat):Prop:=Step w w' (aos ⟨rb,0,none⟩) (aos ⟨rb,0,none⟩)
theorem St.refl(w:World)(rb:Nat):St w w rb:=aX (Below.refl _ _)
theorem QW.aQ{w w':World}(h:QW w w'):Below w.heap.size w w':=by obtain⟨n,rfl⟩:=h;exact below_drewN _ _
def eO{α:Type}(w:World)(B rb:Nat)(af:Int)(s:Tx)(a:Option Addr)(c:Nat)(L:List Tok)(p:PR α)(V:α->Ending->World->Prop)(e:Ending)(w':World):Prop:=
 St w w' rb/\((∃l,p= .error l/\e=dU (iX s.length l))\/(∃x k,p= .ok (x,L.drop k)/\V x e w'/\b7 w' B rb af s a c L k))
section
variable {α:Type} {w w':World} {B rb:Nat} {af:Int} {s:Tx} {a:Option Addr} {c:Nat} {L:List Tok} {p:PR α} {V:α->Ending->World->Prop} {e:Ending}
theorem eO.fP(h:eO w B rb af s a c L p V e w'){x:α}{r:List Tok}(hp:p= .ok (x,r)): ∃k,r=L.drop k/\V x e w'/\b7 w' B rb af s a c L k/\St w w' rb:=by
 obtain⟨h1,⟨l,h2,h3⟩|⟨y,k,h2,h3,h4⟩⟩:=h
 ·rw[hp]at h2;cases h2
 ·rw[hp]at h2;cases h2;exact⟨k,rfl,h3,h4,h1⟩
theorem eO.err(h:eO w B rb af s a c L p V e w'){l:List Tok}(hp:p= .error l):e=dU (iX s.length l)/\St w w' rb:=by
 obtain⟨h1,⟨l,h2,h3⟩|⟨y,k,h2,h3,h4⟩⟩:=h
 ·rw[hp]at h2;cases h2;exact⟨h3,h1⟩
 ·rw[hp]at h2;cases h2
end
def LG(p:Except (List Tok) (List Tok)):PR Unit:=match p with
 | .ok r=>.ok ((),r)
 | .error e=>.error e
def VU(x:Unit)(e:Ending)(w:World):Prop:=e= .returned (.tuple #[])
theorem drop_at{L:List Tok}{k:Nat}{t:Tok}(h:L[k]? =some t):L.drop k=t::L.drop (k+1):=by
 obtain⟨hlt,rfl⟩:=ano.1 h;exact aot hlt
theorem vo{w:World}{B rb:Nat}{af:Int}{s:Tx}{a:Option Addr}{c:Nat}{L:List Tok}{k:Nat}(R:b7 w B rb af s a c L k)(u:Tx)(hu:u≠[]):
 Calls prog 237 #[.pointer (some ⟨rb,0,none⟩),.string (tx u)] w (eO w B rb af s a c L (LG (bt u (L.drop k))) VU):=by
 have PK:=hid (Aj R 0 (by omega));rw[Nat.add_zero,show((0:Nat):Int)=0 by rfl]at PK;have FL:=hid (fun(w:World) (R:b7 w B rb af s a c L k)=>Ai R);have HR:=hid R
 by_cases hh: ∃t,L[k]? =some t/\t.1=u
 ·obtain⟨t,ht,rfl⟩:=hh
  have hp:LG (bt t.1 (L.drop k))= .ok ((),L.drop (k+1)):=by rw[drop_at ht,uk,if_pos rfl];rfl
  have hlt:=(ano.1 ht).1;rw[hp];rw[rU ht]at PK;have z:((tx t.1).toList==(tx t.1).toList)=true:=by simp
  have HL:=hid hlt;clear hp ht hlt hu R;generalize t.1=u at*;go_in;go_wp2_with fail;refine PK.out.mono ?_;rintro e w1 ⟨rfl,q⟩;have R1:=HR.out.below q.aQ;obtain⟨c0,c1,c2,c3,f3,lt⟩:=R1.cells;obtain⟨R2,S2⟩:=R1.next HL.out;have S:=(aX (bw:=rb) q.aQ).trans S2;have HS:=hid S;have H2:=hid R2;have hb:k<=262144:=by have:=R1.le;have:=R1.sm;omega
  clear R1 R2 S S2 q;go_wp2_with fail
  go_end0
  exact⟨HS.out,.inr ⟨(),k+1,rfl,rfl,H2.out⟩⟩
 ·have hne:aA (L.drop k)≠u:=by
   intro e
   by_cases hk:k<L.length
   ·exact hh ⟨_,amK hk,by rw[<-e,rU (amK hk)]⟩
   ·rw[xZ (by omega)]at e;exact hu e.symm
  have hp:LG (bt u (L.drop k))= .error (L.drop k):=by
   by_cases hk:k<L.length
   ·have ht:=amK hk
    rw[drop_at ht,uk,if_neg (fun e=>hh ⟨_,ht,e⟩)];rfl
   ·rw[amT (by omega)];rfl
  rw[hp];have z:((tx (aA (L.drop k))).toList==(tx u).toList)=false:=sI hne;generalize aA (L.drop k)=v at*;clear hp hne hu R hh;go_in;go_wp2_with fail;refine PK.out.mono ?_;rintro e w1 ⟨rfl,q⟩;have R1:=HR.out.below q.aQ;have FL:=hid (FL.out _ R1);have Q:=hid q;clear R1 q;go_wp2_with fail;refine FL.out.mono ?_;rintro e w2 ⟨rfl,q2⟩;unfold dU;go_wp2_with fail;exact⟨rfl,(aX (bw:=rb) Q.out.aQ).trans (aX q2.aQ),.inl ⟨_,rfl,rfl⟩⟩
end Go.Proofs.YtkbbgjloifmmbaaGreatDoor
