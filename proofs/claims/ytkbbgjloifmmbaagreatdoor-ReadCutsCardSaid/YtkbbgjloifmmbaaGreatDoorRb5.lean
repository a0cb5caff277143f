/- What ReadBackP leans on, part 5. -/
import Derived.Test.YtkbbgjloifmmbaaGreatDoorRb4
import Derived.Deep.DeepCutAuto
set_option linter.unusedVariables false
set_option maxRecDepth 100000
set_option maxHeartbeats 12800000
namespace Go.Proofs.YtkbbgjloifmmbaaGreatDoor
open _root_.Go.Proofs.Tryz
open _root_.List renaming getElem?_eq_some_iff->ano,take_of_length_le->apq,drop_of_length_le->aqq,take_append_drop->aog,length_take->aoc,eq_nil_of_length_eq_zero->amN,getElem?_append_right->aqt,flatMap_cons->aqu,getElem?_append_left->aqv,getElem?_eq_getElem->amK,takeWhile_cons->anC,flatMap_append->aqi,length_cons->ans,take_left'->aqw,drop_left'->aqx
open _root_.Nat renaming mul_le_mul_right->aqr,min_eq_left->aqs,zero_mul->apg,succ_mul->aoq
open _root_.ByteArray renaming empty->aqy
open Go.RowKit
theorem UT{op:Tx}{l:List Tx}(h1:op≠[108,119])(h2:op≠[115,119])(h3:op≠[102,101,110,99,101])(h:l.length≠3):dZ op l=none:=by
 unfold dZ;rw[if_neg h1,if_neg h2,if_neg h3]
 match l with
 |[]=>rfl
 |[_]=>rfl
 |[_,_]=>rfl
 |[_,_,_]=>simp at h
 |_::_::_::_::_=>rfl
theorem yN{op:Tx}(x y z:Tx)(h1:op≠[108,119])(h2:op≠[115,119])(h3:op≠[102,101,110,99,101]):dZ op [x,y,z]=match bP x,bP y with
 | some a,some b=>
   if op=[98,110,101]then(if az z then some ⟨11,0,a,b,0,[],z,0⟩else none)
   else if op=[111,114,105]then(match nr z with
    |some n=>some ⟨8,a,b,0,n,[],[],0⟩
    |none=>none)
   else match bP z with
    |some c=>if op=[120,111,114]then some ⟨9,a,b,c,0,[],[],0⟩else if op=[97,100,100]then some ⟨10,a,b,c,0,[],[],0⟩else none
    |none=>none
 |_,_=>none:=by
 unfold dZ;rw[if_neg h1,if_neg h2,if_neg h3];rfl
theorem jm(op q:Tx)(h:op≠q):((tx op).toList==q)=false:=by rw[aW];simpa using h
theorem Lz(op q:Tx)(h:op=q):((tx op).toList==q)=true:=by rw[aW];simpa using h
theorem aij(op:Tx)(l:List Tx)(a:Option Addr)(c:Nat)(w:World)(h:cP w a l)(hs:Sm l)(h1:op≠[108,119])(h2:op≠[115,119])(h3:op≠[102,101,110,99,101]):
 ∃ (P Q:Int) (tz:Tx) (ok:Bool),Calls prog 184 #[.slice a l.length c] w (ax w (.tuple #[.int .i64 P,.int .i64 Q,.string (tx tz),.bool ok]))/\
   (ok=false/\dZ op (l.map ah)=none\/ok=true/\ ∃p q:Nat,P=p/\Q=q/\p<32/\q<32/\ah tz=tz/\tz.length<=1000000/\dZ op (l.map ah)=
    if op=[98,110,101]then(if az tz then some ⟨11,0,p,q,0,[],tz,0⟩else none)
    else if op=[111,114,105]then(match nr tz with
     |some n=>some ⟨8,p,q,0,n,[],[],0⟩
     |none=>none)
    else match bP tz with
     |some c=>if op=[120,111,114]then some ⟨9,p,q,c,0,[],[],0⟩else if op=[97,100,100]then some ⟨10,p,q,c,0,[],[],0⟩else none
     |none=>none):=by
 by_cases hl:l.length=3
 ·obtain⟨x,y,z,rfl⟩:=RX hl
  refine⟨_,_,_,_,agO x y z a c w h hs,?_⟩;rw[show[x,y,z].map ah=[ah x,ah y,ah z]from rfl,yN _ _ _ h1 h2 h3];cases hx:bP (ah x)with
  |none=>exact .inl ⟨rfl,rfl⟩
  | some p=>cases hy:bP (ah y)with
    |none=>exact .inl ⟨rfl,rfl⟩
    |some q=>exact .inr ⟨rfl,p,q,rfl,rfl,pH p hx,pH q hy,We z,Nat.le_trans (j3 z) (hs z (by simp)),rfl⟩
 ·exact⟨0,0,[],false,agP l.length c a hl w,.inl ⟨rfl,UT h1 h2 h3 (by simpa using hl)⟩⟩
theorem agM(op:Tx)(l:List Tx)(a:Option Addr)(c:Nat)(w:World)(h:cP w a l)(hs:Sm l)(g:Gl w):Calls prog 102 #[.string (tx op),.slice a l.length c] w (Rd (dZ op (l.map ah)) w):=by
 by_cases h1:op=[108,119]
 ·subst h1;exact agN l a c w h hs
 have z1:=jm _ _ h1
 by_cases h2:op=[115,119]
 focus
  have z2:=Lz _ _ h2;have C:=hid (aeL l a c (w.alloc fS) (h.below (al _ _)) hs);rw[<-h2]at C;clear h2
 rotate_left
 have z2:=jm _ _ h2
 by_cases h3:op=[102,101,110,99,101]
 focus
  have z3:=Lz _ _ h3;have C:=hid (aa6 l a c (w.alloc fS) (h.below (al _ _)) hs);rw[<-h3]at C;clear h2 h3
 rotate_left
 ·have z3:=jm _ _ h3
  obtain⟨P,Q,tz,ok,C,H⟩:=aij op l a c (w.alloc fS) (h.below (al _ _)) hs h1 h2 h3;have C:=hid C;have H:=hid H;have g1:=hid (g.below (al w fS));generalize dZ op (l.map ah)=r at*;generalize l.length=n at*;have HZ:=hid (fun q=>jm op q);have HY:=hid (fun q=>Lz op q);clear h1 h2 h3 h hs g;go_in;go_wp2_with fail;refine C.out.mono ?_;rintro e w1 ⟨rfl,E⟩;rcases H.out with⟨rfl,hr⟩|⟨rfl,p,q,rfl,rfl,hp,hq,hz,hzl,hr⟩
  ·have HK:=hid (show iT ⟨0,0,0,0,0,[],[],0⟩ false=r from hr.symm)
   obtain⟨⟨d0,d1,d2,d3,d4,d5,d6,d7⟩,hf,hlt,B⟩:=dX E;clear E H hr;go_wp2_with fail;exact bodyPost_ret (by simp[results,results102,go_sem,d0,d1,d2,d3,d4,d5,d6,d7]) rfl (Rd.of ⟨rfl,aK⟩ HK.out)
  clear H
  by_cases h4:op=[98,110,101]
  ·have z4:=HY.out _ h4
   rw[if_pos h4]at hr;have HK:=hid ((adz (z:=tz) hp hq).trans hr.symm);obtain⟨⟨d0,d1,d2,d3,d4,d5,d6,d7⟩,hf,hlt,B⟩:=dX E;clear E hr h4 hz;go_wp2_with fail;exact bodyPost_ret (by simp[results,results102,go_sem,d0,d1,d2,d3,d4,d5,d6,d7]) rfl ⟨_,_,_,_,_,tz,_,_,rfl,HK.out,hzl,aK⟩
  have z4:=HZ.out _ h4;rw[if_neg h4]at hr;have g2:=g1.out.below E
  by_cases h5:op=[111,114,105]
  ·have z5:=HY.out _ h5
   rw[if_pos h5]at hr
   by_cases hv: ∃v,Lib.atoiAll tz= .ok v
   ·obtain⟨v,hv⟩:=hv
    obtain⟨b1,b2⟩:=Lib.atoiAll_bounds hv;have AT:=hid (Dj tz hzl v hv);have HK:=hid ((adC hp hq hv).trans hr.symm);have IT:=hid (fun(w:World) (g:Gl w)=>jV v b1 b2 w g);obtain⟨u,hu⟩: ∃u,Lib.itoa v=u:=⟨_,rfl⟩;rw[hu]at HK IT;have hz:((tx u).toList==(tx tz).toList)=(u==tz):=jG u tz;generalize (u==tz)=bb at*;clear hu hv b1 b2 hr h4 h5;go_wp2_with fail;refine(AT.out _).mono ?_;rintro e w2 ⟨rfl,E2⟩;have g3:=g2.below E2;have E:=ay E E2;go_wp2_with fail;refine(IT.out _ g3).mono ?_;rintro e w3 ⟨rfl,E3⟩;have E:=ay E E3;obtain⟨⟨d0,d1,d2,d3,d4,d5,d6,d7⟩,hf,hlt,B⟩:=dX E;clear E;go_wp2_with fail;exact bodyPost_ret (by simp[results,results102,go_sem,d0,d1,d2,d3,d4,d5,d6,d7]) rfl (Rd.of ⟨rfl,aK⟩ HK.out)
   ·have AT:=hid (Di tz hzl (fun v e=>hv ⟨v,e⟩))
    have Xn:=hid (show ∀n,iT ⟨8,p,q,0,n,[],[],0⟩ false=r from fun n=>by rw[hr,ae9 (fun v e=>hv ⟨v,e⟩)];rfl);clear hv hr h4 h5;go_wp2_with fail;refine(AT.out _ g2).mono ?_;rintro e w2 ⟨n,tp,pp,rfl,E2⟩;have HK:=hid (Xn.out n);have E:=ay E E2;obtain⟨⟨d0,d1,d2,d3,d4,d5,d6,d7⟩,hf,hlt,B⟩:=dX E;clear E;go_wp2_with fail;exact bodyPost_ret (by simp[results,results102,go_sem,d0,d1,d2,d3,d4,d5,d6,d7]) rfl (Rd.of ⟨rfl,aK⟩ HK.out)
  have z5:=HZ.out _ h5;rw[if_neg h5]at hr;have RG:=hid (yH tz (by omega));rw[hz]at RG
  by_cases h6:op=[120,111,114]
  focus
   have z6:=HY.out _ h6;have HK:=hid ((RJ (op:=9) (by omega) hp hq (o:=bP tz) pH).trans (show _=r by rw[hr];simp only[if_pos h6];cases bP tz<;>rfl))
   clear h6
  rotate_left
  have z6:=HZ.out _ h6
  by_cases h7:op=[97,100,100]
  focus
   have z7:=HY.out _ h7;have HK:=hid ((RJ (op:=10) (by omega) hp hq (o:=bP tz) pH).trans (show _=r by rw[hr];simp only[if_neg h6,if_pos h7];cases bP tz<;>rfl))
   clear h6 h7
  rotate_left
  focus
   have z7:=HZ.out _ h7;have HK:=hid (show iT ⟨0,0,0,0,0,[],[],0⟩ false=r by rw[hr];simp only[if_neg h6,if_neg h7];cases bP tz<;>rfl)
   clear h6 h7
  all_goals
   clear hr h4 h5 hz;generalize bP tz=rz at*;go_wp2_with fail;refine(RG.out _).mono ?_;rintro e w2 ⟨rfl,E2⟩;have E:=ay E E2;obtain⟨⟨d0,d1,d2,d3,d4,d5,d6,d7⟩,hf,hlt,B⟩:=dX E;clear E E2;go_wp2_with fail;exact bodyPost_ret (by simp[results,results102,go_sem,d0,d1,d2,d3,d4,d5,d6,d7]) rfl (Rd.of ⟨rfl,aK⟩ HK.out)
 all_goals
  generalize dZ op (l.map ah)=r at*;generalize l.length=n at*;clear h1 h hs g;go_in;go_wp2_with fail;refine C.out.mono ?_;rintro e w1 ⟨op',d,a1,b,ag,label,ai,ok,rfl,hk,hl,E⟩;obtain⟨⟨d0,d1,d2,d3,d4,d5,d6,d7⟩,hf,hlt,B⟩:=dX E;have HK:=hid hk;clear hk E;go_wp2_with fail;exact bodyPost_ret (by simp[results,results102,go_sem,d0,d1,d2,d3,d4,d5,d6,d7]) rfl ⟨op',d,a1,b,ag,label,ai,ok,rfl,HK.out,hl,aK⟩
attribute [local go_sem high] qa jX
theorem Uw:UF aj 101:=fun c=>Nv c _ (by decide)
theorem VX(p:UInt8->Bool): ∀(l:Tx) (k:Nat),(∀(j:Nat) c,j<k->l[j]? =some c->p c=true)->(∀c,l[k]? =some c->p c=false)->k<=l.length->(l.takeWhile p).length=k
 |[],k,_,_,h=>by simp at h;subst h;rfl
 |b::l,0,_,h2,_=>by rw[anC,if_neg (by rw[h2 b rfl];simp)];rfl
 | b::l,k+1,h1,h2,h3=>by
   rw[anC,if_pos (h1 0 b (by omega) rfl),ans,VX p l k (fun j c hj hc=>h1 (j+1) c (by omega) (by simpa using hc)) (fun c hc=>h2 c (by simpa using hc)) (by simpa using h3)]
theorem Ii{w w':World}{v0 v1 v2 v3 v4 v5 v6 v7:Value}{t:TypeId}(h:Below (w.alloc (.cells #[v0,v1,v2,v3,v4,v5,v6,v7] t)).heap.size (w.alloc (.cells #[v0,v1,v2,v3,v4,v5,v6,v7] t)) w'):
 (w'.cell? ⟨w.heap.size,0,none⟩=some v0/\w'.cell? ⟨w.heap.size,1,none⟩=some v1/\w'.cell? ⟨w.heap.size,2,none⟩=some v2/\w'.cell? ⟨w.heap.size,3,none⟩=some v3/\w'.cell? ⟨w.heap.size,4,none⟩=some v4/\w'.cell? ⟨w.heap.size,5,none⟩=some v5/\w'.cell? ⟨w.heap.size,6,none⟩=some v6/\w'.cell? ⟨w.heap.size,7,none⟩=some v7)/\
 (∀k,w'.frozen? ⟨w.heap.size,k,none⟩=false)/\w.heap.size<w'.heap.size/\Below w.heap.size w w':=by
 have hs:=h.size;simp at hs
 have hc: ∀k,w'.cell? ⟨w.heap.size,k,none⟩=(#[v0,v1,v2,v3,v4,v5,v6,v7]:Array Value)[k]? :=fun k=>by
  rw[h.cell (p:=⟨w.heap.size,k,none⟩) (by simp)];have hh:=heap_alloc_new w (.cells #[v0,v1,v2,v3,v4,v5,v6,v7] t);simp only[World.cell?,hh];simp
 refine⟨⟨hc 0,hc 1,hc 2,hc 3,hc 4,hc 5,hc 6,hc 7⟩,fun k=>?_,by omega,(al w _).trans (h.mono (al w _).size)⟩;rw[h.frozen (p:=⟨w.heap.size,k,none⟩) (by simp)];have hh:=heap_alloc_new w (.cells #[v0,v1,v2,v3,v4,v5,v6,v7] t);simp only[World.frozen?,hh];simp
def Jt(r:Option Ins):Ins:=match r with
 |some i=>i
 |none=>Rh
def Hz(r:Option Ins):Int:=match r with
 |some _=>0
 |none=>91
def cZ(r:Option Ins)(w:World)(e:Ending)(w':World):Prop:=e= .returned (.tuple #[vI (Jt r),.int .i64 (Hz r)])/\Below w.heap.size w w'
theorem cZ.no{w w':World}{e:Ending}{r:Option Ins}(hr:r=none)(h:e= .returned (.tuple #[.agg #[.int .i64 0,.int .i64 0,.int .i64 0,.int .i64 0,.int .i64 0,.string ⟨#[]⟩,.string ⟨#[]⟩,.int .i64 0],.int .i64 91]))(hb:Below w.heap.size w w'):cZ r w e w':=by
 subst hr h;exact⟨rfl,hb⟩
theorem cZ.yes{w w':World}{e:Ending}{r:Option Ins}{op d a b ag ai:Int}{label:Tx}(hr:r=some ⟨op,d,a,b,ag,[],label,ai⟩)(h:e= .returned (.tuple #[.agg #[.int .i64 op,.int .i64 d,.int .i64 a,.int .i64 b,.int .i64 ag,.string ⟨#[]⟩,.string (tx label),.int .i64 ai],.int .i64 0]))(hb:Below w.heap.size w w'):cZ r w e w':=by
 subst hr h;exact⟨rfl,hb⟩
theorem cZ.alI{w w':World}{e:Ending}{r:Option Ins}{op d a b ag ai:Int}(hr:r=some ⟨op,d,a,b,ag,[],[],ai⟩)(h:e= .returned (.tuple #[.agg #[.int .i64 op,.int .i64 d,.int .i64 a,.int .i64 b,.int .i64 ag,.string ⟨#[]⟩,.string ⟨#[]⟩,.int .i64 ai],.int .i64 0]))(hb:Below w.heap.size w w'):cZ r w e w':=by
 subst hr h;exact⟨rfl,hb⟩
theorem agH(s:Tx)(hl:262144<s.length)(w:World):Calls prog 44 #[.string (tx s)] w (cZ (eD s) w):=by
 obtain⟨r,hr⟩: ∃r,eD s=r:=⟨_,rfl⟩;rw[hr];have HK:=hid (show r=none by rw[<-hr];unfold eD;rw[if_pos hl]);obtain⟨n,hn⟩: ∃n,(tx s).size=n:=⟨_,rfl⟩;have hz:decide (262144<(n:Int))=true:=by rw[<-hn,aP];simp;omega
 clear hr hl;go_in;go_wp2_with fail;exact bodyPost_ret (by simp[results,results44,go_sem]) rfl (cZ.no HK.out rfl aK)
theorem agJ(s:Tx)(hl:s.length<=262144)(ht:ah s=[102,101,110,99,101,46,116,115,111])(w:World):Calls prog 44 #[.string (tx s)] w (cZ (eD s) w):=by
 obtain⟨r,hr⟩: ∃r,eD s=r:=⟨_,rfl⟩;rw[hr];have HK:=hid (show r=some ⟨13,0,0,0,0,[],[],2⟩ by rw[<-hr];unfold eD;rw[if_neg (by omega)];simp only[ht];rw[if_pos trivial]);obtain⟨n,hn⟩: ∃n,(tx s).size=n:=⟨_,rfl⟩;have fC:n=s.length:=by rw[<-hn,aP]
 have hz:decide (262144<(n:Int))=false:=by simp;omega
 have TR:=hid (fun(w:World)=>qA s (by omega) w);rw[ht]at TR;have z:((tx [102,101,110,99,101,46,116,115,111]).toList==[102,101,110,99,101,46,116,115,111])=true:=by rw[aW];rfl
 clear hr hl fC ht;go_in;go_wp2_with fail;refine(TR.out _).mono ?_;rintro e w1 ⟨rfl,E⟩;obtain⟨⟨d0,d1,d2,d3,d4,d5,d6,d7⟩,hf,hlt,B⟩:=dX E;clear E;go_wp2_with fail;exact bodyPost_ret (by simp[results,results44,go_sem,d0,d1,d2,d3,d4,d5,d6,d7]) rfl (cZ.alI HK.out rfl aK)
theorem agG(s t:Tx)(hl:s.length<=262144)(ht:ah s=t)(h1:t≠[102,101,110,99,101,46,116,115,111])(h2:t.getLast?=some 58)(w:World):Calls prog 44 #[.string (tx s)] w (cZ (eD s) w):=by
 obtain⟨r,hr⟩: ∃r,eD s=r:=⟨_,rfl⟩;rw[hr];have HK:=hid (show r=if az (ah t.dropLast)then some ⟨12,0,0,0,0,[],ah t.dropLast,0⟩else none by rw[<-hr];unfold eD;rw[if_neg (by omega)];simp only[ht];rw[if_neg h1,if_pos h2]);obtain⟨n,hn⟩: ∃n,(tx s).size=n:=⟨_,rfl⟩;have fC:n=s.length:=by rw[<-hn,aP]
 have hz:decide (262144<(n:Int))=false:=by simp;omega
 have TR:=hid (fun(w:World)=>qA s (by omega) w);rw[ht]at TR;have htl:=j3 s;rw[ht]at htl;have z:((tx t).toList==[102,101,110,99,101,46,116,115,111])=false:=jm _ _ h1;have hs2:=BK t 58 (by omega);rw[show(t.getLast?==some 58)=true by rw[h2];rfl]at hs2;have SF:=hid hs2;obtain⟨m,hm⟩: ∃m,t.length=m:=⟨_,rfl⟩
 have yd:1<=m:=by
  rcases Nat.eq_zero_or_pos m with h0|h0
  ·rw[h0]at hm;have:=amN hm;rw[this]at h2;cases h2
  ·exact h0
 have htm:(tx t).size=m:=by rw[aP,hm]
 have sl: ∀w,(Instr.sliceAt 9 (.string (tx t)) none (some (.int .i64 ((m:Int)-1))) none).run prog w= .ok (.string (tx t.dropLast)) w:=by
  have:=BC t (m-1) (by omega)
  rwa[show((m-1:Nat):Int)=(m:Int)-1 by omega,show t.take (m-1)=t.dropLast by rw[List.dropLast_eq_take,hm]]at this
 have T2:=hid (fun(w:World)=>qA t.dropLast (by simp;omega) w);have cV:=j3 t.dropLast;have hmb:m<=262144:=by omega
 rw[List.length_dropLast,hm]at cV;generalize t.dropLast=u at*;generalize ah u=lb at*;have CK:=hid (fun(w:World)=>wj ⟨12,0,0,0,0,[],lb,0⟩ (by simp;omega) w);clear hr hl fC ht hs2 h2 h1 hm htl
 by_cases hnm:az lb=true
 ·have hE:=rN (i:=⟨12,0,0,0,0,[],lb,0⟩) (by rw[G8];exact hnm)
  rw[if_pos hnm]at HK;rw[hE]at CK;clear hE hnm;go_in;go_wp2_with fail;refine(TR.out _).mono ?_;rintro e w1 ⟨rfl,E⟩;go_wp2_with fail;refine(SF.out _).mono ?_;rintro e w2 ⟨rfl,rfl⟩;go_wp2_with fail;refine(T2.out _).mono ?_;rintro e w3 ⟨rfl,E3⟩;have E:=ay E E3;go_wp2_with fail;refine(CK.out _).mono ?_;rintro e w4 ⟨rfl,E4⟩;obtain⟨⟨f0,f1,f2,f3,f4,f5,f6,f7⟩,rY,AU,B2⟩:=Ii E4;have E:=ay E B2;obtain⟨⟨d0,d1,d2,d3,d4,d5,d6,d7⟩,hf,hlt,B⟩:=dX E;clear E E3 E4 B2;go_wp2_with fail;exact bodyPost_ret (by simp[results,results44,go_sem,d0,d1,d2,d3,d4,d5,d6,d7]) rfl (cZ.yes HK.out rfl aK)
 ·have hE:=gS (i:=⟨12,0,0,0,0,[],lb,0⟩) (by rw[G8];simpa using hnm)
  rw[if_neg hnm]at HK;rw[hE]at CK;clear hE hnm;go_in;go_wp2_with fail;refine(TR.out _).mono ?_;rintro e w1 ⟨rfl,E⟩;go_wp2_with fail;refine(SF.out _).mono ?_;rintro e w2 ⟨rfl,rfl⟩;go_wp2_with fail;refine(T2.out _).mono ?_;rintro e w3 ⟨rfl,E3⟩;have E:=ay E E3;go_wp2_with fail;refine(CK.out _).mono ?_;rintro e w4 ⟨rfl,E4⟩;obtain⟨⟨f0,f1,f2,f3,f4,f5,f6,f7⟩,rY,AU,B2⟩:=Ii E4;have E:=ay E B2;obtain⟨⟨d0,d1,d2,d3,d4,d5,d6,d7⟩,hf,hlt,B⟩:=dX E;clear E E3 E4 B2;go_wp2_with fail;exact bodyPost_ret (by simp[results,results44,go_sem,d0,d1,d2,d3,d4,d5,d6,d7]) rfl (cZ.no HK.out rfl aK)
attribute [local go_sem high] qa jX
theorem Ij{w w':World}{v0 v1 v2 v3 v4 v5 v6 v7:Value}{t:TypeId}{P:Prop}
 (k:Below (w.alloc (.cells #[v0,v1,v2,v3,v4,v5,v6,v7] t)).heap.size (w.alloc (.cells #[v0,v1,v2,v3,v4,v5,v6,v7] t)) w'->
  w'.cell? ⟨w.heap.size,0,none⟩=some v0->w'.cell? ⟨w.heap.size,1,none⟩=some v1->w'.cell? ⟨w.heap.size,2,none⟩=some v2->w'.cell? ⟨w.heap.size,3,none⟩=some v3->w'.cell? ⟨w.heap.size,4,none⟩=some v4->w'.cell? ⟨w.heap.size,5,none⟩=some v5->w'.cell? ⟨w.heap.size,6,none⟩=some v6->w'.cell? ⟨w.heap.size,7,none⟩=some v7->
  (∀k,w'.frozen? ⟨w.heap.size,k,none⟩=false)->w.heap.size<w'.heap.size->P):
 Below (w.alloc (.cells #[v0,v1,v2,v3,v4,v5,v6,v7] t)).heap.size (w.alloc (.cells #[v0,v1,v2,v3,v4,v5,v6,v7] t)) w'->P:=fun h=>by
 obtain⟨⟨c0,c1,c2,c3,c4,c5,c6,c7⟩,hf,hlt, -⟩:=Ii h;exact k h c0 c1 c2 c3 c4 c5 c6 c7 hf hlt
theorem PD{w w':World}{v0 v1 v2 v3 v4 v5 v6 v7:Value}{t:TypeId}{P:Prop}
 (k:Below (w.alloc (.cells #[v0,v1,v2,v3,v4,v5,v6,v7] t)).heap.size (w.alloc (.cells #[v0,v1,v2,v3,v4,v5,v6,v7] t)) w'->
  w'.cell? ⟨w.heap.size,0,none⟩=some v0->w'.cell? ⟨w.heap.size,1,none⟩=some v1->w'.cell? ⟨w.heap.size,2,none⟩=some v2->w'.cell? ⟨w.heap.size,3,none⟩=some v3->w'.cell? ⟨w.heap.size,4,none⟩=some v4->w'.cell? ⟨w.heap.size,5,none⟩=some v5->w'.cell? ⟨w.heap.size,6,none⟩=some v6->w'.cell? ⟨w.heap.size,7,none⟩=some v7->
  (∀k,w'.frozen? ⟨w.heap.size,k,none⟩=false)->w.heap.size<w'.heap.size->P):
 Below (w.alloc (.cells #[v0,v1,v2,v3,v4,v5,v6,v7] t)).drew.heap.size (w.alloc (.cells #[v0,v1,v2,v3,v4,v5,v6,v7] t)).drew w'->P:=fun h=>
 Ij k (ay (below_drewN _ 1) h)
theorem dK.Tm{w:World}{b:Nat}{i:Ins}(hi:i.loc=[])(hlt:b<w.heap.size)(h0:w.cell? ⟨b,0,none⟩=some (.int .i64 i.op))(h1:w.cell? ⟨b,1,none⟩=some (.int .i64 i.d))(h2:w.cell? ⟨b,2,none⟩=some (.int .i64 i.a))(h3:w.cell? ⟨b,3,none⟩=some (.int .i64 i.b))(h4:w.cell? ⟨b,4,none⟩=some (.int .i64 i.ag))(h5:w.cell? ⟨b,5,none⟩=some (.string ⟨#[]⟩))(h6:w.cell? ⟨b,6,none⟩=some (.string (tx i.label)))(h7:w.cell? ⟨b,7,none⟩=some (.int .i64 i.ai)):dK w b i:=by
 refine⟨hlt,fun k hk=>?_⟩
 match k,hk with
 |0,_=>exact h0
 |1,_=>exact h1
 |2,_=>exact h2
 |3,_=>exact h3
 |4,_=>exact h4
 |5,_=>rw[h5];show _=some (Value.string (tx i.loc));rw[hi];rfl
 |6,_=>exact h6
 |7,_=>exact h7
theorem agI(s t:Tx)(hl:s.length<=262144)(ht:ah s=t)(h1:t≠[102,101,110,99,101,46,116,115,111])(h2: ¬t.getLast?=some 58)(w:World)(g:Gl w):Calls prog 44 #[.string (tx s)] w (cZ (eD s) w):=by
 obtain⟨r,hr⟩: ∃r,eD s=r:=⟨_,rfl⟩;rw[hr];have HK:=hid (show dZ (t.takeWhile fun c=> !aj c) ((aD 44 (t.dropWhile fun c=> !aj c)).map ah)=r by rw[<-hr];unfold eD;rw[if_neg (by omega)];simp only[ht];rw[if_neg h1,if_neg h2]);obtain⟨n,hn⟩: ∃n,(tx s).size=n:=⟨_,rfl⟩;have fC:n=s.length:=by rw[<-hn,aP]
 have hz:decide (262144<(n:Int))=false:=by simp;omega
 have TR:=hid (fun(w:World)=>qA s (by omega) w);rw[ht]at TR;have htl:=j3 s;rw[ht]at htl;have z:((tx t).toList==[102,101,110,99,101,46,116,115,111])=false:=jm _ _ h1;have hs2:=BK t 58 (by omega);rw[show(t.getLast?==some 58)=false by simpa using h2]at hs2;have SF:=hid hs2;obtain⟨m,hm⟩: ∃m,t.length=m:=⟨_,rfl⟩;have htm:(tx t).size=m:=by rw[aP,hm]
 have hmb:m<=262144:=by omega
 have HM:=hid hm;have g0:=g.below (al w fS);clear hr hl fC ht hs2 h2 h1 hm htl;go_in;go_wp2_with fail;refine(TR.out _).mono ?_;rintro e w1 ⟨rfl,E⟩;have g1:=g0.below E;clear g0;go_wp2_with fail;refine(SF.out _).mono ?_;rintro e w2 ⟨rfl,rfl⟩;go_wp2_with fail
 go_loop [5] (fun i=> ∃k:Nat,k<=m/\i= .int .i64 k/\Hid (∀(j:Nat) (c:UInt8),j<k->t[j]? =some c->aj c=false)) (fun i=>m-(intOf i).toNat)
 case atStart=>exact⟨0,by omega,rfl,fun j c hj=>absurd hj (Nat.not_lt_zero j)⟩
 case round=>
  obtain⟨k,hk,rfl,HB⟩:=hrel
  by_cases hend:k<m/\ ∃c,t[k]? =some c/\aj c=false
  ·obtain⟨hlt,c,hc,hbc⟩:=hend
   have ix:=iV t k c hc
   have Cv:=hid (show ∀(j:Nat) (c:UInt8),j<k+1->t[j]? =some c->aj c=false from fun j c' hj hc'=>by
    rcases Nat.lt_succ_iff_lt_or_eq.1 hj with h|h
    ·exact HB.out j c' h hc'
    ·subst h;rw[hc]at hc';cases hc';exact hbc)
   have HC:=hid hbc;clear hc hbc
   go_wp2_with (go_at_call 101;refine(Uw c _).mono ?_;rintro e w' ⟨rfl,rfl⟩;rw[HC.out])
   go_round
   case rel=>exact⟨k+1,by omega,by go_num,Cv⟩
   case measure=>simp[intOf];omega
  ·have hlen:=VX (fun c=> !aj c) t k (fun j c hj hc=>by rw[HB.out j c hj hc];rfl) (fun c hc=>by
    have hlt:=(ano.1 hc).1;cases hb:aj c with
    |true=>rfl
    |false=>exact absurd ⟨by have:=HM.out;omega,c,hc,hb⟩ hend) (by have:=HM.out;omega)
   have fJ:=HK.out;rw[Lc,O4,hlen]at fJ;have sl1:=BC t k (by have:=HM.out;omega);have ug:=wB t k (by have:=HM.out;omega)
   have hsm:Sm (aD 44 (t.drop k)):=fun x hx=>by
    have:=Fp 44 _ x hx;have:=HM.out;simp at *; omega
   have SP:=hid (fun(w:World) (g:Gl w)=>ajV (t.drop k) (by have:=HM.out;simp;omega) w g);have RD:=hid (fun(a:Option Addr) (c:Nat) (w:World) (h:cP w a (aD 44 (t.drop k))) (g:Gl w)=>agM (t.take k) (aD 44 (t.drop k)) a c w h hsm g);rw[fJ]at RD;clear hsm fJ HK hlen;generalize aD 44 (t.drop k)=ps at*;generalize t.drop k=t2 at*;generalize t.take k=t1 at*
   have hex:(k<m/\ ∃c,t[k]? =some c/\aj c=true)\/k=m:=by
    by_cases hkm:k<m
    ·left
     obtain⟨c,hc⟩: ∃c,t[k]? =some c:=⟨_,amK (by have:=HM.out;omega)⟩;refine⟨hkm,c,hc,?_⟩;cases hb:aj c with
     |true=>rfl
     |false=>exact absurd ⟨hkm,c,hc,hb⟩ hend
    ·right;omega
   clear hend;rcases hex with⟨hlt,c,hc,hbc⟩|rfl
   ·have ix:=iV t k c hc
    have HC:=hid hbc;clear hc hbc
    go_wp2_with (go_at_call 101;refine(Uw c _).mono ?_;rintro e w' ⟨rfl,rfl⟩;rw[HC.out])
    go_cut [6,7] (fun x y wx=> ∃(bb:Nat) (op d a1 b1 ag:Int) (label:Tx) (ai:Int) (ok:Bool),x= .pointer (some ⟨bb,0,none⟩)/\y= .bool ok/\Hid (iT ⟨op,d,a1,b1,ag,[],label,ai⟩ ok=r)/\label.length<=1000000/\dK wx bb ⟨op,d,a1,b1,ag,[],label,ai⟩/\Below (w.alloc fS).heap.size (w.alloc fS) wx)
    case first=>
     go_region_with (first|(go_at_call 79;refine(SP.out _ (g1.below aK)).mono ?_;rintro e' w' ⟨a2,rfl,BR,E2⟩;have g2:=Gl.below (Gl.below g1 aK) E2;have E5:=ay (a:=w1) aK E2;have s5:=E5.size)|(go_at_call 102;refine(RD.out _ _ _ (by first|exact BR|exact BR.below (al _ _)) (by first|exact g2|exact g2.below (al _ _))).mono ?_;rintro e' w' ⟨op,d,a1,b,ag,label,ai,ok,rfl,hk,hl,E3⟩;have E6:=ay (a:=w1) (by first|exact E5|exact dD E5 _) E3;have s6:=E6.size;first|(revert E3;with_reducible refine Ij ?_;intro E3 f0 f1 f2 f3 f4 f5 f6 f7 rY AU)|(have qP:=ay E2 E3;revert qP;with_reducible refine PD ?_;intro qP f0 f1 f2 f3 f4 f5 f6 f7 rY AU)|skip))
     all_goals
      go_wp2_with fail
      go_meet
      refine⟨_,op,d,a1,b,ag,label,ai,ok,rfl,rfl,hk,hl,dK.Tm rfl ?_ ?_ ?_ ?_ ?_ ?_ ?_ ?_ ?_,ay E aK⟩
      all_goals go_simp
    case rest=>
     clear E;obtain⟨bb,op,d,a1,b1,ag,label,ai,ok,rfl,rfl,hkk,hl,bx,E⟩:=hcut;have CK:=hid (fun(w:World)=>wj ⟨op,d,a1,b1,ag,[],label,ai⟩ (by simp;omega) w);obtain⟨q0,q1,q2,q3,q4,q5,q6,q7⟩:=bx.cells;cases ok
     ·obtain⟨⟨d0,d1,d2,d3,d4,d5,d6,d7⟩,hf,hlt,B⟩:=dX E
      have HN:=hid (show r=none from hkk.out.symm);clear E q0 q1 q2 q3 q4 q5 q6 q7 bx;go_wp2_with fail;exact bodyPost_ret (by simp[results,results44,go_sem,d0,d1,d2,d3,d4,d5,d6,d7]) rfl (cZ.no HN.out rfl aK)
     ·cases cS:aU ⟨op,d,a1,b1,ag,[],label,ai⟩
      ·have hE:=gS cS
       have HN:=hid (show r=none by rw[<-hkk.out];unfold iT;rw[cS];rfl);rw[hE]at CK;clear hE cS;go_wp2_with fail;refine(CK.out _).mono ?_;rintro e w9 ⟨rfl,E4⟩;have E:=E.trans (E4.mono E.size);obtain⟨⟨d0,d1,d2,d3,d4,d5,d6,d7⟩,hf,hlt,B⟩:=dX E;clear E E4 q0 q1 q2 q3 q4 q5 q6 q7 bx;go_wp2_with fail;exact bodyPost_ret (by simp[results,results44,go_sem,d0,d1,d2,d3,d4,d5,d6,d7]) rfl (cZ.no HN.out rfl aK)
      ·have hE:=rN cS
       have HN:=hid (show r=some ⟨op,d,a1,b1,ag,[],label,ai⟩ by rw[<-hkk.out];unfold iT;rw[cS];rfl);rw[hE]at CK;clear hE cS;go_wp2_with fail;refine(CK.out _).mono ?_;rintro e w9 ⟨rfl,E4⟩;have E:=E.trans (E4.mono E.size);have bx:=bx.below E4;clear q0 q1 q2 q3 q4 q5 q6 q7;obtain⟨q0,q1,q2,q3,q4,Bw,q6,q7⟩:=bx.cells;have q5:w9.cell? ⟨bb,5,none⟩=some (.string ⟨#[]⟩):=Bw;clear Bw;obtain⟨⟨d0,d1,d2,d3,d4,d5,d6,d7⟩,hf,hlt,B⟩:=dX E;clear E E4 bx;go_wp2_with fail;exact bodyPost_ret (by simp[results,results44,go_sem,d0,d1,d2,d3,d4,d5,d6,d7]) rfl (cZ.yes HN.out rfl aK)
   ·go_wp2_with fail
    go_cut [6,7] (fun x y wx=> ∃(bb:Nat) (op d a1 b1 ag:Int) (label:Tx) (ai:Int) (ok:Bool),x= .pointer (some ⟨bb,0,none⟩)/\y= .bool ok/\Hid (iT ⟨op,d,a1,b1,ag,[],label,ai⟩ ok=r)/\label.length<=1000000/\dK wx bb ⟨op,d,a1,b1,ag,[],label,ai⟩/\Below (w.alloc fS).heap.size (w.alloc fS) wx)
    case first=>
     go_region_with (first|(go_at_call 79;refine(SP.out _ (g1.below aK)).mono ?_;rintro e' w' ⟨a2,rfl,BR,E2⟩;have g2:=Gl.below (Gl.below g1 aK) E2;have E5:=ay (a:=w1) aK E2;have s5:=E5.size)|(go_at_call 102;refine(RD.out _ _ _ (by first|exact BR|exact BR.below (al _ _)) (by first|exact g2|exact g2.below (al _ _))).mono ?_;rintro e' w' ⟨op,d,a1,b,ag,label,ai,ok,rfl,hk,hl,E3⟩;have E6:=ay (a:=w1) (by first|exact E5|exact dD E5 _) E3;have s6:=E6.size;first|(revert E3;with_reducible refine Ij ?_;intro E3 f0 f1 f2 f3 f4 f5 f6 f7 rY AU)|(have qP:=ay E2 E3;revert qP;with_reducible refine PD ?_;intro qP f0 f1 f2 f3 f4 f5 f6 f7 rY AU)|skip))
     all_goals
      go_wp2_with fail
      go_meet
      refine⟨_,op,d,a1,b,ag,label,ai,ok,rfl,rfl,hk,hl,dK.Tm rfl ?_ ?_ ?_ ?_ ?_ ?_ ?_ ?_ ?_,ay E aK⟩
      all_goals go_simp
    case rest=>
     clear E;obtain⟨bb,op,d,a1,b1,ag,label,ai,ok,rfl,rfl,hkk,hl,bx,E⟩:=hcut;have CK:=hid (fun(w:World)=>wj ⟨op,d,a1,b1,ag,[],label,ai⟩ (by simp;omega) w);obtain⟨q0,q1,q2,q3,q4,q5,q6,q7⟩:=bx.cells;cases ok
     ·obtain⟨⟨d0,d1,d2,d3,d4,d5,d6,d7⟩,hf,hlt,B⟩:=dX E
      have HN:=hid (show r=none from hkk.out.symm);clear E q0 q1 q2 q3 q4 q5 q6 q7 bx;go_wp2_with fail;exact bodyPost_ret (by simp[results,results44,go_sem,d0,d1,d2,d3,d4,d5,d6,d7]) rfl (cZ.no HN.out rfl aK)
     ·cases cS:aU ⟨op,d,a1,b1,ag,[],label,ai⟩
      ·have hE:=gS cS
       have HN:=hid (show r=none by rw[<-hkk.out];unfold iT;rw[cS];rfl);rw[hE]at CK;clear hE cS;go_wp2_with fail;refine(CK.out _).mono ?_;rintro e w9 ⟨rfl,E4⟩;have E:=E.trans (E4.mono E.size);obtain⟨⟨d0,d1,d2,d3,d4,d5,d6,d7⟩,hf,hlt,B⟩:=dX E;clear E E4 q0 q1 q2 q3 q4 q5 q6 q7 bx;go_wp2_with fail;exact bodyPost_ret (by simp[results,results44,go_sem,d0,d1,d2,d3,d4,d5,d6,d7]) rfl (cZ.no HN.out rfl aK)
      ·have hE:=rN cS
       have HN:=hid (show r=some ⟨op,d,a1,b1,ag,[],label,ai⟩ by rw[<-hkk.out];unfold iT;rw[cS];rfl);rw[hE]at CK;clear hE cS;go_wp2_with fail;refine(CK.out _).mono ?_;rintro e w9 ⟨rfl,E4⟩;have E:=E.trans (E4.mono E.size);have bx:=bx.below E4;clear q0 q1 q2 q3 q4 q5 q6 q7;obtain⟨q0,q1,q2,q3,q4,Bw,q6,q7⟩:=bx.cells;have q5:w9.cell? ⟨bb,5,none⟩=some (.string ⟨#[]⟩):=Bw;clear Bw;obtain⟨⟨d0,d1,d2,d3,d4,d5,d6,d7⟩,hf,hlt,B⟩:=dX E;clear E E4 bx;go_wp2_with fail;exact bodyPost_ret (by simp[results,results44,go_sem,d0,d1,d2,d3,d4,d5,d6,d7]) rfl (cZ.yes HN.out rfl aK)
theorem agF(s:Tx)(w:World)(g:Gl w):Calls prog 44 #[.string (tx s)] w (cZ (eD s) w):=by
 by_cases hl:s.length<=262144
 ·by_cases h1:ah s=[102,101,110,99,101,46,116,115,111]
  ·exact agJ s hl h1 w
  ·by_cases h2:(ah s).getLast?=some 58
   ·exact agG s _ hl rfl h1 h2 w
   ·exact agI s _ hl rfl h1 h2 w g
 ·exact agH s (by omega) w
def fE(l:List Ins):List Value:=l.flatMap iC
theorem tT(l:List Ins):(fE l).length=l.length*8:=by
 induction l with
 |nil=>rfl
 |cons x r ih=>unfold fE at *; simp[aqu,ih,iC];omega
theorem Js(l r:List Ins):fE (l++r)=fE l++fE r:=by unfold fE;rw[aqi]
theorem Ri(x:Ins)(r:List Ins):fE (x::r)=iC x++fE r:=by unfold fE;rw[aqu]
theorem Rj: ∀(l:List Ins) (k i:Nat) (x:Ins),l[k]? =some x->i<8->(fE l)[k*8+i]? =(iC x)[i]?
 |[],k,i,x,h,_=>by simp at h
 | y::r,0,i,x,h,hi=>by
   simp at h;subst h;rw[Ri,apg,Nat.zero_add,aqv (by simpa[iC]using hi)]
 | y::r,k+1,i,x,h,hi=>by
   rw[Ri,aqt (by simp[iC];omega)];have:(k+1)*8+i-(iC y).length=k*8+i:=by simp[iC];omega
   rw[this,Rj r k i x (by simpa using h) hi]
theorem adb(l:List Ins)(k:Nat):(fE l).take (k*8)=fE (l.take k):=by
 by_cases hk:k<=l.length
 ·have h1:fE l=fE (l.take k)++fE (l.drop k):=by rw[<-Js,aog]
  rw[h1,aqw (by rw[tT,aoc,aqs hk])]
 ·rw[apq (by rw[tT];omega),apq (by omega)]
theorem ac9(l:List Ins)(k:Nat):(fE l).drop (k*8)=fE (l.drop k):=by
 by_cases hk:k<=l.length
 ·have h1:fE l=fE (l.take k)++fE (l.drop k):=by rw[<-Js,aog]
  rw[h1,aqx (by rw[tT,aoc,aqs hk])]
 ·rw[aqq (by rw[tT];omega),aqq (by omega)];rfl
structure Is(w:World)(a:Option Addr)(l:List Ins):Prop where
 row:Row w a (fE l)
 len:l.length<=1000000000000000000
theorem Is.nil(w:World)(a:Option Addr):Is w a []:=⟨Row.nil _ _,by simp⟩
theorem Is.below{w w':World}{a:Option Addr}{l:List Ins}(h:Is w a l)(hb:Below w.heap.size w w'):Is w' a l:=⟨h.row.below hb,h.len⟩
theorem Is.cells{w:World}{a:Option Addr}{l:List Ins}(h:Is w a l){k:Nat}{i:Ins}(hk:l[k]? =some i):
 w.cell? ⟨bk a,fo a+k*8,none⟩=some (.int .i64 i.op)/\w.cell? ⟨bk a,fo a+k*8+1,none⟩=some (.int .i64 i.d)/\w.cell? ⟨bk a,fo a+k*8+2,none⟩=some (.int .i64 i.a)/\w.cell? ⟨bk a,fo a+k*8+3,none⟩=some (.int .i64 i.b)/\w.cell? ⟨bk a,fo a+k*8+4,none⟩=some (.int .i64 i.ag)/\w.cell? ⟨bk a,fo a+k*8+5,none⟩=some (.string (tx i.loc))/\w.cell? ⟨bk a,fo a+k*8+6,none⟩=some (.string (tx i.label))/\w.cell? ⟨bk a,fo a+k*8+7,none⟩=some (.int .i64 i.ai):=by
 have hlt:=(ano.1 hk).1
 have g: ∀j,j<8->w.cell? ⟨bk a,fo a+k*8+j,none⟩=(iC i)[j]? :=fun j hj=>by
  have h1:=h.row.cell (k*8+j) (by rw[tT];omega);rw[Rj l k j i hk hj]at h1;rw[Nat.add_assoc];exact h1
 exact⟨g 0 (by omega),g 1 (by omega),g 2 (by omega),g 3 (by omega),g 4 (by omega),g 5 (by omega),g 6 (by omega),g 7 (by omega)⟩
theorem Is.lt{w:World}{a:Option Addr}{l:List Ins}(h:Is w a l){k:Nat}(hk:k<l.length):bk a<w.heap.size:=
 gR (p:=⟨bk a,fo a+k*8,none⟩) (h.cells (amK hk)).1
theorem inl:gQ prog 75 50 (.agg #[.int .i64 0,.int .i64 0,.int .i64 0,.int .i64 0,.int .i64 0,.string aqy,.string aqy,.int .i64 0]) 8 80:=⟨underlying75,by kernel_rfl,rfl,by decide⟩
theorem Is.idx{w:World}{a:Option Addr}{l:List Ins}(h:Is w a l)(k:Nat)(hk:k<l.length):
 ∀c w',(Instr.indexAt 75 (.slice a l.length c) (.int .i64 k)).run prog w'= .ok (.pointer (some ⟨bk a,fo a+k*8,none⟩)) w':=by
 intro c;exact sC (c:=c) (n:=l.length) (m:=8) h.row inl.j4 inl.cells inl.isSome (tT l) (by omega) k hk .i64
theorem Is.take{w:World}{a:Option Addr}{l:List Ins}(h:Is w a l)(k:Nat):Is w a (l.take k):=by
 refine⟨?_,by have:=h.len;simp;omega⟩;have:=h.row.take (k*8)
 rwa[adb]at this
theorem Is.drop{w:World}{a:Option Addr}{l:List Ins}(h:Is w a l)(k:Nat)(stay:Prop)[Decidable stay](hs:stay->l.length<=k\/k=0):Is w (lC a stay (k*8)) (l.drop k):=by
 refine⟨?_,by have:=h.len;simp;omega⟩;have:=h.row.drop (k*8) stay (fun h'=>by have:=hs h';rw[tT];omega)
 rwa[ac9]at this
abbrev Db(w:World)(B:Nat)(a:Option Addr)(n c:Nat)(l:List Ins):Prop:=Own w B 50 8 a n c (fE l)
theorem Db.len{w:World}{B n c:Nat}{a:Option Addr}{l:List Ins}(h:Db w B a n c l):n=l.length:=by
 have:=h.cap.2.2;rw[tT]at this;omega
theorem Db.is{w:World}{B n c:Nat}{a:Option Addr}{l:List Ins}(h:Db w B a n c l)(hl:l.length<=1000000000000000000):Is w a l:=⟨h.row,hl⟩
theorem mA:gQ prog 41 3 (.int .i64 0) 1 8:=⟨underlying41,by kernel_rfl,rfl,by decide⟩
set_option linter.unusedSectionVars false
def flat{α:Type}(enc:α->List Value)(l:List α):List Value:=l.flatMap enc
section
variable {α:Type} {enc:α->List Value} {m:Nat} (hm: ∀x,(enc x).length=m)
theorem aby:flat enc []=[]:=rfl
theorem xQ(x:α)(r:List α):flat enc (x::r)=enc x++flat enc r:=by unfold flat;rw[aqu]
theorem nO(l r:List α):flat enc (l++r)=flat enc l++flat enc r:=by unfold flat;rw[aqi]
theorem rP(x:α):flat enc [x]=enc x:=by rw[xQ,aby,List.append_nil]
include hm
theorem fL(l:List α):(flat enc l).length=l.length*m:=by
 induction l with
 |nil=>simp[flat]
 |cons x r ih=>rw[xQ,List.length_append,hm,ih,ans,aoq,Nat.add_comm]
theorem Aq: ∀(l:List α) (k i:Nat) (x:α),l[k]? =some x->i<m->(flat enc l)[k*m+i]? =(enc x)[i]?
 |[],k,i,x,h,_=>by simp at h
 | y::r,0,i,x,h,hi=>by
   simp at h;subst h;rw[xQ,apg,Nat.zero_add,aqv (by rw[hm];exact hi)]
 | y::r,k+1,i,x,h,hi=>by
   have e:(k+1)*m+i=m+(k*m+i):=by rw[aoq];omega
   rw[xQ,aqt (by rw[hm,e];omega),hm,e,Nat.add_sub_cancel_left,Aq r k i x (by simpa using h) hi]
theorem Ie(l:List α)(k:Nat):(flat enc l).take (k*m)=flat enc (l.take k):=by
 by_cases hk:k<=l.length
 ·have h1:flat enc l=flat enc (l.take k)++flat enc (l.drop k):=by rw[<-nO,aog]
  rw[h1,aqw (by rw[fL hm,aoc,aqs hk])]
 ·have h2:l.length*m<=k*m:=aqr _ (by omega)
  rw[apq (by rw[fL hm];exact h2),apq (by omega)]
theorem Pq(l:List α)(k:Nat):(flat enc l).drop (k*m)=flat enc (l.drop k):=by
 by_cases hk:k<=l.length
 ·have h1:flat enc l=flat enc (l.take k)++flat enc (l.drop k):=by rw[<-nO,aog]
  rw[h1,aqx (by rw[fL hm,aoc,aqs hk])]
 ·have h2:l.length*m<=k*m:=aqr _ (by omega)
  rw[aqq (by rw[fL hm];exact h2),aqq (by omega)];rfl
end
theorem abz{α:Type}{enc:α->List Value}(h: ∀x,∀u∈enc x,u.oneCell'=true)(l:List α): ∀u∈flat enc l,u.oneCell'=true:=by
 intro u hu;unfold flat at hu;obtain⟨x,-, hx⟩:=List.mem_flatMap.1 hu;exact h x u hx
structure bf{α:Type}(enc:α->List Value)(w:World)(a:Option Addr)(l:List α):Prop where
 row:Row w a (flat enc l)
 len:l.length<=1000000000000000000
section
variable {α:Type} {enc:α->List Value} {m:Nat} {w w':World} {a:Option Addr} {l:List α}
theorem bf.nil(w:World)(a:Option Addr):bf enc w a []:=⟨Row.nil _ _,by simp⟩
theorem bf.below(h:bf enc w a l)(hb:Below w.heap.size w w'):bf enc w' a l:=⟨h.row.below hb,h.len⟩
theorem bf.cell(h:bf enc w a l)(hm: ∀x,(enc x).length=m){k:Nat}{x:α}(hk:l[k]? =some x)(j:Nat)(hj:j<m):w.cell? ⟨bk a,fo a+k*m+j,none⟩=(enc x)[j]? :=by
 have hlt:=(ano.1 hk).1
 have hb:k*m+j<l.length*m:=by
  have:(k+1)*m<=l.length*m:=aqr _ hlt;rw[aoq]at this;omega
 have h1:=h.row.cell (k*m+j) (by rw[fL hm];exact hb);rw[Aq hm l k j x hk hj]at h1;rw[Nat.add_assoc];exact h1
theorem bf.cell0(h:bf enc w a l)(hm: ∀x,(enc x).length=m){k:Nat}{x:α}(hk:l[k]? =some x)(hj:0<m):w.cell? ⟨bk a,fo a+k*m,none⟩=(enc x)[0]? :=h.cell hm hk 0 hj
theorem bf.lt(h:bf enc w a l)(hm: ∀x,(enc x).length=m)(hpos:0<m)(hl:l≠[]):bk a<w.heap.size:=by
 refine h.row.lt fun e=>hl ?_
 have:(flat enc l).length=0:=by rw[e];rfl
 rw[fL hm]at this;rcases Nat.mul_eq_zero.1 this with h1|h1
 ·exact amN h1
 ·omega
theorem bf.idx{P:Program}{t e bytes:Nat}{z:Value}(h:bf enc w a l)(T:gQ P t e z m bytes)(hm: ∀x,(enc x).length=m)(k:Nat)(hk:k<l.length):
 ∀c w',(Instr.indexAt t (.slice a l.length c) (.int .i64 k)).run P w'= .ok (.pointer (some ⟨bk a,fo a+k*m,none⟩)) w':=by
 intro c;exact sC (c:=c) (n:=l.length) (m:=m) h.row T.j4 T.cells T.isSome (fL hm l) T.pos k hk .i64
theorem bf.take(h:bf enc w a l)(hm: ∀x,(enc x).length=m)(k:Nat):bf enc w a (l.take k):=by
 refine⟨?_,by have:=h.len;simp;omega⟩;have:=h.row.take (k*m)
 rwa[Ie hm]at this
theorem bf.drop(h:bf enc w a l)(hm: ∀x,(enc x).length=m)(hpos:0<m)(k:Nat)(stay:Prop)[Decidable stay](hs:stay->l.length<=k\/k=0):bf enc w (lC a stay (k*m)) (l.drop k):=by
 refine⟨?_,by have:=h.len;simp;omega⟩
 have:=h.row.drop (k*m) stay (fun h'=>by
  rcases hs h' with h1|h1
  ·left;rw[fL hm];exact aqr _ h1
  ·right;rw[h1,apg])
 rwa[Pq hm]at this
theorem Own.els{B E n c:Nat}(h:Own w B E m a n c (flat enc l))(hm: ∀x,(enc x).length=m)(hpos:0<m)(hl:l.length<=1000000000000000000):bf enc w a l/\n=l.length:=by
 refine⟨⟨h.row,hl⟩,?_⟩;have h1:=h.cap.2.2;rw[fL hm]at h1;exact Nat.eq_of_mul_eq_mul_right hpos h1.symm
end
def aG(w:World)(b:Nat)(l:List Value):Prop:=b<w.heap.size/\ ∀k,k<l.length->w.cell? ⟨b,k,none⟩=l[k]?
theorem aG.new(w:World)(us:Array Value)(T:TypeId):aG (w.alloc (.cells us T)) w.heap.size us.toList:=
 ⟨by simp,fun k hk=>by
  have hh:=heap_alloc_new w (.cells us T);simp only[World.cell?,hh];simp⟩
theorem aG.below{w w':World}{b:Nat}{l:List Value}(h:aG w b l)(hb:Below w.heap.size w w'):aG w' b l:=
 ⟨Nat.lt_of_lt_of_le h.1 hb.size,fun k hk=>by rw[hb.cell (p:=⟨b,k,none⟩) h.1];exact h.2 k hk⟩
theorem aG.get{w:World}{b:Nat}{l:List Value}(h:aG w b l)(k:Nat)(v:Value)(hk:l[k]? =some v):w.cell? ⟨b,k,none⟩=some v:=by
 rw[h.2 k (ano.1 hk).1];exact hk
end Go.Proofs.YtkbbgjloifmmbaaGreatDoor
