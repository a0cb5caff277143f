/- What ReadBackP leans on, part 4. -/
import Derived.Test.YtkbbgjloifmmbaaGreatDoorRb3
import Derived.Lib.AtoiAll
set_option linter.unusedVariables false
set_option maxRecDepth 100000
set_option maxHeartbeats 6400000
namespace Go.Proofs.YtkbbgjloifmmbaaGreatDoor
open _root_.Go.Proofs.Tryz
open _root_.Go.Instr renaming indexAt->amX,sliceAt->amP,sliceBounds->am3,sliceBound->am5,slice->ani
open _root_.List renaming dropWhile_suffix->aoI,getElem?_eq_some_iff->ano,getElem?_eq_getElem->amK
open _root_.Go.Lib renaming atoiAll->anv,itoa->anj
open _root_.Go.RowKit.Below renaming refl->apb
open Go.RowKit
theorem FA(l:Tx)(a b:Nat):(tx l).extract a b=tx ((l.take b).drop a):=by
 apply ByteArray.ext;simp[tx,List.extract_eq_take_drop,List.drop_take]
theorem wC(l:Tx)(a b:Nat)(hab:a<=b)(hb:b<=l.length): ∀w,(amP 9 (.string (tx l)) (some (.int .i64 a)) (some (.int .i64 b)) none).run prog w= .ok (.string (tx ((l.take b).drop a))) w:=by
 intro w;have h1:=underlying9;have hs:=aP l;have hkk:(0:Int)<=(a:Int)/\(a:Int)<=(b:Int):=by omega
 have cV:(0:Int)<=(b:Int)/\(b:Int)<=(l.length:Int):=by omega
 rw[<-FA];simp[amP,ani,am3,am5,asIntOf,run_underlying h1,hs,hkk,cV,hab,hb]
theorem BC(l:Tx)(b:Nat)(hb:b<=l.length): ∀w,(amP 9 (.string (tx l)) none (some (.int .i64 b)) none).run prog w= .ok (.string (tx (l.take b))) w:=by
 intro w;have h1:=underlying9;have hs:=aP l;have cV:(0:Int)<=(b:Int)/\(b:Int)<=(l.length:Int):=by omega
 have e:=FA l 0 b;rw[List.drop_zero]at e;rw[<-e];simp[amP,ani,am3,am5,asIntOf,run_underlying h1,hs,cV,hb]
theorem wB(l:Tx)(a:Nat)(ha:a<=l.length): ∀w,(amP 9 (.string (tx l)) (some (.int .i64 a)) none none).run prog w= .ok (.string (tx (l.drop a))) w:=by
 intro w;have h1:=underlying9;have hs:=aP l;have hkk:(0:Int)<=(a:Int)/\(a:Int)<=(l.length:Int):=by omega
 have e:=FA l a l.length;rw[List.take_length]at e;rw[<-e];simp[amP,ani,am3,am5,asIntOf,run_underlying h1,hs,hkk,ha]
theorem j3(l:Tx):(ah l).length<=l.length:=by
 rw[sF];have h1:=(aoI (p:=aj) (l:=(l.reverse.dropWhile aj).reverse)).length_le;have h2:=(aoI (p:=aj) (l:=l.reverse)).length_le;simp at h1 h2;omega
theorem qA(l:Tx)(hl:l.length<=9223372036854775807)(w:World):Calls prog 98 #[.string (tx l)] w (ax w (.string (tx (ah l)))):=by
 have C:=hid (uu l hl);clear hl;go_in;go_wp2_with fail;refine(C.out _).mono ?_;rintro x w1 ⟨rfl,E⟩;go_wp2_with fail;go_ret;exact⟨rfl,E⟩
theorem ai8{k:IntKind}{a b:Int}{p q:Bool}(h:a=b)(h':p=q):Ending.returned (.tuple #[.int k a,.bool p])= .returned (.tuple #[.int k b,.bool q]):=by rw[h,h']
def lO(o:Option Nat):Int:=match o with
 |some n=>n
 |none=>0
theorem aiK(s:Tx):uf s=lO (bP s):=by unfold uf lO;rfl
theorem aiI(s:Tx):(ue s==0)=(bP s).isSome:=by unfold ue;cases bP s<;>rfl
theorem yH(l:Tx)(hl:l.length<=9223372036854775807)(w:World):Calls prog 185 #[.string (tx l)] w (ax w (.tuple #[.int .i64 (lO (bP (ah l))),.bool (bP (ah l)).isSome])):=by
 have C:=hid (qA l hl);have e1:=aiK (ah l);have e2:=aiI (ah l);generalize ah l=t at*;have e2':=hid e2;have e1':=hid e1;clear e1 e2 hl;go_in;go_wp2_with fail;refine(C.out _).mono ?_;rintro x w1 ⟨rfl,E⟩;go_wp2_with fail;refine(UA t _).mono ?_;rintro x w2 ⟨rfl,rfl⟩;rw[e1'.out];go_wp2_with fail
 go_ret2
 exact⟨ai8 rfl e2'.out,E⟩
theorem VW(c:UInt8): ∀l:Tx,c∈l->l[(l.takeWhile (· != c)).length]? =some c
 |[],h=>by simp at h
 | b::l,h=>by
   by_cases hb:b=c
   ·subst hb;simp
   ·have hm:c∈l:=by rcases List.mem_cons.1 h with e|e;exact absurd e.symm hb;exact e
    rw[List.takeWhile_cons,if_pos (by simpa using hb)];simpa using VW c l hm
theorem Lc(p:UInt8->Bool)(l:Tx):l.takeWhile p=l.take (l.takeWhile p).length:=(List.prefix_iff_eq_take.1 (List.takeWhile_prefix p))
theorem O4(p:UInt8->Bool)(l:Tx):l.dropWhile p=l.drop (l.takeWhile p).length:=by
 have h:=List.takeWhile_append_dropWhile (p:=p) (l:=l);have h2:(l.takeWhile p++l.dropWhile p).drop (l.takeWhile p).length=l.dropWhile p:=List.drop_left' rfl;rw[h]at h2;exact h2.symm
theorem Yp{l:Tx}(h:(40:UInt8)∉ah l):eH l=none:=by
 unfold eH;simp only;rw[if_neg (by simp[h])]
theorem Yo{l:Tx}(h:((ah l).getLast?==some 41)=false):eH l=none:=by
 unfold eH;simp only[h];simp
theorem Yq{l:Tx}(h:ah ((ah l).take ((ah l).takeWhile (· != 40)).length)≠[48]):eH l=none:=by
 unfold eH;simp only;rw[<-Lc]at h;rw[if_neg (by simp[h])]
theorem Yn{l t:Tx}{k n:Nat}(ht:ah l=t)(hk:(t.takeWhile (· != 40)).length=k)(hn:t.length=n)(h1:(40:UInt8)∈t)(h2:(t.getLast?==some 41)=true)(h3:ah (t.take k)=[48]):
 eH l=bP (ah ((t.take (n-1)).drop (k+1)))/\k+1<=n-1:=by
 subst ht hk hn;refine⟨?_,?_⟩
 ·unfold eH;simp only
  rw[if_pos (by rw[<-Lc]at h3;simp[h1,h3];simpa using h2)];rw[O4,List.drop_drop,List.dropLast_eq_take,List.length_drop,List.drop_take]
  congr 3
  omega
 ·have hh:=VW 40 _ h1
  obtain⟨hlt,he⟩:=ano.1 hh;have hne:ah l≠[]:=by intro e;rw[e]at h1;simp at h1
  rw[List.getLast?_eq_getElem?]at h2;simp at h2
  by_cases hk:((ah l).takeWhile (· != 40)).length=(ah l).length-1
  ·rw[hk]at hh;rw[hh]at h2;simp at h2
  ·omega
theorem Uv(l:Tx)(hl:l.length<=9223372036854775807)(w:World):Calls prog 250 #[.string (tx l)] w (ax w (.tuple #[.int .i64 (lO (eH l)),.bool (eH l).isSome])):=by
 have C:=hid (qA l hl);have htl:=j3 l;obtain⟨t,ht⟩: ∃t,ah l=t:=⟨_,rfl⟩;have HT:=hid ht;rw[ht]at htl C;have hb:t.length<=9223372036854775807:=by omega
 have SF:=hid (BK t 41 hb);clear ht htl hl
 by_cases h1:(40:UInt8)∈t
 ·obtain⟨k,hk⟩: ∃k,(t.takeWhile (· != 40)).length=k:=⟨_,rfl⟩
  obtain⟨hi,hlt⟩:=Jo 40 t h1;rw[hk]at hi hlt;have IB:=hid (show ∀w,Calls prog 78 #[.string (tx t),.int .u8 40] w fun e w'=>e= .returned (.int .i64 (k:Int))/\w=w' from by rw[<-hi];exact Q6 t);clear hi;have h0k: ¬((k:Int)<0):=by omega
  have hdk:decide ((k:Int)<0)=false:=by simp
  cases h2:(t.getLast?==some 41)
  ·have HA:=hid (Yo (l:=l) (by rw[HT.out];exact h2))
   rw[HA.out];have H2:=hid h2;clear h2 HA;have hk':=hid hk;clear hk;go_in;go_wp2_with fail;refine(C.out _).mono ?_;rintro x w1 ⟨rfl,E⟩;go_wp2_with fail;refine(IB.out _).mono ?_;rintro x w2 ⟨rfl,rfl⟩;go_wp2_with fail;refine(SF.out _).mono ?_;rintro x w2 ⟨rfl,rfl⟩;rw[H2.out];go_wp2_with fail
   go_ret2
   exact⟨rfl,E⟩
  ·have s1:=BC t k (by omega)
   have TK:=hid (qA (t.take k) (by simp;omega));have H2:=hid h2
   by_cases h3:ah (t.take k)=[48]
   ·obtain⟨n,hn⟩: ∃n,t.length=n:=⟨_,rfl⟩
    obtain⟨ha,hkn⟩:=Yn HT.out hk hn h1 h2 h3;rw[ha];have hz:((tx (ah (t.take k))).toList != [48])=false:=by rw[aW,h3];rfl
    have vL:((tx (ah (t.take k))).toList==[48])=true:=by rw[aW,h3];rfl
    have s2: ∀w,(amP 9 (.string (tx t)) (some (.int .i64 ((k:Int)+1))) (some (.int .i64 ((n:Int)-1))) none).run prog w= .ok (.string (tx ((t.take (n-1)).drop (k+1)))) w:=by
     have:=wC t (k+1) (n-1) hkn (by omega)
     rwa[show((k+1:Nat):Int)=(k:Int)+1 from rfl,show((n-1:Nat):Int)=(n:Int)-1 by omega]at this
    have hsz:(tx t).size=n:=by rw[aP,hn]
    obtain⟨u,hu⟩: ∃u,(t.take (n-1)).drop (k+1)=u:=⟨_,rfl⟩;rw[hu]at s2⊢;have ez:u.length<=9223372036854775807:=by rw[<-hu];simp;omega
    have RG:=hid (yH u ez);obtain⟨v,hv⟩: ∃v,t.take k=v:=⟨_,rfl⟩;rw[hv]at s1 hz vL TK;have nT:1<=n:=by omega
    have hnb:n<=9223372036854775807:=by omega
    clear ha hu ez hn h3 h2 h1 hv hb;have hk':=hid hk;clear hk;go_in;go_wp2_with fail;refine(C.out _).mono ?_;rintro x w1 ⟨rfl,E⟩;go_wp2_with fail;refine(IB.out _).mono ?_;rintro x w2 ⟨rfl,rfl⟩;go_wp2_with fail;refine(SF.out _).mono ?_;rintro x w2 ⟨rfl,rfl⟩;rw[H2.out];go_wp2_with fail;refine(TK.out _).mono ?_;rintro x w3 ⟨rfl,E3⟩;have E:=ay E E3;go_wp2_with fail;refine(RG.out _).mono ?_;rintro x w4 ⟨rfl,E4⟩;have E:=ay E E4;go_wp2_with fail
    go_ret2
    exact⟨rfl,E⟩
   ·have HA:=hid (Yq (l:=l) (by rw[HT.out,hk];exact h3))
    rw[HA.out];have hz:((tx (ah (t.take k))).toList != [48])=true:=by rw[aW];simpa using h3
    have vL:((tx (ah (t.take k))).toList==[48])=false:=by rw[aW];simpa using h3
    obtain⟨v,hv⟩: ∃v,t.take k=v:=⟨_,rfl⟩;rw[hv]at s1 hz vL TK;clear h3 h2 h1 hv HA;have hk':=hid hk;clear hk;go_in;go_wp2_with fail;refine(C.out _).mono ?_;rintro x w1 ⟨rfl,E⟩;go_wp2_with fail;refine(IB.out _).mono ?_;rintro x w2 ⟨rfl,rfl⟩;go_wp2_with fail;refine(SF.out _).mono ?_;rintro x w2 ⟨rfl,rfl⟩;rw[H2.out];go_wp2_with fail;refine(TK.out _).mono ?_;rintro x w3 ⟨rfl,E3⟩;have E:=ay E E3;go_wp2_with fail
    go_ret2
    exact⟨rfl,E⟩
 ·have HA:=hid (Yp (l:=l) (by rw[HT.out];exact h1))
  rw[HA.out];have IB:=hid (show ∀w,Calls prog 78 #[.string (tx t),.int .u8 40] w fun e w'=>e= .returned (.int .i64 (-1))/\w=w' from by rw[<-Ej 40 t h1];exact Q6 t);clear h1 HA;go_in;go_wp2_with fail;refine(C.out _).mono ?_;rintro x w1 ⟨rfl,E⟩;go_wp2_with fail;refine(IB.out _).mono ?_;rintro x w2 ⟨rfl,rfl⟩;go_wp2_with fail
  go_ret2
  exact⟨rfl,E⟩
end Go.Proofs.YtkbbgjloifmmbaaGreatDoor
namespace Go.Proofs.YtkbbgjloifmmbaaGreatDoor
open _root_.Go.Proofs.Tryz
open _root_.Go.Instr renaming indexAt->amX,sliceAt->amP,sliceBounds->am3,sliceBound->am5,slice->ani
open _root_.List renaming dropWhile_suffix->aoI,getElem?_eq_some_iff->ano,getElem?_eq_getElem->amK
open _root_.Go.Lib renaming atoiAll->anv,itoa->anj
open _root_.Go.RowKit.Below renaming refl->apb
theorem En{p:UInt8->Bool}{l:Tx}{c:UInt8}(h:(l.dropWhile p).getLast?=some c):l.getLast?=some c:=by
 obtain⟨t,ht⟩:=aoI p (l:=l);rw[<-ht,List.getLast?_append,h];rfl
theorem Ll{l:Tx}: ∀c,(ah l).head?=some c->aj c=false:=by
 intro c hc;rw[sF]at hc;exact js hc
theorem Wf{l:Tx}: ∀c,(ah l).getLast?=some c->aj c=false:=by
 intro c hc;rw[sF]at hc;have:=En hc;rw[List.getLast?_reverse]at this;exact js this
theorem We(l:Tx):ah (ah l)=ah l:=BN Ll Wf
theorem MX(l:Tx):eH (ah l)=eH l:=by unfold eH;rw[We]
theorem Yy: ∀a:Fin 64,∀b:Fin 64,anv (gD ((64*a.val+b.val:Nat)-2048))= .ok ((64*a.val+b.val:Nat)-2048):=by decide+kernel
theorem M4{n:Int}(h1: -2048<=n)(h2:n<=2047):anv (gD n)= .ok n:=by
 have:=Yy ⟨(n+2048).toNat/64,by omega⟩ ⟨(n+2048).toNat%64,by omega⟩;simp only at this
 rwa[show((64*((n+2048).toNat/64)+(n+2048).toNat%64:Nat):Int)-2048=n by omega]at this
theorem Gy{l:Tx}{n:Nat}(h:eH l=some n):n<32:=by
 unfold eH at h;simp only at h
 split at h
 ·exact(KH h).1
 ·cases h
def iT(i:Ins)(ok:Bool):Option Ins:=if ok&&aU i then some i else none
theorem adA(i:Ins):iT i false=none:=rfl
theorem Ek{i:Ins}(h:aU i=true):iT i true=some i:=by unfold iT;rw[h];rfl
theorem Oa{d a:Nat}(hd:d<32)(ha:a<32):aU ⟨6,d,a,0,0,[],[],0⟩=true:=by
 have h1:=oh hd;have h2:=oh ha;unfold aU;rw[h1,h2];simp[dn,kE];decide
theorem Oc{b a:Nat}(hd:b<32)(ha:a<32):aU ⟨7,0,a,b,0,[],[],0⟩=true:=by
 have h1:=oh hd;have h2:=oh ha;unfold aU;rw[h1,h2];simp[dn,kE];decide
theorem G7{op:Int}(ho:op=9\/op=10){d a b:Nat}(hd:d<32)(ha:a<32)(hb:b<32):aU ⟨op,d,a,b,0,[],[],0⟩=true:=by
 have h1:=oh hd;have h2:=oh ha;have h3:=oh hb;rcases ho with rfl|rfl<;>(unfold aU;rw[h1,h2,h3];simp[dn,kE])
theorem Ob{d a:Nat}{n:Int}(hd:d<32)(ha:a<32):aU ⟨8,d,a,0,n,[],[],0⟩=(decide (-2048<=n)&&decide (n<=2047)):=by
 have h1:=oh hd;have h2:=oh ha;unfold aU;rw[h1,h2];simp[dn,kE,show bX 0=true by decide]
theorem N8{a b:Nat}{z:Tx}(hd:a<32)(ha:b<32):aU ⟨11,0,a,b,0,[],z,0⟩=az z:=by
 have h1:=oh hd;have h2:=oh ha;unfold aU;rw[h1,h2];simp[dn,kE,show bX 0=true by decide]
theorem G8{z:Tx}:aU ⟨12,0,0,0,0,[],z,0⟩=az z:=by
 unfold aU;simp[dn,kE,show bX 0=true by decide]
theorem N9{f:Int}:aU ⟨13,0,0,0,0,[],[],f⟩=(decide (2<=f)&&decide (f<=11)):=by
 unfold aU;simp[dn,kE,show bX 0=true by decide]
theorem adB{o1 o2:Option Nat}:(∀n,o1=some n->n<32)->(∀n,o2=some n->n<32)->
 iT ⟨6,lO o1,lO o2,0,0,[],[],0⟩ (o1.isSome&&o2.isSome)=match o1,o2 with
  |some d,some a=>some ⟨6,d,a,0,0,[],[],0⟩
  |_,_=>none:=by
 intro h1 h2;cases o1 with
 |none=>rfl
 | some d=>cases o2 with
   |none=>rfl
   |some a=>exact Ek (Oa (h1 d rfl) (h2 a rfl))
theorem adD{o1 o2:Option Nat}:(∀n,o1=some n->n<32)->(∀n,o2=some n->n<32)->
 iT ⟨7,0,lO o2,lO o1,0,[],[],0⟩ (o1.isSome&&o2.isSome)=match o1,o2 with
  |some d,some a=>some ⟨7,0,a,d,0,[],[],0⟩
  |_,_=>none:=by
 intro h1 h2;cases o1 with
 |none=>rfl
 | some d=>cases o2 with
   |none=>rfl
   |some a=>exact Ek (Oc (h1 d rfl) (h2 a rfl))
theorem adz{a b:Nat}{z:Tx}(ha:a<32)(hb:b<32):iT ⟨11,0,a,b,0,[],z,0⟩ true=if az z then some ⟨11,0,a,b,0,[],z,0⟩else none:=by
 unfold iT;rw[N8 ha hb,Bool.true_and]
theorem adC{a b:Nat}{z:Tx}{v:Int}(ha:a<32)(hb:b<32)(hv:anv z= .ok v):
 iT ⟨8,a,b,0,v,[],[],0⟩ (anj v==z)=match nr z with
  |some n=>some ⟨8,a,b,0,n,[],[],0⟩
  |none=>none:=by
 unfold iT;rw[Ob ha hb];cases hn:nr z with
 | some n=>
   obtain⟨e,b1,b2⟩:=Ey hn;rw[e,M4 b1 b2]at hv;cases hv;have h1:(anj v==z)=true:=by rw[e,Ba (by omega) (by omega)];simp
   rw[h1,decide_eq_true b1,decide_eq_true b2];rfl
 | none=>
   by_cases he:anj v=z
   ·by_cases hr: -2048<=v/\v<=2047
    ·have:=Tg hr.1 hr.2
     rw[<-Ba (by omega) (by omega),he,hn]at this;cases this
    ·rw[show(decide (-2048<=v)&&decide (v<=2047))=false by simp;omega];simp
   ·rw[show(anj v==z)=false by simpa using he];rfl
theorem ae9{z:Tx}(h: ∀v,anv z≠ .ok v):nr z=none:=by
 cases hn:nr z with
 |none=>rfl
 | some n=>
   obtain⟨e,b1,b2⟩:=Ey hn;exact absurd (by rw[e];exact M4 b1 b2) (h n)
theorem RJ{op:Int}(ho:op=9\/op=10){a b:Nat}(ha:a<32)(hb:b<32){o:Option Nat}:(∀n,o=some n->n<32)->
 iT ⟨op,a,b,lO o,0,[],[],0⟩ o.isSome=match o with
  |some c=>some ⟨op,a,b,c,0,[],[],0⟩
  |none=>none:=by
 intro h;cases o with
 |none=>rfl
 |some c=>exact Ek (G7 ho ha hb (h c rfl))
theorem Pu: ∀k:Nat,∀x:Tx,([[114],[119],[114,119]]:List Tx)[k]? =some x->nP x=some (k:Int):=by
 intro k x h
 match k,h with
 |0,h=>simp at h;subst h;rfl
 |1,h=>simp at h;subst h;rfl
 |2,h=>simp at h;subst h;rfl
 |k+3,h=>simp at h
theorem Ih{x:Tx}{n:Int}(h:nP x=some n): ∃k:Nat,k<3/\n=k/\([[114],[119],[114,119]]:List Tx)[k]? =some x:=by
 unfold nP at h
 split at h
 ·cases h;exact⟨0,by omega,rfl,by subst x;rfl⟩
 ·split at h
  ·cases h;exact⟨1,by omega,rfl,by subst x;rfl⟩
  ·split at h
   ·cases h;exact⟨2,by omega,rfl,by subst x;rfl⟩
   ·cases h
end Go.Proofs.YtkbbgjloifmmbaaGreatDoor
namespace Go.Proofs.YtkbbgjloifmmbaaGreatDoor
open _root_.Go.Proofs.Tryz
open _root_.Go.Instr renaming indexAt->amX,sliceAt->amP,sliceBounds->am3,sliceBound->am5,slice->ani
open _root_.List renaming dropWhile_suffix->aoI,getElem?_eq_some_iff->ano,getElem?_eq_getElem->amK
open _root_.Go.Lib renaming atoiAll->anv,itoa->anj
open _root_.Go.RowKit.Below renaming refl->apb
open Go.RowKit
theorem cP.lt{w:World}{a:Option Addr}{l:List Tx}(h:cP w a l){k:Nat}(hk:k<l.length):bk a<w.heap.size:=gR (p:=⟨bk a,fo a+k,none⟩) (h.cell k hk)
def Sm(l:List Tx):Prop:= ∀x∈l,x.length<=1000000
theorem Sm.at{l:List Tx}(h:Sm l)(x:Tx)(hx:x∈l):x.length<=9223372036854775807:=by have:=h x hx;omega
theorem agO(x y z:Tx)(a:Option Addr)(c:Nat)(w:World)(h:cP w a [x,y,z])(hs:Sm [x,y,z]):
 Calls prog 184 #[.slice a 3 c] w (ax w (.tuple #[.int .i64 (lO (bP (ah x))),.int .i64 (lO (bP (ah y))),.string (tx (ah z)),.bool ((bP (ah x)).isSome&&(bP (ah y)).isSome)])):=by
 have X:=hid (yH x (hs.at x (by simp)));have Y:=hid (yH y (hs.at y (by simp)));have Z:=hid (qA z (hs.at z (by simp)));have i0: ∀c w',(amX 42 (.slice a 3 c) (.int .i64 0)).run prog w'= .ok (.pointer (some ⟨bk a,fo a,none⟩)) w':=fun c w'=>h.idx 0 (by simp) c w'
 have i1: ∀c w',(amX 42 (.slice a 3 c) (.int .i64 1)).run prog w'= .ok (.pointer (some ⟨bk a,fo a+1,none⟩)) w':=fun c w'=>h.idx 1 (by simp) c w'
 have i2: ∀c w',(amX 42 (.slice a 3 c) (.int .i64 2)).run prog w'= .ok (.pointer (some ⟨bk a,fo a+2,none⟩)) w':=fun c w'=>h.idx 2 (by simp) c w'
 have c0:w.cell? ⟨bk a,fo a,none⟩=some (.string (tx x)):=h.cell 0 (by simp);generalize bP (ah x)=rx at*;generalize bP (ah y)=ry at*;generalize ah z=tz at*;go_in;go_wp2_with fail;refine(X.out _).mono ?_;rintro e w1 ⟨rfl,E1⟩;have h1:=h.below E1;have c1:w1.cell? ⟨bk a,fo a+1,none⟩=some (.string (tx y)):=h1.cell 1 (by simp);clear c0;go_wp2_with fail;refine(Y.out _).mono ?_;rintro e w2 ⟨rfl,E2⟩;have h2:=h1.below E2;have E:=ay E1 E2;have c2:w2.cell? ⟨bk a,fo a+2,none⟩=some (.string (tx z)):=h2.cell 2 (by simp);clear c1 E1 E2;go_wp2_with fail;refine(Z.out _).mono ?_;rintro e w3 ⟨rfl,E3⟩;have E:=ay E E3;clear c2 E3;cases rx<;>cases ry<;>(go_wp2_with fail;exact bodyPost_ret (by simp[results,results184,go_sem]) rfl ⟨rfl,E⟩)
theorem agP(n c:Nat)(a:Option Addr)(hn:n≠3)(w:World):
 Calls prog 184 #[.slice a n c] w (ax w (.tuple #[.int .i64 0,.int .i64 0,.string ⟨#[]⟩,.bool false])):=by
 have z:((n:Int) != 3)=true:=by simp;omega
 clear hn;go_in;go_wp2_with fail;exact bodyPost_ret (by simp[results,results184,go_sem]) rfl ⟨rfl,apb _ _⟩
theorem Ux(op:Tx)(n c:Nat)(a:Option Addr)(hn:n≠2)(w:World):Calls prog 182 #[.string (tx op),.slice a n c] w (jK w 0 0 0 0 0 ⟨#[]⟩ ⟨#[]⟩ 0 false):=by
 have z:((n:Int) != 2)=true:=by simp;omega
 clear hn;go_in;go_wp2_with fail;exact bodyPost_ret (by simp[results,results182,go_sem]) rfl ⟨rfl,aK⟩
abbrev fS:Obj:=.cells #[.int .i64 0,.int .i64 0,.int .i64 0,.int .i64 0,.int .i64 0,.string ⟨#[]⟩,.string ⟨#[]⟩,.int .i64 0] 50
theorem dX{w w':World}(h:Below (w.alloc fS).heap.size (w.alloc fS) w'):
 (w'.cell? ⟨w.heap.size,0,none⟩=some (.int .i64 0)/\w'.cell? ⟨w.heap.size,1,none⟩=some (.int .i64 0)/\w'.cell? ⟨w.heap.size,2,none⟩=some (.int .i64 0)/\w'.cell? ⟨w.heap.size,3,none⟩=some (.int .i64 0)/\w'.cell? ⟨w.heap.size,4,none⟩=some (.int .i64 0)/\w'.cell? ⟨w.heap.size,5,none⟩=some (.string ⟨#[]⟩)/\w'.cell? ⟨w.heap.size,6,none⟩=some (.string ⟨#[]⟩)/\w'.cell? ⟨w.heap.size,7,none⟩=some (.int .i64 0))/\
 (∀k,w'.frozen? ⟨w.heap.size,k,none⟩=false)/\w.heap.size<w'.heap.size/\Below w.heap.size w w':=by
 have hs:=h.size;simp at hs
 have hc: ∀k,w'.cell? ⟨w.heap.size,k,none⟩=(#[.int .i64 0,.int .i64 0,.int .i64 0,.int .i64 0,.int .i64 0,.string ⟨#[]⟩,.string ⟨#[]⟩,.int .i64 0]:Array Value)[k]? :=fun k=>by
  rw[h.cell (p:=⟨w.heap.size,k,none⟩) (by simp)];have hh:=heap_alloc_new w fS;simp only[World.cell?,hh];simp
 refine⟨⟨hc 0,hc 1,hc 2,hc 3,hc 4,hc 5,hc 6,hc 7⟩,fun k=>?_,by omega,(al w fS).trans (h.mono (al w fS).size)⟩;rw[h.frozen (p:=⟨w.heap.size,k,none⟩) (by simp)];have hh:=heap_alloc_new w fS;simp only[World.frozen?,hh];simp
theorem agD(op x y:Tx)(hop:op=[108,119])(a:Option Addr)(c:Nat)(w:World)(h:cP w a [x,y])(hs:Sm [x,y]):
 Calls prog 182 #[.string (tx op),.slice a 2 c] w (jK w 6 (lO (bP (ah x))) (lO (eH y)) 0 0 ⟨#[]⟩ ⟨#[]⟩ 0 ((bP (ah x)).isSome&&(eH y).isSome)):=by
 have X:=hid (yH x (hs.at x (by simp)));have Y:=hid (Uv y (hs.at y (by simp)));have i0: ∀c w',(amX 42 (.slice a 2 c) (.int .i64 0)).run prog w'= .ok (.pointer (some ⟨bk a,fo a,none⟩)) w':=fun c w'=>h.idx 0 (by simp) c w'
 have i1: ∀c w',(amX 42 (.slice a 2 c) (.int .i64 1)).run prog w'= .ok (.pointer (some ⟨bk a,fo a+1,none⟩)) w':=fun c w'=>h.idx 1 (by simp) c w'
 have c0:w.cell? ⟨bk a,fo a,none⟩=some (.string (tx x)):=h.cell 0 (by simp);have hl:=h.lt (k:=0) (by simp);generalize bP (ah x)=rx at*;generalize eH y=ry at*;have z:((tx op).toList==[108,119])=true:=by rw[aW];simpa using hop
 clear hop;go_in;go_wp2_with fail;refine(X.out _).mono ?_;rintro e w1 ⟨rfl,E1⟩;have h1:=(h.below (al _ _)).below E1;have c1:w1.cell? ⟨bk a,fo a+1,none⟩=some (.string (tx y)):=h1.cell 1 (by simp);clear c0;go_wp2_with fail;refine(Y.out _).mono ?_;rintro e w2 ⟨rfl,E2⟩;have E:=ay E1 E2;obtain⟨⟨d0,d1,d2,d3,d4,d5,d6,d7⟩,hf,hlt,B⟩:=dX E;clear c1 E1 E2 h1 E hl;cases rx<;>cases ry<;>(go_wp2_with fail;exact bodyPost_ret (by simp[results,results182,go_sem,d0,d1,d2,d3,d4,d5,d6,d7]) rfl ⟨rfl,aK⟩)
theorem agE(op x y:Tx)(hop:op≠[108,119])(a:Option Addr)(c:Nat)(w:World)(h:cP w a [x,y])(hs:Sm [x,y]):
 Calls prog 182 #[.string (tx op),.slice a 2 c] w (jK w 7 0 (lO (eH y)) (lO (bP (ah x))) 0 ⟨#[]⟩ ⟨#[]⟩ 0 ((bP (ah x)).isSome&&(eH y).isSome)):=by
 have X:=hid (yH x (hs.at x (by simp)));have Y:=hid (Uv y (hs.at y (by simp)));have i0: ∀c w',(amX 42 (.slice a 2 c) (.int .i64 0)).run prog w'= .ok (.pointer (some ⟨bk a,fo a,none⟩)) w':=fun c w'=>h.idx 0 (by simp) c w'
 have i1: ∀c w',(amX 42 (.slice a 2 c) (.int .i64 1)).run prog w'= .ok (.pointer (some ⟨bk a,fo a+1,none⟩)) w':=fun c w'=>h.idx 1 (by simp) c w'
 have c0:w.cell? ⟨bk a,fo a,none⟩=some (.string (tx x)):=h.cell 0 (by simp);have hl:=h.lt (k:=0) (by simp);generalize bP (ah x)=rx at*;generalize eH y=ry at*;have z:((tx op).toList==[108,119])=false:=by rw[aW];simpa using hop
 clear hop;go_in;go_wp2_with fail;refine(X.out _).mono ?_;rintro e w1 ⟨rfl,E1⟩;have h1:=(h.below (al _ _)).below E1;have c1:w1.cell? ⟨bk a,fo a+1,none⟩=some (.string (tx y)):=h1.cell 1 (by simp);clear c0;go_wp2_with fail;refine(Y.out _).mono ?_;rintro e w2 ⟨rfl,E2⟩;have E:=ay E1 E2;obtain⟨⟨d0,d1,d2,d3,d4,d5,d6,d7⟩,hf,hlt,B⟩:=dX E;clear c1 E1 E2 h1 E hl;cases rx<;>cases ry<;>(go_wp2_with fail;exact bodyPost_ret (by simp[results,results182,go_sem,d0,d1,d2,d3,d4,d5,d6,d7]) rfl ⟨rfl,aK⟩)
theorem EM(w:World):Calls prog 251 #[] w fun e w'=>e= .returned (.slice (some ⟨w.heap.size,0,none⟩) 3 3)/\w'=w.alloc (.cells #[.string ⟨#[114]⟩,.string ⟨#[119]⟩,.string ⟨#[114,119]⟩] 9):=by
 go_in
 go_wp2
 go_ret;exact⟨rfl,rfl⟩
def xP(f:Int):Tx:=if f=2 then[102,101,110,99,101,46,116,115,111]
 else[102,101,110,99,101,32]++iN ((f-3)/3)++[44]++iN ((f-3)%3)
theorem agi(f:Int)(hf:f=3\/f=4\/f=5)(w:World):Calls prog 268 #[.int .i64 f] w (ax w (.string (tx (xP f)))):=by
 rcases hf with rfl|rfl|rfl
 all_goals
  go_in;go_wp2_with fail
  go_region_with (go_at_call 251;refine(EM _).mono ?_;rintro e' w' ⟨rfl,rfl⟩)
  all_goals
   go_wp2_with fail;go_ret;exact⟨sB (by kernel_rfl),aK⟩
theorem agj(f:Int)(hf:f=6\/f=7\/f=8)(w:World):Calls prog 268 #[.int .i64 f] w (ax w (.string (tx (xP f)))):=by
 rcases hf with rfl|rfl|rfl
 all_goals
  go_in;go_wp2_with fail
  go_region_with (go_at_call 251;refine(EM _).mono ?_;rintro e' w' ⟨rfl,rfl⟩)
  all_goals
   go_wp2_with fail;go_ret;exact⟨sB (by kernel_rfl),aK⟩
theorem agk(f:Int)(hf:f=9\/f=10\/f=11)(w:World):Calls prog 268 #[.int .i64 f] w (ax w (.string (tx (xP f)))):=by
 rcases hf with rfl|rfl|rfl
 all_goals
  go_in;go_wp2_with fail
  go_region_with (go_at_call 251;refine(EM _).mono ?_;rintro e' w' ⟨rfl,rfl⟩)
  all_goals
   go_wp2_with fail;go_ret;exact⟨sB (by kernel_rfl),aK⟩
theorem agh(f:Int)(h1:2<=f)(h2:f<=11)(w:World):Calls prog 268 #[.int .i64 f] w (ax w (.string (tx (xP f)))):=by
 by_cases h3:f=2
 ·subst h3
  clear h1 h2;go_in;go_wp2_with fail;go_ret;exact⟨rfl,apb _ _⟩
 by_cases h4:f<=5
 ·exact agi f (by omega) w
 by_cases h5:f<=8
 ·exact agj f (by omega) w
 ·exact agk f (by omega) w
theorem cP.GX{w:World}{a:Option Addr}{l:List Tx}(h:cP w a l){k:Nat}{u:Tx}(hu:l[k]? =some u):w.cell? ⟨bk a,fo a+k,none⟩=some (.string (tx u)):=by
 obtain⟨hk,rfl⟩:=ano.1 hu;exact h.cell k hk
def mF:List Tx:=[[114],[119],[114,119]]
theorem Uz(w:World):Calls prog 251 #[] w fun e w'=> ∃a,e= .returned (.slice a 3 3)/\cP w' a mF/\Below w.heap.size w w':=by
 refine(EM w).mono fun e w' hh=>?_
 obtain⟨he,rfl⟩:=hh;refine⟨_,he,⟨⟨fun _=>rfl,fun i hi=>?_⟩,by decide⟩,al _ _⟩;have hh:=heap_alloc_new w (.cells #[.string ⟨#[114]⟩,.string ⟨#[119]⟩,.string ⟨#[114,119]⟩] 9);simp only[World.cell?,fk,gb,hh];have hi:i=0\/i=1\/i=2:=by simp[mF]at hi;omega
 rcases hi with rfl|rfl|rfl<;>rfl
theorem Uk{w:World}{a:Option Addr}(h:cP w a mF)(k:Nat)(hk:k<3): ∀c w',(amX 42 (.slice a 3 c) (.int .i64 k)).run prog w'= .ok (.pointer (some ⟨bk a,fo a+k,none⟩)) w':=h.idx k hk
def xh(x y:Tx)(k j:Nat):Prop:= ∀k' j',k'<3->j'<3->(k'<k\/(k'=k/\j'<j))-> ¬(mF[k']? =some x/\mF[j']? =some y)
def WY(x y:Tx)(w:World)(e:Ending)(w':World):Prop:=
 ((∃k j:Nat,k<3/\j<3/\mF[k]? =some x/\mF[j]? =some y/\e= .returned (.tuple #[.agg #[.int .i64 13,.int .i64 0,.int .i64 0,.int .i64 0,.int .i64 0,.string ⟨#[]⟩,.string ⟨#[]⟩,.int .i64 (3+3*(k:Int)+j)],.bool true]))\/
  (xh x y 3 0/\e= .returned (.tuple #[.agg #[.int .i64 0,.int .i64 0,.int .i64 0,.int .i64 0,.int .i64 0,.string ⟨#[]⟩,.string ⟨#[]⟩,.int .i64 0],.bool false])))/\Below w.heap.size w w'
theorem agf(n c:Nat)(a:Option Addr)(hn:n≠2)(w:World):Calls prog 183 #[.slice a n c] w (jK w 0 0 0 0 0 ⟨#[]⟩ ⟨#[]⟩ 0 false):=by
 have z:((n:Int) != 2)=true:=by simp;omega
 clear hn;go_in;go_wp2_with fail;exact bodyPost_ret (by simp[results,results183,go_sem]) rfl ⟨rfl,aK⟩
theorem age(x y:Tx)(a:Option Addr)(c:Nat)(w:World)(h:cP w a [x,y])(hs:Sm [x,y]):
 Calls prog 183 #[.slice a 2 c] w (WY (ah x) (ah y) w):=by
 have X:=hid (qA x (hs.at x (by simp)));have Y:=hid (qA y (hs.at y (by simp)));have i0: ∀c w',(amX 42 (.slice a 2 c) (.int .i64 0)).run prog w'= .ok (.pointer (some ⟨bk a,fo a,none⟩)) w':=fun c w'=>h.idx 0 (by simp) c w'
 have i1: ∀c w',(amX 42 (.slice a 2 c) (.int .i64 1)).run prog w'= .ok (.pointer (some ⟨bk a,fo a+1,none⟩)) w':=fun c w'=>h.idx 1 (by simp) c w'
 generalize ah x=sH at*;generalize ah y=ty' at*;have E0:Below (w.alloc fS).heap.size (w.alloc fS) (w.alloc fS):=apb _ _;have HW:=hid (al w fS);go_in;go_wp2_with fail;refine(Uz _).mono ?_;rintro e w1 ⟨a1,rfl,p1,E⟩;have E1:=E0.trans E;clear E0 E;go_wp2_with fail
 go_loopw [14] (fun i wr=> ∃k:Nat,k<=3/\i= .int .i64 k/\Hid (xh sH ty' k 0)/\cP wr a1 mF/\Below (w.alloc fS).heap.size (w.alloc fS) wr) (fun i _=>3-(intOf i).toNat)
 case atStart=>exact⟨0,by omega,rfl,fun k' j' _ _ h=>by omega,p1,E1⟩
 case round=>
  clear p1 E1;obtain⟨k,hk,rfl,HN,p,E⟩:=hrel
  by_cases hlk:k<3
  ·obtain⟨u,hu⟩: ∃u,mF[k]? =some u:=⟨_,amK hlk⟩
   have HU:=hid hu;have ik:=Uk p k hlk;have ck: ∀W,Below wr.heap.size wr W->W.cell? ⟨bk a1,fo a1+k,none⟩=some (.string (tx u)):=fun W hW=>(p.below hW).GX hu
   have Zr:=ck wr (apb _ _);clear hu ck;go_wp2_with fail;refine(Uz _).mono ?_;rintro e w2 ⟨a2,rfl,p2,E2⟩;have p:=p.below E2;have E:=E.trans (E2.mono E.size);clear E2 Zr;go_wp2_with fail
   go_loopw [21] (fun i wr=> ∃j:Nat,j<=3/\i= .int .i64 j/\Hid (xh sH ty' k j)/\cP wr a1 mF/\cP wr a2 mF/\Below (w.alloc fS).heap.size (w.alloc fS) wr) (fun i _=>3-(intOf i).toNat)
   case atStart=>exact⟨0,by omega,rfl,HN,p,p2,E⟩
   case round=>
    clear p p2 E;obtain⟨j,hj,rfl,ei,p,p2,E⟩:=hrel
    by_cases I2:j<3
    ·obtain⟨v,hv⟩: ∃v,mF[j]? =some v:=⟨_,amK I2⟩
     have HV:=hid hv;have ij:=Uk p2 j I2;have cj:wr.cell? ⟨bk a2,fo a2+j,none⟩=some (.string (tx v)):=p2.GX hv;have hB:Below w.heap.size w wr:=HW.out.trans (E.mono HW.out.size);have hT:=h.below hB;have c0:wr.cell? ⟨bk a,fo a,none⟩=some (.string (tx x)):=hT.cell 0 (by simp);clear hv hB
     by_cases hx:sH=u
     ·have z1:((tx sH).toList==(tx u).toList)=true:=by rw[jG];simpa using hx
      by_cases hy:ty'=v
      ·have z2:((tx ty').toList==(tx v).toList)=true:=by rw[jG];simpa using hy
       have HF:=hid (show mF[k]? =some sH/\mF[j]? =some ty' by rw[HU.out,HV.out,hx,hy];exact⟨rfl,rfl⟩);clear hx hy;go_wp2_with fail;refine(X.out _).mono ?_;rintro e w3 ⟨rfl,E3⟩;have hT:=hT.below E3;have E:=E.trans (E3.mono E.size);have c1:w3.cell? ⟨bk a,fo a+1,none⟩=some (.string (tx y)):=hT.cell 1 (by simp);have p2:=p2.below E3;have cj:w3.cell? ⟨bk a2,fo a2+j,none⟩=some (.string (tx v)):=p2.GX HV.out;clear E3 c0;go_wp2_with fail;refine(Y.out _).mono ?_;rintro e w4 ⟨rfl,E4⟩;have E:=E.trans (E4.mono E.size);obtain⟨⟨d0,d1,d2,d3,d4,d5,d6,d7⟩,hf,hlt,B⟩:=dX E;clear E4 E c1 cj hT HN ei p2 p;go_wp2_with fail;exact bodyPost_ret (by simp[results,results183,go_sem,d0,d1,d2,d3,d4,d5,d6,d7]) rfl ⟨.inl ⟨k,j,hlk,I2,HF.out.1,HF.out.2,rfl⟩,aK⟩
      ·have z2:((tx ty').toList==(tx v).toList)=false:=sI hy
       have zA:=hid (show xh sH ty' k (j+1)from fun k' j' h1 h2 h3=>by
        by_cases hc:k'=k/\j'=j
        ·rintro⟨-, h5⟩;rw[hc.2,HV.out]at h5;cases h5;exact hy rfl
        ·exact ei.out k' j' h1 h2 (by omega))
       clear hx hy;go_wp2_with fail;refine(X.out _).mono ?_;rintro e w3 ⟨rfl,E3⟩;have hT:=hT.below E3;have E:=E.trans (E3.mono E.size);have c1:w3.cell? ⟨bk a,fo a+1,none⟩=some (.string (tx y)):=hT.cell 1 (by simp);have p2:=p2.below E3;have p:=p.below E3;clear E3 c0;go_wp2_with fail;refine(Y.out _).mono ?_;rintro e w4 ⟨rfl,E4⟩;have E:=E.trans (E4.mono E.size);have p2:=p2.below E4;have p:=p.below E4;clear E4 c1 cj hT HN ei;go_wp2_with fail
       go_roundw
       case rel=>exact⟨j+1,by omega,by go_num,zA,p,p2,E⟩
       case measure=>simp[intOf];omega
     ·have z1:((tx sH).toList==(tx u).toList)=false:=sI hx
      have zA:=hid (show xh sH ty' k (j+1)from fun k' j' h1 h2 h3=>by
       by_cases hc:k'=k/\j'=j
       ·rintro⟨h5, -⟩;rw[hc.1,HU.out]at h5;cases h5;exact hx rfl
       ·exact ei.out k' j' h1 h2 (by omega))
      clear hx;go_wp2_with fail;refine(X.out _).mono ?_;rintro e w3 ⟨rfl,E3⟩;have E:=E.trans (E3.mono E.size);have p2:=p2.below E3;have p:=p.below E3;clear E3 c0 cj hT HN ei;go_wp2_with fail
      go_roundw
      case rel=>exact⟨j+1,by omega,by go_num,zA,p,p2,E⟩
      case measure=>simp[intOf];omega
    ·obtain rfl:j=3:=by omega
     have zA:=hid (show xh sH ty' (k+1) 0 from fun k' j' h1 h2 h3=>ei.out k' j' h1 h2 (by omega));go_wp2_with fail
     go_roundw
     case rel=>exact⟨k+1,by omega,by go_num,zA,p,E⟩
     case measure=>simp[intOf];omega
  ·obtain rfl:k=3:=by omega
   obtain⟨⟨d0,d1,d2,d3,d4,d5,d6,d7⟩,hf,hlt,B⟩:=dX E;clear E;go_wp2_with fail;exact bodyPost_ret (by simp[results,results183,go_sem,d0,d1,d2,d3,d4,d5,d6,d7]) rfl ⟨.inr ⟨HN,rfl⟩,aK⟩
def Rd(r:Option Ins)(w:World)(e:Ending)(w':World):Prop:=
 ∃(op d a b ag:Int) (label:Tx) (ai:Int) (ok:Bool),e= .returned (.tuple #[.agg #[.int .i64 op,.int .i64 d,.int .i64 a,.int .i64 b,.int .i64 ag,.string ⟨#[]⟩,.string (tx label),.int .i64 ai],.bool ok])/\iT ⟨op,d,a,b,ag,[],label,ai⟩ ok=r/\label.length<=1000000/\Below w.heap.size w w'
theorem Rd.of{r:Option Ins}{w w':World}{e:Ending}{op d a b ag ai:Int}{ok:Bool}(h:jK w op d a b ag ⟨#[]⟩ ⟨#[]⟩ ai ok e w')(hk:iT ⟨op,d,a,b,ag,[],[],ai⟩ ok=r):Rd r w e w':=
 ⟨op,d,a,b,ag,[],ai,ok,h.1,hk,by simp,h.2⟩
theorem pH{s:Tx}: ∀n,bP s=some n->n<32:=fun n h=>(KH h).1
theorem MW{s:Tx}: ∀n,eH s=some n->n<32:=fun n h=>Gy h
theorem yw{l:List Tx}(h:l.length=2): ∃x y,l=[x,y]:=by
 match l,h with
 |[x,y],_=>exact⟨x,y,rfl⟩
theorem RX{l:List Tx}(h:l.length=3): ∃x y z,l=[x,y,z]:=by
 match l,h with
 |[x,y,z],_=>exact⟨x,y,z,rfl⟩
theorem Ky(x y:Tx):dZ [108,119] [x,y]=match bP x,eH y with
 |some d,some a=>some ⟨6,d,a,0,0,[],[],0⟩
 |_,_=>none:=by unfold dZ;rw[if_pos rfl];rfl
theorem Kz(x y:Tx):dZ [115,119] [x,y]=match bP x,eH y with
 |some d,some a=>some ⟨7,0,a,d,0,[],[],0⟩
 |_,_=>none:=by unfold dZ;rw[if_neg (by decide),if_pos rfl];rfl
theorem UY{l:List Tx}(h:l.length≠2):dZ [108,119] l=none:=by
 unfold dZ;rw[if_pos rfl]
 match l with
 |[]=>rfl
 |[_]=>rfl
 |[_,_]=>simp at h
 |_::_::_::_=>rfl
theorem UZ{l:List Tx}(h:l.length≠2):dZ [115,119] l=none:=by
 unfold dZ;rw[if_neg (by decide),if_pos rfl]
 match l with
 |[]=>rfl
 |[_]=>rfl
 |[_,_]=>simp at h
 |_::_::_::_=>rfl
theorem aeK(l:List Tx)(a:Option Addr)(c:Nat)(w:World)(h:cP w a l)(hs:Sm l):Calls prog 182 #[.string (tx [108,119]),.slice a l.length c] w (Rd (dZ [108,119] (l.map ah)) w):=by
 by_cases hl:l.length=2
 ·obtain⟨x,y,rfl⟩:=yw hl
  refine(agD [108,119] x y rfl a c w h hs).mono fun e w' hh=>Rd.of hh ?_
  rw[show[x,y].map ah=[ah x,ah y]from rfl,Ky,MX];exact adB pH MW
 ·refine(Ux [108,119] l.length c a hl w).mono fun e w' hh=>Rd.of hh ?_
  rw[UY (by simpa using hl)];rfl
theorem aeL(l:List Tx)(a:Option Addr)(c:Nat)(w:World)(h:cP w a l)(hs:Sm l):Calls prog 182 #[.string (tx [115,119]),.slice a l.length c] w (Rd (dZ [115,119] (l.map ah)) w):=by
 by_cases hl:l.length=2
 ·obtain⟨x,y,rfl⟩:=yw hl
  refine(agE [115,119] x y (by decide) a c w h hs).mono fun e w' hh=>Rd.of hh ?_
  rw[show[x,y].map ah=[ah x,ah y]from rfl,Kz,MX];exact adD pH MW
 ·refine(Ux [115,119] l.length c a hl w).mono fun e w' hh=>Rd.of hh ?_
  rw[UZ (by simpa using hl)];rfl
theorem UU(x y:Tx):dZ [102,101,110,99,101] [x,y]=match nP x,nP y with
 |some k,some j=>some ⟨13,0,0,0,0,[],[],3+3*k+j⟩
 |_,_=>none:=by unfold dZ;rw[if_neg (by decide),if_neg (by decide),if_pos rfl];rfl
theorem UW{l:List Tx}(h:l.length≠2):dZ [102,101,110,99,101] l=none:=by
 unfold dZ;rw[if_neg (by decide),if_neg (by decide),if_pos rfl]
 match l with
 |[]=>rfl
 |[_]=>rfl
 |[_,_]=>simp at h
 |_::_::_::_=>rfl
theorem aa6(l:List Tx)(a:Option Addr)(c:Nat)(w:World)(h:cP w a l)(hs:Sm l):Calls prog 183 #[.slice a l.length c] w (Rd (dZ [102,101,110,99,101] (l.map ah)) w):=by
 by_cases hl:l.length=2
 ·obtain⟨x,y,rfl⟩:=yw hl
  refine(age x y a c w h hs).mono fun e w' hh=>?_
  rw[show[x,y].map ah=[ah x,ah y]from rfl,UU];obtain⟨h1|h1,hb⟩:=hh
  ·obtain⟨k,j,hk,hj,hx,hy,he⟩:=h1
   rw[Pu k _ hx,Pu j _ hy];exact Rd.of ⟨he,hb⟩ (Ek (by rw[N9];simp;omega))
  ·obtain⟨hn,he⟩:=h1
   refine Rd.of ⟨he,hb⟩ ?_;rw[adA];cases h2:nP (ah x)with
   |none=>rfl
   | some k=>cases h3:nP (ah y)with
     |none=>rfl
     | some j=>
       obtain⟨k',hk',-, ex⟩:=Ih h2;obtain⟨j',hj',-, ey⟩:=Ih h3;exact absurd ⟨ex,ey⟩ (hn k' j' hk' hj' (.inl hk'))
 ·refine(agf l.length c a hl w).mono fun e w' hh=>Rd.of hh ?_
  rw[UW (by simpa using hl)];rfl
theorem Rd.map{r r':Option Ins}{w w':World}{e:Ending}(h:Rd r w e w')(hr:r=r'):Rd r' w e w':=hr▸h
theorem agN(l:List Tx)(a:Option Addr)(c:Nat)(w:World)(h:cP w a l)(hs:Sm l):Calls prog 102 #[.string (tx [108,119]),.slice a l.length c] w (Rd (dZ [108,119] (l.map ah)) w):=by
 have z1:((tx [108,119]).toList==[108,119])=true:=by rw[aW];rfl
 have C:=hid (aeK l a c (w.alloc fS) (h.below (al _ _)) hs);generalize dZ [108,119] (l.map ah)=r at*;generalize l.length=n at*;go_in;go_wp2_with fail;refine C.out.mono ?_;rintro e w1 ⟨op,d,a1,b,ag,label,ai,ok,rfl,hk,hl,E⟩;obtain⟨⟨d0,d1,d2,d3,d4,d5,d6,d7⟩,hf,hlt,B⟩:=dX E;have HK:=hid hk;clear hk E h hs;go_wp2_with fail;exact bodyPost_ret (by simp[results,results102,go_sem,d0,d1,d2,d3,d4,d5,d6,d7]) rfl ⟨op,d,a1,b,ag,label,ai,ok,rfl,HK.out,hl,aK⟩
end Go.Proofs.YtkbbgjloifmmbaaGreatDoor
