/- What ReadAgainP leans on, part 10. -/
import Derived.Test.YtkbbgjloifmmbaaGreatDoorPf6
import Derived.Test.YtkbbgjloifmmbaaGreatDoorPf7
import Derived.Shelf.Sort.Plain
import Derived.Shelf.Slices.In.SortNone
import Derived.Shelf.Slices.CompactS
import Derived.Shelf.SlSortCmp.NoneTotal
import Derived.Shelf.Strings.Repeat
import Derived.Lib.Builder
import Derived.Lib.AppendStr
import Derived.Lib.UnsafeStr
import Derived.Lib.OthersKept
import Derived.Laws.Externs
import Derived.RegionTactic
import Derived.Maps.OwnOps
import Derived.StringKeys
import Derived.Lib.SlicesCompact
import Derived.Deep.RegionHeld3
import Derived.DeepKeys5
set_option linter.unusedVariables false
set_option maxRecDepth 100000
set_option maxHeartbeats 12800000
open _root_.Go.Proofs.Tryz
open _root_.Go renaming World->aAX,Calls->aA7,Value->aAY
open _root_.Go.RowKit renaming Below->aAW
open _root_.And renaming intro->aA6
open _root_.Go.Lib renaming decDigits->aA8,itoa->aA9,OthersKept->aBa,byteCells->aBb,atoiAll->aBh
open _root_.Go.World renaming setCell->aBc,drew->aBn
open _root_.List renaming length->aBd,replicate->aBg
open _root_.Go.Result renaming andThen->aBe
open _root_.Option renaming some->aBf
open _root_.Go.Sort renaming ahead->aBi
open _root_.Go.Shelf renaming Ren->aBj
open _root_.Go.Value renaming ownBlock->aBk
open _root_.Go.Program renaming fieldsOf->aBl
open _root_.ByteArray renaming empty->aBm
namespace Go.Proofs.YtkbbgjloifmmbaaGreatDoor
variable{D:DataW Unit}{e:Ending}{x:bF}{ag v y:Int}{r:List Int × Int × Int}{L:List Th}{d:List jA}{R xs:List aAY}{B E b b' bw c g i k n q:Nat}{a:Option Addr}{t:aT}{l s z:Tx}{T:TypeId}{p:aAY}{w w':aAX}
theorem Ho{p:UInt8->Bool}: ∀{l:Tx},(∀x∈l,p x=true)->l.takeWhile p=l/\l.dropWhile p=[]
 |[],_=>⟨rfl,rfl⟩
 | c::r,h=>by
   obtain⟨a,b⟩:=Ho (l:=r) (fun x hx=>h x (by simp[hx]));rw[mU,k7,ak (h c aq),ak (h c aq),a,b];exact⟨rfl,rfl⟩
theorem wJ{p:UInt8->Bool}: ∀{l:Tx},l.dropWhile p=[]-> ∀x∈l,p x=true
 |[],_,x,hx=>by cases hx
 | c::r,h,x,hx=>by
   rw[k7]at h
   split at h
   ·rename_i hc
    rcases cq.1 hx with rfl|hx
    ·exact hc
    exact wJ h x hx
   cases h
theorem aj7: ∀(l:Tx) (a:Nat),ie a l=l.foldl (fun n b=>10*n+(b.toNat-48)) a
 |[],a=>rfl
 |c::r,a=>aj7 r _
theorem Bn(u:Nat):ie 0 (aA8 u)=u:=by rw[aj7];exact azf u
theorem azh(n:Int):DU (aA9 n)=n:=by
 unfold aA9;split
 ·show(if(45:UInt8)=45 then -((ie 0 (aA8 n.natAbs):Nat):Int)else((ie 0 (45::aA8 n.natAbs):Nat):Int))=n
  rw[ak rfl,Bn];omega
 have h1:=Bn n.toNat
 have h2:=Aq n.toNat;have h3:=rY n.toNat;generalize aA8 n.toNat=d at*;cases d with
 |nil=>exact absurd rfl h2
 | cons c r=>
   have:=h3 c aq;show(if c=45 then -((ie 0 r:Nat):Int)else((ie 0 (c::r):Nat):Int))=n;rw[ai (by intro e;subst e;simp at this),h1];omega
def bN(s:Tx):Option Int:=if aA9 (DU s)=s/\bJ (DU s)=true then some (DU s)else none
theorem nt:bN s=some v<->s=aA9 v/\bJ v=true:=by
 unfold bN;constructor
 ·intro h
  split at h
  ·rename_i hh;cases h;exact⟨hh.1.symm,hh.2⟩
  cases h
 rintro⟨rfl,h⟩
 rw[azh,ak ⟨rfl,h⟩]
theorem ahf(h:s=aA9 v->True)(hv: ∀u,bN s=some u->u=v):bN s=if aA9 v=s/\bJ v=true then some v else none:=by
 by_cases hh:aA9 v=s/\bJ v=true
 ·rw[ak hh];exact nt.2 ⟨hh.1.symm,hh.2⟩
 rw[ai hh]
 cases hn:bN s with
 |none=>rfl
 |some u=>exact absurd (by have:=hv u hn;subst this;have:=nt.1 hn;exact⟨this.1.symm,this.2⟩) hh
theorem aj8: ∀(l:Tx) (a:Nat),a<=ie a l
 |[],a=>aX _
 |c::r,a=>by have:=aj8 r (10*a+(c.toNat-48));unfold ie;omega
theorem ahG: ∀(l:Tx) (a:Nat),(∀b∈l,48<=b.toNat/\b.toNat<=57)->ie a l<18446744073709551616->Lib.parseUint10 a l= .ok (ie a l)
 |[],a,_,_=>rfl
 | c::r,a,hd,h=>by
   have h1:=hd c aq;have h2:=aj8 r (10*a+(c.toNat-48));unfold ie at h⊢;have h3:=ahG r _ (fun b hb=>hd b (by simp[hb])) h;unfold Lib.parseUint10;rw[ak h1,ai ah,ai ah,show a*10+(c.toNat-48)=10*a+(c.toNat-48) by omega,h3]
theorem aaH(h:bJ v=true):aBh (aA9 v)= .ok v:=by
 unfold bJ at h;simp only[bV,dw]at h
 have key: ∀u:Nat,u<18446744073709551616->Lib.parseMag (aA8 u)= .ok u:=fun u hu=>by
  unfold Lib.parseMag;rw[ai (Aq u),ahG _ _ (rY u) (by rw[Bn];exact hu),Bn]
 unfold aA9;split
 ·have:=key v.natAbs ah
  unfold aBh;simp only[show(45:UInt8).toNat=45 from rfl,or_true,lG,this];rw[ai aq,ai aC];simp;omega
 have h1:=key v.toNat ah
 have h2:=Aq v.toNat;have h3:=rY v.toNat;generalize aA8 v.toNat=d at*;cases d with
 |nil=>exact absurd rfl h2
 | cons c r=>
   have:=h3 c aq;unfold aBh;simp only[show ¬(c.toNat=43\/c.toNat=45) by omega,kn,h1];rw[ai ah,ai ah,ai ah];simp;omega
theorem XK(h:aBh s= .ok v):bN s=if aA9 v=s/\bJ v=true then some v else none:=
 ahf (fun _=>trivial) fun u hu=>by
  obtain⟨rfl,h2⟩:=nt.1 hu;rw[aaH h2]at h;cases h;rfl
theorem ahe(h: ∀v,aBh s≠ .ok v):bN s=none:=by
 cases hn:bN s with
 |none=>rfl
 |some u=>obtain⟨rfl,h2⟩:=nt.1 hn;exact absurd (aaH h2) (h u)
theorem UC: ∀(k u:Nat),u<10 ^ (k+1)->(aA8 u).length<=k+1
 |0,u,h=>by rw[aA8,yg ah];simp
 | k+1,u,h=>by
   rw[aA8];split
   ·simp
   have:=UC k (u/10) (by rw[Ng]at h;omega)
   simp;omega
theorem aga(h:bJ v=true):(aA9 v).length<=11:=by
 unfold bJ at h;simp only[bV,dw]at h;unfold aA9;split
 ·have:=UC 9 v.natAbs ah
  simp;omega
 have:=UC 9 v.toNat ah;omega
theorem asb(h:bN s=some v):s.length<=11:=by
 obtain⟨rfl,h2⟩:=nt.1 h;exact aga h2
def sO(a:Nat):Tx->Nat
 |[]=>a
 |c::r=>sO (if bf c then 10*a+(c.toNat-48)else a) r
theorem NQ{c:UInt8}:bf c=true<->48<=c.toNat/\c.toNat<=57:=by
 unfold bf;rw[bV,dw,dw,Ai,Ai];rfl
theorem Y8: ∀(l:Tx) (a:Nat),(∀b∈l,48<=b.toNat/\b.toNat<=57)->sO a l=ie a l
 |[],a,_=>rfl
 | c::r,a,hd=>by
   unfold sO ie;rw[ak (NQ.2 (hd c aq)),Y8 r _ (fun b hb=>hd b (by simp[hb]))]
def zD(s:Tx):Int:=if s.head?=some 45 then 0-(sO 0 s:Int)else sO 0 s
theorem aj6(v:Int):zD (aA9 v)=v:=by
 unfold zD aA9;split
 ·rw[ak (by rfl)]
  unfold sO;rw[ai ay,Y8 _ _ (rY _),Bn];omega
 rw[Y8 _ _ (rY _),Bn,ai]
 ·omega
 intro e
 have:=rY v.toNat 45 (Ja e);simp at this
theorem XM(s:Tx):bN s=if aA9 (zD s)=s/\bJ (zD s)=true then some (zD s)else none:=
 ahf (fun _=>trivial) fun u hu=>by obtain⟨rfl,h2⟩:=nt.1 hu;exact(aj6 u).symm
theorem Y9: ∀(k:Nat) (l:Tx) (a:Nat),l.length<=k->sO a l<(a+1)*10 ^ k
 | k,[],a,_=>by
   unfold sO;have:1<=10 ^ k:=Nat.one_le_pow _ _ ah
   calc a<a+1:=ah
    _<=(a+1)*10 ^ k:=Nat.le_mul_of_pos_right _ this
 |0,_::_,_,h=>absurd h aq
 | k+1,c::r,a,h=>by
   unfold sO;simp only[cy]at h;split
   ·rename_i hd
    have hd:=NQ.1 hd;have:=Y9 k r (10*a+(c.toNat-48)) ah;refine ou this ?_;rw[Ng,Nat.mul_comm (10 ^ k) 10,<-Nat.mul_assoc];exact wz _ ah
   have:=Y9 k r a ah
   refine ou this ?_;rw[Ng,<-Nat.mul_assoc];omega
theorem NR(h: ∀b∈l,48<=b.toNat/\b.toNat<=57):l.all bf=true:=fP.2 fun b hb=>NQ.2 (h b hb)
theorem asi(h:fF z=some v):z=aA9 v:=by
 unfold fF at h
 split at h
 ·cases h
 rename_i hu
 split at h
 ·rename_i hm
  split at h
  ·cases h
  rename_i hn
  obtain⟨r,rfl⟩: ∃r,z=45::r:=by cases z with
   |nil=>simp at hm
   |cons a b=>simp at hm;subst hm;exact⟨b,rfl⟩
  simp only[qR,qP]at h hn;cases h;have a1:r≠[]:=fun e=>hn (.inl e)
  have a2:r.head?≠some 48:=fun e=>hn (.inr (.inl e))
  have a3:r.all bf=true:=by cases hb:r.all bf;exact absurd (.inr (.inr hb)) hn;rfl
  have hp:=Zb a1 a3 a2;have hc:=canon (r.length-1) r (by have:=BS.2 a1;omega) a3 (fun e=>absurd e a2);unfold aA9;rw[ak ah,Int.natAbs_neg,Int.natAbs_natCast,hc]
 split at h
 ·cases h
 rename_i hn;cases h;have a1:z≠[]:=fun e=>hu (.inl e)
 have a3:z.all bf=true:=by cases hb:z.all bf;exact absurd (.inr hb) hn;rfl
 have a2:z.head?=some 48->z.length=1:=fun e=>by
  have:=BS.2 a1;rcases iA 1 z.length with h'|h'
  ·exact absurd (.inl ⟨e,h'⟩) hn
  omega
 have hc:=canon (z.length-1) z (by have:=BS.2 a1;omega) a3 a2;unfold aA9;rw[ai ah,uC,hc]
theorem acd{u:Nat}:(aA8 u).head?=some 48->u=0:=by
 induction u using Nat.strongRecOn with
 | _ u ih=>
   rw[aA8];split
   ·rename_i h
    intro e;have key: ∀k:Fin 10,(UInt8.ofNat (48+k.val))=48->k.val=0:=ay;exact key ⟨u,h⟩ (aS e)
   rename_i h
   intro e;have h2:=Aq (u/10)
   have:=ih (u/10) ah (by
    generalize aA8 (u/10)=d at*;cases d with
    |nil=>exact absurd rfl h2
    |cons a b=>simpa using e)
   omega
theorem ash(h:bJ v=true):fF (aA9 v)=some v:=by
 have hl:=aga h;unfold fF
 rw[ai (by
  rintro(e|e)
  ·exact WV v e
  omega)]
 unfold aA9;split
 ·rename_i hn
  simp only[ya,lG,qR,qP,Bn];rw[ai]
  ·congr 1;omega
  rintro(e|e|e)
  ·exact Aq _ e
  ·have:=acd e;omega
  rw[NR (rY _)]at e;cases e
 rename_i hn
 rw[ai,ai]
 ·rw[Bn];congr 1;omega
 ·rintro(⟨e,e2⟩|e)
  ·rw[acd e,aA8,yg ah]at e2;simp at e2
  rw[NR (rY _)]at e;cases e
 intro e
 have:=rY v.toNat 45 (Ja e);simp at this
theorem asc(z:Tx):bN z=(fF z).bind fun v=>if bJ v=true then some v else none:=by
 cases hv:fF z with
 | none=>
   cases hn:bN z with
   |none=>rfl
   |some u=>obtain⟨rfl,h2⟩:=nt.1 hn;rw[ash h2]at hv;cases hv
 | some v=>
   have e:=asi hv;subst e;show _=if bJ v=true then some v else none
   rw[XM,aj6];simp
def dX(ag:Int)(s:Tx):Option Nat:=(List.range (dU ag).toNat).find? fun n=>dy ag n==s
def cW:Tx->Nat
 |[]=>0
 | c::r=>
   if cL c then 1+(r.takeWhile dO).length
   else if bf c||(c==45&&(r.head?.any bf))then 1+(r.takeWhile bf).length
   else if(c==47&&r.head?==some 92)||(c==92&&r.head?==some 47)then 2 else 1
abbrev Tok:=Tx × Nat
def lu:Nat->Nat->Tx->List Tok
 |0,_,_=>[]
 |_+1,_,[]=>[]
 |n+1,p,c::r=>if aH c then lu n (p+1) r else((c::r).take (cW (c::r)),p)::lu n (p+cW (c::r)) ((c::r).drop (cW (c::r)))
def lex(p:Nat)(s:Tx):List Tok:=lu s.length p s
theorem lz(c:UInt8)(r:Tx):cW (c::r)=if cL c then 1+(r.takeWhile dO).length
 else if bf c||(c==45&&(r.head?.any bf))then 1+(r.takeWhile bf).length
 else if(c==47&&r.head?==some 92)||(c==92&&r.head?==some 47)then 2 else 1:=rfl
theorem ri(c:UInt8)(r:Tx):1<=cW (c::r):=by
 rw[lz];split
 ·omega
 split
 ·omega
 split<;>omega
theorem ud{α:Type}(p:α->Bool)(l:List α):(l.takeWhile p).length<=l.length:=by
 have:=congrArg aBd (kH (p:=p) (l:=l));rw[bu]at this;omega
theorem yR(c:UInt8)(r:Tx):cW (c::r)<=r.length+1:=by
 rw[lz];have h1:=ud dO r;have h2:=ud bf r;split
 ·omega
 split
 ·omega
 split
 ·rename_i h
  cases r with
  |nil=>simp at h
  |cons d r=>simp
 omega
theorem Xf: ∀(n m p:Nat) (s:Tx),s.length<=n->s.length<=m->lu n p s=lu m p s
 |0,0,_,_,_,_=>rfl
 |0,m+1,p,[],_,_=>rfl
 |0,_+1,_,_::_,h,_=>absurd h aq
 |n+1,0,p,[],_,_=>rfl
 |_+1,0,_,_::_,_,h=>absurd h aq
 |n+1,m+1,p,[],_,_=>rfl
 | n+1,m+1,p,c::r,h1,h2=>by
   have hp:=ri c r;simp only[cy]at h1 h2;show(if aH c then lu n (p+1) r else _::lu n _ _)=(if aH c then lu m (p+1) r else _::lu m _ _);rw[Xf n m (p+1) r ah ah,Xf n m (p+cW (c::r)) ((c::r).drop (cW (c::r))) aC aC]
theorem lex_nil(p:Nat):lex p []=[]:=rfl
theorem Gs(p:Nat){c:UInt8}(r:Tx)(h:aH c=true):lex p (c::r)=lex (p+1) r:=by
 show(if aH c then lu r.length (p+1) r else _)=_;rw[ak h];rfl
theorem KC(p:Nat){c:UInt8}(r:Tx)(h:aH c=false):lex p (c::r)=((c::r).take (cW (c::r)),p)::lex (p+cW (c::r)) ((c::r).drop (cW (c::r))):=by
 show(if aH c then _ else _::lu r.length _ _)=_;rw[ai (by rw[h];decide)];have hp:=ri c r
 congr 1
 exact Xf _ _ _ _ aC aq
theorem Kz: ∀(n p:Nat) (s:Tx),s.length<=n->(lex p s).length<=s.length
 |_,p,[],_=>by rw[lex_nil];simp
 |0,_,_::_,h=>absurd h aq
 | n+1,p,c::r,h=>by
   simp only[cy]at h;cases hb:aH c with
   |true=>rw[Gs p r hb];have:=Kz n (p+1) r ah;simp;omega
   | false=>
     rw[KC p r hb];have hp:=ri c r;have:=Kz n (p+cW (c::r)) ((c::r).drop (cW (c::r))) aC;simp only[cy,dG]at this ⊢; omega
abbrev PR(α:Type):=Except (List Tok) (α × List Tok)
def aJ:List Tok->Tx
 |[]=>[]
 |t::_=>t.1
def bQ(s:Tx):List Tok->Except (List Tok) (List Tok)
 |[]=>.error []
 |t::r=>if t.1=s then .ok r else .error (t::r)
def lq(a b:Int):List Tok->PR Int
 |[]=>.error []
 | t::r=>match bN t.1 with
   |some n=>if a<=n/\n<=b then .ok (n,r)else .error (t::r)
   |none=>.error (t::r)
def jN:List Tok->PR Tx
 |[]=>.error []
 |t::r=>if aU t.1 then .ok (t.1,r)else .error (t::r)
def rj:Tx->Bool
 |[]=>false
 |c::_=>bf c||c==45
def fQ(ag:Int)(l:List Tok):PR Th:=
 if aJ l=[91]then
  match jN l.tail with
  | .error e=>.error e
  | .ok (x,r)=>match bQ [93] r with
    | .error e=>.error e
    | .ok r=>.ok (⟨-1,0,x⟩,r)
 else if rj (aJ l)then
  match lq 0 15 l with
  | .error e=>.error e
  | .ok (n,r)=>match bQ [58] r with
    | .error e=>.error e
    | .ok r=>match dX ag (aJ r)with
      |none=>.error r
      |some k=>.ok (⟨n,k,[]⟩,r.tail)
 else match jN l with
  | .error e=>.error e
  | .ok (x,r)=>.ok (⟨-1,0,x⟩,r)
def A0(k:Int)(l:List Nd):Nd:=.mk k dQ 0 none 0 l
def jU(ag:Int)(l:List Tok):PR Nd:=
 match fQ ag l with
 | .error e=>.error e
 | .ok (t,r)=>match bQ [61] r with
   | .error e=>.error e
   | .ok r=>match lq (-2147483648) 2147483647 r with
     | .error e=>.error e
     | .ok (v,r)=>.ok (.mk 2 t v none 0 [],r)
def vq(k:Int):List Nd->Nd
 |[x]=>x
 |l=>A0 k l
def ja(k:Int)(sign:Tx)(one:List Tok->PR Nd):Nat->List Nd->List Tok->PR Nd
 |0,aD,l=>.ok (vq k aD,l)
 | n +1,aD,l=>if aJ l=sign then
     match one l.tail with
     | .error e=>.error e
     | .ok (x,r)=>ja k sign one n (aD++[x]) r
   else .ok (vq k aD,l)
def jc(k:Int)(sign:Tx)(one:List Tok->PR Nd)(l:List Tok):PR Nd:=
 match one l with
 | .error e=>.error e
 | .ok (x,r)=>ja k sign one r.length [x] r
def jt(one:List Tok->PR Nd)(l:List Tok):PR Nd:=jc 5 [92,47] (jc 4 [47,92] one) l
def cz(ag:Int):Nat->List Tok->PR Nd
 |0,l=>.error l
 | n+1,l=>
   if aJ l=[126]then
    match cz ag n l.tail with
    | .error e=>.error e
    | .ok (x,r)=>.ok (A0 3 [x],r)
   else if aJ l=[40]then
    match jt (cz ag n) l.tail with
    | .error e=>.error e
    | .ok (x,r)=>match bQ [41] r with
      | .error e=>.error e
      | .ok r=>.ok (x,r)
   else if aJ l=[116,114,117,101]/\aJ l.tail≠[61]then .ok (A0 1 [],l.tail)
   else jU ag l
def jk(l:List Tok):PR Int:=
 if aJ l=[102,111,114,97,108,108]then .ok (3,l.tail)
 else if aJ l=[126]then
  match bQ [101,120,105,115,116,115] l.tail with
  | .error e=>.error e
  | .ok r=>.ok (2,r)
 else match bQ [101,120,105,115,116,115] l with
  | .error e=>.error e
  | .ok r=>.ok (1,r)
def iB(ag:Int)(l:List Tok):Except (List Tok) (Int × Nd):=
 match jk l with
 | .error e=>.error e
 | .ok (q,l)=>match bQ [40] l with
   | .error e=>.error e
   | .ok l=>match jt (cz ag (l.length+1)) l with
     | .error e=>.error e
     | .ok (x,l)=>match bQ [41] l with
       | .error e=>.error e
       | .ok l=>if l=[]then .ok (q,x)else .error l
def dI(ag:Int)(s:Tx):Except (Int × Nat) (Int × Nd):=
 if bD ag=false then .error (5,0)
 else if 262144<s.length then .error (2,0)
 else match iB ag (lex 0 s)with
  | .error e=>.error (80,(e.head?.map (·.2)).getD s.length)
  | .ok (q,x)=>if dh ag q x=0 then .ok (q,x)else .error (dh ag q x,0)
open Go.RowKit Go.Sort
abbrev wkC(ag:Int)(seen:Nat)(err:Int):List aAY:=[.int .i64 ag,.int .i64 seen,.int .i64 err]
abbrev rO(w:aAX)(B bw:Nat)(ag:Int)(seen:Nat)(err:Int):Prop:=au w B 170 3 (aBf ⟨bw,0,none⟩) 1 1 (wkC ag seen err)
theorem rO.cells{err:Int}{seen:Nat}(h:rO w B bw ag seen err):w.cell? ⟨bw,0,none⟩=aBf (.int .i64 ag)/\w.cell? ⟨bw,1,none⟩=aBf (.int .i64 seen)/\w.cell? ⟨bw,2,none⟩=aBf (.int .i64 err)/\w.frozen? ⟨bw,1,none⟩=false/\w.frozen? ⟨bw,2,none⟩=false:=by
 have f1:=au.frozen h aq 1;have f2:=au.frozen h aq 2;have c0:=(au.row h).cell 0 aq;have c1:=(au.row h).cell 1 aq;have c2:=(au.row h).cell 2 aq;simp only[jW,kM,jT]at f1 f2 c0 c1 c2;exact⟨c0,c1,c2,f1,f2⟩
theorem aW.step{l:List aAY}(h:aW w b l)(hs:Step w w' (aBf ⟨bw,0,none⟩) (aBf ⟨bw,0,none⟩))(aN:b≠bw):aW w' b l:=by
 refine⟨ou h.1 hs.grown.size,fun k hk=>?_⟩;have h1:=h.2 k hk;rw[aV hk]at h1⊢;exact hs.grown.cell h1 (aS aN)
def akN(w0 w:aAX)(bw:Nat)(ag:Int)(p:Nat × Int)(e:Ending)(w':aAX):Prop:=
 e= .returned (.bool (p.2==0))/\Step w w' (some ⟨bw,0,none⟩) (some ⟨bw,0,none⟩)/\ ∃s,rO w' w0.heap.size bw ag s p.2/\(p.2=0->s=p.1)
theorem bX(h:aAW w.heap.size w w'):Step w w' (some ⟨bw,0,none⟩) (some ⟨bw,0,none⟩):=
 ⟨⟨h.os,h.tape,h.output,h.size,fun k hk _=>h.block k hk⟩,.inl rfl⟩
theorem amD(ag:Int): ∀(x:Nd) (met deep bw:Nat) (w0 w:aAX),fZ w0 x->aAW w0.heap.size w0 w->rO w w0.heap.size bw ag met 0->met<=1024->deep<=64->
 aA7 prog 143 #[.pointer (some ⟨bw,0,none⟩),vN x,.int .i64 deep] w (akN w0 w bw ag (fY ag x met deep)):=by
 intro x
 induction x using Nd.ind with
 |h x ih=>
 intro met deep bw w0 w hI hB hO hm hd;obtain⟨p,hp⟩:=aF (fY ag x met deep);have hq:=hp;rw[LM]at hq;rw[hp];clear hp;have hbw:w0.heap.size<=bw/\bw<w.heap.size:=by have:=au.lt hO aq;simpa using this
 have B:=al w (bY x);have b0:aW (w.alloc (bY x)) w.heap.size (cN x):=aW.new w _ _;have oB:=au.below hO B;have stB:Step w (w.alloc (bY x)) (some ⟨bw,0,none⟩) (some ⟨bw,0,none⟩):=bX B;have aA:w.heap.size<(w.alloc (bY x)).heap.size:=aq;have HI:=af hI;have vS:=af ih;have HB:=af hB;have HO:=af hO;have Eh:=af hq;clear hI ih hB hO hq B;go_in;go_upto_region 1 with(fail);generalize w.alloc (bY x)=W0 at*;obtain⟨c0,c1,c2,f1,f2⟩:=rO.cells oB;obtain⟨o1,st1⟩:=au.set oB aq 1 (.int .i64 ((met:Int)+1));simp only[jW,kM,jT]at o1 st1;have b1:=b0.step st1 ah;have st1:=stB.trans st1;have o1:rO (W0.setCell ⟨bw,1,none⟩ (.int .i64 ((met:Int)+1))) w0.heap.size bw ag (met+1) 0:=o1;clear b0 oB stB;have QQ:=af (aA6 b1 (aA6 st1 o1));clear b1 st1 o1;have hm9:(met:Int)<=1024:=ah;go_upto_region 2 with(fail);generalize hW1:W0.setCell ⟨bw,1,none⟩ (.int .i64 ((met:Int)+1))=W1 at*;clear hW1;obtain⟨b1,st1,o1⟩:=QQ.oo;clear QQ c0 c1 c2 f1 f2;obtain⟨k0,k1,k2,j1,j2⟩:=rO.cells o1;have hq:=Eh.oo;clear Eh
 by_cases h1:1024<=met\/64<=deep
 ·rw[ak h1]at hq
  have HQ:=af hq.symm;clear hq;obtain⟨o2,st2⟩:=au.set o1 aq 2 (.int .i64 2);simp only[jW,kM,jT]at o2 st2;have o2:rO (W1.setCell ⟨bw,2,none⟩ (.int .i64 2)) w0.heap.size bw ag (met+1) 2:=o2;have st2:=st1.trans st2;clear b1 st1 o1
  by_cases h2:1024<=met
  ·have z2:(1024:Int)<=met:=ah
   exact ad6
  have z2:(met:Int)<1024:=ah
  have h3:64<=deep:=ah;exact ad6
 rw[ai h1]at hq
 have h2:met<1024:=ah;have h3:deep<64:=ah;clear h1;obtain⟨mb,hmb⟩:=aF (iJ ag x.kind x.th x.val x.aP.length);rw[hmb]at hq;have CM:=af (show ∀w,aA7 prog 227 #[.int .i64 ag,vN x] w (bg w (.bool mb))from fun w=>hmb▸amB ag x HI.oo.aj w);clear hmb;have HQ:=af hq;clear hq;have RR:=af (aA6 b1 (aA6 st1 o1));obtain⟨q0,q1,q2,q3,q4,q5⟩:=b1.kK;clear b1 st1 o1;go_wp2_with fail;have cA:=fun(d:Nat) (os:Array Obj)=>Calls.regrown_of (yY (CM.oo (grow (redrawn W1 d) os)))
 have q0:=cell_regrown q0;have q1:=cell_regrown q1;have q2:=cell_regrown q2;have q3:=cell_regrown q3;have q4:=cell_regrown q4;have q5:=cell_regrown q5;have k0:=cell_regrown k0;refine wp_region_quiet_below bM bM ?_
 repeat(go_big_quiet_step (exact cA _ _))
 refine mW ?_;intro _ hw';obtain⟨⟨dq,dJ⟩,hw''⟩:=hw';subst hw'';have xK:=below_regrown W1 dq dJ;generalize grow (redrawn W1 dq) dJ=wq at*;obtain⟨b1,st1,o1⟩:=RR.oo;have b1:=b1.below xK;have o1:=au.below o1 xK;have st1:=st1.trans (bX xK);clear q0 q1 q2 q3 q4 q5 k0 k1 k2 j1 j2 cA RR xK;have AM:=HQ.oo;clear HQ;cases mb
 ·have HQ:=af (show p=(met,(80:Int)) by simpa using AM.symm)
  clear AM;obtain⟨k0,k1,k2,j1,j2⟩:=rO.cells o1;obtain⟨o2,st2⟩:=au.set o1 aq 2 (.int .i64 80);simp only[jW,kM,jT]at o2 st2;have o2:rO (wq.setCell ⟨bw,2,none⟩ (.int .i64 80)) w0.heap.size bw ag (met+1) 80:=o2;have st2:=st1.trans st2;clear b1 st1 o1;exact anL
 have HQ:=af (show kX ag x.aP (met+1) (deep+1)=p by simpa using AM)
 clear AM;simp only[mV];obtain⟨b,hb⟩:=aF w.heap.size;rw[hb]at b1 aA⊢;have iP:b≠bw:=ah;clear hb;have q5:=b1.get 5 _ rfl;go_wp2_with fail;clear q5
 go_loopw [43] (fun i wr=> ∃k m:Nat,k<=x.aP.length/\i= .int .i64 k/\m<=1024/\Step w wr (some ⟨bw,0,none⟩) (some ⟨bw,0,none⟩)/\aW wr b (cN x)/\rO wr w0.heap.size bw ag m 0/\Hid (zT ag (x.aP.drop k) m (deep+1) p)) (fun i _=>x.aP.length-(intOf i).toNat)
 ·exact⟨0,met+1,dW _,rfl,ah,st1,b1,o1,HQ.oo⟩
 obtain⟨k,m,hk,rfl,yK,st,br,oW,HR⟩:=hrel;have q5:=br.get 5 _ rfl;have tO:=st.below HO.oo HB.oo HB.oo.size;have gY:=HI.oo.keep tO
 by_cases hlk:k<x.aP.length
 ·obtain⟨y,hy⟩: ∃y,x.aP[k]? =some y:=⟨_,aV hlk⟩
  obtain⟨p0,p1,p2,p3,p4,p5⟩:=gY.els.nd hy;have ix:=gY.els.idx qo nN k hlk x.c;have hkl:=gY.els.len;have oA:=au.below oW (al wr (bY y));have bA:=br.below (al wr (bY y));have sA:=st.trans (bX (al wr (bY y)));have CY:=vS.oo y (cV hy) m (deep+1) bw w0 (wr.alloc (bY y)) (HI.oo.gZ y (cV hy)) (tO.alloc tO.size _) oA yK ah;have hle:=akj ag y m (deep+1) yK;have hst:=HR.oo;unfold zT at hst;rw[akg hy]at hst;rw[show((deep+1:Nat):Int)=(deep:Int)+1 by omega]at CY;generalize fY ag y m (deep+1)=r at*;obtain⟨m2,e2⟩:=r;simp only at hst hle;have CY:=af CY;clear hy gY HR br oW oA st
  by_cases he:e2=0
  ·subst he
   rw[ak rfl]at hst;have HST:=af (show zT ag (x.aP.drop (k+1)) m2 (deep+1) p from hst);clear hst;go_wp2_with fail;refine CY.oo.mono ?_;rintro e w2 ⟨rfl,s2,s,oS,hs⟩;obtain rfl:=hs rfl;have b2:=bA.step s2 iP;have st:=sA.trans s2;clear q5 p0 p1 p2 p3 p4 p5 ix sA bA s2;go_wp2_with fail
   go_roundw;exact⟨k+1,s,ah,by go_num,hle,st,b2,oS,HST⟩;exact ep
  rw[ai he]at hst
  have ze:(e2==0)=false:=aS he;have HST:=af hst.symm;clear hst he;go_wp2_with fail;refine CY.oo.mono ?_;rintro e w2 ⟨rfl,s2,s,oS, -⟩;have st:=sA.trans s2;simp only[ze];clear q5 p0 p1 p2 p3 p4 p5 ix sA bA s2;go_wp2_with fail;go_ret;exact⟨eC (by rw[HST.oo];exact ze.symm),st,s,by rw[HST.oo];exact oS,fun h=>by rw[HST.oo]at h;rw[show e2=0 from h]at ze;cases ze⟩
 obtain rfl:k=x.aP.length:=ah
 have hst:=HR.oo;unfold zT at hst;rw[wD,LL]at hst;have HST:=af hst.symm;clear hst HR;go_wp2_with fail;go_ret;exact⟨eC (by rw[HST.oo];rfl),st,m,by rw[HST.oo];exact oW,fun _=>by rw[HST.oo]⟩
theorem NH(ag q:Int)(x:Nd)(w:aAX)(hI:fZ w x):
 aA7 prog 71 #[.int .i64 ag,vC q x] w (bg w (.int .i64 (dh ag q x))):=by
 have B:=al w (kR q x);obtain⟨ab,hab⟩:=aF (bD ag);have CA:=af (show ∀w,aA7 prog 142 #[.int .i64 ag] w fun e w'=>e= .returned (.bool ab)/\w=w' from fun w=>hab▸JC ag w);cases ab
 ·have HE:=af (abB (q:=q) (x:=x) hab)
  clear hab;go_in
  go_wp2_with (go_at_call 142;refine aK (CA.oo _) ?_)
  exact Ax
 by_cases h1:q<1
 ·have HE:=af (NJ (x:=x) hab (.inl h1))
  clear hab;go_in
  go_wp2_with (go_at_call 142;refine aK (CA.oo _) ?_)
  exact Ax
 by_cases h2:q<=3
 ·have h1:1<=q:=ah
  have B2:=al (w.alloc (kR q x)) (.cells #[.int .i64 ag,.int .i64 0,.int .i64 0] 170)
  have oW:rO ((w.alloc (kR q x)).alloc (.cells #[.int .i64 ag,.int .i64 0,.int .i64 0] 170)) (w.alloc (kR q x)).heap.size (w.alloc (kR q x)).heap.size ag 0 0:=
   Ab (w.alloc (kR q x)) #[.int .i64 ag,.int .i64 0,.int .i64 0] 1 (aX _) dx aq
  have CW:=amD ag x 0 0 (w.alloc (kR q x)).heap.size (w.alloc (kR q x)) _ (hI.keep B) B2 oW ah ah;have HE:=af (abD (x:=x) hab h1 h2);generalize fY ag x 0 0=r at*;obtain⟨m2,e2⟩:=r;have hsz:(w.alloc (kR q x)).heap.size=w.heap.size+1:=aq;have CW:=af CW;have HO:=af oW;have HS:=af hsz;rw[hsz]at CW;clear hab hI oW hsz;go_in
  go_wp2_with (go_at_call 142;refine aK (CA.oo _) ?_)
  refine CW.oo.mono ?_;rintro e w2 ⟨rfl,s2,s,oS, -⟩;have hO:=HO.oo;rw[HS.oo]at hO;have B3:=s2.below hO (by rw[<-HS.oo];exact B2) aq;have B:=B.trans (B3.mono aq);obtain⟨c0,c1,c2,f1,f2⟩:=rO.cells oS;clear oS s2 B2 B3 hO;go_wp2;exact Ax
 have HE:=af (NJ (q:=q) (x:=x) hab (.inr ah))
 have h1:1<=q:=ah;clear hab;go_in
 go_wp2_with (go_at_call 142;refine aK (CA.oo _) ?_)
 exact Ax
@[reducible] def lM(x:bF):List aAY:=[.int .i64 x.aO,.int .i64 x.aR,.string (tx x.aj),.string (tx x.bH),.int .i64 x.n]
@[reducible] def od(x:bF):aAY:=.agg #[.int .i64 x.aO,.int .i64 x.aR,.string (tx x.aj),.string (tx x.bH),.int .i64 x.n]
abbrev lA(x:bF):Obj:=.cells #[.int .i64 x.aO,.int .i64 x.aR,.string (tx x.aj),.string (tx x.bH),.int .i64 x.n] 56
theorem rR(x:bF):(lM x).length=5:=rfl
theorem aa8(x:bF): ∀u∈lM x,u.oneCell'=true:=by
 intro u hu;simp at hu;rcases hu with rfl|rfl|rfl|rfl|rfl<;>rfl
theorem wY:kg prog 22 56 (.agg #[.int .i64 0,.int .i64 0,.string aBm,.string aBm,.int .i64 0]) 5 56:=⟨underlying22,by kernel_rfl,rfl,ay⟩
theorem cQ.yN{l:List bF}(h:cQ lM w a l)(hk:l[k]? =some x):
 w.cell? ⟨bk a,fo a+k*5,none⟩=some (.int .i64 x.aO)/\w.cell? ⟨bk a,fo a+k*5+1,none⟩=some (.int .i64 x.aR)/\w.cell? ⟨bk a,fo a+k*5+2,none⟩=some (.string (tx x.aj))/\w.cell? ⟨bk a,fo a+k*5+3,none⟩=some (.string (tx x.bH))/\w.cell? ⟨bk a,fo a+k*5+4,none⟩=some (.int .i64 x.n):=
 ⟨h.cell0 rR hk ah,h.cell rR hk 1 ah,h.cell rR hk 2 ah,h.cell rR hk 3 ah,h.cell rR hk 4 ah⟩
@[reducible] def yp(x:Cd):List aAY:=[.slice x.a x.l.length x.c]
theorem aa7(x:Cd):(yp x).length=1:=rfl
theorem Fc:kg prog 23 75 (.slice none 0 0) 1 24:=⟨underlying23,by kernel_rfl,rfl,ay⟩
theorem cQ.cd{l:List Cd}(h:cQ yp w a l){x:Cd}(hk:l[k]? =some x):
 w.cell? ⟨bk a,fo a+k,none⟩=some (.slice x.a x.l.length x.c):=by
 have:=h.cell0 aa7 hk ah
 rwa[ER]at this
theorem cQ.uH{l:List Cd}(h:cQ yp w a l)(k:Nat)(hk:k<l.length)(c:Nat):
 ∀w',(Instr.indexAt 23 (.slice a l.length c) (.int .i64 k)).run prog w'= .ok (.pointer (some ⟨bk a,fo a+k,none⟩)) w':=by
 have:=h.idx Fc aa7 k hk c
 rwa[ER]at this
@[reducible] def cT(t:aT):List aAY:=[.int .i64 t.ag,.string (tx t.name),.string (tx t.bG),.slice t.ia t.init.length t.ic,.slice t.ca t.code.length t.cc,.int .i64 t.q,.int .i64 t.node.kind,.int .i64 t.node.th.aO,.int .i64 t.node.th.aR,.string (tx t.node.th.aj),.int .i64 t.node.val,.slice t.node.a t.node.aP.length t.node.c]
@[reducible] def vT(t:aT):aAY:=.agg #[.int .i64 t.ag,.string (tx t.name),.string (tx t.bG),.slice t.ia t.init.length t.ic,.slice t.ca t.code.length t.cc,.int .i64 t.q,.int .i64 t.node.kind,.int .i64 t.node.th.aO,.int .i64 t.node.th.aR,.string (tx t.node.th.aj),.int .i64 t.node.val,.slice t.node.a t.node.aP.length t.node.c]
abbrev dZ(t:aT):Obj:=.cells #[.int .i64 t.ag,.string (tx t.name),.string (tx t.bG),.slice t.ia t.init.length t.ic,.slice t.ca t.code.length t.cc,.int .i64 t.q,.int .i64 t.node.kind,.int .i64 t.node.th.aO,.int .i64 t.node.th.aR,.string (tx t.node.th.aj),.int .i64 t.node.val,.slice t.node.a t.node.aP.length t.node.c] 32
structure kf(w:aAX)(b:Nat)(t:aT):Prop where
 lt:b<w.heap.size
 cl: ∀k,k<12->w.cell? ⟨b,k,none⟩=(cT t)[k]?
theorem kf.new(w:aAX)(t:aT):kf (w.alloc (dZ t)) w.heap.size t:=
 ⟨(aW.new w #[.int .i64 t.ag,.string (tx t.name),.string (tx t.bG),.slice t.ia t.init.length t.ic,.slice t.ca t.code.length t.cc,.int .i64 t.q,.int .i64 t.node.kind,.int .i64 t.node.th.aO,.int .i64 t.node.th.aR,.string (tx t.node.th.aj),.int .i64 t.node.val,.slice t.node.a t.node.aP.length t.node.c] 32).1,fun k hk=>(aW.new w _ _).2 k (aS hk)⟩
theorem kf.below(h:kf w b t)(hb:aAW w.heap.size w w'):kf w' b t:=
 ⟨ou h.lt hb.size,fun k hk=>by rw[hb.cell h.lt];exact h.cl k hk⟩
theorem kf.cells(h:kf w b t):w.cell? ⟨b,0,none⟩=some (.int .i64 t.ag)/\w.cell? ⟨b,1,none⟩=some (.string (tx t.name))/\w.cell? ⟨b,2,none⟩=some (.string (tx t.bG))/\w.cell? ⟨b,3,none⟩=some (.slice t.ia t.init.length t.ic)/\w.cell? ⟨b,4,none⟩=some (.slice t.ca t.code.length t.cc)/\w.cell? ⟨b,5,none⟩=some (.int .i64 t.q)/\w.cell? ⟨b,6,none⟩=some (.int .i64 t.node.kind)/\w.cell? ⟨b,7,none⟩=some (.int .i64 t.node.th.aO)/\w.cell? ⟨b,8,none⟩=some (.int .i64 t.node.th.aR)/\w.cell? ⟨b,9,none⟩=some (.string (tx t.node.th.aj))/\w.cell? ⟨b,10,none⟩=some (.int .i64 t.node.val)/\w.cell? ⟨b,11,none⟩=some (.slice t.node.a t.node.aP.length t.node.c):=
 ⟨h.cl 0 ah,h.cl 1 ah,h.cl 2 ah,h.cl 3 ah,h.cl 4 ah,h.cl 5 ah,h.cl 6 ah,h.cl 7 ah,h.cl 8 ah,h.cl 9 ah,h.cl 10 ah,h.cl 11 ah⟩
structure D0(w:aAX)(x:Cd):Prop where
 is:Is w x.a x.l
 cap:x.l.length<=x.c
 vo: ∀i∈x.l,i.aj.length<=9223372036854775807/\i.av.length<=9223372036854775807
def pT(n:Int):Prop:= -9223372036854775808<=n/\n<=9223372036854775807
structure jz(w:aAX)(t:aT):Prop where
 name:t.name.length<=9223372036854775807
 bG:t.bG.length<=9223372036854775807
 init:cQ lM w t.ia t.init
 afC:t.init.length<=t.ic
 vo: ∀x∈t.init,x.aj.length<=9223372036854775807/\x.bH.length<=9223372036854775807
 wide: ∀x∈t.init,pT x.aO/\pT x.aR
 code:cQ yp w t.ca t.code
 aa9:t.code.length<=t.cc
 rows: ∀x∈t.code,D0 w x
 node:fZ w t.node
theorem D0.keep{x:Cd}(h:D0 w x)(hb:aAW w.heap.size w w'):D0 w' x:=⟨h.is.below hb,h.cap,h.vo⟩
theorem jz.keep(h:jz w t)(hb:aAW w.heap.size w w'):jz w' t:=
 ⟨h.name,h.bG,h.init.below hb,h.afC,h.vo,h.wide,h.code.below hb,h.aa9,fun x hx=>(h.rows x hx).keep hb,h.node.keep hb⟩
open Go.Shelf
def Tryz.aqK:aBj:=⟨fun|190=>145|125=>231|258=>230|128=>294|129=>295|302=>285|303=>286|304=>287|305=>288|306=>289|307=>290|308=>291|309=>292|310=>293|333=>326|329=>327|330=>328|334=>329|335=>330|336=>331|344=>349|n=>n,fun|31=>42|9=>9|3=>3|46=>45|0=>0|51=>265|53=>244|4=>4|183=>259|182=>258|131=>85|5=>5|218=>288|222=>292|228=>305|229=>306|n=>n,fun|n=>n⟩
theorem Tryz.agl:Go.Proofs.Lays.n190 prog Tryz.aqK:=by repeat' first|kernel_rfl|(intro _;kernel_rfl)|constructor
def Tryz.aqL:aBj:=⟨fun|194=>146|n=>n,fun|31=>42|9=>9|3=>3|4=>4|0=>0|n=>n,fun|n=>n⟩
theorem Tryz.agm:Go.Proofs.Lays.n194 prog Tryz.aqL:=by repeat' first|kernel_rfl|(intro _;kernel_rfl)|constructor
def Tryz.art:aBj:=⟨fun|6=>282|15=>231|14=>324|28=>294|29=>295|20=>340|21=>341|22=>342|23=>343|24=>344|25=>345|26=>346|27=>347|46=>352|47=>327|48=>328|49=>353|50=>354|57=>358|n=>n,fun|22=>112|24=>25|25=>256|3=>3|39=>45|0=>0|53=>265|55=>244|4=>4|46=>259|45=>258|50=>85|5=>5|9=>9|66=>288|70=>292|76=>305|77=>306|n=>n,fun|n=>n⟩
theorem Tryz.agI:Go.Proofs.SlLaysF0.n6 prog Tryz.art:=by
 constructor
 case f6=>exact⟨f282.name,by decide,func282.trans (congrArg some (by kernel_rfl))⟩
 case f14=>exact⟨f324.name,by decide,func324.trans (congrArg some (by kernel_rfl))⟩
 case f20=>exact⟨f340.name,by decide,func340.trans (congrArg some (by kernel_rfl))⟩
 case f21=>exact⟨f341.name,by decide,func341.trans (congrArg some (by kernel_rfl))⟩
 case f22=>exact⟨f342.name,by decide,func342.trans (congrArg some (by kernel_rfl))⟩
 case f23=>exact⟨f343.name,by decide,func343.trans (congrArg some (by kernel_rfl))⟩
 case f24=>exact⟨f344.name,by decide,func344.trans (congrArg some (by kernel_rfl))⟩
 case f25=>exact⟨f345.name,by decide,func345.trans (congrArg some (by kernel_rfl))⟩
 case f26=>exact⟨f346.name,by decide,func346.trans (congrArg some (by kernel_rfl))⟩
 case f27=>exact⟨f347.name,by decide,func347.trans (congrArg some (by kernel_rfl))⟩
 case f46=>exact⟨f352.name,by decide,func352.trans (congrArg some (by kernel_rfl))⟩
 case f49=>exact⟨f353.name,by decide,func353.trans (congrArg some (by kernel_rfl))⟩
 case f50=>exact⟨f354.name,by decide,func354.trans (congrArg some (by kernel_rfl))⟩
 case f57=>exact⟨f358.name,by decide,func358.trans (congrArg some (by kernel_rfl))⟩
 all_goals repeat' first|kernel_rfl|(intro _;kernel_rfl)|constructor
def Tryz.agi:aBj:=⟨fun|105=>209|212=>269|99=>94|165=>270|166=>56|170=>61|169=>62|263=>318|264=>319|206=>172|240=>120|241=>320|276=>205|277=>339|n=>n,fun|9=>9|3=>3|4=>4|20=>20|0=>0|46=>45|109=>249|5=>5|72=>96|76=>99|51=>265|146=>270|53=>244|148=>281|70=>93|37=>94|75=>98|127=>154|164=>205|80=>106|n=>n,fun|n=>n⟩
theorem Tryz.aqt:Go.Proofs.Lays.n105 prog Tryz.agi:=by repeat' first|kernel_rfl|(intro _;kernel_rfl)|constructor
theorem al9(a b:Tx)(w:aAX):aA7 prog 325 #[.string (tx a),.string (tx b)] w fun e w'=>e= .returned (.int .i64 (Lib.compareBytes a b))/\w=w':=by
 refine(Any.strings_Compare Tryz.aqu (tx a) (tx b) w).mono fun e w' hh=>⟨?_,hh.2.symm⟩
 rw[hh.1,kW,kW]
theorem am5(x y:jA)(w:aAX):aA7 prog 283 #[mz x.1,mz y.1] w fun e w'=>e= .returned (.int .i64 (rU x.1 y.1))/\w'=(w.alloc (oK x.1)).alloc (oK y.1):=by
 have hx:=qC x;have hy:=qC y;obtain⟨⟨t1,r1,l1⟩,p1⟩:=x;obtain⟨⟨t2,r2,l2⟩,p2⟩:=y;simp only at hx hy⊢;clear p1 p2;rcases hx with⟨a1,a2⟩|⟨a1,a2,a3,a4,a5⟩
 ·subst a1
  rcases hy with⟨b1,b2⟩|⟨b1,b2,b3,b4,b5⟩
  ·subst b1
   clear a2 b2;have E:=af (show rU ⟨-1,r1,l1⟩ ⟨-1,r2,l2⟩=Lib.compareBytes l1 l2 from rfl);go_in
   go_wp2_with (go_at_call 325;refine aK (al9 _ _ _) ?_)
   go_ret;exact⟨nA (by rw[E.oo]),rfl⟩
  clear a2 b5
  have z2:(t2== -1)=false:=aC;have E:=af (show rU ⟨-1,r1,l1⟩ ⟨t2,r2,l2⟩=1 by unfold rU;simp only;rw[ai ah,ak trivial]);exact aes
 clear a5
 have z1:(t1== -1)=false:=aC;rcases hy with⟨b1,b2⟩|⟨b1,b2,b3,b4,b5⟩
 ·subst b1
  clear b2;have E:=af (show rU ⟨t1,r1,l1⟩ ⟨-1,r2,l2⟩= -1 by unfold rU;simp only;rw[ai ah,ai ah,ak trivial]);exact aes
 clear b5
 have z2:(t2== -1)=false:=aC
 by_cases h:t1=t2
 ·have z3:(t1 != t2)=false:=aS h
  have E:=af (show rU ⟨t1,r1,l1⟩ ⟨t2,r2,l2⟩=r1-r2 by unfold rU;simp only;rw[ai ah,ai ah,ai ah,ai ah]);exact aey
 have z3:(t1 != t2)=true:=aS h
 have E:=af (show rU ⟨t1,r1,l1⟩ ⟨t2,r2,l2⟩=t1-t2 by unfold rU;simp only;rw[ai ah,ai ah,ai ah,ak h]);exact aey
@[reducible] def eV(v:jA):List aAY:=oD v.1
abbrev Ff(a b:jA):Int:=rU a.1 b.1
theorem Gt(a b:jA):ltOf Ff a b=eJ a.1 b.1:=alZ a b
theorem axS:SWO (ltOf Ff) where
 irrefl a:=by rw[Gt,pF];exact Xs a
 trans a b c h h':=by rw[Gt]at *; exact Gu a b c h h'
 ntrans a b c h h':=by
  rw[Gt,pF]at*;intro hac
  by_cases h1:nh b a
  ·exact h' (Gu b a c h1 hac)
  have:=KF a b h h1;subst this;exact h' hac
theorem lays(blk off size:Nat)(w:aAX):CmpLays prog 283 #[] eV 3 Ff blk off size w:=by
 intro m os dk _ x y;refine(am5 x y _).mono fun e w' ⟨he,hw⟩=>⟨he,0,#[oK x.1,oK y.1],?_⟩
 rw[hw,alloc_eq_grow,alloc_eq_grow,grow_grow];rfl
theorem api(h:au w B E 3 (some ⟨g,0,none⟩) n c (flat eV d)):HoldsK eV 3 w g 0 d.toArray:=by
 intro j hj;simp only[size_flatK,Tg]at hj;have hl:=kC (enc:=eV) (m:=3) (fun _=>rfl) d;have aA:j<(flat eV d).length:=by rw[hl];exact hj
 have h1:=h.row.cell j aA;have h2:=au.frozen h aq j;simp only[jW,kM]at h1 h2;refine⟨?_,h2⟩;rw[h1,id];have h3:j/3<d.length:=ah;have hg:=On (enc:=eV) (m:=3) (fun _=>rfl) d (j/3) (j%3) d[j/3] (aV h3) ah;rw[show j/3*3+j%3=j by omega]at hg;rw[hg,get_flatK _ _ _ _ (aS hj)];have h4:d.toArray[j/3]! =d[j/3]:=by rw[Ci _ _ (aS h3)];simp
 rw[h4];have h5:j%3<(eV d[j/3]).length:=by show j%3<3;omega
 rw[aV h5,SB,aV h5];rfl
theorem aoj(d:List jA):flatK eV 3 d.toArray=(flat eV d).toArray:=by
 have hl:=kC (enc:=eV) (m:=3) (fun _=>rfl) d;refine ext_get! (by simp[hl]) fun t ht=>?_
 simp only[size_flatK,Tg]at ht;have h3:t/3<d.length:=ah;have hg:=On (enc:=eV) (m:=3) (fun _=>rfl) d (t/3) (t%3) d[t/3] (aV h3) ah;rw[show t/3*3+t%3=t by omega]at hg;rw[get_flatK _ _ _ _ (aS ht)];have h4:d.toArray[t/3]! =d[t/3]:=by rw[Ci _ _ (aS h3)];simp
 have aA:t<(flat eV d).length:=by rw[hl];exact ht
 have h5:t%3<(eV d[t/3]).length:=by show t%3<3;omega
 rw[h4,SB,aV h5];rw[Ci (flat eV d).toArray t (aS aA)];rw[aV aA,aV h5]at hg;exact(fU hg).symm
theorem aua{d':List jA}(h:HoldsK eV 3 w g 0 d.toArray)(hl:d'.length=d.length):putRowK eV 3 w g 0 d'.toArray=w.setCells g 0 (flat eV d'):=by
 have h0:=sortWorldK_start eV 3 w g 0 d.toArray h;unfold sortWorldK at h0;rw[grow_empty]at h0;have h1:=setCells_putRow w g 0 (flat eV d') 0 (flatK eV 3 d.toArray) (by rw[jT,kC (m:=3) (fun _=>rfl)];simp[hl]);unfold putRowK at h0⊢;rw[ahead_zero]at h0;rw[h0]at h1;rw[h1,aoj d']
 congr 1
 refine ext_get! (by simp[hl,kC (enc:=eV) (m:=3) (fun _=>rfl)]) fun t ht=>?_
 simp only[Tg]at ht;have aA:t<d.length*3:=by rw[kC (m:=3) (fun _=>rfl),hl]at ht;exact ht
 rw[get_setMany _ _ _ _ (aS aA),ak ⟨dW _,ah⟩,Nat.sub_zero,Ci _ _ (aS ht),SB,aV ht];simp
abbrev xC(d:List jA):List jA:=d.mergeSort fun x y=> !ltOf Ff y x
theorem axx(d:List jA)(w:aAX)(B:Nat)(a:Option Addr)(c:Nat)(h:au w B 25 3 a d.length c (flat eV d))(hl:d.length<=1000000):
 aA7 prog 282 #[.slice a d.length c,.func (.func 283) #[] #[]] w fun e w'=>e= .returned (.tuple #[])/\au w' B 25 3 a d.length c (flat eV (xC d))/\Step w w' a a:=by
 have hlen:(xC d).length=d.length:=MT d;rcases h.2 with⟨h2,h0⟩|⟨g,cap,cur,hv,hg,hh,hn,hc,hs,hx⟩
 ·simp only[EF]at h2
  obtain⟨rfl,-, rfl⟩:=h2;have hz:d=[]:=lH h0;subst hz;refine(AnyF.slices_SortFunc_none { Tryz.agI with } none 0 _ w).mono fun e w' ⟨he,hw⟩=>?_
  subst hw;have e0:xC []=[]:=lH hlen;rw[e0];exact⟨he,h,Step.refl _ _⟩
 cases hv
 have hH:=api h;refine(AnyQ.slices_SortFunc_total Tryz.agI 3 isAgg25 sizeOf25 eV (fun _=>rfl) (fun x=>Uf x.1) Ff axS 283 #[] g 0 c d.toArray w (enters_of func283 bM rfl) (lays _ _ _ _) hH (yh.1 hh).1 aC (fun x y hxy hyx=>KF x y (by rw[Gt,pF]at hxy;exact hxy) (by rw[Gt,pF]at hyx;exact hyx))).mono fun e w' ⟨he,n,os,hw⟩=>?_
 have hA:aAW w.heap.size w (aBi w n):=⟨rfl,rfl,rfl,aX _,fun _ _=>rfl⟩;have hHa:HoldsK eV 3 (aBi w n) g 0 d.toArray:=hH;have hoA:=au.below h hA;unfold sortWorldK at hw;rw[aua (d:=d) (d':=xC d) hHa hlen]at hw;obtain⟨o2,s2⟩:=au.sets aq (flat eV (xC d)) 0 (aBi w n) (flat eV d) hoA (by rw[jT,kC (m:=3) (fun _=>rfl),kC (m:=3) (fun _=>rfl),hlen];exact aX _)
 have e1:sy (flat eV d) 0 (flat eV (xC d))=flat eV (xC d):=by
  unfold sy;rw[x9,eE,jT,Et (by rw[kC (m:=3) (fun _=>rfl),kC (m:=3) (fun _=>rfl),hlen];exact aX _),jD]
 rw[e1]at o2;simp only[jW,kM,gK]at o2 s2;have Vs:Step w (aBi w n) (some ⟨g,0,none⟩) (some ⟨g,0,none⟩):=⟨⟨rfl,rfl,rfl,aX _,fun _ _ _=>rfl⟩,.inl rfl⟩;have s3:=Vs.trans s2;generalize hW:(aBi w n).setCells g 0 (flat eV (xC d))=W at*;have hG:aAW W.heap.size W (grow W os):=⟨rfl,rfl,rfl,by simp[grow],fun j hj=>by simp[grow,aaE,hj]⟩;rw[hw];exact⟨he,au.below o2 hG,s3.trans ⟨⟨hG.os,hG.tape,hG.output,hG.size,fun k hk _=>hG.block k hk⟩,.inl rfl⟩⟩
attribute [local go_sem high] Fw Du
theorem Ur{α:Type}[DecidableEq α]{l:List α}{k:Nat}(hk:k+1<l.length):eu (l.take (k+2))=if l[k+1]=l[k]then eu (l.take (k+1))else eu (l.take (k+1))++[l[k+1]]:=by
 have h1:l.take (k+2)=l.take k++[l[k]]++[l[k+1]]:=by
  rw[pn (show k+1<l.length from hk),pn (show k<l.length by omega)]
 have h2:l.take (k+1)=l.take k++[l[k]]:=pn ah;rw[h1,h2,Uq]
def zL(l:List Th)(k:Nat):Prop:= ∀i (h:i+1<l.length),i+1<k->l[i+1]≠l[i]
theorem zL.all{l:List Th}(h:zL l l.length):eu l=l:=abt fun i h1=>h i h1 h1
theorem zL.take{l:List Th}(h:zL l (k+1))(hk:k+1<l.length)(e:l[k+1]=l[k]):eu (l.take (k+2))=l.take (k+1):=by
 rw[Ur hk,ak e];refine abt fun i h1=>?_
 simp only[lI]at h1;rw[M5,M5];exact h i ah ah
structure sY(l L:List Th)(i q:Nat):Prop where
 len:L.length=l.length
 lt:i<q
 le:q<=l.length
 front:L.take i=eu (l.take q)
 rest: ∀j,q-1<=j->L[j]? =l[j]?
theorem sY.start{l:List Th}(h:zL l (k+1))(hk:k+1<l.length)(e:l[k+1]=l[k]):sY l l (k+1) (k+2):=
 ⟨rfl,ah,ah,(h.take hk e).symm,fun _ _=>rfl⟩
theorem sY.skip{l:List Th}(h:sY l L i (q+1))(hq:q+1<l.length)(e:l[q+1]=l[q]):sY l L i (q+2):=
 ⟨h.len,by have:=h.lt;omega,ah,by rw[h.front,Ur hq,ak e],fun j hj=>h.rest j ah⟩
theorem sY.keep{l:List Th}(h:sY l L i (q+1))(hq:q+1<l.length)(e:l[q+1]≠l[q]):sY l (L.set i l[q+1]) (i+1) (q+2):=by
 have hl:=h.len;have aA:=h.lt;refine⟨by rw[Cc];exact hl,ah,ah,?_,fun j hj=>?_⟩
 ·rw[Ur hq,ai e,<-h.front]
  have hi:i<L.length:=ah;rw[pn (by rw[Cc];exact hi),aaF,List.take_set_of_le (aX i)]
 rw[SX ah];exact h.rest j ah
theorem sY.done{l:List Th}(h:sY l L i l.length):L.take i=eu l/\(eu l).length=i:=by
 have h1:=h.front;rw[jC]at h1;have h2:=congrArg aBd h1;rw[lI]at h2;have:=h.len;have:=h.lt;have:=h.le;exact⟨h1,ah⟩
theorem axj(w:aAX)(b o:Nat)(e:Th):w.setCells b o (oD e)=((w.setCell ⟨b,o,none⟩ (.int .i64 e.aO)).setCell ⟨b,o+1,none⟩ (.int .i64 e.aR)).setCell ⟨b,o+2,none⟩ (.string (tx e.aj)):=rfl
abbrev fJ(w:aAX)(B:Nat)(a:Option Addr)(n c:Nat)(l:List Th):Prop:=au w B 25 3 a n c (flat oD l)
theorem fJ.eK{l:List Th}(h:fJ w B a n c l)(hn:0<n)(k:Nat):
 w.frozen? ⟨bk a,fo a+k*3,none⟩=false/\w.frozen? ⟨bk a,fo a+k*3+1,none⟩=false/\w.frozen? ⟨bk a,fo a+k*3+2,none⟩=false:=by
 have f:=fun j=>au.frozen h (au.some h hn) j
 exact⟨f (k*3),by have:=f (k*3+1);rwa[<-uz]at this,by have:=f (k*3+2);rwa[<-uz]at this⟩
theorem fJ.idx{l:List Th}(h:fJ w B a n c l)(hl:l.length<=1000000)(k:Nat)(hk:k<n):
 ∀w',(Instr.indexAt 112 (.slice a n c) (.int .i64 k)).run prog w'= .ok (.pointer (some ⟨bk a,fo a+k*3,none⟩)) w':=by
 obtain⟨h1,rfl⟩:=au.els h fM ah ah;exact h1.idx lY fM k hk c
theorem YO(w:aAX)(k:Nat)(a:Option Addr):Step w (w.drewN k) a a:=⟨⟨rfl,rfl,rfl,aX _,fun _ _ _=>rfl⟩,.inl rfl⟩
theorem ami(l:List Th)(w:aAX)(B:Nat)(a:Option Addr)(c:Nat)(h:fJ w B a l.length c l)(hB:B<=w.heap.size)(hl:l.length<=1000000):
 aA7 prog 284 #[.slice a l.length c] w fun e w'=>e= .returned (.slice a (eu l).length c)/\fJ w' B a (eu l).length c (eu l)/\Step w w' a a:=by
 obtain⟨n,hn⟩:=aF l.length;have HN:=af hn;have hcap:=h.cap.1;rw[hn]at h hl hcap⊢;have H:=af h
 by_cases h2:n<2
 ·have E:=af (show eu l=l by
   have:=HN.oo
   match l,this with
   |[],_=>rfl
   |[x],_=>rfl
   |x::y::r,h=>simp at h;omega)
  clear h hn;go_in;go_wp2;go_ret;rw[E.oo,HN.oo];exact⟨rfl,H.oo,Step.refl _ _⟩
 clear h hn
 go_in;go_wp2
 go_loopw [3] (fun i wr=> ∃k:Nat,k+1<=n/\i= .int .i64 ((k:Int)+1)/\QW w wr/\Hid (zL l (k+1))) (fun i _=>n-(intOf i).toNat)
 ·exact⟨0,ah,by go_num,QW.refl _,fun i h1 h2=>by omega⟩
 obtain⟨k,hk,rfl,⟨nd,rfl⟩,HA⟩:=hrel;have o1:fJ (w.drewN nd) B a n c l:=au.below H.oo (below_drewN w nd)
 by_cases aA:k+1<n
 ·have hlt':k+1<l.length:=by rw[HN.oo];exact aA
  obtain⟨x,hx⟩:=aF (l[k]'ah);obtain⟨y,hy⟩:=aF (l[k+1]);have hxo:l[k]? =some x:=by rw[<-hx];exact aV _
  have dm:l[k+1]? =some y:=by rw[<-hy];exact aV _
  have els:=(au.els H.oo fM ah (bE HN.oo)).1;obtain⟨p0,p1,p2⟩:=els.th hxo;obtain⟨q0,q1,q2⟩:=els.th dm;have i1:=fJ.idx o1 (by rw[HN.oo];exact hl) k ah;have i2:=fJ.idx o1 (by rw[HN.oo];exact hl) (k+1) aA;rw[show((k+1:Nat):Int)=(k:Int)+1 by omega]at i2;have hlen:(1:Int)<=(k:Int)+1:=ah;clear els hxo dm
  by_cases e:y=x
  ·have hd:decide (y=x)=true:=eU e
   have PS:=af (sY.start HA.oo hlt' (by rw[hy,hx];exact e));clear hx hy HA e;go_wp2_with fail
   go_quiet (fail)
   go_wp2_with fail;have oA:fJ (w.drewN (nd+nq)) B a n c l:=au.below H.oo (below_drewN w (nd+nq));have sA:Step w (w.drewN (nd+nq)) a a:=⟨⟨rfl,rfl,rfl,aX _,fun _ _ _=>rfl⟩,.inl rfl⟩;clear o1;generalize w.drewN (nd+nq)=W at*
   have hsome:a=some ⟨bk a,fo a,none⟩:=by
    refine oA.row.head ?_;intro e0;have:=congrArg aBd e0;rw[kC fM]at this;simp only[je]at this;have:=HN.oo;omega
   have afa:Option.map (fun x:Addr=>x.add ((k+1)*3)) a=some ⟨bk a,fo a+(k+1)*3,none⟩:=by
    conv=>lhs;rw[hsome]
    rw[wC,Addr.add_lit]
   simp only[afa];clear afa hsome p0 p1 p2 q0 q1 q2 i1 i2 hd nd nq;obtain⟨i0,hi0⟩:=aF (k+1);have afl:(k:Int)+1=(i0:Int):=ah;rw[show k+2=i0+1 by omega]at PS;simp only[hi0,afl]at*;have h1i:1<=i0:=ah;clear hi0 afl hlt' hlen hk
   go_loopw [3,5] (fun s t wr=> ∃(i j:Nat) (L:List Th),s= .int .i64 i/\t= .int .i64 ((j:Int)+1)/\i0+j+1<=n/\Hid (sY l L i (i0+j+1))/\fJ wr B a n c L/\Step w wr a a) (fun _ t _=>n-(intOf t).toNat)
   ·exact⟨i0,0,l,rfl,by go_num,ah,PS,oA,sA⟩
   clear oA sA PS;obtain⟨i,j,L,rfl,rfl,hj,PS,oR,sR⟩:=hrel;have FF:=PS.oo.len;have hPi:=PS.oo.lt;have hLn:L.length=n:=by rw[FF,HN.oo]
   clear FF
   by_cases hq:i0+j+1<n
   ·have Ko:i0+j+1<l.length:=by rw[HN.oo];exact hq
    obtain⟨u,hu⟩:=aF (l[i0+j]'ah);obtain⟨v,hv⟩:=aF (l[i0+j+1]);have VE:(L.drop i0)[j]? =some u:=by rw[tA,PS.oo.rest _ ah,<-hu];exact aV _
    have VF:(L.drop i0)[j+1]? =some v:=by rw[tA,show i0+(j+1)=i0+j+1 by omega,PS.oo.rest _ ah,<-hv];exact aV _
    have els:=(au.els oR fM ah ah).1
    have Wp:a=some ⟨bk a,fo a,none⟩:=by
     refine oR.row.head ?_;intro e0;have:=congrArg aBd e0;rw[kC fM]at this;simp only[je]at this;omega
    have Fm:cQ oD wr (some ⟨bk a,fo a+i0*3,none⟩) (L.drop i0):=by
     have h9:=els.drop fM ah i0 (c=i0) (fun hc=>by omega)
     have h8:mK a (c=i0) (i0*3)=some ⟨bk a,fo a+i0*3,none⟩:=by
      unfold mK;rw[ai ah];conv=>lhs;rw[Wp];rw[wC,Addr.add_lit]
     rwa[h8]at h9
    obtain⟨p0,p1,p2⟩:=Fm.th VE;obtain⟨q0,q1,q2⟩:=Fm.th VF;have qV:(L.drop i0).length=n-i0:=by rw[dG,hLn]
    have i1:=Fm.idx lY fM j ah (c-i0);have i2:=Fm.idx lY fM (j+1) ah (c-i0);rw[qV]at i1 i2;rw[show((j+1:Nat):Int)=(j:Int)+1 by omega]at i2;simp only[jW,kM]at p0 p1 p2 q0 q1 q2 i1 i2;have hM:(j:Int)+1<((n-i0:Nat):Int):=ah;have hj1:(1:Int)<=(j:Int)+1:=ah
    by_cases e:v=u
    ·have hd:decide (v=u)=true:=eU e
     have lP:(!decide (v=u))=false:=by rw[hd];rfl
     have El:=af (PS.oo.skip Ko (by rw[hv,hu];exact e));have pR:=af (aA6 oR sR);clear hu hv e VE VF els Fm Wp PS;go_wp2_with fail
     go_quiet (fail)
     obtain⟨oR,sR⟩:=pR.oo;have dB:=below_drewN wr nq;have oR:=au.below oR dB;have sR:=sR.trans (YO wr nq a);go_wp2
     go_roundw;exact⟨i,j+1,L,rfl,by go_num,ah,El,oR,sR⟩;exact ep
    have hd:decide (v=u)=false:=eZ e
    have lP:(!decide (v=u))=true:=by rw[hd];rfl
    have El:=PS.oo.keep Ko (by rw[hv,hu];exact e);rw[hv]at El;have El:=af El;have pR:=af (aA6 oR sR);have gw:=af hLn;clear hu hv e VE VF els Fm Wp PS hLn;go_wp2_with fail
    go_quiet (fail)
    obtain⟨oR,sR⟩:=pR.oo;have dB:=below_drewN wr nq;have oR:=au.below oR dB;have sR:=sR.trans (YO wr nq a);have q0:(wr.drewN nq).cell? ⟨bk a,fo a+i0*3+(j+1)*3,none⟩=some (.int .i64 v.aO):=by rw[cell?_drewN];exact q0
    have q1:(wr.drewN nq).cell? ⟨bk a,fo a+i0*3+(j+1)*3+1,none⟩=some (.int .i64 v.aR):=by rw[cell?_drewN];exact q1
    have q2:(wr.drewN nq).cell? ⟨bk a,fo a+i0*3+(j+1)*3+2,none⟩=some (.string (tx v.aj)):=by rw[cell?_drewN];exact q2
    clear p0 p1 p2;generalize wr.drewN nq=wq at*;have ii:=fJ.idx oR (by rw[gw.oo];exact hl) i ah;have els:=(au.els oR fM ah (bE gw.oo)).1;obtain⟨z,hz⟩: ∃z,L[i]? =some z:=⟨_,aV (bE gw.oo)⟩;obtain⟨r0,r1,r2⟩:=els.th hz;obtain⟨f0,f1,f2⟩:=fJ.eK oR ah i;obtain⟨o2,s2⟩:=au.axQ fM oR ah i (bE gw.oo) v;have s3:=sR.trans s2;rw[axj]at o2 s3;have BB:=af (aA6 o2 s3);clear hz els oR sR o2 s2 s3 pR;go_wp2_with fail;obtain⟨o2,s3⟩:=BB.oo
    go_roundw;exact⟨i+1,j+1,L.set i v,by go_num,by go_num,ah,El,o2,s3⟩;exact ep
   have yL:i0+j+1=n:=ah
   have qX:i0+j+1=l.length:=by rw[HN.oo];exact yL
   have Sd:=PS.oo;rw[qX]at Sd;obtain⟨hd1,lP⟩:=Sd.done;have hi:i<n:=ah;have hM:((n-i0:Nat):Int)<=(j:Int)+1:=ah;have sc:=Qx lY a n c i ah .i64;have st:=ajr lY a n c i ah .i64;obtain⟨w9,hrun,o9,s9⟩:=axa lY zeroValue25 (Uf ⟨0,0,[]⟩) oR i hi;have XP:=au.aos fM o9 hLn.symm ah;rw[hd1]at XP;have s10:=sR.trans s9;have HD:=af lP;have BB:=af (aA6 XP s10);clear hd1 lP Sd PS o9 s9 XP s10 oR sR qX yL hLn;go_wp2;go_ret;rw[HD.oo];exact⟨rfl,BB.oo.1,BB.oo.2⟩
  have hd:decide (y=x)=false:=eZ e
  have HA2:=af (show zL l (k+2)from fun i h1 h2=>by
   by_cases hik:i=k
   ·subst hik;rw[hy,hx];exact e
   exact HA.oo i h1 ah)
  clear hx hy HA e o1;go_wp2_with fail
  go_quiet (fail)
  go_wp2
  go_roundw;exact⟨k+1,ah,by go_num,⟨nd+nq,rfl⟩,HA2⟩;exact ep
 have hkn:k+1=n:=ah
 have E:=af (show eu l=l from zL.all (by rw[HN.oo,<-hkn];exact HA.oo));clear HA hkn;go_wp2;go_ret;rw[E.oo,HN.oo];exact⟨rfl,o1,YO w nd a⟩
abbrev gN:TypeId:=5
def eO(w:aAX)(b:Nat)(l:List aAY)(T:TypeId):Prop:=w.heap[b]? =some (.cells l.toArray T (0,0))
theorem eO.new(w:aAX)(us:Array aAY)(T:TypeId):eO (w.alloc (.cells us T)) w.heap.size us.toList T:=lJ w _
theorem eO.lt{l:List aAY}(h:eO w b l T):b<w.heap.size:=(yh.1 h).1
theorem eO.below{l:List aAY}(h:eO w b l T)(hb:aAW w.heap.size w w'):eO w' b l T:=by
 unfold eO;rw[hb.block b h.lt];exact h
theorem eO.get{l:List aAY}(h:eO w b l T)(k:Nat)(v:aAY)(hk:l[k]? =some v):w.cell? ⟨b,k,none⟩=some v:=by
 rw[xZ h k];simpa using hk
theorem eO.frozen{l:List aAY}(h:eO w b l T)(k:Nat):w.frozen? ⟨b,k,none⟩=false:=Tc h k
theorem eO.others{l:List aAY}(h:eO w b l T)(hk:aBa gN (some b') w w')(aN:b≠b')(hT:T≠gN):eO w' b l T:=
 hk b _ h (aS aN) (fun c fz e=>by cases e;exact hT rfl)
theorem GC(b:Option Nat)(h:aAW w.heap.size w w'):aBa gN b w w':=
 fun k o hk _ _=>by rw[h.block k (yh.1 hk).1];exact hk
def rI(w:aAX)(B b:Nat)(T:TypeId)(R:List aAY)(p:aAY)(l:Tx):Prop:=
 B<=b/\ ∃v,w.heap[b]? =some (.cells (p::v::R).toArray T (0,0))/\w.ownsRow B gN 1 v l.length (aBb l)/\v.ownBlock≠some b
def dR(w:aAX)(B b:Nat)(T:TypeId)(R:List aAY)(l:Tx):Prop:=rI w B b T R (.pointer none) l\/rI w B b T R (.pointer (some ⟨b,0,none⟩)) l
theorem dR.at(h:dR w B b T R l): ∃p,rI w B b T R p l:=by
 rcases h with h|h
 ·exact⟨_,h⟩
 exact⟨_,h⟩
theorem rI.below(h:rI w B b T R p l)(hb:aAW w.heap.size w w'):rI w' B b T R p l:=by
 obtain⟨h1,v,h2,h3,h4⟩:=h;have aA:=(yh.1 h2).1;refine⟨h1,v,by rw[hb.block b aA];exact h2,?_,h4⟩;rcases h3.2 with⟨hv,h0⟩|⟨g,cap,cur,hv,AE,hg,r⟩
 ·exact⟨h3.1,.inl ⟨hv,h0⟩⟩
 exact⟨h3.1,.inr ⟨g,cap,cur,hv,AE,by rw[hb.block g (yh.1 hg).1];exact hg,r⟩⟩
theorem dR.below(h:dR w B b T R l)(hb:aAW w.heap.size w w'):dR w' B b T R l:=
 h.elim (fun x=>.inl (x.below hb)) (fun x=>.inr (x.below hb))
theorem dR.base(h:dR w B b T R l):B<=b/\b<w.heap.size:=by
 obtain⟨p,h1,v,h2,_⟩:=h.at;exact⟨h1,(yh.1 h2).1⟩
theorem dR.rest(h:dR w B b T R l)(k:Nat)(v:aAY)(hk:R[k]? =some v):w.cell? ⟨b,k+2,none⟩=some v:=by
 obtain⟨p,h1,u,h2,_⟩:=h.at;rw[xZ h2];simpa using hk
theorem asx{v:aAY}{cs:Array aAY}{fr:Nat × Nat}(hown:w.ownsRow B gN 1 v n xs)(hb:w.heap[b]? =some (.cells cs T fr))(hT:T≠gN):v.ownBlock≠some b:=by
 rcases hown.2 with⟨rfl,_⟩|⟨g,cap,cur,rfl,hg,hh,_⟩
 ·simp[aBk]
 intro e
 simp[aBk]at e;rw[e,hb]at hh;simp at hh;exact hT hh.2.1
theorem dR.new(w:aAX)(T:TypeId)(R:List aAY):dR (w.alloc (.cells (Value.pointer none:: .slice none 0 0::R).toArray T)) w.heap.size w.heap.size T R []:=
 .inl ⟨aX _,.slice none 0 0,lJ w _,World.ownsRow_nil _ _ _ _,by simp[aBk]⟩
structure L5(T:TypeId)(n:Nat):Prop where
 aq3:liesAt prog prog.depth T (n/prog.cellsOf T) 0 96 1=true
 ne:T≠gN
 two:2<=n
theorem u8l:(prog.info? gN).map (fun i=>(i.zero,i.size,i.bytes))=some (some (.int .u8 0),1,1):=by kernel_rfl
theorem bsz: ∃j,prog.info? 96=some j/\j.size=2:=by
 have h:(prog.info? 96).map (·.size)=some 2:=by kernel_rfl
 obtain⟨j,hj,hs⟩:=SH.1 h;exact⟨j,hj,hs⟩
theorem rI.axi(h:rI w B b T R p l)(q:aAY):rI (w.setCell ⟨b,0,none⟩ q) B b T R q l:=by
 obtain⟨hB,v,hb,hown,aN⟩:=h;refine⟨hB,v,?_,?_,aN⟩
 ·simp[aBc,SM,hb]
 refine hown.kept (row:=some b) ⟨rfl,rfl,rfl,by simp[aBc],fun k _ hk=>BU _ _ _ _ (fun e=>hk (by simp[e]))⟩ ?_
 exact Or.inr aN
theorem rI.put{v v':aAY}{l':Tx}(hB:B<=b)(hb:w.heap[b]? =some (.cells (p::v::R).toArray T (0,0)))(hown:w.ownsRow B gN 1 v' l'.length (aBb l'))(hT:T≠gN):rI (w.setCell ⟨b,1,none⟩ v') B b T R p l':=by
 have aN:v'.ownBlock≠some b:=asx hown hb hT;refine⟨hB,v',?_,?_,aN⟩
 ·simp[aBc,SM,hb]
 refine hown.kept (row:=some b) ⟨rfl,rfl,rfl,by simp[aBc],fun k _ hk=>BU _ _ _ _ (fun e=>hk (by simp[e]))⟩ ?_
 exact Or.inr aN
theorem alB(B b:Nat)(T:TypeId)(R:List aAY)(l:Tx)(w:aAX)(hT:L5 T (R.length+2))(h:dR w B b T R l):
 aA7 prog 120 #[.pointer (some ⟨b,0,none⟩)] w fun e w'=>e= .returned (.tuple #[])/\rI w' B b T R (.pointer (some ⟨b,0,none⟩)) l/\aAW B w w'/\aBa gN (some b) w w':=by
 obtain⟨j,hj,hjs⟩:=bsz;have uB:=underlying93;have uU:=underlying205;rcases h with h|h
 ·have h':=h
  obtain⟨hB,v,hb,hown,aN⟩:=h';have c0:w.cell? ⟨b,0,none⟩=some (.pointer none):=by rw[xZ hb];rfl
  have f0:w.frozen? ⟨b,0,none⟩=false:=Tc hb 0;have hsh:w.shape? b=some (T,R.length+2):=by simp[World.shape?,hb]
  have VB:=af (aA6 (h.axi (.pointer (some ⟨b,0,none⟩))) (aA6 ((bS B w).setCell (p:=⟨b,0,none⟩) hB (.pointer (some ⟨b,0,none⟩))) ((Ta gN (some b) w).setCell ⟨b,0,none⟩ rfl (.pointer (some ⟨b,0,none⟩)))));have hj':=af hj;have hs':=af hjs;have HS:=af hsh;go_in;go_wp2;rw[Lib.run_to_unsafe w ⟨b,0,none⟩ uB uU hj'.oo (by rw[hs'.oo];decide) HS.oo aq];simp only[aBe];rw[To];go_wp2;rw[run_callFunc_extern func205 bM bM bM (e:=Extern.AbiNoEscape.same) bM];rw[Lib.run_noEscape];simp only[aBe];rw[To];go_wp2;rw[Lib.run_from_unsafe w ⟨b,0,none⟩ uU uB hj'.oo HS.oo hT.aq3];simp only[aBe];rw[To];go_wp2
  go_end0
  exact⟨rfl,VB.oo⟩
 have h':=h
 obtain⟨hB,v,hb,hown,aN⟩:=h';have c0:w.cell? ⟨b,0,none⟩=some (.pointer (some ⟨b,0,none⟩)):=by rw[xZ hb];rfl
 have VB:=af h;have hj':=af hj;go_in;go_wp2;rw[Lib.run_neq_ptr_same w _ uB hj'.oo];go_wp2
 go_end0
 exact⟨rfl,VB.oo,bS _ _,Ta _ _ _⟩
theorem axR(s:Tx):Lib.strCells (tx s)=aBb s:=by rw[Lib.strCells_eq];simp[tx]
theorem Fa(B b:Nat)(T:TypeId)(R:List aAY)(l s:Tx)(w:aAX)(hT:L5 T (R.length+2))(h:dR w B b T R l)(hlen:l.length+s.length<=140737488355328)(hBw:B<=w.heap.size):
 aA7 prog 56 #[.pointer (some ⟨b,0,none⟩),.string (tx s)] w fun e w'=>e= .returned (.tuple #[.int .i64 s.length,.nilIface])/\dR w' B b T R (l++s)/\aAW B w w'/\aBa gN (some b) w w':=by
 obtain⟨i0,hi,hz0,hz1,AQ⟩:=Cm u8l;have hss:=bC s;have uS:=underlying94;have uT:=underlying9;obtain⟨n,hn⟩:=aF l.length;have CC:=af (alB B b T R l w hT h);have HN:=af hn;have HB:=af hBw;clear hn h hBw;go_in;go_wp2_with fail;refine CC.oo.mono ?_;rintro e w1 ⟨rfl,h1,eW,k1⟩;obtain⟨hB,v,hbk,hown,aN⟩:=h1;have c0:w1.cell? ⟨b,0,none⟩=some (.pointer (some ⟨b,0,none⟩)):=by rw[xZ hbk];rfl
 have c1:w1.cell? ⟨b,1,none⟩=some v:=by rw[xZ hbk];rfl
 go_wp2_with (at_builtin;refine Lib.wpList_append_own_string _ rfl _ _ 94 9 rfl B gN i0 uS uT hi hz0 hz1 AQ _ _ _ rfl hown (tx s) rfl ?c3 ?c4 ?c5 ?_)
 case c3=>rw[bC];unfold maxLen;omega
 case c4=>rw[bC];omega
 case c5=>have:=eW.size;have:=HB.oo;omega
 intro v' w2 hown' hgrow _;have aA:b<w1.heap.size:=(yh.1 hbk).1
 have eG:w2.heap[b]? =some (.cells (Value.pointer (some ⟨b,0,none⟩)::v::R).toArray T (0,0)):=by
  rw[hgrow.block b aA (fun e=>aN e.symm)];exact hbk
 have d1:w2.cell? ⟨b,1,none⟩=some v:=by rw[xZ eG];rfl
 have f1:w2.frozen? ⟨b,1,none⟩=false:=Tc eG 1;have k2:aBa gN (some b) w w2:=k1.grown hgrow (Lib.ownsRowF_kind (World.ownsRowF_of hown))
 obtain⟨ao,n',cap,rfl⟩: ∃ao n' cap,v'= .slice ao n' cap:=by
  rcases hown'.2 with⟨hv,_⟩|⟨g,cap,cur,hv,_⟩
  ·exact⟨_,_,_,hv⟩
  exact⟨_,_,_,hv⟩
 have ahy:w2.ownsRow B gN 1 (.slice ao n' cap) (l++s).length (aBb (l++s)):=by
  rw[Lib.byteCells_append,<-axR s,bu,<-bC s];exact hown'
 have PUT:=af (rI.put hB eG ahy hT.ne);have BL:=af ((eW.grown hgrow (by have:=eW.size;have:=HB.oo;omega) (fun k hk=>(hown.lt k hk).1)).setCell (p:=⟨b,1,none⟩) hB (.slice ao n' cap));have KK:=af (k2.setCell ⟨b,1,none⟩ rfl (.slice ao n' cap));clear hown' hgrow ahy hown aN hbk eG k1 k2 eW;go_wp2;go_ret2;exact⟨rfl,.inr PUT.oo,BL.oo,KK.oo⟩
theorem TZ(B b:Nat)(T:TypeId)(R:List aAY)(l:Tx)(w:aAX)(h:dR w B b T R l)(h0:l≠[]):
 aA7 prog 62 #[.pointer (some ⟨b,0,none⟩)] w fun e w'=>e= .returned (.string (tx l))/\aAW B w w':=by
 obtain⟨p,hB,v,hbk,hown,aN⟩:=h.at;have hl0:l.length≠0:=aS h0
 obtain⟨g,cap,cur,rfl,AE,hg,hnc,hcm,hcs,apu⟩: ∃g cap cur,v= .slice (some ⟨g,0,none⟩) l.length cap/\B<=g/\w.heap[g]? =some (.cells cur gN (0,0))/\l.length<=cap/\cap<=maxLen/\cur.size=cap*1/\cur.toList.take (l.length*1)=aBb l:=by
  rcases hown.2 with⟨_,hz⟩|⟨g,cap,cur,hv,r⟩
  ·exact absurd hz hl0
  exact⟨g,cap,cur,hv,r⟩
 have c1:w.drew.cell? ⟨b,1,none⟩=some (.slice (some ⟨g,0,none⟩) l.length cap):=by
  have:w.drew.heap[b]? =some (.cells (p:: .slice (some ⟨g,0,none⟩) l.length cap::R).toArray T (0,0)):=hbk;rw[xZ this];rfl
 have hSD:(Builtin.unsafeSliceData_ #[94] 154 #[.slice (some ⟨g,0,none⟩) l.length cap]).run prog w.drew= .ok (.pointer (some ⟨g,0,none⟩)) w.drew:=
  Lib.run_unsafeSliceData_row _ _ _ _ _ _ ah
 have hUS:(Builtin.unsafeString_ #[154,3] 9 #[.pointer (some ⟨g,0,none⟩),.int .i64 l.length]).run prog w.drew= .ok (.string (tx l)) (w.drew.freeze ⟨g,0,none⟩ l.length):=by
  refine Lib.run_unsafeString_row w.drew 154 3 9 gN underlying154 bM g cur.size (by have hg':w.drew.heap[g]? =some (.cells cur gN (0,0)):=hg;simp[World.shape?,hg']) l h0 ah (by unfold maxLen at hcm;omega) ?_;intro j x hx;have:=hown.cells (g:=g) rfl j (.int .u8 x.toNat) (by simp[aBb,hx]);exact this
 have FZ:=af (Lib.below_freeze (Below.drew (bS B w)) (p:=⟨g,0,none⟩) AE l.length);go_in;go_wp2_with fail
 go_region
 all_goals
  go_wp2_with fail;go_ret;exact⟨rfl,FZ.oo⟩
theorem alC(B b:Nat)(T:TypeId)(R:List aAY)(l:Tx)(w:aAX)(h:dR w B b T R l):
 aA7 prog 61 #[.pointer (some ⟨b,0,none⟩)] w fun e w'=>e= .returned (.int .i64 l.length)/\w=w':=by
 obtain⟨p,hB,v,hbk,hown,aN⟩:=h.at
 obtain⟨ao,cap,rfl⟩: ∃ao cap,v= .slice ao l.length cap:=by
  rcases hown.2 with⟨hv,h0⟩|⟨g,cap,cur,hv,_⟩
  ·exact⟨none,0,by rw[hv,h0]⟩
  exact⟨_,_,hv⟩
 have c1:w.cell? ⟨b,1,none⟩=some (.slice ao l.length cap):=by rw[xZ hbk];rfl
 exact wK
theorem Jp:L5 96 2:=⟨by kernel_rfl,ay,aX _⟩
theorem alD:L5 153 3:=⟨by kernel_rfl,ay,ah⟩
abbrev xF:TypeId:=25
theorem eO.XT{l:List aAY}{e:TypeId}(h:eO w b l T)(hk:aBa e (some b') w w')(aN:b≠b')(hT:T≠e):eO w' b l T:=
 hk b _ h (aS aN) (fun c fz e'=>by cases e';exact hT rfl)
theorem PZ(e:TypeId)(b:Option Nat)(h:aAW w.heap.size w w'):aBa e b w w':=
 fun k o hk _ _=>by rw[h.block k (yh.1 hk).1];exact hk
def LB(w:aAX)(B lb:Nat)(ts:List Th):Prop:= ∃a c,eO w lb [.slice a ts.length c] 112/\fJ w B a ts.length c ts/\B<=lb
theorem LB.below{lb:Nat}{ts:List Th}(h:LB w B lb ts)(hb:aAW w.heap.size w w'):LB w' B lb ts:=by
 obtain⟨a,c,h1,h2,h3⟩:=h;exact⟨a,c,h1.below hb,au.below h2 hb,h3⟩
theorem KO{size:Nat}(h:au w B E size a n c xs): ∀g,a.map (·.block)=some g-> ∃cs fz,w.heap[g]? =some (.cells cs E fz):=by
 intro g hg;rcases h.2 with⟨h2,h0⟩|⟨g',cap,cur,hv,AE,hh,r⟩
 ·simp only[EF]at h2
  rw[h2.1]at hg;cases hg
 cases hv
 exact ack
def aaa(w0 w:aAX)(lb:Nat)(ts:List Th)(e:Ending)(w':aAX):Prop:=
 e= .returned (.tuple #[])/\LB w' w0.heap.size lb ts/\aAW w0.heap.size w0 w'/\aBa xF (some lb) w w'
theorem aml(x:Nd)(w0 w:aAX)(lb:Nat)(ts:List Th)(hB:aAW w0.heap.size w0 w)(h:LB w w0.heap.size lb ts)(hl:ts.length<=100000):
 aA7 prog 281 #[vN x,.pointer (some ⟨lb,0,none⟩)] w (aaa w0 w lb (ts++[x.th])):=by
 obtain⟨a,c,h1,h2,h3⟩:=h;have A:=al w (bY x);have b0:eO (w.alloc (bY x)) w.heap.size (cN x) 28:=eO.new w _ _;have h1:=h1.below A;have h2:=au.below h2 A;have J1:=aI hB A;have K0:=PZ xF (some lb) A;have c1:=h1.get 0 _ rfl;have aA:=h1.lt;have hsz:=J1.size;obtain⟨n,hn⟩:=aF ts.length;rw[hn]at c1 h1 h2 hl;have HN:=af hn;have H1:=af h1;have Hz:=af J1;have hlb:lb<w.heap.size+1:=aS aA;have hN1:(w.alloc (bY x)).heap.size=w.heap.size+1:=aq;go_in
 go_wp2_with (at_builtin;go_loud(refine pQ lY (.tmp 3) (.tmp 6) rfl rfl hN1 rfl h2 rfl rfl (by intro u hu;simp at hu;rcases hu with rfl|rfl|rfl<;>rfl) J1 hsz ah dx ?_))
 intro a3 c3 w3 o3 g3 B3;have hka:=KO h2
 have aN: ∀g,a.map (·.block)=some g->g≠lb:=by
  intro g hg e;subst e;obtain⟨cs,fz,hh⟩:=hka _ hg;have:=H1.oo;unfold eO at this;rw[this]at hh;simp at hh
 have K3:aBa xF (some lb) w w3:=K0.grown (g3.step.grown) hka
 have L3:eO w3 lb [.slice a n c] 112:=by
  unfold eO;rw[g3.step.grown.block lb aC (fun e=>aN lb e.symm rfl)];exact H1.oo
 have d1:=L3.get 0 _ rfl;have f1:=L3.frozen 0
 have oF:fJ w3 w0.heap.size a3 (n+1) c3 (ts++[x.th]):=by
  unfold fJ;rw[qU,uJ];exact o3
 have s0:Step w3 (w3.setCell ⟨lb,0,none⟩ (.slice a3 (n+1) c3)) (some ⟨lb,0,none⟩) (some ⟨lb,0,none⟩):=
  ⟨⟨rfl,rfl,rfl,by simp[aBc],fun k _ hk=>BU _ _ _ _ (fun e=>hk (by simp[e]))⟩,.inl rfl⟩
 have apg: ∀g,a3.map (·.block)=some g->g≠lb:=by
  intro g hg e;subst e;obtain⟨cs,fz,hh⟩:=KO oF _ hg;have:=L3;unfold eO at this;rw[this]at hh;simp at hh
 have oZ:fJ (w3.setCell ⟨lb,0,none⟩ (.slice a3 (n+1) c3)) w0.heap.size a3 (n+1) c3 (ts++[x.th]):=by
  refine au.kept oF s0.grown ?_;cases a3 with
  |none=>exact .inl rfl
  |some q=>right;have:=apg q.block rfl;simp[bk];exact this
 have bZ:eO (w3.setCell ⟨lb,0,none⟩ (.slice a3 (n+1) c3)) lb [.slice a3 (n+1) c3] 112:=by
  have:=L3;unfold eO at this⊢;simp[aBc,SM,this]
 have KZ:=K3.setCell ⟨lb,0,none⟩ rfl (.slice a3 (n+1) c3);have BZ:=B3.setCell (p:=⟨lb,0,none⟩) h3 (.slice a3 (n+1) c3)
 have ao0:LB (w3.setCell ⟨lb,0,none⟩ (.slice a3 (n+1) c3)) w0.heap.size lb (ts++[x.th]):=by
  refine⟨a3,c3,?_,?_,h3⟩
  ·rw[bu,HN.oo];exact bZ
  rw[bu,HN.oo];exact oZ
 have HF:=af (aA6 ao0 (aA6 BZ KZ));go_wp2
 go_end0
 exact⟨rfl,HF.oo.1,HF.oo.2.1,HF.oo.2.2⟩
theorem amm: ∀(x:Nd) (w0 w:aAX) (lb:Nat) (ts:List Th),fZ w0 x->aAW w0.heap.size w0 w->LB w w0.heap.size lb ts->ts.length+lN x<=10000->
 aA7 prog 280 #[vN x,.func (.func 281) #[] #[.pointer (some ⟨lb,0,none⟩)]] w (aaa w0 w lb (ts++oz x)):=by
 intro x
 induction x using Nd.ind with
 |h x ih=>
 intro w0 w lb ts hI hB hL hl;have hc:=Cr x;have hlb:lb<w.heap.size:=by obtain⟨a,c,h1,h2,h3⟩:=hL;exact h1.lt
 have aN:w.heap.size≠lb:=ah;have A:=al w (bY x);have b0:eO (w.alloc (bY x)) w.heap.size (cN x) 28:=eO.new w _ _;have hL:=hL.below A;have hB:=aI hB A;have K:=PZ xF (some lb) A;have HI:=af hI;have vS:=af ih;obtain⟨Hj,hts⟩:=aF (ts++(if x.kind=2 then[x.th]else[]));have E:=af (show ts++oz x=Hj++ko x.aP by rw[Nl,<-dA,hts]);have uR:Hj.length+gb x.aP<=10000:=by rw[<-hts];split<;>simp<;>omega
 clear ih hI A
 by_cases hk:x.kind=2
 ·rw[ak hk]at hts
  have zk:(x.kind==2)=true:=aS hk;have AK:=af (aml x w0 (w.alloc (bY x)) lb ts hB hL ah);rw[hts]at AK;clear hB hL hk hts;go_in;go_wp2_with fail;refine AK.oo.mono ?_;rintro e w1 ⟨rfl,hL,hB,K1⟩;have K:=K.trans K1;have b0:=b0.XT K1 aN ay;clear K1 AK;have q5:=b0.get 5 _ rfl;go_wp2_with fail;clear q5;have XD:28≠xF:=ay
  go_loopw [15] (fun i wr=> ∃k:Nat,k<=x.aP.length/\i= .int .i64 k/\aAW w0.heap.size w0 wr/\LB wr w0.heap.size lb (Hj++ko (x.aP.take k))/\aBa xF (some lb) w wr/\eO wr w.heap.size (cN x) 28) (fun i _=>x.aP.length-(intOf i).toNat)
  ·exact acw
  clear hB hL K b0;obtain⟨k,hk,rfl,hB,hL,K,b0⟩:=hrel
  by_cases hlk:k<x.aP.length
  ·obtain⟨y,hy⟩: ∃y,x.aP[k]? =some y:=⟨_,aV hlk⟩
   have lS:=cV hy;have gY:=HI.oo.keep hB;obtain⟨p0,p1,p2,p3,p4,p5⟩:=gY.els.nd hy;have ix:=gY.els.idx qo nN k hlk x.c;have hkl:=gY.els.len
   have V9:(ko (x.aP.take k)).length+lN y<=gb x.aP:=by
    have h1:=yu (x.aP.take (k+1)) (x.aP.drop (k+1));rw[qL]at h1
    have h2:x.aP.take (k+1)=x.aP.take k++[y]:=by
     exact N9
    rw[h2,yu,qT,yw]at h1
    have h3: ∀l:List Nd,(ko l).length<=gb l:=by
     intro l
     induction l with
     |nil=>rw[yo];simp
     |cons z r ih=>rw[Ak,qT,bu];have:=TJ z;omega
    have:=h3 (x.aP.take k);omega
   have A:=al wr (bY y);have J2:=hL.below A;have qf:=aI hB A;have KA:=K.trans (PZ xF (some lb) A);have Jj:=b0.below A;have CY:=af (vS.oo y lS w0 (wr.alloc (bY y)) lb (Hj++ko (x.aP.take k)) (HI.oo.gZ y lS) qf J2 (by rw[bu];omega));have HT:=af (aaK hy);clear hy lS gY hB hL K b0 A J2 qf V9;go_wp2_with fail;refine CY.oo.mono ?_;rintro e w2 ⟨rfl,hL,hB,K2⟩;have K:=KA.trans K2;have b0:=Jj.XT K2 aN XD;rw[dA,<-HT.oo]at hL;clear K2 p0 p1 p2 p3 p4 p5 ix KA Jj CY;go_wp2_with fail
   exact acM
  obtain rfl:k=x.aP.length:=ah
  rw[jC,<-E.oo]at hL;go_wp2_with fail
  go_end0
  exact⟨rfl,hL,hB,K⟩
 rw[ai hk,jD]at hts
 have zk:(x.kind==2)=false:=aS hk;have h9:=hts.symm;clear hts;subst h9;clear hk;go_in;go_upto_region 1 with(fail);generalize w.alloc (bY x)=W1 at*;have q0:=b0.get 0 _ rfl;have XD:28≠xF:=ay;have q5:=b0.get 5 _ rfl;go_wp2_with fail;clear q5
 go_loopw [15] (fun i wr=> ∃k:Nat,k<=x.aP.length/\i= .int .i64 k/\aAW w0.heap.size w0 wr/\LB wr w0.heap.size lb (Hj++ko (x.aP.take k))/\aBa xF (some lb) w wr/\eO wr w.heap.size (cN x) 28) (fun i _=>x.aP.length-(intOf i).toNat)
 ·exact acw
 clear hB hL K b0;obtain⟨k,hk,rfl,hB,hL,K,b0⟩:=hrel
 by_cases hlk:k<x.aP.length
 ·obtain⟨y,hy⟩: ∃y,x.aP[k]? =some y:=⟨_,aV hlk⟩
  have lS:=cV hy;have gY:=HI.oo.keep hB;obtain⟨p0,p1,p2,p3,p4,p5⟩:=gY.els.nd hy;have ix:=gY.els.idx qo nN k hlk x.c;have hkl:=gY.els.len
  have V9:(ko (x.aP.take k)).length+lN y<=gb x.aP:=by
   have h1:=yu (x.aP.take (k+1)) (x.aP.drop (k+1));rw[qL]at h1
   have h2:x.aP.take (k+1)=x.aP.take k++[y]:=by
    exact N9
   rw[h2,yu,qT,yw]at h1
   have h3: ∀l:List Nd,(ko l).length<=gb l:=by
    intro l
    induction l with
    |nil=>rw[yo];simp
    |cons z r ih=>rw[Ak,qT,bu];have:=TJ z;omega
   have:=h3 (x.aP.take k);omega
  have A:=al wr (bY y);have J2:=hL.below A;have qf:=aI hB A;have KA:=K.trans (PZ xF (some lb) A);have Jj:=b0.below A;have CY:=af (vS.oo y lS w0 (wr.alloc (bY y)) lb (Hj++ko (x.aP.take k)) (HI.oo.gZ y lS) qf J2 (by rw[bu];omega));have HT:=af (aaK hy);clear hy lS gY hB hL K b0 A J2 qf V9;go_wp2_with fail;refine CY.oo.mono ?_;rintro e w2 ⟨rfl,hL,hB,K2⟩;have K:=KA.trans K2;have b0:=Jj.XT K2 aN XD;rw[dA,<-HT.oo]at hL;clear K2 p0 p1 p2 p3 p4 p5 ix KA Jj CY;go_wp2_with fail
  exact acM
 obtain rfl:k=x.aP.length:=ah
 rw[jC,<-E.oo]at hL;go_wp2_with fail
 go_end0
 exact⟨rfl,hL,hB,K⟩
theorem abw(h:t.code.length<1\/16<t.code.length):ew t=2:=by unfold ew;rw[ak h]
theorem abv{x:Cd}(h: ¬(t.code.length<1\/16<t.code.length))(hx:t.code[k]? =some x)(hl:256<x.l.length):ew t=2:=by
 unfold ew;rw[ai h,ak];rw[qN];exact⟨x,cV hx,by simpa using hl⟩
theorem abx(h: ¬(t.code.length<1\/16<t.code.length))(hl: ∀(k:Nat) (x:Cd),t.code[k]? =some x->x.l.length<=256):ew t=lC t.ag t.code:=by
 unfold ew;rw[ai h,ai];rw[qN];rintro⟨x,hx,h2⟩;obtain⟨k,hk⟩:=pE.1 hx;have:=hl k x hk;simp at h2;omega
theorem ajg{l:List Cd}{x:Cd}(hk:l[k]? =some x):lC ag (l.drop k)=if qu ag x.l=0 then lC ag (l.drop (k+1))else qu ag x.l:=by
 obtain⟨aA,rfl⟩:=bt.1 hk;rw[jB aA,lC]
theorem aw3{l:List Cd}:lC ag (l.drop l.length)=0:=by rw[wD];rfl
theorem awT{l:List aL}{i:aL}(hk:l[k]? =some i)(h:kO ag i=false):qu ag l=91:=by
 unfold qu;rw[ai];intro h2;rw[fP]at h2;rw[h2 i (cV hk)]at h;cases h
theorem ai0{l:List aL}(h: ∀(k:Nat) (i:aL),l[k]? =some i->kO ag i=true):qu ag l=if ag=2 then(kQ l).2.1 else 0:=by
 unfold qu;rw[ak];rw[fP];intro i hi;obtain⟨k,hk⟩:=pE.1 hi;exact h k i hk
open Go.Maps Go.WideMaps
attribute [local go_sem high] wL jO
def mc(r:List Int × Int × Int)(w:aAX)(e:Ending)(w':aAX):Prop:=
 ∃a c,e= .returned (.tuple #[.slice a r.1.length c,.int .i64 r.2.1,.int .i64 r.2.2])/\fT w' w.heap.size a r.1.length c r.1/\aAW w.heap.size w w'
theorem mc.nil{x:Int}(hr:r=([],x,y))(he:e= .returned (.tuple #[.slice none 0 0,.int .i64 x,.int .i64 y]))(hb:aAW w.heap.size w w'):mc r w e w':=by
 subst hr he;exact⟨none,0,rfl,au.nil _ _ _ _,hb⟩
theorem mc.of{l:List Int}{x:Int}(hr:r=(l,x,y))(he:e= .returned (.tuple #[.slice a n c,.int .i64 x,.int .i64 y]))(hn:l.length=n)(ho:fT w' w.heap.size a n c l)(hb:aAW w.heap.size w w'):mc r w e w':=by
 subst hr he hn;exact⟨a,c,rfl,ho,hb⟩
theorem Dm:Keyed prog 9:=string_keyed underlying9
theorem Hx(w:aAX):(zeroValue 3).run prog w= .ok (.int .i64 0) w:=by kernel_rfl
theorem agh(l:Tx)(h:l.length<=1000000):keyOf prog 9 (.string (tx l))=some (.string l):=by
 rw[keyOf_string_mk underlying9 (by rw[bC];unfold maxLen;omega),kW]
def uu(w:aAX)(b n:Nat)(D:DataW Unit):Prop:=w.ownsMap prog 9 (plainElem (H:=Unit) prog 3) b n D
theorem uu.below(h:uu w b n D)(hb:aAW w.heap.size w w'):uu w' b n D:=
 Td h ⟨hb.os,hb.tape,hb.output,hb.size,fun k hk _=>hb.block k hk⟩ (row:=none) aq
theorem uu.step{sa a':Option Addr}(h:uu w b n D)(hs:Step w w' sa a')(aN:sa=none\/b≠bk sa):uu w' b n D:=by
 refine Td h hs.grown ?_;cases sa with
 |none=>simp
 |some x=> rcases aN with h1|h1
           ·cases h1
           simpa[bk]using h1
theorem abk{i:aL}(h:cD i=true):i.av.length<=1000000:=by
 obtain⟨ho,hw, -⟩:=Jx h
 by_cases h1:i.op=11\/i.op=12
 ·unfold gm at ho
  rw[ai ah,ak h1]at ho;have:=(pM ho).2;omega
 have:i.av=[]:=by
  have:=congrArg aL.av hw;rw[this];unfold rH
  split<;>(try rfl)
  split<;>(try rfl)
  split<;>(try rfl)
  split<;>(try rfl)
  split<;>(try rfl)
  split
  ·omega
  split
  ·omega
  split<;>rfl
 rw[this];simp
theorem atP(code:List aL)(a:Option Addr)(c:Nat)(hl:256<code.length)(w:aAX):aA7 prog 140 #[.slice a code.length c] w (mc (kQ code) w):=by
 obtain⟨r,hr⟩:=aF (kQ code);rw[hr];have HK:=af (show r=([],2,0) by rw[<-hr,agB hl]);have hz:decide (256<(code.length:Int))=true:=aC;generalize code.length=n at*;go_in;go_wp2_with fail
 go_ret3
 exact mc.nil HK.oo rfl (bS _ _)
def tN(n k:Nat):List Int:=aBg k (-1)++aBg (n-k) 0
theorem Vi(n k:Nat)(h:k<=n):(tN n k).length=n:=by simp[tN];omega
theorem an9(n k:Nat)(h:k<n):(tN n k).set k (-1)=tN n (k+1):=by
 unfold tN;rw[SN _ _ aq];simp only[SR,Nh];rw[show n-k=(n-(k+1))+1 by omega,IW,Te,List.replicate_succ',dA];rfl
def qd(code:List aL)(n k:Nat):List Int:=xl code k++aBg (n-k) (-1)
theorem Ol(code:List aL)(n k:Nat)(h:k<=n):(qd code n k).length=n:=by simp[qd,XU];omega
theorem aoa(code:List aL)(n k:Nat)(h:k<n):(qd code n k).set k ((lE code k).getD (-1))=qd code n (k+1):=by
 unfold qd;rw[SN _ _ (by rw[XU];omega),XU,Nh,show n-k=(n-(k+1))+1 by omega,IW,Te,ahw,dA];rfl
theorem aeL(code:List aL)(n k:Nat)(h:k<n)(hs:lE code k=some (-1)):qd code n k=qd code n (k+1):=by
 unfold qd;rw[show n-k=(n-(k+1))+1 by omega,IW,ahw,hs,dA];rfl
theorem aob(code:List aL)(n:Nat):tN n n=qd code n 0:=by simp[tN,qd,xl]
theorem atQ(code:List aL)(a:Option Addr)(c:Nat)(hl:code.length<=256)(hc:code.length<=c)(hL: ∀i∈code,i.av.length<=9223372036854775807)(w:aAX)(hI:Is w a code):
 aA7 prog 140 #[.slice a code.length c] w (mc (kQ code) w):=by
 obtain⟨r,hr⟩:=aF (kQ code);rw[hr];have HR:=af hr;obtain⟨n,hn⟩:=aF code.length;have HN:=af hn;have HL:=af hL;have hz:decide (256<(n:Int))=false:=aC;have OZ:= @run_makeMap prog;rw[hn]at hl hc⊢;have hM:uu (w.alloc (.map #[] 0)) w.heap.size 0 (.map []):=World.ownsMap_made _ _ _ _;have E0:=al w (.map #[] 0);clear hr hL hn;go_in
 go_wp2_with (at_make;go_loud(refine Hv vg _ _ rfl rfl n rfl rfl rfl rfl ah dx (bS (w.heap.size+1) (w.alloc (.map #[] 0))) aq ?_))
 intro ao w1 o1 st1 B1;rw[agM]at o1;have E1:aAW (w.alloc (.map #[] 0)).heap.size (w.alloc (.map #[] 0)) w1:=aS B1;have hM:=hM.below E1;have E:=aI E0 E1;have o:fT w1 (w.heap.size+1) ao n n (tN n 0):=by rw[show tN n 0=aBg n 0 by simp[tN]];exact o1
 have hap:ao=none\/w.heap.size≠bk ao:=by
  cases ao with
  |none=>exact .inl rfl
  |some x=>have:=(au.lt o aq).1;exact .inr ah
 have Ri:=af hap;clear E0 E1 B1 o1 st1 hap;have Ee:=af hI;clear hI;go_wp2
 go_loopw [23] (fun i wr=> ∃k:Nat,k<=n/\i= .int .i64 k/\Hid (∀j (hj:j<code.length),j<k->cD code[j]=true)/\fT wr (w.heap.size+1) ao n n (tN n k)/\uu wr w.heap.size 0 (.map [])/\aAW w.heap.size w wr) (fun i _=>n-(intOf i).toNat)
 ·exact⟨0,ah,rfl,af (fun j hj h'=>absurd h' (iz j)),o,hM,E⟩
 clear o hM E;obtain⟨k,hk,rfl,HC,o,hM,E⟩:=hrel;have hI:=Ee.oo.below E
 by_cases aA:k<n
 ·obtain⟨i,hi⟩: ∃i,code[k]? =some i:=⟨_,aV (bE HN.oo)⟩
  have hik:code[k]'(bE HN.oo)=i:=fU ((aV (bE HN.oo)).symm.trans hi);obtain⟨p0,p1,p2,p3,p4,p5,p6,p7⟩:=hI.cells hi;have ix:=hI.idx k (bE HN.oo);rw[HN.oo]at ix;have CK:=af (fun(w:aAX)=>Dw i (HL.oo i (by rw[<-hik];exact x8 _)) w);have HI:=af hik;clear hi hik;cases fE:cD i
  ·have hE:=kL fE
   rw[hE]at CK
   have HF:=af (show r=([],91,(k:Int)) by
    rw[<-HR.oo];exact agA (bE HN.oo) (bE HN.oo) (by rw[HI.oo];exact fE) HC.oo)
   clear hE fE;go_wp2_with fail;refine aQ (CK.oo _) fun w2 E2=>?_
   have E:=E.trans ((aI (al wr _) E2).mono E.size);clear p0 p1 p2 p3 p4 p5 p6 p7 ix o hM hI E2;go_wp2_with fail
   go_ret3
   exact mc.nil HF.oo rfl E
  have hE:=wM fE
  rw[hE]at CK
  have H6:=af (show ∀j (hj:j<code.length),j<k+1->cD code[j]=true from fun j hj hjk=>by
   by_cases hh:j=k
   ·subst hh;rw[HI.oo];exact fE
   exact HC.oo j hj ah)
  clear hE fE;go_wp2_with fail;refine aQ (CK.oo _) fun w2 E2=>?_
  have E3:=aI (al wr _) E2;have E:=aI E E3;have o:=au.below o E3;have hM:=hM.below E3;have ij:=(o.ints.1).idx vg k (by rw[Vi n k hk];exact aA);rw[Vi n k hk]at ij;have fj:=au.frozen o (au.some o ah) k;obtain⟨cv,hcv⟩: ∃cv,w2.cell? ⟨bk ao,fo ao+k,none⟩=some cv:=⟨_,(o.ints.1).cell k (by rw[Vi n k hk];exact aA)⟩;obtain⟨oM,lB⟩:=au.set o (au.some o ah) k (.int .i64 (-1))
  have o2:fT (w2.setCell ⟨bk ao,fo ao+k,none⟩ (.int .i64 (-1))) (w.heap.size+1) ao n n (tN n (k+1)):=by
   rw[<-an9 n k aA];simpa only[fT,ints,Ad]using oM
  have CQ:=hM.step lB Ri.oo;have E4:aAW w.heap.size w (w2.setCell ⟨bk ao,fo ao+k,none⟩ (.int .i64 (-1))):=uE E (by have:=(au.lt o (au.some o ah)).1;dsimp only;omega) _;clear p0 p1 p2 p3 p4 p5 p6 p7 ix E2 E3 oM lB hI;go_wp2
  go_roundw;exact⟨k+1,ah,by go_num,H6,o2,CQ,E4⟩;exact ep
 obtain rfl:k=n:=ah
 have qE:=af (show ∀j (hj:j<code.length),cD code[j]=true from fun j hj=>HC.oo j hj (bE HN.oo));have hD:=af (vV.nil code k (bE HN.oo));clear HC hI aA hk;rw[aob code k]at o;generalize k=n at*;go_wp2
 go_loopw [9] (fun i wr=> ∃(m cnt:Nat) (D:DataW Unit) (z:Int),m<=n/\i= .int .i64 z/\z=(m:Int)-1/\cnt<=n/\cnt+m<=n/\Hid (vV code m D)/\fT wr (w.heap.size+1) ao n n (qd code n 0)/\uu wr w.heap.size cnt D/\aAW w.heap.size w wr) (fun i _=>(intOf i+1).toNat)
 ·exact⟨n,0,.map [],(n:Int)-1,ah,rfl,rfl,ah,ah,hD,o,hM,E⟩
 clear o hM E hD;obtain⟨m,cnt,D,z,hm,rfl,hz1,hcn,hcm,hD,o,hM,E⟩:=hrel;have hI:=Ee.oo.below E
 by_cases hm0:m=0
 ·subst hm0
  obtain rfl:z= -1:=ah;clear hI hz1 hcm;go_wp2
  go_loopw [58] (fun i wr=> ∃k:Nat,k<=n/\i= .int .i64 k/\Hid (∀j,j<k->lE code j≠none)/\fT wr (w.heap.size+1) ao n n (qd code n k)/\uu wr w.heap.size cnt D/\aAW w.heap.size w wr) (fun i _=>n-(intOf i).toNat)
  ·exact⟨0,ah,rfl,af (fun j h'=>absurd h' (iz j)),o,hM,E⟩
  clear o hM E;obtain⟨k,hk,rfl,HS,o,hM,E⟩:=hrel;have hI:=Ee.oo.below E
  by_cases aA:k<n
  ·obtain⟨i,hi⟩: ∃i,code[k]? =some i:=⟨_,aV (bE HN.oo)⟩
   obtain⟨p0,p1,p2,p3,p4,p5,p6,p7⟩:=hI.cells hi;have ix:=hI.idx k (bE HN.oo);rw[HN.oo]at ix
   have FQ:=abk (i:=i) (by
    obtain⟨aA,he⟩:=bt.1 hi;rw[<-he];exact qE.oo k aA)
   have uj:=af (agh i.av FQ)
   have hst:lE code k=if i.op=12 then(if code.findIdx? (dN i.av)=some k then some (-1)else none)
    else if i.op=11 then(match code.findIdx? (dN i.av)with
     |none=>none
     |some at'=>if((code.drop (k+1)).findIdx? (dN i.av)).isSome then some (at':Int)else none)
    else some (-1):=by unfold lE;rw[hi];rfl
   have HI:=af hi;have Ef:=af (hD.oo i.av);rw[jg]at Ef;clear hi FQ
   by_cases h12:i.op=12
   ·have Kp:dN i.av i=true:=by rw[xd];exact⟨h12,rfl⟩
    have z12:(i.op==12)=true:=aS h12;have LW:(i.op==11)=false:=by rw[h12];rfl
    obtain⟨f,hf⟩: ∃f,code.findIdx? (dN i.av)=some f:=by
     cases hf:code.findIdx? (dN i.av)with
     |some f=>exact⟨f,rfl⟩
     | none=>
       rw[ML]at hf;obtain⟨aA,he⟩:=bt.1 HI.oo;have:=hf code[k] (x8 _);rw[he,Kp]at this;cases this
    obtain⟨FM,AJ⟩:=Ef.oo.1 f hf;rw[jT]at AJ;have Bs:=af FM;have Bt:=af AJ;rw[ak h12,hf]at hst;have wS:=hM.below (al wr (j6 i))
    by_cases AH:f=k
    ·have zk:((f:Int) != (k:Int))=false:=aC
     rw[ak (by rw[AH])]at hst
     have l7:=af (show ∀j,j<k+1->lE code j≠none from fun j hj=>by
      rcases fO.1 hj with h|h
      ·exact HS.oo j h
      subst h;rw[hst];simp)
     rw[aeL code n k aA hst]at o;clear hst h12 Kp hf FM AJ AH
     go_wp2_with (at_lookup;go_loud(refine Es _ rfl _ _ 218 rfl 9 3 .i64 Dm underlying218 underlying3 (Hx _) w.heap.size cnt D rfl wS _ _ rfl uj.oo ?_))
     intro cc hat hwf;rw[Bt.oo]at hat;obtain rfl:(f:Int)=cc:=by cases hat;rfl
     rw[Bs.oo];have o2:=au.below o (al wr (j6 i));have E2:=gU E (j6 i);clear hat hwf o hM E p0 p1 p2 p3 p4 p5 p6 p7 ix hI;go_wp2
     exact acV
    have zk:((f:Int) != (k:Int))=true:=aC
    rw[ai (fun e=>AH (fU e))]at hst
    have HF:=af (show r=([],93,(k:Int)) by
     rw[<-HR.oo];exact Pz (bE HN.oo) qE.oo (bE HN.oo) hst HS.oo)
    clear hst h12 Kp hf FM AJ AH
    go_wp2_with (at_lookup;go_loud(refine Es _ rfl _ _ 218 rfl 9 3 .i64 Dm underlying218 underlying3 (Hx _) w.heap.size cnt D rfl wS _ _ rfl uj.oo ?_))
    intro cc hat hwf;rw[Bt.oo]at hat;obtain rfl:(f:Int)=cc:=by cases hat;rfl
    rw[Bs.oo];have E2:=gU E (j6 i);clear hat hwf o hM E p0 p1 p2 p3 p4 p5 p6 p7 ix hI;go_wp2_with fail
    go_ret3
    exact mc.nil HF.oo rfl E2
   by_cases h11:i.op=11
   ·have z12:(i.op==12)=false:=aS h12
    have LW:(i.op==11)=true:=aS h11;rw[ai h12,ak h11]at hst;have wS:=hM.below (al wr (j6 i));cases hf:code.findIdx? (dN i.av)with
    | none=>
      have Bs:=af (Ef.oo.2 hf);rw[hf]at hst
      have HF:=af (show r=([],93,(k:Int)) by
       rw[<-HR.oo];exact Pz (bE HN.oo) qE.oo (bE HN.oo) hst HS.oo)
      clear hst h12 h11 hf
      go_wp2_with (at_lookup;go_loud(refine Es _ rfl _ _ 218 rfl 9 3 .i64 Dm underlying218 underlying3 (Hx _) w.heap.size cnt D rfl wS _ _ rfl uj.oo ?_))
      intro cc hat hwf;rw[Bs.oo];have Mb:=af hat;have E2:=gU E (j6 i);clear hat hwf o hM E p0 p1 p2 p3 p4 p5 p6 p7 ix hI;go_wp2_with fail
      go_ret3
      exact mc.nil HF.oo rfl E2
    | some f=>
      obtain⟨FM,AJ⟩:=Ef.oo.1 f hf;rw[jT]at AJ;have Bs:=af FM;have Bt:=af AJ;rw[hf]at hst;simp only at hst;have bx:=iU.new wr i;have hdr:=(hI.below (al wr (j6 i))).drop (k+1) (c=k+1) (fun e=>by have:=HN.oo;left;omega);have CF:=atr i wr.heap.size (code.drop (k+1)) (mK a (c=k+1) ((k+1)*8)) (c-(k+1)) (wr.alloc (j6 i)) hdr bx;have sl: ∀w',(Instr.sliceAt 75 (.slice a n c) (some (.int .i64 ((k:Int)+1))) none none).run prog w'= .ok (.slice (mK a (c=k+1) ((k+1)*8)) (n-(k+1)) (c-(k+1))) w':=Qx inl a n c (k+1) ah .i64;rw[dG,HN.oo]at CF;generalize mK a (c=k+1) ((k+1)*8)=ac at*;have Me:=af CF;clear FM AJ hf CF hdr;cases OY:((code.drop (k+1)).findIdx? (dN i.av)).isSome
      ·rw[OY]at hst Me
       have HF:=af (show r=([],93,(k:Int)) by
        rw[<-HR.oo];exact Pz (bE HN.oo) qE.oo (bE HN.oo) hst HS.oo)
       clear hst h12 h11 OY
       go_wp2_with (at_lookup;go_loud(refine Es _ rfl _ _ 218 rfl 9 3 .i64 Dm underlying218 underlying3 (Hx _) w.heap.size cnt D rfl wS _ _ rfl uj.oo ?_))
       intro cc hat hwf;rw[Bt.oo]at hat;obtain rfl:(f:Int)=cc:=by cases hat;rfl
       rw[Bs.oo];clear hat hwf p0 p1 p2 p3 p4 p5 p6 p7 ix hI;go_wp2_with fail;refine aQ Me.oo fun w2 E2=>?_
       have E2:=E.trans ((aI (al wr _) E2).mono E.size);clear o hM E;go_wp2_with fail
       go_ret3
       exact mc.nil HF.oo rfl E2
      rw[OY]at hst Me
      have Wq:lE code k=some (f:Int):=hst
      have l7:=af (show ∀j,j<k+1->lE code j≠none from fun j hj=>by
       rcases fO.1 hj with h|h
       ·exact HS.oo j h
       subst h;rw[Wq];simp)
      have HST:=af Wq;clear hst Wq h12 h11 OY
      go_wp2_with (at_lookup;go_loud(refine Es _ rfl _ _ 218 rfl 9 3 .i64 Dm underlying218 underlying3 (Hx _) w.heap.size cnt D rfl wS _ _ rfl uj.oo ?_))
      intro cc hat hwf;rw[Bt.oo]at hat;obtain rfl:(f:Int)=cc:=by cases hat;rfl
      rw[Bs.oo];clear hat hwf p0 p1 p2 p3 p4 p5 p6 p7 ix hI;go_wp2_with fail;refine aQ Me.oo fun w2 E2=>?_
      have E3:=aI (al wr (j6 i)) E2;have Ua:=bx.below E2;obtain⟨q0,q1,q2,q3,q4,q5,q6,q7⟩:=Ua.cells;have az8:=Ua.1;have E4:=aI E E3;have o:=au.below o E3;have hM:=hM.below E3;have ij:=(o.ints.1).idx vg k (by rw[Ol code n k hk];exact aA);rw[Ol code n k hk]at ij;have fj:=au.frozen o (au.some o ah) k;obtain⟨cv,hcv⟩: ∃cv,w2.cell? ⟨bk ao,fo ao+k,none⟩=some cv:=⟨_,(o.ints.1).cell k (by rw[Ol code n k hk];exact aA)⟩;obtain⟨oM,lB⟩:=au.set o (au.some o ah) k (.int .i64 (f:Int))
      have o2:fT (w2.setCell ⟨bk ao,fo ao+k,none⟩ (.int .i64 (f:Int))) (w.heap.size+1) ao n n (qd code n (k+1)):=by
       have e:=aoa code n k aA;rw[HST.oo,Ti]at e;rw[<-e];simpa only[fT,ints,Ad]using oM
      have CQ:=hM.step lB Ri.oo;have E5:aAW w.heap.size w (w2.setCell ⟨bk ao,fo ao+k,none⟩ (.int .i64 (f:Int))):=uE E4 (by have:=(au.lt o (au.some o ah)).1;dsimp only;omega) _;clear E2 E3 E4 E oM lB bx Ua wS;go_wp2
      go_roundw;exact⟨k+1,ah,by go_num,l7,o2,CQ,E5⟩;exact ep
   have z12:(i.op==12)=false:=aS h12
   have LW:(i.op==11)=false:=aS h11;rw[ai h12,ai h11]at hst
   have l7:=af (show ∀j,j<k+1->lE code j≠none from fun j hj=>by
    rcases fO.1 hj with h|h
    ·exact HS.oo j h
    subst h;rw[hst];simp)
   rw[aeL code n k aA hst]at o;clear hst h12 h11;have wS:=hM.below (al wr (j6 i))
   go_wp2_with (at_lookup;go_loud(refine Es _ rfl _ _ 218 rfl 9 3 .i64 Dm underlying218 underlying3 (Hx _) w.heap.size cnt D rfl wS _ _ rfl uj.oo ?_))
   intro cc hat hwf;have o2:=au.below o (al wr (j6 i));have E2:=gU E (j6 i);have Mb:=af hat;clear hat hwf o hM E p0 p1 p2 p3 p4 p5 p6 p7 ix hI;go_wp2
   exact acV
  obtain rfl:k=n:=ah
  have HF:=af (show r=(qd code k k,0,0) by
   rw[<-HR.oo,agC (bE HN.oo) qE.oo (fun j hj=>HS.oo j (bE HN.oo)),HN.oo];simp[qd])
  have gh:=Ol code k k (aX _);go_wp2_with fail
  go_ret3
  exact mc.of HF.oo rfl gh (au.mono o (Nat.le_succ _)) E
 obtain⟨q,rfl⟩: ∃q,m=q+1:=⟨m-1,ah⟩
 obtain rfl:z=(q:Int):=ah;clear hz1 hm0;obtain⟨i,hi⟩: ∃i,code[q]? =some i:=⟨_,aV (bE HN.oo)⟩;obtain⟨p0,p1,p2,p3,p4,p5,p6,p7⟩:=hI.cells hi;have ix:=hI.idx q (bE HN.oo);rw[HN.oo]at ix
 have FQ:=abk (i:=i) (by
  obtain⟨aA,he⟩:=bt.1 hi;rw[<-he];exact qE.oo q aA)
 have uj:=af (agh i.av FQ)
 by_cases h12:i.op=12
 ·have z12:(i.op==12)=true:=aS h12
  have vR:=af (hD.oo.put (World.ownsMap.isMap hM) hi h12 (show True from trivial));clear hi h12 FQ
  go_wp2_with (at_mapUpdate;go_loud(refine wpList_mapUpdate_own _ rfl _ _ _ 218 rfl 9 3 Dm underlying218 _ w.heap.size cnt D rfl hM dx _ _ _ rfl rfl uj.oo _ [] (plainElem_int underlying3 (Tj ah)) ?_))
  intro w2 CQ VY;have CQ:uu w2 w.heap.size (cnt+1) _:=CQ
  have o2:=au.kept o VY (by
   rcases Ri.oo with h|h
   ·exact .inl h
   right;intro e;exact h (fU e).symm)
  have E2:aAW w.heap.size w w2:=E.grown VY E.size (by intro k hk;cases hk;exact aX _);clear hM VY o E p0 p1 p2 p3 p4 p5 p6 p7 ix hI;go_wp2
  go_roundw;exact⟨q,cnt+1,_,_,ah,rfl,ah,ah,ah,vR,o2,CQ,E2⟩;simp[intOf]
 have z12:(i.op==12)=false:=aS h12
 have vR:=af (hD.oo.skip hi h12);clear hi h12 FQ;go_wp2
 go_roundw;exact⟨q,cnt,D,_,ah,rfl,ah,hcn,ah,vR,o,hM,E⟩;simp[intOf]
theorem atO(code:List aL)(a:Option Addr)(c:Nat)(hc:code.length<=c)(hL: ∀i∈code,i.av.length<=9223372036854775807)(w:aAX)(hI:Is w a code):
 aA7 prog 140 #[.slice a code.length c] w (mc (kQ code) w):=by
 by_cases hl:256<code.length
 ·exact atP code a c hl w
 exact atQ code a c ah hc hL w hI
def Ea(t:aT)(k:Nat):Prop:= ∀(i:Nat) (x:bF),i<k->t.init[i]? =some x->jm t.ag t.code.length x=true
def DZ(t:aT)(k:Nat):Prop:= ∀(i j:Nat) (x y:bF),i<j->j<k->t.init[i]? =some x->t.init[j]? =some y->js x≠js y
theorem aaS(h:1024<t.init.length):gT t=2:=by unfold gT;rw[ak h]
theorem alu(h: ¬1024<t.init.length)(hx:t.init[k]? =some x)(hf:jm t.ag t.code.length x=false):gT t=130:=by
 unfold gT;rw[ai h,ai];intro h2;rw[bV,fP]at h2;rw[h2.1 x (cV hx)]at hf;cases hf
theorem aaU{j:Nat}{y:bF}(h: ¬1024<t.init.length)(hjk:j<k)(hy:t.init[j]? =some y)(hx:t.init[k]? =some x)(he:js y=js x):gT t=130:=by
 unfold gT;rw[ai h,ai];intro h2;rw[bV,dw]at h2;have h3:=aas.1 h2.2;obtain⟨h4,rfl⟩:=bt.1 hx;obtain⟨h5,rfl⟩:=bt.1 hy;refine h3 j k (by rw[eT];exact h5) (by rw[eT];exact h4) hjk ?_;rw[EH,EH];exact he
theorem aaT(h: ¬1024<t.init.length)(hf:Ea t t.init.length)(ha:DZ t t.init.length):gT t=0:=by
 unfold gT;rw[ai h,ak];rw[bV,dw,fP];refine⟨fun x hx=>?_,aas.2 fun i j hi hj hij=>?_⟩
 ·obtain⟨k,hk⟩:=pE.1 hx
  exact hf k x (bt.1 hk).1 hk
 rw[eT]at hj
 rw[EH,EH];exact ha i j _ _ hij hj (aV _) (aV _)
theorem Ea.snoc(h:Ea t k)(hx:t.init[k]? =some x)(hf:jm t.ag t.code.length x=true):Ea t (k+1):=fun i y hi hy=>by
 rcases fO.1 hi with h1|h1
 ·exact h i y h1 hy
 subst h1;rw[hx]at hy;cases hy;exact hf
theorem DZ.snoc(h:DZ t k)(hx:t.init[k]? =some x)(hf: ∀(i:Nat) (y:bF),i<k->t.init[i]? =some y->js y≠js x):DZ t (k+1):=fun i j y z hij hj hy hz=>by
 rcases fO.1 hj with h1|h1
 ·exact h i j y z hij h1 hy hz
 subst h1;rw[hx]at hz;cases hz;exact hf i y hij hy
theorem agf(x y:bF):js y=js x<->(x.aO=y.aO/\x.aR=y.aR/\x.aj=y.aj):=by
 unfold js;simp only[Th.mk.injEq];constructor
 ·rintro⟨a,b,c⟩;exact⟨a.symm,b.symm,c.symm⟩
 rintro⟨a,b,c⟩;exact⟨a.symm,b.symm,c.symm⟩
theorem LG{b:Bool}(h:decide (l=[])=b):((tx l).toList==([]:List UInt8))=b/\(tx l).toList.isEmpty=b:=by
 rw[bU,<-h];cases l<;>simp
theorem aoh(h:x.aO= -1):jm ag n x=(aU x.aj&&(decide (x.aR=0)&&(decide (x.bH=[])&&bJ x.n))):=by unfold jm;rw[ak h]
theorem Vm(h:x.aO≠ -1)(h2:x.aO<0\/(n:Int)<=x.aO\/x.aj≠[]):jm ag n x=false:=by unfold jm;rw[ai h,ak h2]
theorem aeN(h:x.aO≠ -1)(h2: ¬(x.aO<0\/(n:Int)<=x.aO\/x.aj≠[]))(h3:if ag=2 then x.aR<1\/31<x.aR else x.aR<0\/14<x.aR):jm ag n x=false:=by unfold jm;rw[ai h,ai h2,ak h3]
theorem aeM(h:x.aO≠ -1)(h2: ¬(x.aO<0\/(n:Int)<=x.aO\/x.aj≠[]))(h3: ¬(if ag=2 then x.aR<1\/31<x.aR else x.aR<0\/14<x.aR)):jm ag n x=if x.bH≠[]then aU x.bH&&decide (x.n=0)else bJ x.n:=by unfold jm;rw[ai h,ai h2,ai h3]
theorem an0(t:aT)(x:bF)(h1:x.aj.length<=9223372036854775807)(h2:x.bH.length<=9223372036854775807)(hn:t.code.length<=1000)(w:aAX):
 aA7 prog 141 #[vT t,od x] w (bg w (.bool (jm t.ag t.code.length x))):=by
 have B:=gU (al w (dZ t)) (lA x);obtain⟨aO,aR,aj,bH,n⟩:=x;simp only at h1 h2;obtain⟨b1,eW⟩: ∃b,aU aj=b:=⟨_,rfl⟩;obtain⟨b2,eG⟩: ∃b,aU bH=b:=⟨_,rfl⟩;obtain⟨b3,jn⟩: ∃b,bJ n=b:=⟨_,rfl⟩;obtain⟨b4,nR⟩: ∃b,decide (aj=[])=b:=⟨_,rfl⟩;obtain⟨b5,qg⟩: ∃b,decide (bH=[])=b:=⟨_,rfl⟩;have NL:=af (show ∀w,aA7 prog 225 #[.string (tx aj)] w fun e w'=>e= .returned (.bool b1)/\w=w' from fun w=>eW▸aeJ aj h1 w);have NV:=af (show ∀w,aA7 prog 225 #[.string (tx bH)] w fun e w'=>e= .returned (.bool b2)/\w=w' from fun w=>eG▸aeJ bH h2 w);have NN:=af (show ∀w,aA7 prog 226 #[.int .i64 n] w fun e w'=>e= .returned (.bool b3)/\w=w' from fun w=>jn▸an3 n w);obtain⟨zl,zl'⟩:=LG nR;obtain⟨zv,zv'⟩:=LG qg;have HL:=af nR;have HV:=af qg;have HB:=af (aA6 eW (aA6 eG jn));obtain⟨N,hN⟩:=aF t.code.length;obtain⟨ar,har⟩:=aF t.ag;rw[hN]at hn;have HN:=af hN;clear eW eG jn nR qg h1 h2
 by_cases ht:aO= -1
 ·subst ht
  have E:=af (aoh (ag:=t.ag) (n:=t.code.length) (x:=⟨-1,aR,aj,bH,n⟩) rfl)
  by_cases hr:aR=0
  ·subst hr
   have E2:=af (E.oo.trans (show _=(b1&&(b5&&b3)) by simp only[HB.oo.1,HB.oo.2.2,HV.oo,Ty,yc]));clear hN har;cases b1<;>cases b5<;>cases b3
   all_goals
    go_in
    go_wp2_with (first|(go_at_call 225;refine(NL.oo _).mono ?_;rintro e w1 ⟨rfl,rfl⟩)|(go_at_call 226;refine(NN.oo _).mono ?_;rintro e w1 ⟨rfl,rfl⟩))
    exact Au
  have zr:(aR==0)=false:=aS hr
  have E2:=af (E.oo.trans (show _=false by simp only[eZ hr,Cf,wm]));clear hN har hr;cases b1
  all_goals
   go_in
   go_wp2_with (first|(go_at_call 225;refine(NL.oo _).mono ?_;rintro e w1 ⟨rfl,rfl⟩)|(go_at_call 226;refine(NN.oo _).mono ?_;rintro e w1 ⟨rfl,rfl⟩))
   exact Au
 have zt:(aO== -1)=false:=aS ht
 by_cases h0:aO<0
 ·have E:=af (Vm (ag:=t.ag) (n:=t.code.length) (x:=⟨aO,aR,aj,bH,n⟩) ht (.inl h0))
  clear hN har ht;go_in
  go_wp2_with (first|(go_at_call 225;refine(NL.oo _).mono ?_;rintro e w1 ⟨rfl,rfl⟩)|(go_at_call 226;refine(NN.oo _).mono ?_;rintro e w1 ⟨rfl,rfl⟩))
  exact JL
 have h0':0<=aO:=ah
 by_cases hc:(N:Int)<=aO
 ·have E:=af (Vm (ag:=t.ag) (n:=t.code.length) (x:=⟨aO,aR,aj,bH,n⟩) ht (.inr (.inl (by rw[hN];exact hc))))
  rw[<-hN]at hc;clear hN har ht;go_in
  go_wp2_with (first|(go_at_call 225;refine(NL.oo _).mono ?_;rintro e w1 ⟨rfl,rfl⟩)|(go_at_call 226;refine(NN.oo _).mono ?_;rintro e w1 ⟨rfl,rfl⟩))
  exact JL
 have hc':aO<t.code.length:=ah;cases b4 with
 | false=>
   have E:=af (Vm (ag:=t.ag) (n:=t.code.length) (x:=⟨aO,aR,aj,bH,n⟩) ht (.inr (.inr (aS HL.oo))));clear hN har ht hc;go_in
   go_wp2_with (first|(go_at_call 225;refine(NL.oo _).mono ?_;rintro e w1 ⟨rfl,rfl⟩)|(go_at_call 226;refine(NN.oo _).mono ?_;rintro e w1 ⟨rfl,rfl⟩))
   exact JL
 | true=>
   have hnot: ¬(aO<0\/(t.code.length:Int)<=aO\/aj≠[]):=by
    have:=HL.oo;simp at this;subst this;simp;omega
   have HA:=af har
   by_cases ha:ar=2
   ·have za:(t.ag==2)=true:=by rw[har,ha];rfl
    by_cases hr:aR<1\/31<aR
    ·have E:=af (aeN (ag:=t.ag) (n:=t.code.length) (x:=⟨aO,aR,aj,bH,n⟩) ht hnot (by rw[ak (har.trans ha)];exact hr))
     clear hN har ht hc hnot ha;rcases hr with hr|hr
     all_goals
      go_in
      go_wp2_with (first|(go_at_call 225;refine(NV.oo _).mono ?_;rintro e w1 ⟨rfl,rfl⟩)|(go_at_call 226;refine(NN.oo _).mono ?_;rintro e w1 ⟨rfl,rfl⟩))
      exact JL
    have r1:1<=aR:=ah
    have r2:aR<=31:=ah;have E:=af (aeM (ag:=t.ag) (n:=t.code.length) (x:=⟨aO,aR,aj,bH,n⟩) ht hnot (by rw[ak (har.trans ha)];exact hr));clear hN har ht hc hnot ha hr;cases b5 with
    | true=>
      have E2:=af (E.oo.trans (show _=b3 by rw[ai (aS HV.oo)];exact HB.oo.2.2));go_in
      go_wp2_with (first|(go_at_call 225;refine(NV.oo _).mono ?_;rintro e w1 ⟨rfl,rfl⟩)|(go_at_call 226;refine(NN.oo _).mono ?_;rintro e w1 ⟨rfl,rfl⟩))
      exact Au
    | false=>
      by_cases hn0:n=0
      ·subst hn0
       have E2:=af (E.oo.trans (show _=b2 by rw[ak (aS HV.oo)];simp only[HB.oo.2.1,Ty,yd]));cases b2
       all_goals
        go_in
        go_wp2_with (first|(go_at_call 225;refine(NV.oo _).mono ?_;rintro e w1 ⟨rfl,rfl⟩)|(go_at_call 226;refine(NN.oo _).mono ?_;rintro e w1 ⟨rfl,rfl⟩))
        exact Au
      have zn:(n==0)=false:=aS hn0
      have E2:=af (E.oo.trans (show _=false by rw[ak (aS HV.oo)];simp only[eZ hn0,wm]));clear hn0;cases b2
      all_goals
       go_in
       go_wp2_with (first|(go_at_call 225;refine(NV.oo _).mono ?_;rintro e w1 ⟨rfl,rfl⟩)|(go_at_call 226;refine(NN.oo _).mono ?_;rintro e w1 ⟨rfl,rfl⟩))
       exact Au
   have za:(t.ag==2)=false:=by rw[har];simpa using ha
   by_cases hr:aR<0\/14<aR
   ·have E:=af (aeN (ag:=t.ag) (n:=t.code.length) (x:=⟨aO,aR,aj,bH,n⟩) ht hnot (by rw[ai (by rw[har];exact ha)];exact hr))
    clear hN har ht hc hnot ha;rcases hr with hr|hr
    all_goals
     go_in
     go_wp2_with (first|(go_at_call 225;refine(NV.oo _).mono ?_;rintro e w1 ⟨rfl,rfl⟩)|(go_at_call 226;refine(NN.oo _).mono ?_;rintro e w1 ⟨rfl,rfl⟩))
     exact JL
   have r1:0<=aR:=ah
   have r2:aR<=14:=ah;have E:=af (aeM (ag:=t.ag) (n:=t.code.length) (x:=⟨aO,aR,aj,bH,n⟩) ht hnot (by rw[ai (by rw[har];exact ha)];exact hr));clear hN har ht hc hnot ha hr;cases b5 with
   | true=>
     have E2:=af (E.oo.trans (show _=b3 by rw[ai (aS HV.oo)];exact HB.oo.2.2));go_in
     go_wp2_with (first|(go_at_call 225;refine(NV.oo _).mono ?_;rintro e w1 ⟨rfl,rfl⟩)|(go_at_call 226;refine(NN.oo _).mono ?_;rintro e w1 ⟨rfl,rfl⟩))
     exact Au
   | false=>
     by_cases hn0:n=0
     ·subst hn0
      have E2:=af (E.oo.trans (show _=b2 by rw[ak (aS HV.oo)];simp only[HB.oo.2.1,Ty,yd]));cases b2
      all_goals
       go_in
       go_wp2_with (first|(go_at_call 225;refine(NV.oo _).mono ?_;rintro e w1 ⟨rfl,rfl⟩)|(go_at_call 226;refine(NN.oo _).mono ?_;rintro e w1 ⟨rfl,rfl⟩))
       exact Au
     have zn:(n==0)=false:=aS hn0
     have E2:=af (E.oo.trans (show _=false by rw[ak (aS HV.oo)];simp only[eZ hn0,wm]));clear hn0;cases b2
     all_goals
      go_in
      go_wp2_with (first|(go_at_call 225;refine(NV.oo _).mono ?_;rintro e w1 ⟨rfl,rfl⟩)|(go_at_call 226;refine(NN.oo _).mono ?_;rintro e w1 ⟨rfl,rfl⟩))
      exact Au
def xg(bH:Tx)(n:Int):Bool:=if bH=[]then bJ n else aU bH&&decide (n=0)
def Qa(ag:Int)(n:Nat)(x:bF):Bool:=
 if x.aO= -1 then aU x.aj&&(decide (x.aR=0)&&decide (x.bH=[]))
 else if x.aO<0\/(n:Int)<=x.aO\/x.aj≠[]then false
 else if ag=2 then decide (1<=x.aR)&&decide (x.aR<32)else decide (0<=x.aR)&&decide (x.aR<15)
theorem aog(ag:Int)(n:Nat)(x:bF):jm ag n x=(xg x.bH x.n&&Qa ag n x):=by
 unfold jm xg Qa
 by_cases h1:x.aO= -1
 ·rw[ak h1,ak h1]
  by_cases h2:x.bH=[]
  ·rw[ak h2,eU h2];cases aU x.aj<;>cases bJ x.n<;>simp
  rw[ai h2,eZ h2];simp
 rw[ai h1,ai h1]
 by_cases h2:x.aO<0\/(n:Int)<=x.aO\/x.aj≠[]
 ·rw[ak h2,ak h2,wm]
 rw[ai h2,ai h2]
 have hv:(if x.bH≠[]then aU x.bH&&decide (x.n=0)else bJ x.n)=(if x.bH=[]then bJ x.n else aU x.bH&&decide (x.n=0)):=by
  by_cases h:x.bH=[]<;>simp[h]
 by_cases h3:ag=2
 ·by_cases h4:x.aR<1\/31<x.aR
  ·rw[ak (by rw[ak h3];exact h4),ak h3]
   have:(decide (1<=x.aR)&&decide (x.aR<32))=false:=aC;rw[this,wm]
  rw[ai (by rw[ak h3];exact h4),ak h3,hv]
  have:(decide (1<=x.aR)&&decide (x.aR<32))=true:=aC;rw[this,yd]
 by_cases h4:x.aR<0\/14<x.aR
 ·rw[ak (by rw[ai h3];exact h4),ai h3]
  have:(decide (0<=x.aR)&&decide (x.aR<15))=false:=aC;rw[this,wm]
 rw[ai (by rw[ai h3];exact h4),ai h3,hv]
 have:(decide (0<=x.aR)&&decide (x.aR<15))=true:=aC;rw[this,yd]
theorem auC(bH:Tx)(n:Int)(h2:bH.length<=9223372036854775807)(w:aAX):aA7 prog 303 #[.agg #[.string (tx bH),.int .i64 n]] w (bg w (.bool (xg bH n))):=by
 have B:=al w (.cells #[.string (tx bH),.int .i64 n] 54);obtain⟨b2,eG⟩: ∃b,aU bH=b:=⟨_,rfl⟩;obtain⟨b3,jn⟩: ∃b,bJ n=b:=⟨_,rfl⟩;obtain⟨b5,qg⟩: ∃b,decide (bH=[])=b:=⟨_,rfl⟩;have NV:=af (show ∀w,aA7 prog 252 #[.string (tx bH)] w fun e w'=>e= .returned (.bool b2)/\w=w' from fun w=>eG▸GM bH h2 w);have NN:=af (show ∀w,aA7 prog 309 #[.int .i64 n] w fun e w'=>e= .returned (.bool b3)/\w=w' from fun w=>jn▸KX n w);obtain⟨zv,zv'⟩:=LG qg;cases b5 with
 | true=>
   have E:=af (show xg bH n=b3 by unfold xg;rw[ak (aS qg)];exact jn);go_in
   go_wp2_with (go_at_call 309;refine(NN.oo _).mono ?_;rintro e w1 ⟨rfl,rfl⟩)
   exact Ob
 | false=>
   have hv:bH≠[]:=aS qg
   by_cases hn0:n=0
   ·subst hn0
    have E:=af (show xg bH 0=b2 by unfold xg;rw[ai hv,eG];simp);cases b2
    all_goals
     go_in
     go_wp2_with (go_at_call 252;refine(NV.oo _).mono ?_;rintro e w1 ⟨rfl,rfl⟩)
     exact Ob
   have zn:(n==0)=false:=aS hn0
   have E:=af (show xg bH n=false by unfold xg;rw[ai hv,eZ hn0,wm]);cases b2
   all_goals
    go_in
    go_wp2_with (go_at_call 252;refine(NV.oo _).mono ?_;rintro e w1 ⟨rfl,rfl⟩)
    exact Ob
theorem auW(t:aT)(ha:bD t.ag=true)(x:bF)(h1:x.aj.length<=9223372036854775807)(h2:x.bH.length<=9223372036854775807)(hn:t.code.length<=1000)(w:aAX):
 aA7 prog 243 #[vT t,od x] w (bg w (.bool (jm t.ag t.code.length x))):=by
 have B:=gU (al w (dZ t)) (lA x);have b0:=(kf.new w t).below (al (w.alloc (dZ t)) (lA x));have x0:aW ((w.alloc (dZ t)).alloc (lA x)) (w.alloc (dZ t)).heap.size (lM x):=aW.new _ _ _;rw[show(w.alloc (dZ t)).heap.size=w.heap.size+1 by simp]at x0;obtain⟨aO,aR,aj,bH,n⟩:=x;simp only at h1 h2;have EQ:=aog t.ag t.code.length ⟨aO,aR,aj,bH,n⟩;obtain⟨b1,eW⟩: ∃b,aU aj=b:=⟨_,rfl⟩;obtain⟨b6,VR⟩: ∃b,xg bH n=b:=⟨_,rfl⟩;obtain⟨b4,nR⟩: ∃b,decide (aj=[])=b:=⟨_,rfl⟩;obtain⟨b5,qg⟩: ∃b,decide (bH=[])=b:=⟨_,rfl⟩;have NL:=af (show ∀w,aA7 prog 252 #[.string (tx aj)] w fun e w'=>e= .returned (.bool b1)/\w=w' from fun w=>eW▸GM aj h1 w);have NM:=af (show ∀w,aA7 prog 303 #[.agg #[.string (tx bH),.int .i64 n]] w (bg w (.bool b6))from fun w=>VR▸auC bH n h2 w);obtain⟨zl,zl'⟩:=LG nR;obtain⟨zv,zv'⟩:=LG qg;have HL:=af nR;have HV:=af qg;have Hz:=af eW;have HA0:=af ha;simp only at EQ;rw[VR]at EQ;have Rm:=af EQ;clear EQ eW nR qg VR h1 h2 ha;cases b6 with
 | false=>
   have E2:=af (Rm.oo.trans (Cf _));go_in;go_wp2_with fail;refine aQ (NM.oo _) fun w1 E1=>?_
   have q0:=(b0.below E1).cells.1;have q4:=(b0.below E1).cells.2.2.2.2.1;have i0:=(x0.below E1).get 0 _ rfl;have i1:=(x0.below E1).get 1 _ rfl;have i2:=(x0.below E1).get 2 _ rfl;have i3:=(x0.below E1).get 3 _ rfl;have B:=aI B E1;clear E1
   go_wp2_with (first|(go_at_call 252;refine(NL.oo _).mono ?_;rintro e w1 ⟨rfl,rfl⟩))
   go_ret;exact⟨eC (E2.oo.symm),gD⟩
 |true=>
 have PL:=af (Rm.oo.trans (yc _));clear Rm
 by_cases ht:aO= -1
 ·subst ht
  have P2:=af (PL.oo.trans (show _=(b1&&(decide (aR=0)&&b5)) by unfold Qa;rw[ak rfl];simp only[Hz.oo,HV.oo]));clear PL
  by_cases hr:aR=0
  ·subst hr
   cases b1<;>cases b5
   all_goals
    go_in;go_wp2_with fail;refine aQ (NM.oo _) fun w1 E1=>?_
    have q0:=(b0.below E1).cells.1;have q4:=(b0.below E1).cells.2.2.2.2.1;have i0:=(x0.below E1).get 0 _ rfl;have i1:=(x0.below E1).get 1 _ rfl;have i2:=(x0.below E1).get 2 _ rfl;have i3:=(x0.below E1).get 3 _ rfl;have B:=aI B E1;clear E1
    go_wp2_with (first|(go_at_call 252;refine(NL.oo _).mono ?_;rintro e w1 ⟨rfl,rfl⟩))
    go_ret;exact⟨eC ((show _=_ from by first|rfl|simp).trans P2.oo.symm),gD⟩
  have zr:(aR==0)=false:=aS hr
  have P3:=af (P2.oo.trans (show _=false by rw[eZ hr,Cf,wm]));clear hr P2;cases b1
  all_goals
   go_in;go_wp2_with fail;refine aQ (NM.oo _) fun w1 E1=>?_
   have q0:=(b0.below E1).cells.1;have q4:=(b0.below E1).cells.2.2.2.2.1;have i0:=(x0.below E1).get 0 _ rfl;have i1:=(x0.below E1).get 1 _ rfl;have i2:=(x0.below E1).get 2 _ rfl;have i3:=(x0.below E1).get 3 _ rfl;have B:=aI B E1;clear E1
   go_wp2_with (first|(go_at_call 252;refine(NL.oo _).mono ?_;rintro e w1 ⟨rfl,rfl⟩))
   exact Oc
 have zt:(aO== -1)=false:=aS ht
 have P2:=af (PL.oo.trans (show _=(if aO<0\/(t.code.length:Int)<=aO\/aj≠[]then false else if t.ag=2 then decide (1<=aR)&&decide (aR<32)else decide (0<=aR)&&decide (aR<15)) by unfold Qa;rw[ai ht]));clear PL
 by_cases h0:aO<0
 ·have P3:=af (P2.oo.trans (ak (.inl h0)))
  clear ht P2;go_in;go_wp2_with fail;refine aQ (NM.oo _) fun w1 E1=>?_
  have q0:=(b0.below E1).cells.1;have q4:=(b0.below E1).cells.2.2.2.2.1;have i0:=(x0.below E1).get 0 _ rfl;have i1:=(x0.below E1).get 1 _ rfl;have i2:=(x0.below E1).get 2 _ rfl;have i3:=(x0.below E1).get 3 _ rfl;have B:=aI B E1;clear E1
  go_wp2_with (first|(go_at_call 252;refine(NL.oo _).mono ?_;rintro e w1 ⟨rfl,rfl⟩))
  exact Oc
 have h0':0<=aO:=ah
 by_cases hc:(t.code.length:Int)<=aO
 ·have P3:=af (P2.oo.trans (ak (.inr (.inl hc))))
  clear ht P2;go_in;go_wp2_with fail;refine aQ (NM.oo _) fun w1 E1=>?_
  have q0:=(b0.below E1).cells.1;have q4:=(b0.below E1).cells.2.2.2.2.1;have i0:=(x0.below E1).get 0 _ rfl;have i1:=(x0.below E1).get 1 _ rfl;have i2:=(x0.below E1).get 2 _ rfl;have i3:=(x0.below E1).get 3 _ rfl;have B:=aI B E1;clear E1
  go_wp2_with (first|(go_at_call 252;refine(NL.oo _).mono ?_;rintro e w1 ⟨rfl,rfl⟩))
  exact Oc
 have hc':aO<t.code.length:=ah;cases b4 with
 | false=>
   have P3:=af (P2.oo.trans (ak (.inr (.inr (aS HL.oo)))));clear ht hc P2;go_in;go_wp2_with fail;refine aQ (NM.oo _) fun w1 E1=>?_
   have q0:=(b0.below E1).cells.1;have q4:=(b0.below E1).cells.2.2.2.2.1;have i0:=(x0.below E1).get 0 _ rfl;have i1:=(x0.below E1).get 1 _ rfl;have i2:=(x0.below E1).get 2 _ rfl;have i3:=(x0.below E1).get 3 _ rfl;have B:=aI B E1;clear E1
   go_wp2_with (first|(go_at_call 252;refine(NL.oo _).mono ?_;rintro e w1 ⟨rfl,rfl⟩))
   exact Oc
 | true=>
   have hnot: ¬(aO<0\/(t.code.length:Int)<=aO\/aj≠[]):=by
    have:=HL.oo;simp at this;subst this;simp;omega
   have P3:=af (P2.oo.trans (ai hnot));clear P2 hnot ht hc
   by_cases ha:t.ag=2
   ·have za:(t.ag==1)=false:=by rw[ha];rfl
    have P4:=af (P3.oo.trans (ak ha));clear P3 ha;have hp:aR<1\/(1<=aR/\aR<32)\/32<=aR:=ah;rcases hp with hr|⟨hr,hr'⟩|hr
    all_goals
     go_in;go_wp2_with fail;refine aQ (NM.oo _) fun w1 E1=>?_
     have q0:=(b0.below E1).cells.1;have q4:=(b0.below E1).cells.2.2.2.2.1;have i0:=(x0.below E1).get 0 _ rfl;have i1:=(x0.below E1).get 1 _ rfl;have i2:=(x0.below E1).get 2 _ rfl;have i3:=(x0.below E1).get 3 _ rfl;have B:=aI B E1;clear E1
     go_wp2_with (first|(go_at_call 252;refine(NL.oo _).mono ?_;rintro e w1 ⟨rfl,rfl⟩))
     exact adC
   have h1:t.ag=1:=by
    have:=HA0.oo;unfold bD at this;exact Cy
   have za:(t.ag==1)=true:=by rw[h1];rfl
   have P4:=af (P3.oo.trans (ai ha));clear P3 ha h1;have hp:aR<0\/(0<=aR/\aR<15)\/15<=aR:=ah;rcases hp with hr|⟨hr,hr'⟩|hr
   all_goals
    go_in;go_wp2_with fail;refine aQ (NM.oo _) fun w1 E1=>?_
    have q0:=(b0.below E1).cells.1;have q4:=(b0.below E1).cells.2.2.2.2.1;have i0:=(x0.below E1).get 0 _ rfl;have i1:=(x0.below E1).get 1 _ rfl;have i2:=(x0.below E1).get 2 _ rfl;have i3:=(x0.below E1).get 3 _ rfl;have B:=aI B E1;clear E1
    go_wp2_with (first|(go_at_call 252;refine(NL.oo _).mono ?_;rintro e w1 ⟨rfl,rfl⟩))
    exact adC
theorem auT(t:aT)(ha:bD t.ag=true)(hcn:t.code.length<=1000)(w:aAX)(h:jz w t):aA7 prog 168 #[vT t] w (bg w (.int .i64 (gT t))):=by
 have A:=al w (dZ t);have b0:=kf.new w t;have HI:=af (h.keep A);have HA:=af A;have Bq:=af ha;have hil:=h.init.len
 by_cases hn:1024<t.init.length
 ·rw[aaS hn]
  exact adR
 have aoC:t.init.length<=1024:=ah
 have sQ:=af hn;go_in;go_upto_region 1 with(fail);generalize w.alloc (dZ t)=W1 at*;obtain⟨c0,c1,c2,c3,c4,c5,c6,c7,c8,c9,c10,c11⟩:=b0.cells;go_wp2_with fail
 go_loopw [3] (fun i wr=> ∃k:Nat,k<=t.init.length/\i= .int .i64 k/\aAW W1.heap.size W1 wr/\Hid (Ea t k/\DZ t k)) (fun i _=>t.init.length-(intOf i).toNat)
 ·exact⟨0,ah,rfl,bS _ _,fun j x hj=>absurd hj (iz j),fun i j x y _ hj=>absurd hj (iz j)⟩
 obtain⟨k,hk,rfl,E,HK⟩:=hrel;obtain⟨c0,c1,c2,c3,c4,c5,c6,c7,c8,c9,c10,c11⟩:=(b0.below E).cells
 by_cases aA:k<t.init.length
 ·obtain⟨x,hx⟩: ∃x,t.init[k]? =some x:=⟨_,aV aA⟩
  obtain⟨p0,p1,p2,p3,p4⟩:=(HI.oo.init.below E).yN hx;have ix:=HI.oo.init.idx wY rR k aA t.ic;have hxl:=HI.oo.vo x (cV hx);have HX:=af hx;have LN:=af (fun w=>auW t Bq.oo x hxl.1 hxl.2 hcn w);obtain⟨f,hf⟩:=aF (jm t.ag t.code.length x);rw[hf]at LN;have HF:=af hf;go_upto_region 7 with(fail);have A3:=al wr (lA x);have x0:aW (wr.alloc (lA x)) wr.heap.size (lM x):=aW.new _ _ _;generalize wr.alloc (lA x)=W3 at*;have E:=aI E A3;obtain⟨c0,c1,c2,c3,c4,c5,c6,c7,c8,c9,c10,c11⟩:=(b0.below E).cells;obtain⟨i0,i1,i2,i3,i4⟩:=x0.ji;go_wp2_with fail;refine aQ (LN.oo _) fun w4 E4=>?_
  have x0:=x0.below E4;have E:=aI E E4;cases f with
  | false=>
    exact adV
  | true=>
    go_wp2_with fail;obtain⟨xb,jK⟩:=aF wr.heap.size;rw[jK]at x0⊢
    go_loopw [5] (fun i wr2=> ∃j:Nat,j<=k/\i= .int .i64 j/\aAW W1.heap.size W1 wr2/\aW wr2 xb (lM x)/\Hid (∀(i:Nat) (y:bF),i<j->t.init[i]? =some y->js y≠js x)) (fun i _=>k-(intOf i).toNat)
    ·exact⟨0,ah,rfl,E,x0,fun j x hj=>absurd hj (iz j)⟩
    obtain⟨j,hj,rfl,E,x0,HJ⟩:=hrel
    by_cases eX:j<k
    ·obtain⟨y,hy⟩: ∃y,t.init[j]? =some y:=⟨_,aV ah⟩
     obtain⟨c0,c1,c2,c3,c4,c5,c6,c7,c8,c9,c10,c11⟩:=(b0.below E).cells;obtain⟨p0,p1,p2,p3,p4⟩:=(HI.oo.init.below E).yN hy;have ix:=HI.oo.init.idx wY rR j ah t.ic;have HY:=af hy;have aN: ∀(p:Prop),(js y=js x<->(x.aO=y.aO/\x.aR=y.aR/\x.aj=y.aj)):=fun _=>agf x y
     have HKE:=af (agf x y);obtain⟨i0,i1,i2⟩:=x0.tI;have x0l:=x0.1;go_upto_region 13 with(fail);have A3:=al wr (lA y);have y0:aW (wr.alloc (lA y)) wr.heap.size (lM y):=aW.new _ _ _;have x1:=x0.below A3;generalize wr.alloc (lA y)=W5 at*;have E:=aI E A3;obtain⟨i0,i1,i2⟩:=x1.tI;obtain⟨j0,j1,j2⟩:=y0.tI;obtain⟨d1,hd1⟩: ∃d,(x.aO==y.aO)=d:=⟨_,rfl⟩;obtain⟨d2,lP⟩: ∃d,(x.aR==y.aR)=d:=⟨_,rfl⟩;obtain⟨d3,OG⟩: ∃d,((tx x.aj).toList==(tx y.aj).toList)=d:=⟨_,rfl⟩
     have HQ:=af (show decide (js y=js x)=(d1&&(d2&&d3)) by
      rw[<-hd1,<-lP,<-OG,j9,jE,dw,HKE.oo];simp)
     have mB:(d1&&(d2&&d3))=false->Hid (∀(i:Nat) (z:bF),i<j+1->t.init[i]? =some z->js z≠js x):=fun hd i z hi hz=>by
      rcases fO.1 hi with h1|h1
      ·exact HJ.oo i z h1 hz
      subst h1;rw[HY.oo]at hz;cases hz
      have:=HQ.oo;rw[hd]at this;exact Ex this
     have mB:=af mB;have HZ:=af (fun hd:(d1&&(d2&&d3))=true=>aaU sQ.oo eX HY.oo HX.oo (wB (HQ.oo.trans hd)));cases d1
     rotate_left
     ·cases d2
      rotate_left
      ·cases d3
       rotate_left
       ·go_wp2_with fail
        go_ret;rw[HZ.oo rfl];exact⟨rfl,aI HA.oo E⟩
       go_wp2_with fail
       exact UY
      go_wp2_with fail
      exact UY
     go_wp2_with fail
     exact UY
    obtain rfl:j=k:=ah
    have fC:=af (aA6 (HK.oo.1.snoc HX.oo HF.oo) (HK.oo.2.snoc HX.oo HJ.oo));go_wp2_with fail
    go_roundw;exact⟨j+1,ah,by go_num,E,fC⟩;exact ep
 obtain rfl:k=t.init.length:=ah
 have HZ:=af (aaT sQ.oo HK.oo.1 HK.oo.2);exact qc
theorem agL: ∀a b:Tx,a<b<->cX a b=true
 |[],[]=>by simp[cX]
 |[],y::s=>by simp[cX]
 |x::r,[]=>by simp[cX]
 | x::r,y::s=>by
   rw[List.cons_lt_cons_iff,agL r s,cX]
   by_cases h:x<y
   ·simp[h]
   by_cases h2:y<x
   ·simp only[h,false_or,kn,h2,lG,ow,iff_false,not_and]
    intro e;subst e;exact absurd h2 (Y6 x)
   have:=LH h h2;subst this
   simp[h]
theorem Xd(a b:Tx):decide (a<=b)= !cX b a:=by
 rw[jE,dw,BV,<-Bool.not_eq_true,<-agL];exact List.not_lt.symm
def rD(l:List Tx):List Tx:=l.mergeSort fun x y=>decide (x<=y)
def sZ(l:List Tx):Prop:=l.Pairwise fun a b=>cX a b=true
theorem WO{t:Tx}{z:Tx}: ∀{l:List Tx},z∈mq t l<->z=t\/z∈l
 |[]=>by simp[mq]
 | y::r=>by
   unfold mq;split
   ·simp
   simp only[cq,WO (l:=r)]
   constructor
   ·rintro(h|h|h)
    ·exact Av
    ·exact .inl h
    exact .inr (.inr h)
   rintro(h|h|h)
   ·exact Av
   ·exact .inl h
   exact .inr (.inr h)
theorem aud{t:Tx}{l:List Tx}:z∈jQ l t<->(z=t/\t≠[])\/z∈l:=by
 unfold jQ
 by_cases h0:t=[]
 ·rw[ak h0];simp[h0]
 rw[ai h0]
 split
 ·rename_i h
  constructor
  ·exact .inr
  rintro(⟨rfl, -⟩|h')
  ·exact h
  exact h'
 rw[WO];simp[h0]
theorem af0{t:Tx}: ∀{l:List Tx},t∉l->sZ l->sZ (mq t l)
 |[],_,_=>by unfold mq sZ;simp
 | y::r,hn,h=>by
   obtain⟨a1,b1⟩:=tC.1 h;unfold mq
   by_cases hb:cX t y=true
   ·rw[ak hb]
    unfold sZ;rw[tC];refine⟨fun z hz=>?_,h⟩;rcases cq.1 hz with rfl|hz
    ·exact hb
    exact KG hb (a1 z hz)
   rw[ai hb]
   unfold sZ;rw[tC];refine⟨fun z hz=>?_,af0 (fun h=>hn (by simp[h])) b1⟩;rcases WO.1 hz with rfl|hz
   ·by_cases h2:cX y z=true
    ·exact h2
    have:=KH (aS hb) (aS h2)
    exact absurd (by rw[this];simp) hn
   exact a1 z hz
theorem aue{t:Tx}{l:List Tx}(h:sZ l):sZ (jQ l t):=by
 unfold jQ;split
 ·exact h
 split
 ·exact h
 rename_i hn;exact af0 hn h
theorem aeQ: ∀(l aD:List Tx),sZ aD->sZ (iD aD l)/\ ∀z,z∈iD aD l<->(z∈l/\z≠[])\/z∈aD
 |[],aD,h=>⟨h,fun z=>by unfold iD;simp⟩
 | s::r,aD,h=>by
   obtain⟨h1,h2⟩:=aeQ r (jQ aD s) (aue h);refine⟨h1,fun z=>?_⟩;show z∈iD (jQ aD s) r<->_;rw[h2,aud];constructor
   ·rintro(⟨a,b⟩|⟨rfl,b⟩|a)
    ·exact .inl ⟨by simp[a],b⟩
    ·exact .inl ⟨ aq,b⟩
    exact .inr a
   rintro(⟨a,b⟩|a)
   ·rcases cq.1 a with rfl|a
    ·exact .inr (.inl ⟨rfl,b⟩)
    exact .inl ⟨a,b⟩
   exact .inr (.inr a)
def Fj(l:List Tx):List Tx:=if l.head?=some []then l.drop 1 else l
theorem aru(b:Tx):cX b []=false:=by cases b<;>simp[cX]
theorem ann{l:List Tx}(h:sZ l):sZ (Fj l)/\ ∀z,z∈Fj l<->z∈l/\z≠[]:=by
 unfold Fj;cases l with
 |nil=>exact⟨h,fun z=>by simp⟩
 | cons y r=>
   obtain⟨a1,b1⟩:=tC.1 h
   have hr: ∀z∈r,z≠[]:=fun z hz e=>by
    have:=a1 z hz;rw[e,aru]at this;cases this
   by_cases hy:y=[]
   ·subst hy
    rw[ak (show([]::r).head?=some []from rfl)];refine⟨b1,fun z=>?_⟩;simp only[qR,qP,cq];exact⟨fun hz=>⟨.inr hz,hr z hz⟩,fun⟨hz,hn⟩=>hz.resolve_left hn⟩
   rw[ai (aS hy)]
   refine⟨h,fun z=>⟨fun hz=>⟨hz,?_⟩,fun hz=>hz.1⟩⟩;rcases cq.1 hz with rfl|hz
   ·exact hy
   exact hr z hz
theorem axy(l:List Tx):Fj (eu (rD l))=iD [] l:=by
 have hs:=aaz (le:=fun x y:Tx=>decide (x<=y)) (fun a b c hab hbc=>by
  simp only[Xd,BV]at*;cases hca:cX c a with
  |false=>rfl
  | true=>
    cases hcb:cX c b with
    |true=>rw[hcb]at hbc;cases hbc
    | false=>
      cases J9:cX b c with
      |true=>have:=KG J9 hca;rw[this]at hab;cases hab
      |false=>have:=KH J9 hcb;subst this;rw[hca]at hab;cases hab)
  (fun a b=>by
   simp only[Xd];cases h1:cX b a with
   |true=>rw[Xt h1];rfl
   |false=>rfl) l
 have hr:sZ (eu (rD l)):=Up (lt:=fun a b=>cX a b=true) (fun _ _ _=>KG) (hs.imp (fun {a b} hab=>by
  simp only[Xd,BV]at hab;cases h1:cX a b with
  |true=>exact .inr rfl
  |false=>exact .inl (KH h1 hab)))
 obtain⟨c1,c2⟩:=ann hr;obtain⟨f1,f2⟩:=aeQ l [] List.Pairwise.nil;refine Yz (lt:=fun a b=>cX a b=true) (fun a h=>by rw[Xu]at h;cases h) (fun a b h h'=>by rw[Xt h]at h';cases h') c1 f1 fun z=>?_
 rw[c2,f2,Uo];unfold rD;rw[List.mem_mergeSort];simp
theorem amj(l:List Tx):Lib.compact l=eu l:=by
 have key: ∀m,m<=l.length->Lib.compactUpTo l.toArray m=eu (l.take m):=by
  intro m
  induction m with
  |zero=>intro _;rfl
  | succ m ih=>
    intro hm;rw[Lib.compactUpTo_succ,ih ah];have e1:l.take (m+1)=l.take m++[l[m]'ah]:=pn ah;have g:l.toArray[m]! =l[m]'ah:=by rw[Ci l.toArray m aC];rfl
    cases m with
    | zero=>
      rw[e1,show Lib.keeps l.toArray 0=true from rfl,ak rfl,g];rfl
    | succ k=>
      have e0:l.take (k+1)=l.take k++[l[k]'ah]:=pn ah;have g0:l.toArray[k]! =l[k]'ah:=by rw[Ci l.toArray k aC];rfl
      rw[e1,e0,Uq];unfold Lib.keeps;rw[show k+1-1=k from rfl,g,g0]
      by_cases h:l[k+1]=l[k]'ah
      ·rw[ak h];simp[h]
      rw[ai h];simp[h]
 unfold Lib.compact;rw[key _ (aX _),jC]
theorem aeI(t:aT)(ha:t.ag=1\/t.ag=2)(w:aAX)(h:jz w t):aA7 prog 69 #[vT t] w (bg w (.int .i64 (ew t))):=by
 have A:=al w (dZ t);have b0:=kf.new w t;have HI:=af (h.keep A);have HA:=af A;have Bq:=af ha;have hcl:=h.code.len
 by_cases hn:t.code.length<1\/16<t.code.length
 ·rw[abw hn]
  obtain⟨c0,c1,c2,c3,c4,c5,c6,c7,c8,c9,c10,c11⟩:=b0.cells;rcases hn with hn|hn
  all_goals
   exact adW
 have h1:1<=t.code.length:=ah
 have FD:t.code.length<=16:=ah;have sQ:=af hn;go_in;go_upto_region 1 with(fail);generalize w.alloc (dZ t)=W1 at*;obtain⟨c0,c1,c2,c3,c4,c5,c6,c7,c8,c9,c10,c11⟩:=b0.cells;go_wp2_with fail
 go_loopw [25] (fun i wr=> ∃k:Nat,k<=t.code.length/\i= .int .i64 k/\aAW W1.heap.size W1 wr/\Hid (∀(j:Nat) (x:Cd),j<k->t.code[j]? =some x->x.l.length<=256)) (fun i _=>t.code.length-(intOf i).toNat)
 ·exact adX
 obtain⟨k,hk,rfl,E,HK⟩:=hrel
 by_cases aA:k<t.code.length
 ·obtain⟨x,hx⟩: ∃x,t.code[k]? =some x:=⟨_,aV aA⟩
  have p0:=(HI.oo.code.below E).cd hx;have ix:=HI.oo.code.uH k aA t.cc;have hxl:=(HI.oo.rows x (cV hx)).is.len;have HX:=af hx
  by_cases hl:256<x.l.length
  ·have HZ:=af (abv sQ.oo HX.oo hl)
   exact qc
  have hl':x.l.length<=256:=ah
  have fC: ∀(j:Nat) (y:Cd),j<k+1->t.code[j]? =some y->y.l.length<=256:=fun j y hj hy=>by
   rcases fO.1 hj with h|h
   ·exact HK.oo j y h hy
   subst h;rw[HX.oo]at hy;cases hy;exact hl'
  have fC:=af fC;go_wp2_with fail
  exact JO
 obtain rfl:k=t.code.length:=ah
 have HR:=af (abx sQ.oo (fun k x hx=>HK.oo k x (bt.1 hx).1 hx));have HL:=af (fun(k:Nat) (x:Cd) (hx:t.code[k]? =some x)=>HK.oo k x (bt.1 hx).1 hx);obtain⟨c0,c1,c2,c3,c4,c5,c6,c7,c8,c9,c10,c11⟩:=(b0.below E).cells;go_wp2_with fail
 go_loopw [36] (fun i wr2=> ∃k:Nat,k<=t.code.length/\i= .int .i64 k/\aAW W1.heap.size W1 wr2/\Hid (lC t.ag (t.code.drop k)=ew t)) (fun i _=>t.code.length-(intOf i).toNat)
 ·exact adY
 obtain⟨k,hk,rfl,E,HD⟩:=hrel
 by_cases aA:k<t.code.length
 ·obtain⟨x,hx⟩: ∃x,t.code[k]? =some x:=⟨_,aV aA⟩
  have p0:=(HI.oo.code.below E).cd hx;have ix:=HI.oo.code.uH k aA t.cc;have uZ:=HI.oo.rows x (cV hx);have hxl:=uZ.is.len;have mD:=af uZ;have hl6:=HL.oo k x hx;have HD:=af (show(if qu t.ag x.l=0 then lC t.ag (t.code.drop (k+1))else qu t.ag x.l)=ew t by rw[<-ajg hx];exact HD.oo);go_wp2_with fail
  go_loopw [42] (fun i Zl=> ∃j:Nat,j<=x.l.length/\i= .int .i64 j/\aAW W1.heap.size W1 Zl/\Hid (∀(m:Nat) (i:aL),m<j->x.l[m]? =some i->kO t.ag i=true)) (fun i _=>x.l.length-(intOf i).toNat)
  ·exact adZ
  obtain⟨j,hj,rfl,E,HJ⟩:=hrel
  by_cases eX:j<x.l.length
  ·obtain⟨i,hi⟩: ∃i,x.l[j]? =some i:=⟨_,aV eX⟩
   obtain⟨p0,p1,p2,p3,p4,p5,p6,p7⟩:=(mD.oo.is.below E).cells hi;have ix:=(mD.oo.is.below E).idx j eX x.c;have hb:=mD.oo.vo i (cV hi);have CX:=af (fun w=>Q4 i hb.1 w);have CI:=af (fun w=>Dw i hb.2 w);have Mh:=af hi;obtain⟨e,he⟩: ∃e:Int,(if kO t.ag i=true then 0 else 91)=e:=⟨_,rfl⟩;have HE:=af he;go_upto_region 15 with(fail);have A3:=al wr (j6 i);have b3:=iU.new wr i;generalize wr.alloc (j6 i)=W3 at*;have E:=aI E A3;obtain⟨q0,q1,q2,q3,q4,q5,q6,q7⟩:=b3.cells;have c0:=(b0.below E).cells.1;rcases Bq.oo with ha|ha
   focus
    have CK:=CX;rw[show fI i=e by rw[<-HE.oo,ha];rfl]at CK
   rotate_left
   focus
    have CK:=CI;rw[show iX i=e by rw[<-HE.oo,ha];rfl]at CK
   all_goals
    rw[ha]at c0;go_wp2_with fail;refine(CK.oo _).mono ?_;rintro ee w5 ⟨rfl,E5⟩;have E:=aI E E5;have c0:=(b0.below E).cells.1;rw[ha]at c0
    by_cases fE:kO t.ag i=true
    ·have e0:e=0:=by rw[<-HE.oo,ak fE]
     subst e0
     have mB: ∀(m:Nat) (y:aL),m<j+1->x.l[m]? =some y->kO t.ag y=true:=fun m y hm hy=>by
      rcases fO.1 hm with h|h
      ·exact HJ.oo m y h hy
      subst h;rw[Mh.oo]at hy;cases hy;exact fE
     have mB:=af mB;go_wp2_with fail
     exact JP
    have e0:e=91:=by rw[<-HE.oo,ai fE]
    exact ad1
  obtain rfl:j=x.l.length:=ah
  have c0:=(b0.below E).cells.1;have Ij:=af (ai0 (fun m i hi=>HJ.oo m i (bt.1 hi).1 hi));rcases Bq.oo with ha|ha
  ·have HD:=af (show lC t.ag (t.code.drop (k+1))=ew t by rw[<-HD.oo,ak (by rw[Ij.oo,ha];rfl)])
   rw[ha]at c0;go_wp2_with fail
   exact Of
  rw[ha]at c0;have VD: ∀i∈x.l,i.av.length<=9223372036854775807:=fun i hi=>(mD.oo.vo i hi).2
  have LK:=atO x.l x.a x.c mD.oo.cap VD wr (mD.oo.is.below E);obtain⟨e,he⟩:=aF ((kQ x.l).2.1)
  have HD:=af (show(if e=0 then lC t.ag (t.code.drop (k+1))else e)=ew t by
   rw[<-HD.oo,show qu t.ag x.l=e from by rw[Ij.oo,ak ha,he]])
  have By:=af he;have LK:=af LK;go_wp2_with fail;refine LK.oo.mono ?_;rintro ee w5 ⟨a5,c5,rfl,o5,E5⟩;rw[By.oo];have E:=aI E E5
  by_cases h0:e=0
  ·subst h0
   have HD:=af (show lC t.ag (t.code.drop (k+1))=ew t from HD.oo);go_wp2_with fail
   exact Of
  have z0:(e != 0)=true:=aS h0
  exact ad2
 obtain rfl:k=t.code.length:=ah
 exact ad3
theorem anY(t:aT)(ha:t.ag=1)(w:aAX)(h:jz w t):aA7 prog 69 #[vT t] w (bg w (.int .i64 (ew t))):=aeI t (.inl ha) w h
theorem anZ(t:aT)(ha:t.ag=2)(w:aAX)(h:jz w t):aA7 prog 69 #[vT t] w (bg w (.int .i64 (ew t))):=aeI t (.inr ha) w h
theorem Xc:Keyed prog 25:=Keyed.of_law (deep_law_gate bM (SU bM) (Nat.lt_of_succ_le (SU bM)) bM bM)
def kT(x:Th):Lit:=.string (keyBytes [.int .i64 x.aO,.int .i64 x.aR,.string x.aj])
theorem akk{n:Int}(h:pT n):(Lit.int .i64 n).wf=true:=Tj (by unfold pT at h;omega)
theorem Xa(x:Th)(h1:pT x.aO)(h2:pT x.aR)(h3:x.aj.length<=9223372036854775807):keyOf prog 25 (mz x)=some (kT x):=by
 have hk:prog.keyType 25=true:=by kernel_rfl
 have hc:prog.cellsOf 25=3:=by kernel_rfl
 have hi:prog.cellsOf 3=1:=by kernel_rfl
 have hs:prog.cellsOf 9=1:=by kernel_rfl
 have h1s:1<=prog.types.size:=SU bM;obtain⟨m,hm⟩: ∃m,prog.types.size=m+1:=⟨_,(Nat.sub_add_cancel h1s).symm⟩;unfold keyOf;rw[underlying25];simp only[hk,Value.formed,underlying25,hc];rw[hm];simp[Program.keyLits,underlying25,hc,hi,hs,underlying3,underlying9,Value.cells,akk h1,akk h2,kT,bC];rw[ak (show x.aj.length<=maxLen from h3),kW];rfl
theorem aqf{x y:Th}(h1:pT x.aO)(h2:pT x.aR)(h3:x.aj.length<=9223372036854775807)(g1:pT y.aO)(g2:pT y.aR)(g3:y.aj.length<=9223372036854775807)(h:kT x=kT y):x=y:=by
 have e:=Xc.inj (Xa x h1 h2 h3) (by rw[h];exact Xa y g1 g2 g3);simp only[mz,Value.agg.injEq,Array.mk.injEq,Ac,Value.int.injEq,Value.string.injEq,and_true,true_and,aza]at e;exact(YU x y).2 ⟨e.1,e.2.1,e.2.2⟩
def BJ(t:aT)(k:Nat)(D:DataW Unit):Prop:=
 ∀ x:Th,pT x.aO->pT x.aR->x.aj.length<=9223372036854775807->
   (∀(i:Nat) (y:bF),i<k->t.init[i]? =some y->js y=x-> ∃c:Int,0<c/\c<2000/\D.atKey (kT x) (.lit (.int .i64 0))= .lit (.int .i64 c))/\
   ((∀(i:Nat) (y:bF),i<k->t.init[i]? =some y->js y≠x)->D.atKey (kT x) (.lit (.int .i64 0))= .lit (.int .i64 0))
theorem aqa(x:Th):WideAt.IsKeyLit (kT x):=by unfold kT;trivial
theorem BJ.nil:BJ t 0 (.map []):=fun x _ _ _=>⟨fun i y hi=>absurd hi (iz i),fun _=>rfl⟩
theorem BJ.put(h:BJ t k D)(hm:IsMap D)(hx:t.init[k]? =some x)(hk:k<1024)(w1:pT x.aO)(w2:pT x.aR)(w3:x.aj.length<=9223372036854775807):
 BJ t (k+1) (D.put (kT (js x)) (.lit (.int .i64 ((k:Int)+1)))):=by
 intro z z1 z2 z3;obtain⟨h1,h2⟩:=h z z1 z2 z3
 by_cases he:js x=z
 ·subst he
  refine⟨fun i y hi hy e=>⟨(k:Int)+1,ah,ah,by rw[atKey_put_same hm (aqa _)]⟩,fun hn=>absurd rfl (hn k x ah hx)⟩
 have aN:kT z≠kT (js x):=fun e=>he (aqf w1 w2 w3 z1 z2 z3 e.symm)
 refine⟨fun i y hi hy e=>?_,fun hn=>?_⟩
 ·rw[atKey_put_other aN]
  rcases fO.1 hi with h3|h3
  ·exact h1 i y h3 hy e
  subst h3;rw[hx]at hy;cases hy;exact absurd e he
 rw[atKey_put_other aN]
 exact h2 fun i y hi hy=>hn i y ah hy
def Seen(w:aAX)(b n:Nat)(D:DataW Unit):Prop:=w.ownsMap prog 25 (plainElem (H:=Unit) prog 3) b n D
theorem Seen.below(h:Seen w b n D)(hb:aAW w.heap.size w w'):Seen w' b n D:=
 Td h ⟨hb.os,hb.tape,hb.output,hb.size,fun k hk _=>hb.block k hk⟩ (row:=none) aq
theorem azV(w:aAX):(zeroValue 3).run prog w= .ok (.int .i64 0) w:=by kernel_rfl
theorem anV(t:aT)(hcn:t.code.length<=1000)(w:aAX)(h:jz w t):aA7 prog 70 #[vT t] w (bg w (.int .i64 (gT t))):=by
 have A:=al w (dZ t);have b0:=kf.new w t;have HI:=af (h.keep A);have HA:=af A;have hil:=h.init.len
 by_cases hn:1024<t.init.length
 ·rw[aaS hn]
  exact adR
 have aoC:t.init.length<=1024:=ah
 have sQ:=af hn;have OZ:= @run_makeMap prog;go_in;go_upto_region 1 with(fail);generalize w.alloc (dZ t)=W1 at*;obtain⟨c0,c1,c2,c3,c4,c5,c6,c7,c8,c9,c10,c11⟩:=b0.cells;go_upto_region 4 with(fail);have hM:Seen (W1.alloc (.map #[] 0)) W1.heap.size 0 (.map []):=World.ownsMap_made _ _ _ _;have E0:=al W1 (.map #[] 0);have gi:W1.heap.size<(W1.alloc (.map #[] 0)).heap.size:=aq;generalize W1.alloc (.map #[] 0)=W2 at*;obtain⟨mb,hmb⟩:=aF W1.heap.size;rw[hmb]at hM⊢;obtain⟨c0,c1,c2,c3,c4,c5,c6,c7,c8,c9,c10,c11⟩:=(b0.below E0).cells;have HMB:=af hmb;go_wp2_with fail
 go_loopw [15] (fun i wr=> ∃(k:Nat) (D:DataW Unit),k<=t.init.length/\i= .int .i64 k/\aAW W1.heap.size W1 wr/\Seen wr mb k D/\Hid (Ea t k/\DZ t k/\BJ t k D)) (fun i _=>t.init.length-(intOf i).toNat)
 ·exact⟨0,.map [],ah,rfl,E0,hM,fun j x hj=>absurd hj (iz j),fun i j x y _ hj=>absurd hj (iz j),BJ.nil⟩
 obtain⟨k,D,hk,rfl,E,hM,HK⟩:=hrel
 by_cases aA:k<t.init.length
 ·obtain⟨x,hx⟩: ∃x,t.init[k]? =some x:=⟨_,aV aA⟩
  obtain⟨p0,p1,p2,p3,p4⟩:=(HI.oo.init.below E).yN hx;have ix:=HI.oo.init.idx wY rR k aA t.ic;have hxl:=HI.oo.vo x (cV hx);have Wu:=HI.oo.wide x (cV hx);have HX:=af hx;have xO:=af (aA6 hxl Wu);have uj:=af (Xa (js x) Wu.1 Wu.2 hxl.1);have FS:=af (fun w=>an0 t x hxl.1 hxl.2 hcn w);obtain⟨f,hf⟩:=aF (jm t.ag t.code.length x);rw[hf]at FS;have HF:=af hf;go_upto_region 8 with(fail);have A3:=al wr (lA x);have A4:=gU A3 (oK ⟨x.aO,x.aR,x.aj⟩);have x0:aW (wr.alloc (lA x)) wr.heap.size (lM x):=aW.new _ _ _;have x0:=x0.below (al (wr.alloc (lA x)) (oK ⟨x.aO,x.aR,x.aj⟩));have y0:aW ((wr.alloc (lA x)).alloc (oK ⟨x.aO,x.aR,x.aj⟩)) (wr.alloc (lA x)).heap.size (oD ⟨x.aO,x.aR,x.aj⟩):=aW.new _ _ _;rw[show(wr.alloc (lA x)).heap.size=wr.heap.size+1 by simp]at y0;generalize (wr.alloc (lA x)).alloc (oK ⟨x.aO,x.aR,x.aj⟩)=W5 at*;have E:=aI E A4;have hM:=hM.below A4;obtain⟨c0,c1,c2,c3,c4,c5,c6,c7,c8,c9,c10,c11⟩:=(b0.below E).cells;obtain⟨i0,i1,i2,i3,i4⟩:=x0.ji;obtain⟨j0,j1,j2⟩:=y0.tI
  go_wp2_with (at_lookup;go_loud(refine wpList_lookup_own_int _ rfl _ _ 167 rfl 25 3 .i64 Xc underlying167 underlying3 (azV _) mb k D rfl hM _ _ rfl uj.oo ?_))
  intro cc hat hwf;have Mb:=af hat
  by_cases hdup: ∃(i:Nat) (y:bF),i<k/\t.init[i]? =some y/\js y=js x
  ·have hc:0<cc:=by
    obtain⟨i,y,h1,h2,h3⟩:=hdup;obtain⟨c,hc,-, h4⟩:=(HK.oo.2.2 (js x) xO.oo.2.1 xO.oo.2.2 xO.oo.1.1).1 i y h1 h2 h3;have h5:=Mb.oo;rw[h4]at h5;cases h5;exact hc
   have HZ:=af (show gT t=130 by
    obtain⟨i,y,h1,h2,h3⟩:=hdup;exact aaU sQ.oo h1 h2 HX.oo h3)
   have zc:decide (0<cc)=true:=eU hc;exact qc
  have hc:cc=0:=by
   have h4:=(HK.oo.2.2 (js x) xO.oo.2.1 xO.oo.2.2 xO.oo.1.1).2 (fun i y h1 h2 h3=>hdup ⟨i,y,h1,h2,h3⟩);have h5:=Mb.oo;rw[h4]at h5;cases h5;rfl
  subst hc;have HND:=af hdup;go_wp2_with fail;refine aQ (FS.oo _) fun w6 E6=>?_
  have E:=aI E E6;have hM:=hM.below E6;have x0:=x0.below E6;have y0:=y0.below E6;obtain⟨j0,j1,j2⟩:=y0.tI;cases f with
  | false=>
    exact adV
  | true=>
    have fC:=af (aA6 (HK.oo.1.snoc HX.oo HF.oo) (aA6 (HK.oo.2.1.snoc HX.oo (fun i y h1 h2 h3=>HND.oo ⟨i,y,h1,h2,h3⟩)) (HK.oo.2.2.put (World.ownsMap.isMap hM) HX.oo ah xO.oo.2.1 xO.oo.2.2 xO.oo.1.1)))
    go_wp2_with (at_mapUpdate;go_loud(refine wpList_mapUpdate_own _ rfl _ _ _ 167 rfl 25 3 Xc underlying167 _ mb k D rfl hM dx _ _ _ rfl rfl uj.oo _ [] (plainElem_int underlying3 (Tj ah)) ?_))
    intro w7 VG wV;have VG:Seen w7 mb (k+1) _:=VG;have E7:aAW W1.heap.size W1 w7:=E.grown wV E.size (by intro q hq;cases hq;have:=HMB.oo;omega);go_wp2_with fail
    go_roundw;exact⟨k+1,_,ah,by go_num,E7,VG,fC⟩;exact ep
 obtain rfl:k=t.init.length:=ah
 have HZ:=af (aaT sQ.oo HK.oo.1 HK.oo.2.1);exact qc
theorem apE(x y:bF):(x=y)<->(x.aO=y.aO/\x.aR=y.aR/\x.aj=y.aj/\x.bH=y.bH/\x.n=y.n):=by
 cases x;cases y;simp
theorem aeE(x y:bF)(w:aAX):(binOp .eql 56 (od x) (od y)).run prog w= .ok (.bool (decide (x=y))) w:=by
 have hS:prog.underlying 56=some (.struct (prog.fieldsOf 56)):=by kernel_rfl
 have hp:prog.stoodInHeld 56=false:=by kernel_rfl
 have hS2:prog.underlying 54=some (.struct (prog.fieldsOf 54)):=by kernel_rfl
 have hp2:prog.stoodInHeld 54=false:=by kernel_rfl
 have a3:=isAgg3;have z3:=sizeOf3;have u3:=underlying3;have a4:=isAgg9;have z4:=sizeOf9;have u4:=underlying9;have a5:=isAgg54;have z5:=sizeOf54;have u5:=underlying54;rw[EK,show(10000:Nat)=9999+1 from rfl,M8 w 9999 56 _ _ hS hp];simp only[aBl,underlying56]
 have hin: ∀w,(Op.equalIn 9999 54 (.agg #[.string (tx x.bH),.int .i64 x.n]) (.agg #[.string (tx y.bH),.int .i64 y.n])).run prog w= .ok (decide (x.bH=y.bH/\x.n=y.n)) w:=fun w=>by
  rw[show(9999:Nat)=9998+1 from rfl,M8 w 9998 54 _ _ hS2 hp2];simp only[aBl,underlying54]
  go_simp
  simp only[bU]
  by_cases h1:x.bH=y.bH<;>by_cases h2:x.n=y.n<;>simp[h1,h2]
 go_simp
 rw[show decide (x=y)=decide (x.aO=y.aO/\x.aR=y.aR/\x.aj=y.aj/\x.bH=y.bH/\x.n=y.n)from M7.2 (apE x y)];simp only[bU]
 by_cases h1:x.aO=y.aO<;>by_cases h2:x.aR=y.aR<;>by_cases h6:x.aj=y.aj<;>by_cases h7:x.bH=y.bH<;>by_cases h8:x.n=y.n<;>simp[h1,h2,h6,h7,h8]
theorem ar3(x y:bF)(w:aAX):(binOp .neq 56 (od x) (od y)).run prog w= .ok (.bool (!decide (x=y))) w:=by
 have h:=aeE x y w;rw[EK]at h;rw[Ts];generalize (Op.equalIn 10000 56 (.agg #[.int .i64 x.aO,.int .i64 x.aR,.string (tx x.aj),.string (tx x.bH),.int .i64 x.n]) (.agg #[.int .i64 y.aO,.int .i64 y.aR,.string (tx y.aj),.string (tx y.bH),.int .i64 y.n])).run prog w=r at*;cases r with
 |ok b w'=>simp[aBe]at h ⊢; obtain⟨rfl,rfl⟩:=h;exact⟨rfl,rfl⟩
 |halt x w'=>simp[aBe]at h
attribute [local go_sem high] wL jO
theorem auK(l m:List Cd)(a b:Option Addr)(c d:Nat)(w:aAX)(h1:cQ yp w a l)(h2:cQ yp w b m)(g1: ∀x∈l,D0 w x)(g2: ∀x∈m,D0 w x):
 aA7 prog 38 #[.slice a l.length c,.slice b m.length d] w (bg w (.bool (decide (gy l=gy m)))):=by
 by_cases yJ:l.length=m.length
 ·obtain⟨n,hn⟩:=aF l.length
  have hnn:n<=1000000000000000000:=by rw[<-hn];exact h1.len
  have HN:=af hn;have HM:=af (yJ.symm.trans hn);have H1:=af h1;have H2:=af h2;have G1:=af g1;have G2:=af g2;rw[hn];rw[HM.oo];clear hn yJ h1 h2 g1 g2;go_in;go_wp2_with fail
  go_loopw [5] (fun i wr=> ∃j:Nat,j<=n/\i= .int .i64 j/\aAW w.heap.size w wr/\Hid (∀k:Nat,k<j->(gy l)[k]? =(gy m)[k]?)) (fun i _=>n-(intOf i).toNat)
  ·exact ad4
  obtain⟨j,hj,rfl,E,HJ⟩:=hrel
  by_cases eX:j<n
  ·obtain⟨x,hx⟩: ∃x,l[j]? =some x:=⟨_,aV (by rw[HN.oo];exact eX)⟩
   obtain⟨y,hy⟩: ∃y,m[j]? =some y:=⟨_,aV (by rw[HM.oo];exact eX)⟩;have p0:=(H1.oo.below E).cd hx;have q0:=(H2.oo.below E).cd hy;have ix:=H1.oo.uH j (by rw[HN.oo];exact eX) c;have iy:=H2.oo.uH j (by rw[HM.oo];exact eX) d;rw[HN.oo]at ix;rw[HM.oo]at iy;have HX:=af (aA6 hx hy);have IX:=af (G1.oo x (cV hx)).is;have IY:=af (G2.oo y (cV hy)).is;clear hx hy;obtain⟨nx,mo⟩:=aF x.l.length;obtain⟨ny,hny⟩:=aF y.l.length;have aAC:nx<=1000000000000000000:=by rw[<-mo];exact IX.oo.len
   rw[mo]at p0;rw[hny]at q0;have qF:=af mo;have Eg:=af hny;clear mo hny
   by_cases hxy:nx=ny
   ·have z:((nx:Int) != (ny:Int))=false:=by simp[hxy]
    subst hxy;go_wp2_with fail;have p0:=cell_regrown p0;have q0:=cell_regrown q0;refine wp_region_quiet_below bM bM ?_
    repeat(go_big_quiet_step (fail))
    refine mW ?_;intro _ hw';obtain⟨⟨dq,dJ⟩,hw''⟩:=hw';subst hw'';have EQ:=below_regrown wr dq dJ;generalize grow (redrawn wr dq) dJ=W5 at*;have E:=aI E EQ;clear p0 q0 EQ;go_wp2_with fail
    go_loopw [6] (fun i wr=> ∃k:Nat,k<=nx/\i= .int .i64 k/\aAW w.heap.size w wr/\Hid (∀q:Nat,q<k->x.l[q]? =y.l[q]?)) (fun i _=>nx-(intOf i).toNat)
    ·exact⟨0,ah,rfl,E,fun k hk=>absurd hk (iz k)⟩
    clear E;obtain⟨k,hk,rfl,E,HK⟩:=hrel;have p0:=(H1.oo.below E).cd HX.oo.1;have q0:=(H2.oo.below E).cd HX.oo.2;rw[qF.oo]at p0;rw[Eg.oo]at q0
    by_cases hkt:k<nx
    ·obtain⟨i,hi⟩: ∃i,x.l[k]? =some i:=⟨_,aV (by rw[qF.oo];exact hkt)⟩
     obtain⟨i',hi'⟩: ∃i',y.l[k]? =some i':=⟨_,aV (by rw[Eg.oo];exact hkt)⟩;obtain⟨r0,r1,r2,r3,r4,r5,r6,r7⟩:=(IX.oo.below E).cells hi;obtain⟨s0,s1,s2,s3,s4,s5,s6,s7⟩:=(IY.oo.below E).cells hi';have jx:=IX.oo.idx k (by rw[qF.oo];exact hkt) x.c;have jy:=IY.oo.idx k (by rw[Eg.oo];exact hkt) y.c;rw[qF.oo]at jx;rw[Eg.oo]at jy;have HI:=af (aA6 hi hi');clear hi hi';have DD:decide (i=i')=true\/decide (i=i')=false:=by cases decide (i=i')<;>simp
     rcases DD with hd|hd
     ·have lP:(!decide (i=i'))=false:=by rw[hd];rfl
      have fC:=af (show ∀q:Nat,q<k+1->x.l[q]? =y.l[q]? from fun q hq=>by
       rcases fO.1 hq with h|h
       ·exact HK.oo q h
       subst h;rw[HI.oo.1,HI.oo.2,wB hd])
      go_wp2_with fail;have p0:=cell_regrown p0;have q0:=cell_regrown q0;have r0:=cell_regrown r0;have r1:=cell_regrown r1;have r2:=cell_regrown r2;have r3:=cell_regrown r3;have r4:=cell_regrown r4;have r5:=cell_regrown r5;have r6:=cell_regrown r6;have r7:=cell_regrown r7;have s0:=cell_regrown s0;have s1:=cell_regrown s1;have s2:=cell_regrown s2;have s3:=cell_regrown s3;have s4:=cell_regrown s4;have s5:=cell_regrown s5;have s6:=cell_regrown s6;have s7:=cell_regrown s7;refine wp_region_quiet_below bM bM ?_
      repeat(go_big_quiet_step (fail))
      refine mW ?_;intro _ hw';obtain⟨⟨dq,dJ⟩,hw''⟩:=hw';subst hw'';have EQ:=below_regrown wr dq dJ;generalize grow (redrawn wr dq) dJ=W6 at*;have E:=aI E EQ;clear p0 q0 r0 r1 r2 r3 r4 r5 r6 r7 s0 s1 s2 s3 s4 s5 s6 s7 EQ jx jy;go_wp2_with fail
      exact JO
     have lP:(!decide (i=i'))=true:=by rw[hd];rfl
     have HZ:=af (show decide (gy l=gy m)=false by
      rw[IK];intro e;have h1:=Ao HX.oo.1;have h2:=Ao HX.oo.2;rw[e,h2]at h1;simp only[qM]at h1;have h3:=HI.oo.1;have h4:=HI.oo.2;rw[h1]at h4;rw[h4]at h3;exact Ex hd (fU h3).symm)
     go_wp2_with fail;have p0:=cell_regrown p0;have q0:=cell_regrown q0;have r0:=cell_regrown r0;have r1:=cell_regrown r1;have r2:=cell_regrown r2;have r3:=cell_regrown r3;have r4:=cell_regrown r4;have r5:=cell_regrown r5;have r6:=cell_regrown r6;have r7:=cell_regrown r7;have s0:=cell_regrown s0;have s1:=cell_regrown s1;have s2:=cell_regrown s2;have s3:=cell_regrown s3;have s4:=cell_regrown s4;have s5:=cell_regrown s5;have s6:=cell_regrown s6;have s7:=cell_regrown s7;refine wp_region_quiet_below bM bM ?_
     repeat(go_big_quiet_step (fail))
     refine mW ?_;intro _ hw';obtain⟨⟨dq,dJ⟩,hw''⟩:=hw';subst hw'';have EQ:=below_regrown wr dq dJ;generalize grow (redrawn wr dq) dJ=W6 at*;have E:=aI E EQ;clear p0 q0 r0 r1 r2 r3 r4 r5 r6 r7 s0 s1 s2 s3 s4 s5 s6 s7 EQ jx jy;exact JQ
    have mB:=af (show ∀q:Nat,q<j+1->(gy l)[q]? =(gy m)[q]? from fun q hq=>by
     rcases fO.1 hq with h|h
     ·exact HJ.oo q h
     subst h
     rw[Ao HX.oo.1,Ao HX.oo.2];exact congrArg some (Xq (by rw[qF.oo,Eg.oo]) fun r hr=>HK.oo r (by rw[qF.oo]at hr;omega)))
    go_wp2_with fail
    exact JP
   have z:((nx:Int) != (ny:Int))=true:=aC
   have HZ:=af (show decide (gy l=gy m)=false by
    rw[IK];intro e;have h1:=Ao HX.oo.1;have h2:=Ao HX.oo.2;rw[e,h2]at h1;simp only[qM]at h1;exact hxy (by rw[<-qF.oo,<-Eg.oo,h1]))
   clear hxy;go_wp2_with fail;have p0:=cell_regrown p0;have q0:=cell_regrown q0;refine wp_region_quiet_below bM bM ?_
   repeat(go_big_quiet_step (fail))
   refine mW ?_;intro _ hw';obtain⟨⟨dq,dJ⟩,hw''⟩:=hw';subst hw'';have EQ:=below_regrown wr dq dJ;generalize grow (redrawn wr dq) dJ=W5 at*;have E:=aI E EQ;exact JQ
  obtain rfl:j=n:=ah
  have HZ:=af (show decide (gy l=gy m)=true by
   rw[dw];exact Xq (by rw[Cs,Cs,HN.oo,HM.oo]) fun k hk=>HJ.oo k (by rw[Cs,HN.oo]at hk;exact hk))
  exact JQ
 have HZ:=af (show decide (gy l=gy m)=false by rw[IK];intro e;have:=congrArg aBd e;rw[Cs,Cs]at this;exact yJ this)
 exact ad5
attribute [local go_sem high] ar3 aeE
theorem auL(l m:List bF)(a b:Option Addr)(c d:Nat)(w:aAX)(h1:cQ lM w a l)(h2:cQ lM w b m):
 aA7 prog 37 #[.slice a l.length c,.slice b m.length d] w (bg w (.bool (decide (l=m)))):=by
 by_cases yJ:l.length=m.length
 ·obtain⟨n,hn⟩:=aF l.length
  have hnn:n<=1000000000000000000:=by rw[<-hn];exact h1.len
  have HN:=af hn;have HM:=af (yJ.symm.trans hn);have H1:=af h1;have H2:=af h2;rw[hn];rw[HM.oo];clear hn yJ h1 h2;go_in;go_wp2_with fail
  go_loopw [5] (fun i wr=> ∃j:Nat,j<=n/\i= .int .i64 j/\aAW w.heap.size w wr/\Hid (∀k:Nat,k<j->l[k]? =m[k]?)) (fun i _=>n-(intOf i).toNat)
  ·exact ad4
  obtain⟨j,hj,rfl,E,HJ⟩:=hrel
  by_cases eX:j<n
  ·obtain⟨x,hx⟩: ∃x,l[j]? =some x:=⟨_,aV (by rw[HN.oo];exact eX)⟩
   obtain⟨y,hy⟩: ∃y,m[j]? =some y:=⟨_,aV (by rw[HM.oo];exact eX)⟩;obtain⟨r0,r1,r2,r3,r4⟩:=(H1.oo.below E).yN hx;obtain⟨s0,s1,s2,s3,s4⟩:=(H2.oo.below E).yN hy;have ix:=H1.oo.idx wY rR j (by rw[HN.oo];exact eX) c;have iy:=H2.oo.idx wY rR j (by rw[HM.oo];exact eX) d;rw[HN.oo]at ix;rw[HM.oo]at iy;have Mp:=af (aA6 hx hy);clear hx hy;have DD:decide (x=y)=true\/decide (x=y)=false:=by cases decide (x=y)<;>simp
   rcases DD with hd|hd
   ·have lP:(!decide (x=y))=false:=by rw[hd];rfl
    have mB:=af (show ∀k:Nat,k<j+1->l[k]? =m[k]? from fun k hk=>by
     rcases fO.1 hk with h|h
     ·exact HJ.oo k h
     subst h;rw[Mp.oo.1,Mp.oo.2,wB hd])
    go_wp2_with fail;have r0:=cell_regrown r0;have r1:=cell_regrown r1;have r2:=cell_regrown r2;have r3:=cell_regrown r3;have r4:=cell_regrown r4;have s0:=cell_regrown s0;have s1:=cell_regrown s1;have s2:=cell_regrown s2;have s3:=cell_regrown s3;have s4:=cell_regrown s4;refine wp_region_quiet_below bM bM ?_
    repeat(go_big_quiet_step (fail))
    refine mW ?_;intro _ hw';obtain⟨⟨dq,dJ⟩,hw''⟩:=hw';subst hw'';have EQ:=below_regrown wr dq dJ;generalize grow (redrawn wr dq) dJ=W6 at*;have E:=aI E EQ;clear r0 r1 r2 r3 r4 s0 s1 s2 s3 s4 EQ ix iy;go_wp2_with fail
    exact JP
   have lP:(!decide (x=y))=true:=by rw[hd];rfl
   have HZ:=af (show decide (l=m)=false by
    rw[IK];intro h1;have h3:=Mp.oo.1;have h4:=Mp.oo.2;rw[h1,h4]at h3;exact Ex hd (fU h3).symm)
   go_wp2_with fail;have r0:=cell_regrown r0;have r1:=cell_regrown r1;have r2:=cell_regrown r2;have r3:=cell_regrown r3;have r4:=cell_regrown r4;have s0:=cell_regrown s0;have s1:=cell_regrown s1;have s2:=cell_regrown s2;have s3:=cell_regrown s3;have s4:=cell_regrown s4;refine wp_region_quiet_below bM bM ?_
   repeat(go_big_quiet_step (fail))
   refine mW ?_;intro _ hw';obtain⟨⟨dq,dJ⟩,hw''⟩:=hw';subst hw'';have EQ:=below_regrown wr dq dJ;generalize grow (redrawn wr dq) dJ=W6 at*;have E:=aI E EQ;clear r0 r1 r2 r3 r4 s0 s1 s2 s3 s4 EQ ix iy;exact JQ
  obtain rfl:j=n:=ah
  have HZ:=af (show decide (l=m)=true by
   rw[dw];exact Xq (by rw[HN.oo,HM.oo]) fun k hk=>HJ.oo k (by rw[HN.oo]at hk;exact hk))
  exact JQ
 have HZ:=af (show decide (l=m)=false by rw[IK];intro e;exact yJ (congrArg aBd e))
 exact ad5
attribute [local go_sem high] Du
theorem aaQ{a b:List Nd}:fL a=fL b<->a.length=b.length/\ ∀(k:Nat) (x y:Nd),a[k]? =some x->b[k]? =some y->bO x=bO y:=by
 rw[Jm,Jm];constructor
 ·intro h
  have hl:=congrArg aBd h;simp only[eT]at hl;refine⟨hl,fun k x y hx hy=>?_⟩;have h2:(a.map bO)[k]? =(b.map bO)[k]? :=by rw[h]
  rw[jf,jf,hx,hy]at h2;simpa using h2
 rintro⟨hl,h⟩
 refine EG fun k=>?_
 rw[jf,jf];cases hx:a[k]? with
 | none=>
   have:=aat.1 hx;rw[mg ah]
 | some x=>
   have:=(bt.1 hx).1;obtain⟨y,hy⟩: ∃y,b[k]? =some y:=⟨_,aV ah⟩;rw[hy];simp[h k x y hx hy]
theorem aug: ∀(x y:Nd) (w:aAX),fZ w x->fZ w y->aA7 prog 92 #[vN x,vN y] w (Sf w (bO x=bO y)):=by
 intro x
 induction x using Nd.ind with
 |h x ih=>
 intro y w h1 h2;have A1:=al w (bY x);have x0:=rJ.new w x;have A2:=al (w.alloc (bY x)) (bY y);have y0:=rJ.new (w.alloc (bY x)) y;rw[gQ]at y0;have x0:=x0.below A2;have HA:=af (aI A1 A2);have HX:=af (h1.keep HA.oo);have HY:=af (h2.keep HA.oo);have vS:=af ih;clear h1 h2 A1 A2 ih;obtain⟨b1,eW⟩: ∃b,(x.kind != y.kind)=b:=⟨_,rfl⟩;obtain⟨b2,eG⟩: ∃b,(!decide (x.th=y.th))=b:=⟨_,rfl⟩;obtain⟨b3,jn⟩: ∃b,(x.val != y.val)=b:=⟨_,rfl⟩;obtain⟨b4,nR⟩: ∃b,((x.aP.length:Int) != y.aP.length)=b:=⟨_,rfl⟩;have HK:=af (show b1=false<->x.kind=y.kind by rw[<-eW];simp);have rM:=af (show b2=false<->x.th=y.th by rw[<-eG];simp);have ZZ:=af (show b3=false<->x.val=y.val by rw[<-jn];simp);have By:=af (show b4=false<->x.aP.length=y.aP.length by rw[<-nR];simp;omega);have HI:=af (alo (x:=x) (y:=y));go_in;go_upto_region 1 with(fail);generalize (w.alloc (bY x)).alloc (bY y)=W1 at*;obtain⟨p0,p1,p2,p3,p4,p5⟩:=x0.cells;obtain⟨q0,q1,q2,q3,q4,q5⟩:=y0.cells;have hx0:=x0.1;have hy0:=y0.1;have X0:=af x0;have Y0:=af y0;cases b1 with
 | true=>
   have HZ:=af (show ¬bO x=bO y from fun h=>by
    have:=(HI.oo.1 h).1;rw[<-HK.oo]at this;cases this)
   clear eG jn nR x0 y0;go_wp2_with fail
   (try go_simp)
   exact Aw
 | false=>
   cases b2 with
   | true=>
     have HZ:=af (show ¬bO x=bO y from fun h=>by
      have:=(HI.oo.1 h).2.1;rw[<-rM.oo]at this;cases this)
     clear jn nR x0 y0;go_wp2_with fail
     (try go_simp)
     exact Aw
   | false=>
     cases b3 with
     | true=>
       have HZ:=af (show ¬bO x=bO y from fun h=>by
        have:=(HI.oo.1 h).2.2.1;rw[<-ZZ.oo]at this;cases this)
       clear nR x0 y0;go_wp2_with fail
       (try go_simp)
       exact Aw
     | false=>
       cases b4 with
       | true=>
         have HZ:=af (show ¬bO x=bO y from fun h=>by
          have:=(aaQ.1 (HI.oo.1 h).2.2.2).1;rw[<-By.oo]at this;cases this)
         clear x0 y0;go_wp2_with fail
         (try go_simp)
         exact Aw
       | false=>
         have eL:=By.oo.1 rfl;have uk:=af eL
         have HB:=af (show bO x=bO y<-> ∀(k:Nat) (u v:Nd),x.aP[k]? =some u->y.aP[k]? =some v->bO u=bO v by
          rw[HI.oo,aaQ];exact⟨fun h=>h.2.2.2.2,fun h=>⟨HK.oo.1 rfl,rM.oo.1 rfl,ZZ.oo.1 rfl,eL,h⟩⟩)
         obtain⟨n,hn⟩:=aF x.aP.length;have HN:=af hn;have HM:=af (eL.symm.trans hn);have hnn:n<=1000000000000000000:=by rw[<-hn];exact HX.oo.els.len
         rw[HM.oo]at q5;rw[hn]at p5;rw[hn,HM.oo]at nR;clear eL hn x0 y0;go_wp2_with fail;clear p0 p1 p2 p3 p4 p5 q0 q1 q2 q3 q4 q5 eW eG jn nR
         go_loopw [5] (fun i wr=> ∃j:Nat,j<=n/\i= .int .i64 j/\aAW W1.heap.size W1 wr/\Hid (∀(k:Nat) (u v:Nd),k<j->x.aP[k]? =some u->y.aP[k]? =some v->bO u=bO v)) (fun i _=>n-(intOf i).toNat)
         ·exact⟨0,dW _,rfl,bS _ _,fun k u v hk=>absurd hk (iz k)⟩
         obtain⟨j,hj,rfl,E,HJ⟩:=hrel;obtain⟨p0,p1,p2,p3,p4,p5⟩:=(X0.oo.below E).cells;obtain⟨q0,q1,q2,q3,q4,q5⟩:=(Y0.oo.below E).cells;rw[HM.oo]at q5;rw[HN.oo]at p5
         by_cases eX:j<n
         ·obtain⟨u,hu⟩: ∃u,x.aP[j]? =some u:=⟨_,aV (by rw[HN.oo];exact eX)⟩
          obtain⟨v,hv⟩: ∃v,y.aP[j]? =some v:=⟨_,aV (by rw[HM.oo];exact eX)⟩;go_upto_region 6 with(fail);clear p0 p1 p2 p3 p4 p5 q0 q1 q2 q3 q4 q5;have ED:aAW W1.heap.size W1 (aBn wr):=jV E;obtain⟨p0,p1,p2,p3,p4,p5⟩:=(X0.oo.below ED).cells;obtain⟨q0,q1,q2,q3,q4,q5⟩:=(Y0.oo.below ED).cells;rw[HM.oo]at q5;rw[HN.oo]at p5;have Mq:=HX.oo.keep ED;have Ms:=HY.oo.keep ED;obtain⟨r0,r1,r2,r3,r4,r5⟩:=Mq.els.nd hu;obtain⟨s0,s1,s2,s3,s4,s5⟩:=Ms.els.nd hv;have ix:=Mq.els.idx qo nN j (by rw[HN.oo];exact eX) x.c;have iy:=Ms.els.idx qo nN j (by rw[HM.oo];exact eX) y.c;rw[HN.oo]at ix;rw[HM.oo]at iy;have CY:=af (fun(w2:aAX) (E2:aAW (aBn wr).heap.size (aBn wr) w2)=>vS.oo u (cV hu) v w2 ((Mq.gZ u (cV hu)).keep E2) ((Ms.gZ v (cV hv)).keep E2));have Mn:=af (aA6 hu hv);clear hu hv Mq Ms
          go_region_with (go_at_call 92;refine(CY.oo _ (bS _ _)).mono ?_;rintro e w2 ⟨bb,rfl,iP,E2⟩)
          all_goals
           have xM:=af iP;have E:=aI ED E2;clear p0 p1 p2 p3 p4 p5 q0 q1 q2 q3 q4 q5 r0 r1 r2 r3 r4 r5 s0 s1 s2 s3 s4 s5 ix iy iP E2 CY ED;cases bb with
           | true=>
             have mB:=af (show ∀(k:Nat) (u v:Nd),k<j+1->x.aP[k]? =some u->y.aP[k]? =some v->bO u=bO v from fun k u' v' hk hu hv=>by
              rcases fO.1 hk with h|h
              ·exact HJ.oo k u' v' h hu hv
              subst h
              rw[Mn.oo.1]at hu;rw[Mn.oo.2]at hv;cases hu;cases hv;exact xM.oo.1 rfl)
             go_wp2_with fail
             exact JP
           | false=>
             have HZ:=af (show ¬bO x=bO y from fun h=>by
              have:=HB.oo.1 h j u v Mn.oo.1 Mn.oo.2;have:=xM.oo.2 this;cases this)
             go_wp2_with fail
             (try go_simp)
             exact UZ
         have hjn:j=n:=ah
         have HZ:=af (show bO x=bO y from HB.oo.2 fun k u v hu hv=>HJ.oo k u v (by have:=(bt.1 hu).1;rw[HN.oo]at this;omega) hu hv);subst hjn;go_wp2_with fail
         (try go_simp)
         go_ret;exact⟨true,rfl,⟨fun _=>HZ.oo,fun _=>rfl⟩,aI HA.oo E⟩
end Go.Proofs.YtkbbgjloifmmbaaGreatDoor
