/- What ReadBlanksP leans on, part 15. -/
import Derived.Test.YtkbbgjloifmmbaaGreatDoorPc13
import Derived.Test.YtkbbgjloifmmbaaGreatDoorPc11
import Derived.Test.YtkbbgjloifmmbaaGreatDoorPc12
import Derived.Lib.FieldsP
import Derived.Lib.SpaceUEq
set_option linter.unusedVariables false
set_option maxRecDepth 100000
set_option maxHeartbeats 6400000
open _root_.Go.Proofs.Tryz
open _root_.List renaming cons_append->aod,length_cons->ans,drop_eq_getElem_cons->aoI,drop_append_of_le_length->aoJ,getElem?_eq_some_iff->anx,getElem?_eq_getElem->am9,takeWhile_cons->aom,nil_append->anu,take_succ_cons->aoM,getElem?_eq_none->anI,length_drop->aoN,drop_eq_nil_of_le->anj,all_eq_true->anF,append_nil->aoQ,drop_length->aob,length_tail->aoS,take_append_drop->aoT,take_append_of_le_length->aoU,getLast?_eq_some_getLast->aol,length->anO,length_append->aoW,mem_singleton->aoi,all_takeWhile->aoX,map_cons->aoY,take_add->aoZ,take_length->ao0,append_inj'->aot,getElem?_take_of_lt->ao1,length_take->ao2,map_append->ao3,head?_drop->ao4,mem_iff_getElem?->anJ,mem_cons->anE,dropWhile_cons->anV,getElem?_drop->ao5,map_nil->ao6,length_nil->apa,head?_cons->aoh
open _root_.Nat renaming le_refl->anb,lt_or_ge->ani,lt_succ_iff_lt_or_eq->anv,not_lt_zero->anC,add_comm->ao8
open _root_.Bool renaming false_eq_true->aoK,false_or->aoO,and_eq_true->anS,eq_false_iff->ao9,eq_iff_iff->an8
open _root_.Go.Lib renaming hasPrefix->aoL,itoa->aoe,atoiAll->aoq,closeSpans->aoR,spansFromP->aoV,decDigits->aoc,atoiAll_bounds->ao7
open _root_.Go.Utf8 renaming decode->aoP
open _root_.List.cons renaming injEq->aow
open _root_.Option renaming any_some->apb
namespace Go.Proofs.YtkbbgjloifmmbaaGreatDoor
variable{a af b q v:Int}{l:List Nd}{L:List Tx}{j k n:Nat}{x:Nd}{S r s sign u w:Tx}{c:UInt8}
def zB(b:UInt8):Bool:=Hv b||(b==58||b==61)
def F0(r:Tx):Prop:= ∀c∈r.head?,zB c=false
theorem F0.nil:F0 []:=fun c h=>by simp at h
theorem F0.cons(h:zB c=false):F0 (c::r):=fun d hd=>by
 simp at hd;subst hd;exact h
def F2(r:Tx):Prop:=F0 r/\ ∀t,r≠32::47::t
def F1(r:Tx):Prop:=F0 r/\r.head?≠some 32
theorem F1.two(h:F1 r):F2 r:=⟨h.1,fun t e=>h.2 (by rw[e];rfl)⟩
theorem F1.nil:F1 []:=⟨F0.nil,by simp⟩
theorem F1.cons(h:zB c=false)(h2:c≠32):F1 (c::r):=⟨F0.cons h,by simpa using h2⟩
theorem F2.tail(K:List Nd){q:Tx}(hq:F2 q):F0 (tM af true NR K++q):=by
 cases K with
 |nil=>rw[ZA];exact hq.1
 |cons z K=>rw[Zz];simp only[NR,aod];exact F0.cons (by decide)
theorem F1.tail(K:List Nd){q:Tx}(hq:F1 q):F2 (tM af false NS K++q):=by
 cases K with
 |nil=>rw[ZA];exact hq.two
 |cons z K=>rw[Zz];simp only[NS,aod];exact⟨F0.cons (by decide),fun t e=>by simp at e⟩
def dh(af:Int)(s:Tx):Option Nat:=(List.range (dO af).toNat).find? fun n=>ek af n==s
def cy:Tx->Nat
 |[]=>0
 | c::r=>
   if cg c then 1+(r.takeWhile cP).length
   else if aD c||(c==45&&(r.head?.any aD))then 1+(r.takeWhile aD).length
   else if(c==47&&r.head?==some 92)||(c==92&&r.head?==some 47)then 2 else 1
abbrev Tok:=Tx × Nat
def jA:Nat->Nat->Tx->List Tok
 |0,_,_=>[]
 |_+1,_,[]=>[]
 |n+1,p,c::r=>if aq c then jA n (p+1) r else((c::r).take (cy (c::r)),p)::jA n (p+cy (c::r)) ((c::r).drop (cy (c::r)))
def lex(p:Nat)(s:Tx):List Tok:=jA s.length p s
theorem kD(c:UInt8)(r:Tx):cy (c::r)=if cg c then 1+(r.takeWhile cP).length
 else if aD c||(c==45&&(r.head?.any aD))then 1+(r.takeWhile aD).length
 else if(c==47&&r.head?==some 92)||(c==92&&r.head?==some 47)then 2 else 1:=rfl
theorem nJ(c:UInt8)(r:Tx):1<=cy (c::r):=by
 rw[kD];split
 ·omega
 split
 ·omega
 split<;>omega
theorem pM{α:Type}(p:α->Bool)(l:List α):(l.takeWhile p).length<=l.length:=by
 have:=congrArg anO (List.takeWhile_append_dropWhile (p:=p) (l:=l));rw[aoW]at this;omega
theorem tC(c:UInt8)(r:Tx):cy (c::r)<=r.length+1:=by
 rw[kD];have h1:=pM cP r;have h2:=pM aD r;split
 ·omega
 split
 ·omega
 split
 ·rename_i h
  cases r with
  |nil=>simp at h
  |cons d r=>simp
 omega
theorem Mj: ∀(n m p:Nat) (s:Tx),s.length<=n->s.length<=m->jA n p s=jA m p s
 |0,0,_,_,_,_=>rfl
 |0,m+1,p,[],_,_=>rfl
 |0,_+1,_,_::_,h,_=>absurd h (by simp)
 |n+1,0,p,[],_,_=>rfl
 |_+1,0,_,_::_,_,h=>absurd h (by simp)
 |n+1,m+1,p,[],_,_=>rfl
 | n+1,m+1,p,c::r,h1,h2=>by
   have hp:=nJ c r;simp only[ans]at h1 h2;show(if aq c then jA n (p+1) r else _::jA n _ _)=(if aq c then jA m (p+1) r else _::jA m _ _);rw[Mj n m (p+1) r (by omega) (by omega),Mj n m (p+cy (c::r)) ((c::r).drop (cy (c::r))) ah ah]
theorem lex_nil(p:Nat):lex p []=[]:=rfl
theorem yD(p:Nat)(r:Tx)(h:aq c=true):lex p (c::r)=lex (p+1) r:=by
 show(if aq c then jA r.length (p+1) r else _)=_;rw[if_pos h];rfl
theorem Cm(p:Nat)(r:Tx)(h:aq c=false):lex p (c::r)=((c::r).take (cy (c::r)),p)::lex (p+cy (c::r)) ((c::r).drop (cy (c::r))):=by
 show(if aq c then _ else _::jA r.length _ _)=_;rw[if_neg (by rw[h];decide)];have hp:=nJ c r
 congr 1
 exact Mj _ _ _ _ ah (by simp)
theorem Ck: ∀(n p:Nat) (s:Tx),s.length<=n->(lex p s).length<=s.length
 |_,p,[],_=>by rw[lex_nil];simp
 |0,_,_::_,h=>absurd h (by simp)
 | n+1,p,c::r,h=>by
   simp only[ans]at h;cases hb:aq c with
   |true=>rw[yD p r hb];have:=Ck n (p+1) r (by omega);simp;omega
   | false=>
     rw[Cm p r hb];have hp:=nJ c r;have:=Ck n (p+cy (c::r)) ((c::r).drop (cy (c::r))) ah;simp only[ans,aoN]at this ⊢; omega
abbrev PR(α:Type):=Except (List Tok) (α × List Tok)
def au:List Tok->Tx
 |[]=>[]
 |t::_=>t.1
def bg(s:Tx):List Tok->Except (List Tok) (List Tok)
 |[]=>.error []
 |t::r=>if t.1=s then .ok r else .error (t::r)
def jM(a b:Int):List Tok->PR Int
 |[]=>.error []
 | t::r=>match aU t.1 with
   |some n=>if a<=n/\n<=b then .ok (n,r)else .error (t::r)
   |none=>.error (t::r)
def iL:List Tok->PR Tx
 |[]=>.error []
 |t::r=>if aC t.1 then .ok (t.1,r)else .error (t::r)
def qz:Tx->Bool
 |[]=>false
 |c::_=>aD c||c==45
def eY(af:Int)(l:List Tok):PR Th:=
 if au l=[91]then
  match iL l.tail with
  | .error e=>.error e
  | .ok (x,r)=>match bg [93] r with
    | .error e=>.error e
    | .ok r=>.ok (⟨-1,0,x⟩,r)
 else if qz (au l)then
  match jM 0 15 l with
  | .error e=>.error e
  | .ok (n,r)=>match bg [58] r with
    | .error e=>.error e
    | .ok r=>match dh af (au r)with
      |none=>.error r
      |some k=>.ok (⟨n,k,[]⟩,r.tail)
 else match iL l with
  | .error e=>.error e
  | .ok (x,r)=>.ok (⟨-1,0,x⟩,r)
def uN(k:Int)(l:List Nd):Nd:=.mk k bT 0 none 0 l
def js(af:Int)(l:List Tok):PR Nd:=
 match eY af l with
 | .error e=>.error e
 | .ok (t,r)=>match bg [61] r with
   | .error e=>.error e
   | .ok r=>match jM (-2147483648) 2147483647 r with
     | .error e=>.error e
     | .ok (v,r)=>.ok (.mk 2 t v none 0 [],r)
def Cx(k:Int):List Nd->Nd
 |[x]=>x
 |l=>uN k l
def jj(k:Int)(sign:Tx)(one:List Tok->PR Nd):Nat->List Nd->List Tok->PR Nd
 |0,acc,l=>.ok (Cx k acc,l)
 | n +1,acc,l=>if au l=sign then
     match one l.tail with
     | .error e=>.error e
     | .ok (x,r)=>jj k sign one n (acc++[x]) r
   else .ok (Cx k acc,l)
def iw(k:Int)(sign:Tx)(one:List Tok->PR Nd)(l:List Tok):PR Nd:=
 match one l with
 | .error e=>.error e
 | .ok (x,r)=>jj k sign one r.length [x] r
def gY(one:List Tok->PR Nd)(l:List Tok):PR Nd:=iw 5 [92,47] (iw 4 [47,92] one) l
def bV(af:Int):Nat->List Tok->PR Nd
 |0,l=>.error l
 | n+1,l=>
   if au l=[126]then
    match bV af n l.tail with
    | .error e=>.error e
    | .ok (x,r)=>.ok (uN 3 [x],r)
   else if au l=[40]then
    match gY (bV af n) l.tail with
    | .error e=>.error e
    | .ok (x,r)=>match bg [41] r with
      | .error e=>.error e
      | .ok r=>.ok (x,r)
   else if au l=[116,114,117,101]/\au l.tail≠[61]then .ok (uN 1 [],l.tail)
   else js af l
def gW(l:List Tok):PR Int:=
 if au l=[102,111,114,97,108,108]then .ok (3,l.tail)
 else if au l=[126]then
  match bg [101,120,105,115,116,115] l.tail with
  | .error e=>.error e
  | .ok r=>.ok (2,r)
 else match bg [101,120,105,115,116,115] l with
  | .error e=>.error e
  | .ok r=>.ok (1,r)
def gy(af:Int)(l:List Tok):Except (List Tok) (Int × Nd):=
 match gW l with
 | .error e=>.error e
 | .ok (q,l)=>match bg [40] l with
   | .error e=>.error e
   | .ok l=>match gY (bV af (l.length+1)) l with
     | .error e=>.error e
     | .ok (x,l)=>match bg [41] l with
       | .error e=>.error e
       | .ok l=>if l=[]then .ok (q,x)else .error l
def cJ(af:Int)(s:Tx):Except (Int × Nat) (Int × Nd):=
 if bF af=false then .error (5,0)
 else if 262144<s.length then .error (2,0)
 else match gy af (lex 0 s)with
  | .error e=>.error (80,(e.head?.map (·.2)).getD s.length)
  | .ok (q,x)=>if cV af q x=0 then .ok (q,x)else .error (cV af q x,0)
def ax(r:Tx):Tx:=r.dropWhile aq
def aK(u:Tx):Tx:=cr (u.takeWhile (· != 10))
def bE(u:Tx):Tx:=(u.dropWhile (· != 10)).drop 1
def nb(c:UInt8):Bool:= !aq c
def qJ(l:Tx):Option (Tx × Tx):=
 let m:=(l.dropWhile nb).dropWhile aq
 if m=[]\/m.any aq=true then none else some (l.takeWhile nb,m)
def vz(w:Tx):Option Int:=if w=[88,56,54]then some 1 else if w=[82,73,83,67,86]then some 2 else none
abbrev EP(α:Type):=Except (Int × Nat) α
def bJ(N:Nat)(u:Tx):Nat:=N-u.length
def fP(N:Nat)(r:Tx):EP (Int × Tx × Tx):=
 let u:=ax r
 match qJ (aK u)with
 |none=>.error (140,bJ N u)
 | some (w,n)=>match vz w with
   |none=>.error (5,bJ N u)
   |some a=>.ok (a,n,bE u)
def eH(N:Nat)(r:Tx):EP (Tx × Tx):=
 let u:=ax r
 let l:=aK u
 if l.head?≠some 34 then .ok ([],r)
 else if l.length<2\/l.getLast?≠some 34\/l.count 34≠2 then .error (140,bJ N u)
 else .ok (ak (l.drop 1).dropLast,bE u)
def kK(af:Int)(h:Tx):Option aL:=
 if h.head?=some 91/\h.getLast?=some 93/\2<=h.length then
  (if aC (ak (h.drop 1).dropLast)=true then some ⟨-1,0,ak (h.drop 1).dropLast,[],0⟩else none)
 else if(58:UInt8)∈h then
  match aU (ak (h.takeWhile (· != 58))),dh af (ak ((h.dropWhile (· != 58)).drop 1))with
  |some n,some r=>if 0<=n/\n<16 then some ⟨n,r,[],[],0⟩else none
  |_,_=>none
 else if aC h=true then some ⟨-1,0,h,[],0⟩else none
def eG(v:Tx):Option (Tx × Int):=match aU v with
 |some n=>some ([],n)
 |none=>if aC v=true then some (v,0)else none
def nG(o:Option aL)(v:Option (Tx × Int)):Option aL:=match o,v with
 |some x,some (l,n)=>some ⟨x.thread,x.az,x.loc,l,n⟩
 |_,_=>none
theorem uH(o:Option aL):nG o none=none:=by cases o<;>rfl
theorem mL(v:Option (Tx × Int)):nG none v=none:=rfl
def fR(af:Int)(s:Tx):Option aL:=
 if 262144<s.length\/(61:UInt8)∉s then none
 else nG (kK af (ak (s.takeWhile (· != 61)))) (eG (ak ((s.dropWhile (· != 61)).drop 1)))
def gF(af:Int)(N:Nat):List Tx->Tx->List aL->EP (List aL)
 |[],_,acc=>.ok acc
 | p::L,v,acc=>
   if ak p=[]then gF af N L (v.drop (p.length+1)) acc
   else match fR af p with
    |none=>.error (140,bJ N (ax v))
    |some x=>gF af N L (v.drop (p.length+1)) (acc++[x])
def eM(af:Int)(N:Nat)(r:Tx):EP (List aL × Tx):=
 let u:=ax r
 if u.head?≠some 123\/(125:UInt8)∉u then .error (140,bJ N u)
 else match gF af N (aH 59 ((u.takeWhile (· != 125)).drop 1)) (u.drop 1) []with
  | .error e=>.error e
  | .ok l=>.ok (l,(u.dropWhile (· != 125)).drop 1)
def eE(u:Tx):Bool:=(aK u).getLast?==some 59
def fh(u:Tx):List Tx:=aH 124 (aK u).dropLast
def mM(af:Int)(s:Tx):Option ay:=if af=1 then dY s else fT s
def dn(af:Int)(N:Nat):List Tx->Tx->List (List ay)->EP (List (List ay))
 |[],_,acc=>.ok acc
 |c::L,v,[]=>.ok []
 | c::L,v,x::acc=>
   if ak c=[]then match dn af N L (v.drop (c.length+1)) acc with
    | .error e=>.error e
    | .ok r=>.ok (x::r)
   else match mM af (ak c)with
    |none=>.error (91,bJ N (ax v))
    | some i=>match dn af N L (v.drop (c.length+1)) acc with
      | .error e=>.error e
      | .ok r=>.ok ((x++[i])::r)
def jC(af:Int)(N:Nat):Nat->Tx->List (List ay)->EP (List (List ay) × Tx)
 |0,r,acc=>.ok (acc,r)
 | n+1,r,acc=>
   let u:=ax r
   if eE u=false then .ok (acc,r)
   else if(fh u).length≠acc.length then .error (140,bJ N u)
   else match dn af N (fh u) u acc with
    | .error e=>.error e
    | .ok l=>jC af N n (bE u) l
def rD(l:List Tx):Bool:=l.mapIdx (fun i c=>decide (ak c=80::aoe (i:Int))) |>.all id
def eR(af:Int)(N:Nat)(r:Tx):EP (List (List ay) × Tx):=
 let u:=ax r
 if eE u=false\/rD (fh u)=false then .error (140,bJ N u)
 else jC af N (r.length+1) (bE u) (List.replicate (fh u).length [])
def gL(af:Int)(N:Nat)(r:Tx):EP (Int × Nd):=
 let u:=ax r
 match cJ af u with
 | .ok c=>.ok c
 | .error (e,k)=>.error (e,if e=2 then 0 else bJ N u+k)
def pH(af:Int)(name bD:Tx)(init:List aL)(code:List (List ay))(q:Int)(x:Nd):aG:=⟨af,name,bD,none,0,init,none,0,code.map fun l=>⟨none,0,l⟩,q,x⟩
def lz(N:Nat)(s:Tx):EP aG:=do
 let (a,n,r) <-fP N s
 let (c,r) <-eH N r
 let (i,r) <-eM a N r
 let (l,r) <-eR a N r
 let (q,x) <-gL a N r
 .ok (pH a n c i l q x)
def fq(s:Tx):EP aG:=
 if 262144<s.length then .error (2,0)
 else match lz s.length s with
  | .error e=>.error e
  | .ok t=>if cQ t=0 then .ok t else .error (cQ t,0)
def aO(s:Tx):List Tx:=(lex 0 s).map (·.1)
theorem Mk: ∀(n p q:Nat) (s:Tx),(jA n p s).map (·.1)=(jA n q s).map (·.1)
 |0,_,_,_=>rfl
 |n+1,_,_,[]=>rfl
 | n+1,p,q,c::r=>by
   show(if aq c then jA n (p+1) r else _::jA n _ _).map (·.1)=(if aq c then jA n (q+1) r else _::jA n _ _).map (·.1);split
   ·exact Mk n _ _ r
   simp only[aoY];rw[Mk n (p+cy (c::r)) (q+cy (c::r))]
theorem Gn(p:Nat)(s:Tx):(lex p s).map (·.1)=aO s:=Mk _ _ _ _
theorem yC:aO []=[]:=rfl
theorem qy(r:Tx)(h:aq c=true):aO (c::r)=aO r:=by rw[aO,yD 0 r h,Gn]
theorem oC(r:Tx)(h:aq c=false):aO (c::r)=(c::r).take (cy (c::r))::aO ((c::r).drop (cy (c::r))):=by
 rw[aO,Cm 0 r h,aoY,Gn]
def vO(c:UInt8):Bool:=c==61||c==58||c==91||c==93
theorem KC(h:vO c=true):aq c=false/\cP c=false/\aD c=false/\cg c=false/\c≠45/\c≠47/\c≠92:=by
 have k:=tP (p:=fun c=> !vO c||(!aq c&& !cP c&& !aD c&& !cg c&&c != 45&&c != 47&&c != 92)) dx c;rw[h]at k;simpa[and_assoc]using k
theorem afu(r:Tx)(h:vO c=true):cy (c::r)=1:=by
 obtain⟨h1,h2,h3,h4,h5,h6,h7⟩:=KC h;rw[kD];simp[h3,h4,h5,h6,h7]
theorem wV{p:UInt8->Bool}{c:UInt8}(h:p c=false)(B:Tx): ∀A:Tx,(A++c::B).takeWhile p=A.takeWhile p
 |[]=>by simp[h]
 | x::A=>by
   rw[aod,aom,aom,wV h B A]
theorem afv{x:UInt8}(A B:Tx)(h:vO c=true):cy (x::A++c::B)=cy (x::A):=by
 obtain⟨h1,h2,h3,h4,h5,h6,h7⟩:=KC h;rw[aod];rw[kD,kD];rw[wV h2,wV h3];cases A with
 |nil=>simp[h3,h6,h7]
 |cons y A=>simp
theorem wE: ∀(n:Nat) (A B:Tx) {c:UInt8},A.length<=n->vO c=true->aO (A++c::B)=aO A++[c]::aO B
 | _,[],B,c,_,h=>by
   rw[anu,oC _ (KC h).1,afu _ h];rfl
 |0,_::_,_,_,hn,_=>absurd hn (by simp)
 | n+1,x::A,B,c,hn,h=>by
   simp only[ans]at hn;cases hb:aq x with
   |true=>rw[aod,qy _ hb,qy _ hb,wE n A B (by omega) h]
   | false=>
     have hp:=nJ x A;have hle:=tC x A;have e:=afv (x:=x) A B h;rw[aod]at e⊢;rw[oC _ hb,oC _ hb,e,<-aod,aoU ah,aoJ ah,wE n _ B ah h,aod]
theorem wD: ∀(n:Nat) (A B:Tx),A.length<=n->(∀c∈B,aq c=true)->aO (A++B)=aO A
 |_,[],[],_,_=>rfl
 |n,[],c::B,hn,h=>by rw[anu,qy _ (h c (by simp))];exact wD n [] B hn (fun d hd=>h d (by simp[hd]))
 |0,_::_,_,hn,_=>absurd hn (by simp)
 |n+1,x::A,[],hn,h=>by rw[aoQ]
 | n+1,x::A,c::B,hn,h=>by
   simp only[ans]at hn;have hc:=h c (by simp)
   have hno:cP c=false/\aD c=false/\c≠47/\c≠92:=by
    have k:=tP (p:=fun c=> !aq c||(!cP c&& !aD c&&c != 47&&c != 92)) dx c;rw[hc]at k;simpa[and_assoc]using k
   cases hb:aq x with
   |true=>rw[aod,qy _ hb,qy _ hb,wD n A _ (by omega) h]
   | false=>
     have hp:=nJ x A;have hle:=tC x A
     have e:cy (x::(A++c::B))=cy (x::A):=by
      rw[kD,kD];rw[wV hno.1,wV hno.2.1];cases A with
      |nil=>simp[hno.2.1,hno.2.2.1,hno.2.2.2]
      |cons y A=>simp
     rw[aod,oC _ hb,oC _ hb,e,<-aod,aoU ah,aoJ ah,wD n _ _ ah h]
theorem Ci: ∀l:Tx,aO (l.dropWhile aq)=aO l
 |[]=>rfl
 | c::r=>by
   rw[anV];split
   ·rename_i h;rw[Ci r,qy _ h]
   rfl
theorem uK(l:Tx):aO (ak l)=aO l:=by
 obtain⟨b,h1,h2⟩:=mQ l;rw[tN,Ci]
 conv=>rhs;rw[h1]
 exact(wD _ _ _ (anb _) h2).symm
theorem Gk: ∀{s:Tx},aO s=[]-> ∀c∈s,aq c=true
 |[],_,c,hc=>by cases hc
 | x::s,h,c,hc=>by
   cases hb:aq x with
   | true=>
     rw[qy _ hb]at h;rcases anE.1 hc with rfl|hc
     ·exact hb
     exact Gk h c hc
   |false=>rw[oC _ hb]at h;cases h
theorem VF(h: ∀c,s.head?=some c->aq c=false)(hw:aO s=w::L): ∃r,s=w++r/\aO r=L/\w≠[]:=by
 cases s with
 |nil=>cases hw
 | cons c r=>
   rw[oC _ (h c rfl),aow]at hw;refine⟨_,by rw[<-hw.1];exact(aoT _ _).symm,hw.2,?_⟩;rw[<-hw.1];have:=nJ c r;cases hk:cy (c::r)with
   |zero=>omega
   |succ k=>simp
theorem Cj{a:Tx}(h:Tr s)(hw:aO s=[a]):s=a:=by
 obtain⟨r,rfl,hr, -⟩:=VF h.1 hw;rw[Q4 h.2 (Gk hr),aoQ]
theorem Mn: ∀(n:Nat) (s:Tx),s.length<=n-> ∀w∈aO s,∀c∈w,c∈s
 |_,[],_,w,hw,_,_=>by cases hw
 |0,_::_,hn,_,_,_,_=>absurd hn (by simp)
 | n+1,x::s,hn,w,hw,c,hc=>by
   simp only[ans]at hn;cases hb:aq x with
   |true=>rw[qy _ hb]at hw;exact List.mem_cons_of_mem _ (Mn n s (by omega) w hw c hc)
   | false=>
     have hp:=nJ x s;rw[oC _ hb]at hw;rcases anE.1 hw with rfl|hw
     ·exact List.mem_of_mem_take hc
     exact List.mem_of_mem_drop (Mn n _ ah w hw c hc)
theorem Gm(hw:w∈aO s)(hc:c∈w):c∈s:=Mn _ s (anb _) w hw c hc
theorem Mp(h0:s≠[])(hb: ∀c,s.head?=some c->aq c=false)(h:cy s=s.length):aO s=[s]:=by
 cases s with
 |nil=>exact absurd rfl h0
 | cons c r=>
   rw[oC _ (hb c rfl),h];simp[yC]
theorem afe(h:cg c=true):aq c=false:=by
 have k:=tP (p:=fun c=> !cg c|| !aq c) dx c;rw[h]at k;simpa using k
theorem al9(h: ∃c r,s=c::r/\cg c=true)(h2: ∀b∈s,cP b=true):aO s=[s]:=by
 obtain⟨c,r,rfl,hc⟩:=h;refine Mp (by simp) (fun d hd=>by simp at hd;subst hd;exact afe hc) ?_;rw[kD];rw[if_pos hc,(zG (fun b hb=>h2 b (by simp[hb]))).1,ans];omega
theorem MD(h:aC s=true):aO s=[s]:=al9 (MC h) (Wk h)
theorem JZ(h:aD c=true):aq c=false/\cg c=false/\c≠45:=by
 have k:=tP (p:=fun c=> !aD c||(!aq c&& !cg c&&c != 45)) dx c;rw[h]at k;simpa[and_assoc]using k
theorem Vt(n:Int):aO (aoe n)=[aoe n]:=by
 unfold aoe;split
 ·have h1:=uk n.natAbs
  have h2:=Fj (od n.natAbs);generalize aoc n.natAbs=d at*;refine Mp (by simp) (fun c hc=>by simp at hc;subst hc;rfl) ?_;cases d with
  |nil=>exact absurd rfl h1
  | cons c r=>
    rw[anF]at h2;have h3:(c::r).takeWhile aD=c::r:=(zG h2).1;have h4:=h2 c (by simp);rw[kD];rw[if_neg (by decide),if_pos (by simp[h4]),h3];simp;omega
 have h1:=uk n.toNat
 have h2:=Fj (od n.toNat);generalize aoc n.toNat=d at*;cases d with
 |nil=>exact absurd rfl h1
 | cons c r=>
   rw[anF]at h2;have h4:=h2 c (by simp);obtain⟨b1,b2,b3⟩:=JZ h4;refine Mp (by simp) (fun d hd=>by simp at hd;subst hd;exact b1) ?_;have h3:r.takeWhile aD=r:=(zG (fun b hb=>h2 b (by simp[hb]))).1;rw[kD];rw[if_neg (by simp[b2]),if_pos (by simp[h4]),h3];simp;omega
theorem Df(h:dh af s=some n):(n:Int)<dO af/\s=ek af n:=by
 unfold dh at h;have h1:=List.find?_some h;have h2:=List.mem_range.1 (List.mem_of_find?_eq_some h);exact⟨by omega,(by simpa using h1:ek af n=s).symm⟩
theorem Yt(h:(n:Int)<dO af):aO (ek af n)=[ek af n]:=by
 have h1: ∀n:Fin 15,aO (cI n.val)=[cI n.val]:=dx;have h2: ∀n:Fin 32,aO (iu n.val)=[iu n.val]:=dx;unfold ek dO at*;split
 ·rename_i e;rw[if_pos e]at h;exact h1 ⟨n,by omega⟩
 rename_i e;rw[if_neg e]at h;exact h2 ⟨n,by omega⟩
def lO(af:Int):List Tx->Option aL
 |[a]=>if aC a=true then some ⟨-1,0,a,[],0⟩else none
 | [a,b,c]=>if a=[91]/\c=[93]/\aC b=true then some ⟨-1,0,b,[],0⟩
   else if b=[58]then(match aU a,dh af c with
    |some n,some r=>if 0<=n/\n<16 then some ⟨n,r,[],[],0⟩else none
    |_,_=>none)
   else none
 |_=>none
theorem Dr(af:Int)(a b c:Tx):lO af [a,b,c]=if a=[91]/\c=[93]/\aC b=true then some ⟨-1,0,b,[],0⟩
 else if b=[58]then(match aU a,dh af c with
  |some n,some r=>if 0<=n/\n<16 then some ⟨n,r,[],[],0⟩else none
  |_,_=>none)
 else none:=rfl
theorem agf:aU [58]=none:=dx
theorem agh:aU [61]=none:=dx
theorem WA:aU [91]=none:=dx
theorem al6(h:Tr s):eG s=match aO s with
 |[a]=>eG a
 |_=>none:=by
 cases hr:eG s with
 | some n=>
   have e:aO s=[s]:=by
    unfold eG at hr;cases hn:aU s with
    |some v=>obtain⟨rfl, -⟩:=nK.1 hn;exact Vt v
    | none=>
      rw[hn]at hr;simp only at hr
      split at hr
      ·rename_i hh;exact MD hh
      cases hr
   rw[e];exact hr.symm
 | none=>
   split
   ·rename_i a e;rw[<-Cj h e];exact hr.symm
   rfl
theorem afg{m:Tx}{z:UInt8}(hz:aq z=false)(hc:vO c=true)(h:aO (m++[z])=L++[[c]]):z=c/\aO m=L:=by
 have key: ∀(n:Nat) (m:Tx),m.length<=n-> ∃K w,aO (m++[z])=K++[w++[z]]:=by
  intro n
  induction n with
  | zero=>
    intro m hm;obtain rfl:=List.length_eq_zero_iff.1 (by omega:m.length=0);refine⟨[],[],?_⟩;rw[anu,oC _ hz];have h1:=nJ z [];have h2:=tC z [];rw[show cy [z]=1 by simp at h2;omega];rfl
  | succ n ih=>
    intro m hm;cases m with
    |nil=>exact ih [] (by simp)
    | cons x m=>
      simp only[ans]at hm;rw[aod];cases hb:aq x with
      |true=>rw[qy _ hb];exact ih m (by omega)
      | false=>
        have hp:=nJ x (m++[z]);have hle:=tC x (m++[z]);rw[oC _ hb];obtain⟨k,hk⟩:=aj (cy (x::(m++[z])));rw[hk]at hp hle⊢;rw[<-aod];rcases ani (x::m).length k with h1|h1
        ·have:k=(x::m++[z]).length:=by simp at hle h1 ⊢; omega
         refine⟨[],x::m,?_⟩;rw[this,ao0,aob];rfl
        obtain⟨K,w,e⟩:=ih ((x::m).drop k) ah
        refine⟨(x::m++[z]).take k::K,w,?_⟩;rw[aoJ h1,e];rfl
 cases hh:vO z with
 | true=>
   have e:=wE _ m [] (anb _) hh;rw[show m++z::[]=m++[z]from rfl,h]at e;have:=aot (show L++[[c]]=aO m++[[z]]from e) rfl;exact⟨by simpa using this.2.symm,this.1.symm⟩
 | false=>
   obtain⟨K,w,e⟩:=key _ m (anb _);rw[h]at e;have:=(aot e rfl).2;have e4:[]++[c]=w++[z]:=by simpa using this
   have e5:=(aot e4 rfl).2;simp only[aow,and_true]at e5;rw[e5]at hc;rw[hc]at hh;cases hh
theorem alv(af:Int)(h:Tr s):kK af s=lO af (aO s):=by
 unfold kK
 by_cases rC:s.head?=some 91/\s.getLast?=some 93/\2<=s.length
 ·rw[if_pos rC]
  obtain⟨h1,h2,h3⟩:=rC;have e:=We h3 h1 h2;generalize (s.drop 1).dropLast=m at*;subst e
  have e2:aO (91::(m++[93]))=[91]::(aO m++[[93]]):=by
   have:=wE 0 [] (m++[93]) (c:=91) (by simp) (by decide);rw[anu]at this;rw[this,show m++[93]=m++93::[]from rfl,wE _ m [] (anb _) (by decide)];rfl
  rw[e2];split
  ·rename_i hn
   rw[<-uK m,MD hn];show _=if _ then _ else _
   rw[if_pos ⟨rfl,rfl,hn⟩]
  rename_i hn
  have hl:=uK m;generalize aO m=M at*
  match M with
  |[]=>rfl
  | [b]=>
    have ht:ak m=b:=Cj (Tr.trim m) hl;show none=if _ then _ else _
    rw[if_neg (by rintro⟨-, -, hb⟩;rw[ht]at hn;exact hn hb)];split
    ·rw[WA]
    rfl
  |_::_::t=>cases t<;>rfl
 rw[if_neg rC]
 by_cases qh:(58:UInt8)∈s
 ·rw[if_pos qh]
  obtain⟨A,B,e,hA⟩:=xT 58 _ qh;obtain⟨k1,k2⟩:=zH 58 B A hA;rw[<-e]at k1 k2;have e2:aO s=aO (ak A)++[58]::aO (ak B):=by rw[e,wE _ A B (anb _) (by decide),uK,uK]
  rw[k1,k2,e2];simp only[List.drop_one,List.tail_cons];have hno:([58]:Tx)∉aO (ak A):=fun hm=>hA (Dt (Gm hm (by simp)))
  cases hn:aU (ak A)with
  | none=>
    have t1:=fun a (e:aO (ak A)=[a])=>Cj (Tr.trim A) e
    generalize aO (ak A)=P at*;generalize aO (ak B)=Q at*
    match P,Q with
    |[],[]=>rfl
    |[],[_]=>rfl
    | [],[b,c]=>
      show none=lO af [[58],b,c];rw[Dr,if_neg (by rintro⟨e, -⟩;cases e),agf]
      split<;>rfl
    |[],_::_::_::_=>rfl
    |[a],[]=>rfl
    | [a],[c]=>
      show none=if _ then _ else _
      rw[if_neg (by rintro⟨-, -, e⟩;cases e),if_pos rfl,<-t1 a rfl,hn]
    |[a],_::_::_=>rfl
    | [a,b],[]=>
      show none=if _ then _ else _
      rw[if_neg (by rintro⟨-, e, -⟩;cases e),if_neg (fun e=>hno (by simp[e]))]
    |[a,b],_::_=>rfl
    |_::_::_::t,Q=>cases t<;>cases Q<;>rfl
  | some n=>
    have eA:aO (ak A)=[ak A]:=by obtain⟨e, -⟩:=nK.1 hn;rw[e];exact Vt n
    rw[eA];cases hr:dh af (ak B)with
    | none=>
      have t1:=fun a (e:aO (ak B)=[a])=>Cj (Tr.trim B) e
      generalize aO (ak B)=Q at*
      match Q with
      |[]=>rfl
      | [c]=>
        show none=if _ then _ else _
        rw[if_neg (by rintro⟨-, -, e⟩;cases e),if_pos rfl,<-t1 c rfl,hr];simp only[hn]
      |_::_::_=>rfl
    | some r=>
      obtain⟨e1,e3⟩:=Df hr;have eB:aO (ak B)=[ak B]:=by rw[e3];exact Yt e1
      rw[eB];show _=if _ then _ else _
      rw[if_neg (by rintro⟨-, -, e⟩;cases e),if_pos rfl,hn,hr]
 rw[if_neg qh]
 split
 ·rename_i hn;rw[MD hn];show _=if _ then _ else _;rw[if_pos hn]
 rename_i hn
 have hno:([58]:Tx)∉aO s:=fun hm=>qh (Gm hm (by simp))
 have t1:=fun a (e:aO s=[a])=>Cj h e
 have t3: ∀b,aO s≠[[91],b,[93]]:=fun b e3=>by
  obtain⟨r,hs,hr, -⟩:=VF h.1 e3;have hne:r≠[]:=by intro e;subst e;cases hr
  obtain⟨z,hz⟩: ∃z,r.getLast?=some z:=⟨r.getLast hne,aol hne⟩;obtain⟨m,rfl⟩:=qv.1 hz;have hzb:aq z=false:=h.2 z (by rw[hs,yw hne];exact hz);obtain⟨rfl, -⟩:=afg hzb (L:=[b]) (c:=93) (by decide) hr;exact rC ⟨by rw[hs];rfl,by rw[hs,yw hne];exact hz,by rw[hs];simp⟩
 generalize aO s=P at*
 match P with
 |[]=>rfl
 |[a]=>show none=if _ then _ else _;rw[if_neg (by rw[<-t1 a rfl];exact hn)]
 |[_,_]=>rfl
 | [a,b,c]=>
   show none=if _ then _ else _
   rw[if_neg (by rintro⟨rfl,rfl, -⟩;exact t3 b rfl),if_neg (fun e=>hno (by simp[e]))]
 |_::_::_::_::_=>rfl
def iK(af:Int):List Tx->Option aL
 |[a,e,v]=>if e=[61]then nG (lO af [a]) (eG v)else none
 |[a,b,c,e,v]=>if e=[61]then nG (lO af [a,b,c]) (eG v)else none
 |_=>none
theorem wu(af:Int)(a e v:Tx):iK af [a,e,v]=if e=[61]then nG (lO af [a]) (eG v)else none:=rfl
theorem tn(af:Int)(a b c e v:Tx):iK af [a,b,c,e,v]=if e=[61]then nG (lO af [a,b,c]) (eG v)else none:=rfl
theorem Ce(hl:s.length<=262144):fR af s=iK af (aO s):=by
 unfold fR
 by_cases uv:(61:UInt8)∈s
 ·rw[if_neg (by rintro(h|h);omega;exact h uv)]
  obtain⟨A,B,e,hA⟩:=xT 61 _ uv;obtain⟨k1,k2⟩:=zH 61 B A hA;rw[<-e]at k1 k2;have e2:aO s=aO (ak A)++[61]::aO (ak B):=by rw[e,wE _ A B (anb _) (by decide),uK,uK]
  rw[k1,k2,e2];simp only[List.drop_one,List.tail_cons];rw[alv af (Tr.trim A),al6 (Tr.trim B)];have hno:([61]:Tx)∉aO (ak A):=fun hm=>hA (Dt (Gm hm (by simp)))
  have c1:lO af [[61]]=none:=rfl
  have c2: ∀b c:Tx,lO af [[61],b,c]=none:=fun b c=>by
   rw[Dr,if_neg (by rintro⟨e, -⟩;cases e),agh]
   split<;>rfl
  have r61:dh af [61]=none:=by
   cases hr:dh af [61]with
   |none=>rfl
   | some n=>
     obtain⟨h1,h2⟩:=Df hr;have h3:=Yt h1;have k1: ∀n:Fin 15,cI n.val≠[61]:=dx;have k2: ∀n:Fin 32,iu n.val≠[61]:=dx;unfold ek dO at*
     split at h2
     ·rename_i e;rw[if_pos e]at h1;exact absurd h2.symm (k1 ⟨n,by omega⟩)
     rename_i e;rw[if_neg e]at h1;exact absurd h2.symm (k2 ⟨n,by omega⟩)
  have c3: ∀a b:Tx,lO af [a,b,[61]]=none:=fun a b=>by
   show(if _ then _ else _)=_;rw[if_neg (by rintro⟨-, e, -⟩;cases e)];split
   ·rw[r61];cases aU a<;>rfl
   rfl
  have c4: ∀a c:Tx,lO af [a,[61],c]=none:=fun a c=>by
   show(if _ then _ else _)=_;rw[if_neg (by rintro⟨-, -, e⟩;cases e),if_neg (by decide)]
  generalize aO (ak A)=P at*;generalize aO (ak B)=Q at*;have n1: ∀a:Tx,lO af [a]=lO af [a]:=fun _=>rfl
  match P,Q with
  |[],[]=>rfl
  |[],[_]=>rfl
  |[],[b,c]=>show none=iK af [[61],b,c];rw[wu,c1,mL];split<;>rfl
  |[],[_,_,_]=>rfl
  |[],[b,c,d,e]=>show none=iK af [[61],b,c,d,e];rw[tn,c2,mL];split<;>rfl
  |[],_::_::_::_::_::_=>rfl
  |[a],[]=>exact uH _
  |[a],[v]=>show nG (lO af [a]) (eG v)=iK af [a,[61],v];rw[wu,if_pos rfl]
  |[a],[_,_]=>exact uH _
  |[a],[c,d,e]=>show nG (lO af [a]) none=iK af [a,[61],c,d,e];rw[tn,c4,uH,mL];split<;>rfl
  |[a],_::_::_::_::_=>exact uH _
  | [a,b],[]=>
    have hb:b≠[61]:=fun e=>hno (by simp[e])
    show none=iK af [a,b,[61]];rw[wu,if_neg hb]
  |[a,b],[_]=>rfl
  |[a,b],[d,e]=>show none=iK af [a,b,[61],d,e];rw[tn,c3,mL];split<;>rfl
  |[a,b],_::_::_::_=>rfl
  |[a,b,c],[]=>exact uH _
  |[a,b,c],[v]=>show nG (lO af [a,b,c]) (eG v)=iK af [a,b,c,[61],v];rw[tn,if_pos rfl]
  |[a,b,c],_::_::_=>exact uH _
  | [a,b,c,d],[]=>
    have hd:d≠[61]:=fun e=>hno (by simp[e])
    show none=iK af [a,b,c,d,[61]];rw[tn,if_neg hd]
  |[a,b,c,d],_::_=>rfl
  |_::_::_::_::_::t,Q=>cases t<;>cases Q<;>rfl
 rw[if_pos (.inr uv)]
 have hno:([61]:Tx)∉aO s:=fun hm=>uv (Gm hm (by simp))
 generalize aO s=P at*
 match P with
 |[]=>rfl
 |[_]=>rfl
 |[_,_]=>rfl
 |[a,e,v]=>rw[wu,if_neg (fun h=>hno (by simp[h]))]
 |[_,_,_,_]=>rfl
 |[a,b,c,e,v]=>rw[tn,if_neg (fun h=>hno (by simp[h]))]
 |_::_::_::_::_::_::_=>rfl
theorem tK(s:Tx)(t:Tok)(l:List Tok):bg s (t::l)=if t.1=s then .ok l else .error (t::l):=rfl
theorem pG(a b:Int)(t:Tok)(l:List Tok):jM a b (t::l)=match aU t.1 with
 |some n=>if a<=n/\n<=b then .ok (n,l)else .error (t::l)
 |none=>.error (t::l):=rfl
theorem rN(t:Tok)(l:List Tok):iL (t::l)=if aC t.1 then .ok (t.1,l)else .error (t::l):=rfl
theorem He{l r:List Tok}(h:bg s l= .ok r): ∃t,l=t::r/\t.1=s:=by
 cases l with
 |nil=>cases h
 | cons t l=>
   rw[tK]at h
   split at h
   ·rename_i e;cases h;exact⟨t,rfl,e⟩
   cases h
theorem Vj{l r:List Tok}{n:Int}(h:jM a b l= .ok (n,r)): ∃t,l=t::r/\aU t.1=some n/\a<=n/\n<=b:=by
 cases l with
 |nil=>cases h
 | cons t l=>
   rw[pG]at h
   split at h
   ·rename_i e
    split at h
    ·rename_i hh;cases h;exact⟨t,rfl,e,hh.1,hh.2⟩
    cases h
   cases h
theorem VV{l r:List Tok}(h:iL l= .ok (s,r)): ∃t,l=t::r/\t.1=s/\aC s=true:=by
 cases l with
 |nil=>cases h
 | cons t l=>
   rw[rN]at h
   split at h
   ·rename_i e;cases h;exact⟨t,rfl,rfl,e⟩
   cases h
theorem alo{l r:List Tok}{t:Th}(h:eY af l= .ok (t,r)):dI af t=true/\r.length<l.length:=by
 unfold eY at h
 split at h
 ·split at h
  ·cases h
  rename_i x r1 e1
  split at h
  ·cases h
  rename_i r2 e2
  cases h;obtain⟨t1,f1,f2,f3⟩:=VV e1;obtain⟨t2,rfl,g2⟩:=He e2;refine⟨by unfold dI;simp[f3],?_⟩;have:=congrArg anO f1;simp only[aoS,ans]at this;omega
 split at h
 ·split at h
  ·cases h
  rename_i n r1 e1
  split at h
  ·cases h
  rename_i r2 e2
  split at h
  ·cases h
  rename_i k hk
  cases h;obtain⟨t1,rfl,f2,f3,f4⟩:=Vj e1;obtain⟨t2,rfl,g2⟩:=He e2;obtain⟨k1,k2⟩:=Df hk;refine⟨?_,ah⟩;unfold dI;rw[if_neg (by simp only;omega)];simp;omega
 split at h
 ·cases h
 rename_i x r1 e1
 cases h;obtain⟨t1,rfl,rfl,f3⟩:=VV e1;exact⟨by unfold dI;simp[f3],by simp⟩
def vc(af:Int)(l:List Tok)(p:PR Nd):Prop:= ∀x r,p= .ok (x,r)->gp af x/\r.length<l.length
theorem aaO(af:Int)(l:List Tok):vc af l (js af l):=by
 intro x r h;unfold js at h
 split at h
 ·cases h
 rename_i t r1 e1
 split at h
 ·cases h
 rename_i r2 e2
 split at h
 ·cases h
 rename_i v r3 e3
 cases h;obtain⟨a1,a2⟩:=alo e1;obtain⟨t2,rfl,g2⟩:=He e2;obtain⟨t3,rfl,g3,g4,g5⟩:=Vj e3;refine⟨⟨_,?_,fun y hy=>absurd hy (by simp[Nd.kids])⟩,by simp only[ans]at a2;omega⟩;unfold gE;simp only[Nd.kind,Nd.th,Nd.val,Nd.kids,if_true,a1,(nK.1 g3).2];rfl
theorem MG{k:Int}(h:gE af k bT 0 l.length=true)(hk: ∀y∈l,gp af y):gp af (uN k l):=⟨_,h,hk⟩
theorem WQ{k:Int}(h4:k=4\/k=5)(h0:l≠[])(hk: ∀y∈l,gp af y):gp af (Cx k l):=by
 match l,h0 with
 |[x],_=>exact hk x (by simp)
 | x::y::r,_=>
   refine MG ?_ hk;unfold gE;rw[if_neg (by omega),if_neg (by omega),if_neg (by omega),if_pos h4];simp
theorem YO{af k:Int}{sign:Tx}{one:List Tok->PR Nd}(h4:k=4\/k=5)(H: ∀l,vc af l (one l)): ∀(n:Nat) (acc:List Nd) (l:List Tok) (x:Nd) (r:List Tok),acc≠[]->(∀y∈acc,gp af y)->jj k sign one n acc l= .ok (x,r)->gp af x/\r.length<=l.length
 |0,acc,l,x,r,h0,hk,h=>by cases h;exact⟨WQ h4 h0 hk,anb _⟩
 | n+1,acc,l,x,r,h0,hk,h=>by
   unfold jj at h
   split at h
   ·split at h
    ·cases h
    rename_i y r1 e1
    obtain⟨a1,a2⟩:=H _ y r1 e1
    obtain⟨b1,b2⟩:=YO h4 H n _ r1 x r (by simp) (fun z hz=>by
     rcases List.mem_append.1 hz with hz|hz
     ·exact hk z hz
     rcases aoi.1 hz with rfl;exact a1) h
    refine⟨b1,?_⟩;rw[aoS]at a2;omega
   cases h;exact⟨WQ h4 h0 hk,anb _⟩
theorem Dj{k:Int}{one:List Tok->PR Nd}(h4:k=4\/k=5)(H: ∀l,vc af l (one l))(l:List Tok):vc af l (iw k sign one l):=by
 intro x r h;unfold iw at h
 split at h
 ·cases h
 rename_i y r1 e1
 obtain⟨a1,a2⟩:=H _ y r1 e1;obtain⟨b1,b2⟩:=YO h4 H _ _ _ x r (by simp) (fun z hz=>by rcases aoi.1 hz with rfl;exact a1) h;exact⟨b1,by omega⟩
theorem WT{one:List Tok->PR Nd}(H: ∀l,vc af l (one l))(l:List Tok):vc af l (gY one l):=Dj (.inr rfl) (fun l=>Dj (.inl rfl) H l) l
theorem tD(af:Int): ∀(n:Nat) (l:List Tok),vc af l (bV af n l)
 |0,l=>fun x r h=>by cases h
 | n+1,l=>fun x r h=>by
   unfold bV at h
   split at h
   ·split at h
    ·cases h
    rename_i y r1 e1
    obtain⟨a1,a2⟩:=tD af n _ y r1 e1;cases h;refine⟨MG (by unfold gE;rw[if_neg (by decide),if_neg (by decide),if_pos rfl];simp) (fun z hz=>by rcases aoi.1 hz with rfl;exact a1),?_⟩;rw[aoS]at a2;omega
   split at h
   ·split at h
    ·cases h
    rename_i y r1 e1
    obtain⟨a1,a2⟩:=WT (tD af n) _ y r1 e1
    split at h
    ·cases h
    rename_i r2 e2
    cases h;obtain⟨t2,rfl,g2⟩:=He e2;refine⟨a1,?_⟩;simp only[aoS,ans]at a2;omega
   split at h
   ·rename_i hh
    cases h;refine⟨MG (by unfold gE;rw[if_neg (by decide),if_pos rfl];simp) (fun z hz=>by cases hz),?_⟩;cases l with
    |nil=>exact absurd hh.1 (by decide)
    |cons a b=>simp
   exact aaO af l x r h
theorem abv{l r:List Tok}(h:gW l= .ok (q,r)):1<=q/\q<=3:=by
 unfold gW at h
 split at h
 ·cases h;omega
 split at h
 ·split at h
  ·cases h
  cases h;omega
 split at h
 ·cases h
 cases h;omega
theorem ab4{l:List Tok}(h:gy af l= .ok (q,x)):1<=q/\q<=3/\gp af x:=by
 unfold gy at h
 split at h
 ·cases h
 rename_i q1 l1 e1
 split at h
 ·cases h
 rename_i l2 e2
 split at h
 ·cases h
 rename_i y l3 e3
 split at h
 ·cases h
 split at h
 ·cases h
  obtain⟨a,b⟩:=abv e1;exact⟨a,b,(WT (tD af _) _ _ _ e3).1⟩
 cases h
theorem al8: ∀(x:Nd) (met deep:Nat),gp af x->(eO af x met deep).2=0\/(eO af x met deep).2=2:=by
 intro x
 induction x using Nd.ind with
 | h x ih=>
   intro met deep h;rw[DF];split
   ·exact .inr rfl
   rw[if_neg (by rw[h.may];decide)]
   have key: ∀(l:List Nd),(∀k∈l,k∈x.kids)-> ∀met deep,(jl af l met deep).2=0\/(jl af l met deep).2=2:=by
    intro l
    induction l with
    |nil=>intro _ met deep;rw[DA];exact .inl rfl
    | cons y r ihl=>
      intro hin met deep;rw[Hu];split
      ·exact ihl (fun k hk=>hin k (by simp[hk])) _ _
      exact ih y (hin y (by simp)) met deep (h.jz y (hin y (by simp)))
   exact key _ (fun k hk=>hk) _ _
theorem acp(ha:bF af=true)(h1:1<=q)(h3:q<=3)(h:gp af x):cV af q x=0\/cV af q x=2:=by
 unfold cV;rw[if_neg (by rw[ha];decide),if_neg (by omega)];exact al8 x 0 0 h
def dz(N:Nat)(e:List Tok):Nat:=(e.head?.map (·.2)).getD N
theorem Xk(ha:bF af=true)(hl:s.length<=262144):(∃q x,gy af (lex 0 s)= .ok (q,x)/\gp af x/\1<=q/\q<=3/\((cV af q x=0/\cJ af s= .ok (q,x))\/(cV af q x=2/\cJ af s= .error (2,0))))\/ ∃e,gy af (lex 0 s)= .error e/\cJ af s= .error (80,dz s.length e):=by
 unfold cJ;rw[if_neg (by rw[ha];decide),if_neg (by omega)];cases h:gy af (lex 0 s)with
 |error e=>exact .inr ⟨e,rfl,rfl⟩
 | ok p=>
   obtain⟨q,x⟩:=p;obtain⟨a,b,c⟩:=ab4 h;refine .inl ⟨q,x,rfl,c,a,b,?_⟩;rcases acp ha a b c with e|e
   ·exact .inl ⟨e,by simp only[e];rfl⟩
   exact .inr ⟨e,by simp only[e];rfl⟩
def fU(d:Nat)(L:List Tok):List Tok:=L.map fun t=>(t.1,t.2+d)
def kU{α:Type}(d:Nat):PR α->PR α
 | .ok (x,r)=>.ok (x,fU d r)
 | .error e=>.error (fU d e)
theorem N8(d:Nat)(t:Tok)(l:List Tok):fU d (t::l)=(t.1,t.2+d)::fU d l:=rfl
theorem Dn(d:Nat)(l:List Tok):(fU d l).tail=fU d l.tail:=by cases l<;>rfl
theorem Dm(d:Nat)(l:List Tok):au (fU d l)=au l:=by cases l<;>rfl
theorem Zi(d:Nat)(l:List Tok):(fU d l).length=l.length:=by simp[fU]
theorem Ml(d:Nat): ∀(n p:Nat) (s:Tx),jA n (p+d) s=fU d (jA n p s)
 |0,_,_=>rfl
 |n+1,_,[]=>rfl
 | n+1,p,c::r=>by
   show(if aq c then jA n (p+d+1) r else _::jA n _ _)=fU d (if aq c then jA n (p+1) r else _::jA n _ _);split
   ·rw[show p+d+1=(p+1)+d by omega,Ml d n _ r]
   rw[show p+d+cy (c::r)=(p+cy (c::r))+d by omega,Ml d n _ _];rfl
theorem afh(d p:Nat)(s:Tx):lex (p+d) s=fU d (lex p s):=Ml d _ _ _
theorem VG: ∀(b:Tx) (p:Nat) (s:Tx),(∀c∈b,aq c=true)->lex p (b++s)=lex (p+b.length) s
 |[],p,s,_=>rfl
 | c::b,p,s,h=>by
   rw[aod,yD p _ (h c (by simp)),VG b (p+1) s (fun d hd=>h d (by simp[hd]))]
   congr 1;simp;omega
theorem uT(d:Nat)(s:Tx)(l:List Tok):bg s (fU d l)=match bg s l with
 | .ok r=>.ok (fU d r)
 | .error e=>.error (fU d e):=by
 cases l with
 |nil=>rfl
 |cons t l=>rw[N8];rw[tK,tK];split<;>rfl
theorem Vk(d:Nat)(a b:Int)(l:List Tok):jM a b (fU d l)=kU d (jM a b l):=by
 cases l with
 |nil=>rfl
 | cons t l=>
   rw[N8,pG,pG];simp only;cases aU t.1 with
   |none=>rfl
   |some n=>simp only;split<;>rfl
theorem VW(d:Nat)(l:List Tok):iL (fU d l)=kU d (iL l):=by
 cases l with
 |nil=>rfl
 |cons t l=>rw[N8];rw[rN,rN];split<;>rfl
theorem alp(af:Int)(d:Nat)(l:List Tok):eY af (fU d l)=kU d (eY af l):=by
 unfold eY;rw[Dm,Dn];split
 ·rw[VW]
  cases iL l.tail with
  |error e=>rfl
  | ok p=>
    obtain⟨x,r⟩:=p;simp only[kU];rw[uT];cases bg [93] r<;>rfl
 split
 ·rw[Vk]
  cases jM 0 15 l with
  |error e=>rfl
  | ok p=>
    obtain⟨x,r⟩:=p;simp only[kU];rw[uT];cases bg [58] r with
    |error e=>rfl
    | ok r=>
      simp only;rw[Dm];cases dh af (au r)with
      |none=>rfl
      |some k=>simp only[Dn]
 rw[VW]
 cases iL l with
 |error e=>rfl
 |ok p=>rfl
theorem aaP(af:Int)(d:Nat)(l:List Tok):js af (fU d l)=kU d (js af l):=by
 unfold js;rw[alp];cases eY af l with
 |error e=>rfl
 | ok p=>
   obtain⟨x,r⟩:=p;simp only[kU];rw[uT];cases bg [61] r with
   |error e=>rfl
   | ok r=>
     simp only;rw[Vk];cases jM (-2147483648) 2147483647 r<;>rfl
theorem YP{k:Int}{sign:Tx}{one:List Tok->PR Nd}(d:Nat)(H: ∀l,one (fU d l)=kU d (one l)): ∀(n:Nat) (acc:List Nd) (l:List Tok),jj k sign one n acc (fU d l)=kU d (jj k sign one n acc l)
 |0,_,_=>rfl
 | n+1,acc,l=>by
   unfold jj;rw[Dm,Dn];split
   ·rw[H]
    cases one l.tail with
    |error e=>rfl
    |ok p=>exact YP d H n _ _
   rfl
theorem YS{k:Int}{one:List Tok->PR Nd}(d:Nat)(H: ∀l,one (fU d l)=kU d (one l))(l:List Tok):iw k sign one (fU d l)=kU d (iw k sign one l):=by
 unfold iw;rw[H];cases one l with
 |error e=>rfl
 | ok p=>
   obtain⟨x,r⟩:=p;simp only[kU];rw[Zi];exact YP d H _ _ _
theorem WU{one:List Tok->PR Nd}(d:Nat)(H: ∀l,one (fU d l)=kU d (one l))(l:List Tok):gY one (fU d l)=kU d (gY one l):=YS d (YS d H) l
theorem MJ(af:Int)(d:Nat): ∀(n:Nat) (l:List Tok),bV af n (fU d l)=kU d (bV af n l)
 |0,_=>rfl
 | n+1,l=>by
   unfold bV;simp only[Dm,Dn];split
   ·rw[MJ af d n]
    cases bV af n l.tail<;>rfl
   split
   ·rw[WU d (MJ af d n)]
    cases gY (bV af n) l.tail with
    |error e=>rfl
    | ok p=>
      obtain⟨x,r⟩:=p;simp only[kU];rw[uT];cases bg [41] r<;>rfl
   split
   ·rfl
   exact aaP af d l
theorem abw(d:Nat)(l:List Tok):gW (fU d l)=kU d (gW l):=by
 unfold gW;rw[Dm,Dn,uT,uT];split
 ·rfl
 split
 ·cases bg [101,120,105,115,116,115] l.tail<;>rfl
 cases bg [101,120,105,115,116,115] l<;>rfl
theorem ab5(af:Int)(d:Nat)(l:List Tok):gy af (fU d l)=match gy af l with
 | .ok p=>.ok p
 | .error e=>.error (fU d e):=by
 unfold gy;rw[abw];cases gW l with
 |error e=>rfl
 | ok p=>
   obtain⟨q,l⟩:=p;simp only[kU];rw[uT];cases bg [40] l with
   |error e=>rfl
   | ok l=>
     simp only;rw[Zi,WU d (MJ af d _)];cases gY (bV af (l.length+1)) l with
     |error e=>rfl
     | ok p=>
       obtain⟨x,l⟩:=p;simp only[kU];rw[uT];cases bg [41] l with
       |error e=>rfl
       | ok l=>
         cases l with
         |nil=>rfl
         |cons t l=>rfl
theorem akU(d N:Nat)(e:List Tok):dz (d+N) (fU d e)=d+dz N e:=by
 cases e with
 |nil=>rfl
 |cons t l=>show t.2+d=d+t.2;omega
theorem agM{b:Tx}(ha:bF af=true)(hb: ∀c∈b,aq c=true)(hl:b.length+s.length<=262144):
 cJ af (b++s)=match cJ af s with
  | .ok c=>.ok c
  | .error (e,k)=>.error (e,if e=2 then 0 else b.length+k):=by
 have e1:gy af (lex 0 (b++s))=match gy af (lex 0 s)with
  | .ok p=>.ok p
  | .error e=>.error (fU b.length e):=by
  rw[VG b 0 s hb,afh,ab5]
 rcases Xk (s:=b++s) ha (by simpa using hl)with⟨q,x,h1,-, -, -, h2⟩|⟨e,h1,h2⟩<;>rcases Xk (s:=s) ha (by omega)with⟨q',x',g1,-, -, -, g2⟩|⟨e',g1,g2⟩<;>rw[h1,g1]at e1
 ·cases e1
  rcases h2 with⟨a1,a2⟩|⟨a1,a2⟩<;>rcases g2 with⟨b1,b2⟩|⟨b1,b2⟩
  ·rw[a2,b2]
  ·rw[a1]at b1;cases b1
  ·rw[a1]at b1;cases b1
  rw[a2,b2];rfl
 ·cases e1
 ·cases e1
 cases e1
 rw[h2,g2,aoW,akU];rfl
open Go.RowKit
theorem rV(l p:Tx)(w:World):Calls prog 94 #[.string (tx l),.string (tx p)] w fun e w'=>e= .returned (.bool (aoL l p))/\Below w.heap.size w w':=by
 refine(Any.strings_HasPrefix Tryz.l99 (tx l) (tx p) w).mono ?_;rintro e w' h;obtain⟨h1,h2⟩:=h;rw[jk,jk]at h1;exact⟨h1,by first|(subst h2;exact Below.refl _ _)|(obtain⟨n,rfl⟩:=h2;exact below_drewN _ _)⟩
theorem RZ(c:UInt8)(w:World):Calls prog 296 #[.int .u8 c.toNat] w fun e w'=>e= .returned (.bool (cP c))/\w=w':=by
 by_cases h1:cg c=true
 ·have H1:=hid h1
  have HN:=hid (show cP c=true by unfold cP;rw[h1];rfl);clear h1;go_in
  go_wp2_with (go_at_call 297;refine av (o8 c _) ?_;rw[H1.out])
  go_ret;exact⟨aQ HN.out.symm,rfl⟩
 have H1:=hid (ao9.2 h1)
 clear h1
 by_cases h2:aD c=true
 ·have H2:=hid h2
  have HN:=hid (show cP c=true by unfold cP;rw[h2];simp);clear h2;go_in
  go_wp2_with (first|(go_at_call 297;refine av (o8 c _) ?_;rw[H1.out])|(go_at_call 298;refine av (jH c _) ?_;rw[H2.out]))
  go_ret;exact⟨aQ HN.out.symm,rfl⟩
 have H2:=hid (ao9.2 h2)
 have HN:=hid (show(decide (((c.toNat:Nat):Int)=95))=cP c by
  rw[Wj,H1.out,H2.out];simp only[aoO,decide_eq_decide]
  omega)
 clear h2;go_in
 go_wp2_with (first|(go_at_call 297;refine av (o8 c _) ?_;rw[H1.out])|(go_at_call 298;refine av (jH c _) ?_;rw[H2.out]))
 go_ret;exact⟨aQ (by rw[<-HN.out];first|rfl|(rw[an8];simp)),rfl⟩
theorem y5{p:UInt8->Bool}(hk:k<=r.length)(h: ∀(i:Nat) (x:UInt8),i<k->r[i]? =some x->p x=true)(hs: ∀x,r[k]? =some x->p x=false):(r.takeWhile p).length=k:=by
 have e:r=r.take k++r.drop k:=(aoT _ _).symm
 have h1: ∀x∈r.take k,p x=true:=fun x hx=>by
  obtain⟨i,hi⟩:=anJ.1 hx;have hlt:i<k:=by have:=(anx.1 hi).1;simp at this;omega
  rw[ao1 hlt]at hi;exact h i x hlt hi
 rw[e,List.takeWhile_append_of_pos h1]
 have h2:(r.drop k).takeWhile p=[]:=by
  cases hd:r.drop k with
  |nil=>rfl
  | cons y t=>
    have:r[k]? =some y:=by
     have:=ao5 (xs:=r) (i:=k) (j:=0);rw[hd]at this;simpa using this.symm
    rw[aom,if_neg (by rw[hs y this];decide)]
 rw[h2,aoQ,ao2,Nat.min_eq_left hk]
theorem V4(h:cg c=true)(e:(r.takeWhile cP).length=k):cy (c::r)=1+k:=by rw[kD];rw[if_pos h,e]
theorem VZ(h:cg c=false)(h2:aD c=true)(e:(r.takeWhile aD).length=k):cy (c::r)=1+k:=by rw[kD];rw[if_neg (by rw[h];decide),if_pos (by rw[h2];rfl),e]
theorem V5(h:c=45/\r.head?.any aD=true)(e:(r.takeWhile aD).length=k):cy (c::r)=1+k:=by obtain⟨rfl,h2⟩:=h;rw[kD];rw[if_neg (by decide),if_pos (by rw[h2];rfl),e]
theorem abD(c:UInt8)(r:Tx)(hc:cg c=true)(hl:r.length+1<=9223372036854775807)(w:World):Calls prog 235 #[.string (tx (c::r))] w fun e w'=>e= .returned (.int .i64 (cy (c::r)))/\w=w':=by
 have hs:=aM (c::r);obtain⟨n,hn⟩:=aj ((tx (c::r)).size);have sw:=hid (show n=r.length+1 by rw[<-hn,hs];simp);have i0:=kJ (c::r) c rfl;have HC:=hid hc;have tV:=hid hc;clear hc;clear hs;go_in
 go_wp2_with ((go_at_call 297;refine av (o8 c _) ?_;rw[HC.out]))
 go_loop [4] (fun i=> ∃k:Nat,k<=r.length/\i= .int .i64 ((k:Int)+1)/\Hid (∀(i:Nat) (x:UInt8),i<k->r[i]? =some x->cP x=true)) (fun i=>r.length+1-(intOf i).toNat)
 ·exact⟨0,by omega,by go_num,fun i x hi=>absurd hi (anC i)⟩
 obtain⟨k,hk,rfl,HM⟩:=hrel
 by_cases hlt:k<r.length
 ·obtain⟨x,hx⟩: ∃x,r[k]? =some x:=⟨_,am9 hlt⟩
  have ix:=bB (c::r) (k+1) x (by simpa using hx);rw[show((k+1:Nat):Int)=(k:Int)+1 by omega]at ix;have HX:=hid hx;have zl:decide ((k:Int)+1<(n:Int))=true:=by have:=sw.out;simp;omega
  clear hx;cases hp:cP x with
  | true=>
    have HP:=hid hp
    have eo:=hid (show ∀(i:Nat) (y:UInt8),i<k+1->r[i]? =some y->cP y=true from fun i y hi hy=>by
     rcases anv.1 hi with h|h
     ·exact HM.out i y h hy
     subst h;rw[HX.out]at hy;cases hy;exact HP.out)
    clear hp
    go_wp2_with (go_at_call 296;refine av (RZ x _) ?_;rw[HP.out])
    go_round
    case rel=>exact⟨k+1,by omega,by go_num,eo⟩
    case measure=>simp[intOf];omega
  | false=>
    have HP:=hid hp;have HF:=hid (V4 HC.out (y5 hk HM.out (fun y hy=>by rw[HX.out]at hy;cases hy;exact HP.out)));clear hp
    go_wp2_with (go_at_call 296;refine av (RZ x _) ?_;rw[HP.out])
    go_ret;exact⟨bQ (by rw[HF.out];omega),rfl⟩
 obtain rfl:k=r.length:=by omega
 have HF:=hid (V4 HC.out (y5 hk HM.out (fun y hy=>by rw[anI (anb _)]at hy;cases hy)));have zl:decide ((r.length:Int)+1<(n:Int))=false:=by have:=sw.out;simp;omega
 go_wp2;go_ret;exact⟨bQ (by rw[HF.out];omega),rfl⟩
theorem abC(c:UInt8)(r:Tx)(hc:cg c=false)(hd:aD c=true)(hl:r.length+1<=9223372036854775807)(w:World):Calls prog 235 #[.string (tx (c::r))] w fun e w'=>e= .returned (.int .i64 (cy (c::r)))/\w=w':=by
 have hs:=aM (c::r);obtain⟨n,hn⟩:=aj ((tx (c::r)).size);have sw:=hid (show n=r.length+1 by rw[<-hn,hs];simp);have i0:=kJ (c::r) c rfl;have HC:=hid hc;have HD:=hid hd;clear hc hd;clear hs;go_in
 go_wp2_with (first|(go_at_call 297;refine av (o8 c _) ?_;rw[HC.out])|(go_at_call 298;refine av (jH c _) ?_;rw[HD.out]))
 go_loop [4] (fun i=> ∃k:Nat,k<=r.length/\i= .int .i64 ((k:Int)+1)/\Hid (∀(i:Nat) (x:UInt8),i<k->r[i]? =some x->aD x=true)) (fun i=>r.length+1-(intOf i).toNat)
 ·exact⟨0,by omega,by go_num,fun i x hi=>absurd hi (anC i)⟩
 obtain⟨k,hk,rfl,HM⟩:=hrel
 by_cases hlt:k<r.length
 ·obtain⟨x,hx⟩: ∃x,r[k]? =some x:=⟨_,am9 hlt⟩
  have ix:=bB (c::r) (k+1) x (by simpa using hx);rw[show((k+1:Nat):Int)=(k:Int)+1 by omega]at ix;have HX:=hid hx;have zl:decide ((k:Int)+1<(n:Int))=true:=by have:=sw.out;simp;omega
  clear hx;cases hp:aD x with
  | true=>
    have HP:=hid hp
    have eo:=hid (show ∀(i:Nat) (y:UInt8),i<k+1->r[i]? =some y->aD y=true from fun i y hi hy=>by
     rcases anv.1 hi with h|h
     ·exact HM.out i y h hy
     subst h;rw[HX.out]at hy;cases hy;exact HP.out)
    clear hp
    go_wp2_with (go_at_call 298;refine av (jH x _) ?_;rw[HP.out])
    go_round
    case rel=>exact⟨k+1,by omega,by go_num,eo⟩
    case measure=>simp[intOf];omega
  | false=>
    have HP:=hid hp;have HF:=hid (VZ HC.out HD.out (y5 hk HM.out (fun y hy=>by rw[HX.out]at hy;cases hy;exact HP.out)));clear hp
    go_wp2_with (go_at_call 298;refine av (jH x _) ?_;rw[HP.out])
    go_ret;exact⟨bQ (by rw[HF.out];omega),rfl⟩
 obtain rfl:k=r.length:=by omega
 have HF:=hid (VZ HC.out HD.out (y5 hk HM.out (fun y hy=>by rw[anI (anb _)]at hy;cases hy)));have zl:decide ((r.length:Int)+1<(n:Int))=false:=by have:=sw.out;simp;omega
 go_wp2;go_ret;exact⟨bQ (by rw[HF.out];omega),rfl⟩
theorem abE(c:UInt8)(r:Tx)(h45:c=45)(d:UInt8)(r':Tx)(hr:d::r'=r)(hdd:aD d=true)(hl:r.length+1<=9223372036854775807)(w:World):Calls prog 235 #[.string (tx (c::r))] w fun e w'=>e= .returned (.int .i64 (cy (c::r)))/\w=w':=by
 have hs:=aM (c::r);obtain⟨n,hn⟩:=aj ((tx (c::r)).size);have sw:=hid (show n=r.length+1 by rw[<-hn,hs];simp);have i0:=kJ (c::r) c rfl;have HC:=hid (show cg c=false by rw[h45];decide);have HD:=hid (show aD c=false by rw[h45];decide);have zW:=hid hdd;have i1: ∀w,(Instr.index 9 (.string (tx (c::r))) (.int .i64 1)).run prog w= .ok (.int .u8 d.toNat) w:=bB (c::r) 1 d (by rw[<-hr];rfl);have z45:((c.toNat:Int)==45)=true:=by rw[h45];decide
 have zg:decide (1<(n:Int))=true:=by have:=sw.out;rw[<-hr]at this;simp at this;simp;omega
 have HR:=hid (show c=45/\r.head?.any aD=true from⟨h45,by rw[<-hr];simpa using hdd⟩);clear h45 hr hdd;clear hs;go_in
 go_wp2_with (first|(go_at_call 297;refine av (o8 c _) ?_;rw[HC.out])|(go_at_call 298;first|(refine av (jH d _) ?_;rw[zW.out])|(refine av (jH c _) ?_;rw[HD.out])))
 go_loop [4] (fun i=> ∃k:Nat,k<=r.length/\i= .int .i64 ((k:Int)+1)/\Hid (∀(i:Nat) (x:UInt8),i<k->r[i]? =some x->aD x=true)) (fun i=>r.length+1-(intOf i).toNat)
 ·exact⟨0,by omega,by go_num,fun i x hi=>absurd hi (anC i)⟩
 obtain⟨k,hk,rfl,HM⟩:=hrel
 by_cases hlt:k<r.length
 ·obtain⟨x,hx⟩: ∃x,r[k]? =some x:=⟨_,am9 hlt⟩
  have ix:=bB (c::r) (k+1) x (by simpa using hx);rw[show((k+1:Nat):Int)=(k:Int)+1 by omega]at ix;have HX:=hid hx;have zl:decide ((k:Int)+1<(n:Int))=true:=by have:=sw.out;simp;omega
  clear hx;cases hp:aD x with
  | true=>
    have HP:=hid hp
    have eo:=hid (show ∀(i:Nat) (y:UInt8),i<k+1->r[i]? =some y->aD y=true from fun i y hi hy=>by
     rcases anv.1 hi with h|h
     ·exact HM.out i y h hy
     subst h;rw[HX.out]at hy;cases hy;exact HP.out)
    clear hp
    go_wp2_with (go_at_call 298;refine av (jH x _) ?_;rw[HP.out])
    go_round
    case rel=>exact⟨k+1,by omega,by go_num,eo⟩
    case measure=>simp[intOf];omega
  | false=>
    have HP:=hid hp;have HF:=hid (V5 HR.out (y5 hk HM.out (fun y hy=>by rw[HX.out]at hy;cases hy;exact HP.out)));clear hp
    go_wp2_with (go_at_call 298;refine av (jH x _) ?_;rw[HP.out])
    go_ret;exact⟨bQ (by rw[HF.out];omega),rfl⟩
 obtain rfl:k=r.length:=by omega
 have HF:=hid (V5 HR.out (y5 hk HM.out (fun y hy=>by rw[anI (anb _)]at hy;cases hy)));have zl:decide ((r.length:Int)+1<(n:Int))=false:=by have:=sw.out;simp;omega
 go_wp2;go_ret;exact⟨bQ (by rw[HF.out];omega),rfl⟩
theorem Mx(h1:cg c=false)(h2:aD c=false)(h3: ¬(c=45/\r.head?.any aD=true)):cy (c::r)=if aoL (c::r) [47,92]||aoL (c::r) [92,47]then 2 else 1:=by
 have e:((c==47&&r.head?==some 92)||(c==92&&r.head?==some 47))=(aoL (c::r) [47,92]||aoL (c::r) [92,47]):=by
  unfold aoL;cases r with
  |nil=>simp[List.isPrefixOf]
  | cons d r=>
    have hb: ∀a b:UInt8,(a==b)=(b==a):=fun a b=>by rw[an8,beq_iff_eq,beq_iff_eq];exact eq_comm
    show((c==47&&(d==92))||(c==92&&(d==47)))=((47==c&&(92==d&&true))||(92==c&&(47==d&&true)));rw[hb 47 c,hb 92 d,hb 92 c,hb 47 d,Bool.and_true,Bool.and_true]
 rw[kD]
 rw[if_neg (by rw[h1];decide),if_neg (by
  rw[h2,aoO,anS];rintro⟨a,b⟩;exact h3 ⟨by simpa using a,b⟩),e]
theorem abz(c:UInt8)(h45:c=45)(w:World):Calls prog 235 #[.string (tx [c])] w fun e w'=>e= .returned (.int .i64 (cy [c]))/\Below w.heap.size w w':=by
 have HC:=hid (show cg c=false by rw[h45];decide);have HD:=hid (show aD c=false by rw[h45];decide);have i0:=kJ [c] c rfl;have zl:decide (1<((tx [c]).size:Int))=false:=by rw[aM];simp
 have ze:((c.toNat:Int)==45)=true:=by rw[h45];decide
 have HF:=hid (Mx HC.out HD.out (r:=[]) (by simp));have P1:=hid (fun w=>rV [c] [47,92] w);have P2:=hid (fun w=>rV [c] [92,47] w);generalize aoL [c] [47,92]=b1 at*;generalize aoL [c] [92,47]=b2 at*;clear h45;go_in;cases b1
 ·go_wp2_with (first|(go_at_call 297;refine av (o8 c _) ?_;rw[HC.out])|(go_at_call 298;first|(refine av (jH c _) ?_;rw[HD.out])))
  refine(P1.out _).mono ?_;rintro e w1 ⟨rfl,E1⟩;cases b2
  ·go_wp2_with fail
   refine(P2.out _).mono ?_;rintro e w2 ⟨rfl,E2⟩;have E:=E1.trans (E2.mono E1.size);go_wp2;go_ret;exact⟨bQ (by rw[HF.out];rfl),E⟩
  go_wp2_with fail
  refine(P2.out _).mono ?_;rintro e w2 ⟨rfl,E2⟩;have E:=E1.trans (E2.mono E1.size);go_wp2;go_ret;exact⟨bQ (by rw[HF.out];rfl),E⟩
 go_wp2_with (first|(go_at_call 297;refine av (o8 c _) ?_;rw[HC.out])|(go_at_call 298;first|(refine av (jH c _) ?_;rw[HD.out])))
 refine(P1.out _).mono ?_;rintro e w1 ⟨rfl,E1⟩;go_wp2;go_ret;exact⟨bQ (by rw[HF.out];rfl),E1⟩
theorem abA(c:UInt8)(h45:c=45)(d:UInt8)(r:Tx)(hdd:aD d=false)(hl:r.length+2<=9223372036854775807)(w:World):Calls prog 235 #[.string (tx (c::d::r))] w fun e w'=>e= .returned (.int .i64 (cy (c::d::r)))/\Below w.heap.size w w':=by
 have HC:=hid (show cg c=false by rw[h45];decide);have HD:=hid (show aD c=false by rw[h45];decide);have i0:=kJ (c::d::r) c rfl;have i1: ∀w,(Instr.index 9 (.string (tx (c::d::r))) (.int .i64 1)).run prog w= .ok (.int .u8 d.toNat) w:=bB (c::d::r) 1 d rfl;have zl:decide (1<((tx (c::d::r)).size:Int))=true:=by rw[aM];simp;omega
 have ze:((c.toNat:Int)==45)=true:=by rw[h45];decide
 have zW:=hid hdd;clear hdd;have HF:=hid (Mx HC.out HD.out (r:=(d::r)) (by simp[zW.out]));have P1:=hid (fun w=>rV (c::d::r) [47,92] w);have P2:=hid (fun w=>rV (c::d::r) [92,47] w);generalize aoL (c::d::r) [47,92]=b1 at*;generalize aoL (c::d::r) [92,47]=b2 at*;clear hl h45;go_in;cases b1
 ·go_wp2_with (first|(go_at_call 297;refine av (o8 c _) ?_;rw[HC.out])|(go_at_call 298;first|(refine av (jH c _) ?_;rw[HD.out])|(refine av (jH d _) ?_;rw[zW.out])))
  refine(P1.out _).mono ?_;rintro e w1 ⟨rfl,E1⟩;cases b2
  ·go_wp2_with fail
   refine(P2.out _).mono ?_;rintro e w2 ⟨rfl,E2⟩;have E:=E1.trans (E2.mono E1.size);go_wp2;go_ret;exact⟨bQ (by rw[HF.out];rfl),E⟩
  go_wp2_with fail
  refine(P2.out _).mono ?_;rintro e w2 ⟨rfl,E2⟩;have E:=E1.trans (E2.mono E1.size);go_wp2;go_ret;exact⟨bQ (by rw[HF.out];rfl),E⟩
 go_wp2_with (first|(go_at_call 297;refine av (o8 c _) ?_;rw[HC.out])|(go_at_call 298;first|(refine av (jH c _) ?_;rw[HD.out])|(refine av (jH d _) ?_;rw[zW.out])))
 refine(P1.out _).mono ?_;rintro e w1 ⟨rfl,E1⟩;go_wp2;go_ret;exact⟨bQ (by rw[HF.out];rfl),E1⟩
theorem abB(c:UInt8)(r:Tx)(hc:cg c=false)(hd:aD c=false)(h45:c≠45)(hl:r.length+1<=9223372036854775807)(w:World):Calls prog 235 #[.string (tx (c::r))] w fun e w'=>e= .returned (.int .i64 (cy (c::r)))/\Below w.heap.size w w':=by
 have HC:=hid (show cg c=false by exact hc);have HD:=hid (show aD c=false by exact hd);have i0:=kJ (c::r) c rfl;have ze:((c.toNat:Int)==45)=false:=by simpa using mZ c 45 h45
 have HF:=hid (Mx HC.out HD.out (r:=r) (by rintro⟨e, -⟩;exact h45 e));have P1:=hid (fun w=>rV (c::r) [47,92] w);have P2:=hid (fun w=>rV (c::r) [92,47] w);generalize aoL (c::r) [47,92]=b1 at*;generalize aoL (c::r) [92,47]=b2 at*;clear hl hc hd h45;go_in;cases b1
 ·go_wp2_with (first|(go_at_call 297;refine av (o8 c _) ?_;rw[HC.out])|(go_at_call 298;first|(refine av (jH c _) ?_;rw[HD.out])))
  refine(P1.out _).mono ?_;rintro e w1 ⟨rfl,E1⟩;cases b2
  ·go_wp2_with fail
   refine(P2.out _).mono ?_;rintro e w2 ⟨rfl,E2⟩;have E:=E1.trans (E2.mono E1.size);go_wp2;go_ret;exact⟨bQ (by rw[HF.out];rfl),E⟩
  go_wp2_with fail
  refine(P2.out _).mono ?_;rintro e w2 ⟨rfl,E2⟩;have E:=E1.trans (E2.mono E1.size);go_wp2;go_ret;exact⟨bQ (by rw[HF.out];rfl),E⟩
 go_wp2_with (first|(go_at_call 297;refine av (o8 c _) ?_;rw[HC.out])|(go_at_call 298;first|(refine av (jH c _) ?_;rw[HD.out])))
 refine(P1.out _).mono ?_;rintro e w1 ⟨rfl,E1⟩;go_wp2;go_ret;exact⟨bQ (by rw[HF.out];rfl),E1⟩
theorem aby(s:Tx)(hs:s≠[])(hl:s.length<=9223372036854775807)(w:World):Calls prog 235 #[.string (tx s)] w fun e w'=>e= .returned (.int .i64 (cy s))/\Below w.heap.size w w':=by
 have up: ∀{e:Ending} {v:Value} {w':World},(e= .returned v/\w=w')->(e= .returned v/\Below w.heap.size w w'):=fun h=>⟨h.1,by rw[<-h.2];exact Below.refl _ _⟩
 cases s with
 |nil=>exact absurd rfl hs
 | cons c r=>
   simp only[ans]at hl;cases hc:cg c with
   |true=>exact(abD c r hc hl w).mono fun e w' h=>up h
   | false=>
     cases hd:aD c with
     |true=>exact(abC c r hc hd hl w).mono fun e w' h=>up h
     | false=>
       by_cases h45:c=45
       ·cases r with
        |nil=>exact abz c h45 w
        | cons d r=>
          cases hdd:aD d with
          |true=>exact(abE c (d::r) h45 d r rfl hdd (by simpa using hl) w).mono fun e w' h=>up h
          |false=>exact abA c h45 d r hdd (by simpa using hl) w
       exact abB c r hc hd h45 hl w
theorem acz(n b0 b1 b2 b3:Nat)(h: ¬b0<128):128<=(Lib.decodeN n b0 b1 b2 b3).1:=by
 unfold Lib.decodeN;rw[if_neg h]
 repeat' split
 all_goals(simp only;omega)
theorem akq(l:Tx)(pos:Nat)(c:UInt8)(hc:l[pos]? =some c):(c.toNat<128/\aoP (tx l) pos=(c.toNat,1))\/(128<=c.toNat/\128<=(aoP (tx l) pos).1/\1<=(aoP (tx l) pos).2/\pos+(aoP (tx l) pos).2<=l.length/\ ∀j d,j<(aoP (tx l) pos).2->l[pos+j]? =some d->128<=d.toNat):=by
 have hlt:=(anx.1 hc).1;have g: ∀k,l.getD k 0=(l[k]?).getD 0:=fun k=>by simp[List.getD]
 have h:=Lib.decode_N (tx l) pos;rw[jk]at h;have h0:(l.getD pos 0)=c:=by rw[g,hc];rfl
 rw[h0]at h;have hcv:=c.toNat_lt
 by_cases h1:c.toNat<128
 ·left
  refine⟨h1,?_⟩;rw[h,Lib.decodeN_ascii _ _ _ _ _ h1]
 right
 have hh:=acz (l.length-pos) c.toNat (l.getD (pos+1) 0).toNat (l.getD (pos+2) 0).toNat (l.getD (pos+3) 0).toNat h1;have hw:=Lib.decodeN_ge1 (l.length-pos) c.toNat (l.getD (pos+1) 0).toNat (l.getD (pos+2) 0).toNat (l.getD (pos+3) 0).toNat;obtain⟨c2,c3,c4,c5⟩:=Lib.decodeN_conts (l.length-pos) c.toNat (l.getD (pos+1) 0).toNat (l.getD (pos+2) 0).toNat (l.getD (pos+3) 0).toNat;rw[h];generalize Lib.decodeN (l.length-pos) c.toNat (l.getD (pos+1) 0).toNat (l.getD (pos+2) 0).toNat (l.getD (pos+3) 0).toNat=p at*;refine⟨by omega,hh,hw,?_,fun j d hj hd=>?_⟩
 ·have:=p.2
  rcases ani 3 p.2 with k|k
  ·have:=(c4 k).2;omega
  rcases ani 2 p.2 with k|k
  ·have:=(c3 k).2;omega
  rcases ani 1 p.2 with k|k
  ·have:=(c2 k).2;omega
  omega
 have gd: ∀k,l[k]? =some d->l.getD k 0=d:=fun k hk=>by rw[g,hk];rfl
 match j,hj with
 |0,_=>rw[Nat.add_zero,hc]at hd;cases hd;omega
 |1,hj=>have:=(c2 (by omega)).1;rw[gd _ hd]at this;omega
 |2,hj=>have:=(c3 (by omega)).1;rw[gd _ hd]at this;omega
 |3,hj=>have:=(c4 (by omega)).1;rw[gd _ hd]at this;omega
 |k+4,hj=>omega
def cG:Tx->Tx->List Tx
 |u,[]=>fJ u
 |u,c::r=>if aq c then fJ u++cG [] r else cG (u++[c]) r
theorem sU(u:Tx)(r:Tx)(h:aq c=true):cG u (c::r)=fJ u++cG [] r:=by rw[cG,if_pos h]
theorem xS(u:Tx)(r:Tx)(h:aq c=false):cG u (c::r)=cG (u++[c]) r:=by rw[cG,if_neg (by rw[h];decide)]
theorem Fq: ∀(x u r:Tx),(∀c∈x,aq c=false)->cG u (x++r)=cG (u++x) r
 |[],u,r,_=>by simp
 |c::x,u,r,h=>by rw[aod,xS _ _ (h c (by simp)),Fq x _ r (fun d hd=>h d (by simp[hd]))];simp
def mU(n:Nat):Bool:=decide (n=32)||(decide (n=9)||(decide (n=10)||decide (n=13)))
theorem GY(c:UInt8):mU c.toNat=aq c:=by
 have:=tP (p:=fun c=>mU c.toNat==aq c) dx c;simpa using this
theorem adB(h:128<=c.toNat):aq c=false:=by
 rw[<-GY];unfold mU;simp;omega
def GC(l:Tx)(x:Nat × Nat):Tx:=(l.take x.2).drop x.1
def opn(l:Tx)(st:Option Nat)(pos:Nat):Tx:=match st with
 |some a=>(l.take pos).drop a
 |none=>[]
theorem Hg(l:Tx)(a pos k:Nat)(h:a<=pos)(hp:pos+k<=l.length):(l.take (pos+k)).drop a=(l.take pos).drop a++(l.drop pos).take k:=by
 rw[aoZ,aoJ ah]
theorem wP(l:Tx): ∀(f pos:Nat) (st:Option Nat) (acc:List (Nat × Nat)),l.length<=pos+f->pos<=l.length->(∀a,st=some a->a<pos)->
 acc.map (GC l)++cG (opn l st pos) (l.drop pos)=(aoR (tx l) (aoV mU (tx l) f pos st acc)).map (GC l)
 | 0,pos,st,acc,h,hp,hst=>by
   obtain rfl:pos=l.length:=by omega
   rw[aob];cases st with
   |none=>simp[aoV,aoR,opn,cG,fJ]
   | some a=>
     have:=hst a rfl;have hne:l.drop a≠[]:=ah;simp only[aoV,aoR,opn,cG,ao0,ao3,aoY,ao6,GC,aM];rw[sX hne]
 | f+1,pos,st,acc,h,hp,hst=>by
   by_cases hlt:pos<l.length
   ·have hc:l[pos]? =some l[pos]:=am9 hlt
    obtain⟨c,hcc⟩:=aj (l[pos]);rw[hcc]at hc;have hd:l.drop pos=c::l.drop (pos+1):=by rw[aoI hlt,hcc]
    unfold aoV;rw[if_pos (by rw[aM];exact hlt)];rcases akq l pos c hc with⟨h1,h2⟩|⟨h1,h2,h3,h4,h5⟩
    ·rw[h2]
     simp only;rw[GY];have one:(l.drop pos).take 1=[c]:=by rw[hd];rfl
     cases hb:aq c with
     | true=>
       simp only[if_true];cases st with
       | none=>
         rw[<-wP l f (pos+1) none acc (by omega) (by omega) (fun a h=>by cases h),hd,sU _ _ hb];rfl
       | some a=>
         have ha:=hst a rfl;rw[<-wP l f (pos+1) none _ (by omega) (by omega) (fun a h=>by cases h),hd,sU _ _ hb]
         have hne:(l.take pos).drop a≠[]:=by
          intro e;have:=congrArg anO e;rw[aoN,ao2]at this;simp only[apa]at this;omega
         show _++(fJ ((l.take pos).drop a)++_)=_;rw[sX hne,ao3,List.append_assoc];rfl
     | false=>
       simp only[aoK,if_false];cases st with
       | none=>
         rw[<-wP l f (pos+1) (some pos) acc (by omega) (by omega) (fun a h=>by cases h;omega),hd,xS _ _ hb];show _++cG ([]++[c]) _=_++cG ((l.take (pos+1)).drop pos) _;rw[Hg l pos pos 1 (anb _) (by omega),one];simp
       | some a=>
         have ha:=hst a rfl;rw[<-wP l f (pos+1) (some a) acc (by omega) (by omega) (fun b h=>by cases h;omega),hd,xS _ _ hb];show _++cG ((l.take pos).drop a++[c]) _=_++cG ((l.take (pos+1)).drop a) _;rw[Hg l a pos 1 (by omega) (by omega),one]
    have hr:mU (aoP (tx l) pos).1=false:=by unfold mU;simp;omega
    generalize aoP (tx l) pos=p at*;obtain⟨r,wd⟩:=p;simp only at hr h3 h4 h5⊢;rw[hr];simp only[aoK,if_false]
    have hx: ∀c∈(l.drop pos).take wd,aq c=false:=fun d hd=>by
     obtain⟨j,hj⟩:=anJ.1 hd
     have Uu:j<wd:=by
      have:=(anx.1 hj).1;simp at this;omega
     rw[ao1 Uu,ao5]at hj;exact adB (h5 j d Uu hj)
    have hsp:l.drop pos=(l.drop pos).take wd++l.drop (pos+wd):=by rw[<-List.drop_drop,aoT]
    cases st with
    | none=>
      rw[<-wP l f (pos+wd) (some pos) acc (by omega) (by omega) (fun a h=>by cases h;omega)]
      conv=>lhs;rw[hsp]
      rw[Fq _ _ _ hx];show _++cG ([]++_) _=_++cG ((l.take (pos+wd)).drop pos) _;rw[Hg l pos pos wd (anb _) h4];simp
    | some a=>
      have ha:=hst a rfl;rw[<-wP l f (pos+wd) (some a) acc (by omega) (by omega) (fun b h=>by cases h;omega)]
      conv=>lhs;rw[hsp]
      rw[Fq _ _ _ hx];show _++cG ((l.take pos).drop a++_) _=_++cG ((l.take (pos+wd)).drop a) _;rw[Hg l a pos wd (by omega) h4]
   obtain rfl:pos=l.length:=by omega
   rw[Lib.spansFromP_end _ _ _ _ _ _ (by rw[aM];exact hlt),aob];cases st with
   |none=>simp[aoR,opn,cG,fJ]
   | some a=>
     have:=hst a rfl;have hne:l.drop a≠[]:=ah;simp only[aoR,opn,cG,ao0,ao3,aoY,ao6,GC,aM];rw[sX hne]
theorem acI(l:Tx):Lib.goFieldsP mU (tx l)=(cG [] l).map tx:=by
 unfold Lib.goFieldsP Lib.spansOfP;have h:=wP l l.length 0 none [] (by omega) (by omega) (fun a h=>by cases h);rw[aM];rw[ao6,anu,List.drop_zero]at h;show _=(cG (opn l none 0) l).map tx;rw[h,List.map_map];apply List.map_congr_left;intro x hx;exact Hp l x.1 x.2
theorem Fw: ∀(a u b:Tx),(∀c∈b,aq c=true)->cG u (a++b)=cG u a
 |[],u,[],_=>rfl
 | [],u,c::b,h=>by
   have:=Fw [] [] b (fun d hd=>h d (by simp[hd]));rw[anu]at this;rw[anu,sU _ _ (h c (by simp)),this];simp[cG,fJ]
 | x::a,u,b,h=>by
   rw[aod];cases hb:aq x with
   |true=>rw[sU _ _ hb,sU _ _ hb,Fw a [] b h]
   |false=>rw[xS _ _ hb,xS _ _ hb,Fw a _ b h]
theorem Fv: ∀l:Tx,cG [] (l.dropWhile aq)=cG [] l
 |[]=>rfl
 | c::r=>by
   rw[anV];split
   ·rename_i h;rw[Fv r,sU _ _ h];rfl
   rfl
theorem ac6(l:Tx):cG [] (ak l)=cG [] l:=by
 obtain⟨b,h1,h2⟩:=mQ l;rw[tN,Fv]
 conv=>rhs;rw[h1]
 exact(Fw _ _ _ h2).symm
theorem Fx(h0:w≠[])(h: ∀c∈w,aq c=false)(hr: ∀c,r.head?=some c->aq c=true):cG [] (w++r)=w::cG [] r:=by
 rw[Fq _ _ _ h,anu];cases r with
 |nil=>simp[cG,sX h0];rfl
 |cons c r=>rw[sU _ _ (hr c rfl),sU _ _ (hr c rfl),sX h0];rfl
theorem ac5(h: ∃c∈s,aq c=false):cG [] s≠[]:=by
 obtain⟨c,hc,hb⟩:=h;rw[<-Fv];have hm:=Fm aq c hb s hc;cases hd:s.dropWhile aq with
 |nil=>rw[hd]at hm;cases hm
 | cons x t=>
   have hx:aq x=false:=je (l:=s) (by rw[hd];rfl);have e:x::t=(x::t.takeWhile nb)++t.dropWhile nb:=by simp
   rw[e,Fx (by simp) (fun c hc=>by
    rcases anE.1 hc with rfl|hc
    ·exact hx
    have:=anF.1 aoX c hc;unfold nb at this;simpa using this) (fun c hc=>by have:=je hc;unfold nb at this;simpa using this)]
   simp
theorem alN{t:Tx}(h:Tr t):qJ t=match cG [] t with
 |[a,b]=>some (a,b)
 |_=>none:=by
 cases t with
 |nil=>rfl
 | cons x t=>
   have hx:=h.1 x rfl;have e:x::t=(x::t).takeWhile nb++(x::t).dropWhile nb:=by simp
   have iJ:nb x=true:=by unfold nb;rw[hx];rfl
   have hw:cG [] (x::t)=(x::t).takeWhile nb::cG [] ((x::t).dropWhile nb):=by
    conv=>lhs;rw[e]
    refine Fx (by rw[aom,if_pos iJ];simp) (fun c hc=>?_) (fun c hc=>?_)
    ·have:=anF.1 aoX c hc;unfold nb at this;simpa using this
    have:=je hc;unfold nb at this;simpa using this
   have adD: ∀c,((x::t).dropWhile nb).dropWhile aq≠[]->(((x::t).dropWhile nb).dropWhile aq).getLast?=some c->aq c=false:=fun c _ hc=>
    h.2 c (Ch (Ch hc))
   rw[hw,<-Fv];unfold qJ;simp only;have adA: ∀c,(((x::t).dropWhile nb).dropWhile aq).head?=some c->aq c=false:=fun c hc=>je hc
   generalize ((x::t).dropWhile nb).dropWhile aq=m at*;cases m with
   |nil=>rfl
   | cons y m=>
     have hy:=adA y rfl;cases hb:(y::m).any aq with
     | false=>
       rw[if_neg (by simp)]
       have hall: ∀c∈y::m,aq c=false:=fun c hc=>by
        have:=List.any_eq_false.1 hb c hc;simpa using this
       have:cG [] ((y::m)++[])=[y::m]:=by
        rw[Fx (by simp) hall (fun c hc=>by cases hc)];rfl
       rw[aoQ]at this;rw[this]
     | true=>
       rw[if_pos (.inr rfl)];have e2:y::m=(y::m).takeWhile nb++(y::m).dropWhile nb:=by simp
       have hny:nb y=true:=by unfold nb;rw[hy];rfl
       have hw2:cG [] (y::m)=(y::m).takeWhile nb::cG [] ((y::m).dropWhile nb):=by
        conv=>lhs;rw[e2]
        refine Fx (by rw[aom,if_pos hny];simp) (fun c hc=>?_) (fun c hc=>?_)
        ·have:=anF.1 aoX c hc;unfold nb at this;simpa using this
        have:=je hc;unfold nb at this;simpa using this
       have hne:cG [] ((y::m).dropWhile nb)≠[]:=by
        apply ac5
        have hm:(y::m).dropWhile nb≠[]:=by
         intro e;obtain⟨c,hc,hcb⟩:=List.any_eq_true.1 hb;have:=ru e c hc;unfold nb at this;rw[hcb]at this;cases this
        obtain⟨z,hz⟩: ∃z,((y::m).dropWhile nb).getLast?=some z:=⟨_,aol hm⟩;exact⟨z,List.mem_of_getLast? hz,adD z (by simp) (Ch hz)⟩
       rw[hw2];cases hf:cG [] ((y::m).dropWhile nb)with
       |nil=>exact absurd hf hne
       |cons a b=>rfl
open Go.Sort
@[reducible] def AZ(t:Tok):List Value:=[.string (tx t.1),.int .i64 t.2]
theorem kr(t:Tok):(AZ t).length=2:=rfl
theorem Hj:gQ prog 182 232 (.agg #[.string ByteArray.empty,.int .i64 0]) 2 24:=⟨underlying182,by kernel_rfl,rfl,by decide⟩
theorem bK.tok{w:World}{a:Option Addr}{l:List Tok}(h:bK AZ w a l){x:Tok}(hk:l[k]? =some x):
 w.cell? ⟨bk a,fo a+k*2,none⟩=some (.string (tx x.1))/\w.cell? ⟨bk a,fo a+k*2+1,none⟩=some (.int .i64 x.2):=
 ⟨h.cell0 kr hk (by omega),h.cell kr hk 1 (by omega)⟩
theorem RM:UF aq 234:=fun c=>AU c _ (by decide)
abbrev Ay(w:World)(B:Nat)(a:Option Addr)(n c:Nat)(l:List Tok):Prop:=Own w B 232 2 a n c (flat AZ l)
def Qv(s:Tx)(w:World)(e:Ending)(w':World):Prop:= ∃a c,e= .returned (.slice a (lex 0 s).length c)/\Ay w' w.heap.size a (lex 0 s).length c (lex 0 s)/\Below w.heap.size w w'
theorem Gp(h:s[k]? =some c):lex k (s.drop k)=if aq c then lex (k+1) (s.drop (k+1))else((s.drop k).take (cy (s.drop k)),k)::lex (k+cy (s.drop k)) (s.drop (k+cy (s.drop k))):=by
 obtain⟨hlt,rfl⟩:=anx.1 h;rw[aoI hlt];split
 ·rename_i hb;rw[yD _ _ hb]
 rename_i hb
 rw[Cm _ _ (by simpa using hb),<-aoI hlt,List.drop_drop]
theorem JR(s:Tx)(hl:s.length<=262144)(w:World):Calls prog 157 #[.string (tx s)] w (Qv s w):=by
 obtain⟨n,hn⟩:=aj ((tx s).size);have HN:=hid (show n=s.length by rw[<-hn,aM]);have HL:=hid hl;have hnb:n<=262144:=by rw[HN.out];exact hl
 obtain⟨T,hT⟩:=aj (lex 0 s);have HT:=hid (show lex 0 (s.drop 0)=T by rw[List.drop_zero];exact hT);have HTL:=hid (show T.length<=262144 by rw[<-hT];have:=Ck _ 0 s (anb _);omega);unfold Qv;rw[hT];clear hl hT;go_in;go_wp2
 go_loopw [3,4] (fun o i wr=> ∃(k:Nat) (a:Option Addr) (c:Nat) (out:List Tok),k<=n/\i= .int .i64 k/\o= .slice a out.length c/\Ay wr w.heap.size a out.length c out/\Hid (T=out++lex k (s.drop k))/\Below w.heap.size w wr) (fun o i _=>n-(intOf i).toNat)
 ·exact⟨0,none,0,[],by omega,rfl,rfl,Own.nil _ _ _ _,HT.out.symm,bC⟩
 obtain⟨k,a,c,out,hk,rfl,rfl,hO,HO,E⟩:=hrel
 by_cases hlt:k<n
 ·obtain⟨x,hx⟩: ∃x,s[k]? =some x:=⟨_,am9 (aI HN.out)⟩
  have ix:=bB s k x hx;have hst:=Gp hx;have HX:=hid hx;clear hx;cases hb:aq x with
  | true=>
    have HB:=hid hb;have jV:=hid (show T=out++lex (k+1) (s.drop (k+1)) by rw[HO.out,hst,hb];rfl);clear hb hst
    go_wp2_with (go_at_call 234;refine av (RM x _) ?_;rw[HB.out])
    go_roundw;exact⟨k+1,a,c,out,by omega,by go_num,rfl,hO,jV,E⟩;simp[intOf];omega
  | false=>
    have HB:=hid hb;rw[hb]at hst
    have hne:s.drop k≠[]:=by
     intro e;have:=congrArg anO e;have h2:=HN.out;simp at this;omega
    have hdl:(s.drop k).length=n-k:=by rw[aoN,HN.out]
    have CL:=hid (fun w=>aby (s.drop k) hne (by have:=HL.out;simp;omega) w)
    have hlp:1<=cy (s.drop k)/\cy (s.drop k)<=n-k:=by
     rw[<-hdl];cases hd:s.drop k with
     |nil=>exact absurd hd hne
     |cons y r=>exact⟨nJ y r,tC y r⟩
    have sf:=qD s k (aI HN.out);obtain⟨m,hm⟩:=aj (cy (s.drop k));rw[hm]at hst hlp CL;have sl:=jD s k (k+m) (by omega) (aI HN.out);obtain⟨u,hu⟩:=aj ((s.take (k+m)).drop k);have kf:(s.drop k).take m=u:=by rw[<-hu,aoZ,aoJ (by simp;have:=HN.out;omega)];simp
    rw[hu]at sl;rw[kf]at hst;rw[show((k+m:Nat):Int)=(k:Int)+m by omega]at sl;have jV:=hid (show T=(out++[(u,k)])++lex (k+m) (s.drop (k+m)) by rw[HO.out,hst];simp)
    have hol:out.length<=262143:=by
     have h1:=HTL.out;have h2:=congrArg anO jV.out;simp only[aoW,ans,apa]at h2;omega
    clear hb hst hne hdl hm hu kf
    go_wp2_with (first|(go_at_call 234;refine av (RM x _) ?_;rw[HB.out])|fail)
    refine(CL.out _).mono ?_;rintro e w1 ⟨rfl,E1⟩;have hO:=Own.below hO E1;have E:=E.trans (E1.mono E.size)
    go_wp2_with (at_builtin;go_loud(refine jd Hj (.tmp 20) (.tmp 29) rfl rfl rfl hO rfl rfl (by intro u hu;simp at hu;rcases hu with rfl|rfl<;>rfl) E E.size (by omega) cz ?_))
    intro a' c' w2 dS hG kQ
    have dr:Ay w2 w.heap.size a' (out++[(u,k)]).length c' (out++[(u,k)]):=by
     unfold Ay;rw[j9,lG];simpa using dS
    go_wp2
    go_roundw;exact⟨k+m,a',c',out++[(u,k)],by omega,by go_num,by simp,dr,jV,kQ⟩;simp[intOf];omega
 obtain rfl:k=n:=by omega
 have HF:=hid (show T=out by
  rw[HO.out,show s.drop k=[]from anj (aI HN.out),lex_nil,aoQ])
 go_wp2;go_ret;have hf:=HF.out;subst hf;exact⟨a,c,rfl,hO,E⟩
def bP{α:Type}(o:Option α)(v:α)(ok:Bool):Prop:=o=if ok=true then some v else none
theorem bP.yes{α:Type}{o:Option α}{v:α}(h:bP o v true):o=some v:=h
theorem bP.no{α:Type}{o:Option α}{v:α}(h:bP o v false):o=none:=h
def Ew(o:Option Int)(w:World)(e:Ending)(w':World):Prop:= ∃v ok,e= .returned (.tuple #[.int .i64 v,.bool ok])/\bP o v ok/\Below w.heap.size w w'
theorem WL(h:aoq s= .ok v)(hn:bO v=true):bP (aU s) v (aoe v==s):=by
 unfold bP;rw[MN h]
 by_cases hh:aoe v=s
 ·rw[if_pos ⟨hh,hn⟩,if_pos (by simpa using hh)]
 rw[if_neg (fun h=>hh h.1),if_neg (by simpa using hh)]
theorem WK(h:aoq s= .ok v)(hn:bO v=false)(u:Int):bP (aU s) u false:=by
 unfold bP;rw[MN h,if_neg (by rw[hn];rintro⟨-, h⟩;cases h)];rfl
theorem WJ(h: ∀v,aoq s≠ .ok v)(u:Int):bP (aU s) u false:=WC h
theorem Gy:bO v=true<-> -2147483648<=v/\v<=2147483647:=by unfold bO;rw[anS,decide_eq_true_eq,decide_eq_true_eq]
theorem aer(s:Tx)(hl:s.length<=1000000)(w:World)(g:Gl w):Calls prog 175 #[.string (tx s)] w (Ew (aU s) w):=by
 by_cases hv: ∃v,aoq s= .ok v
 ·obtain⟨v,hv⟩:=hv
  obtain⟨b1,b2⟩:=ao7 hv;have AT:=hid (ER s hl v hv);have IT:=hid (fun(w:World) (g:Gl w)=>yq v b1 b2 w g);cases hb:bO v with
  | true=>
    have HB:=hid hb;have HO:=hid (WL hv hb);obtain⟨c1,c2⟩:=Gy.1 hb;obtain⟨u,hu⟩:=aj (aoe v);rw[hu]at HO IT;have hz:((tx u).toList==(tx s).toList)=(u==s):=iQ u s;generalize (u==s)=bb at*;have z1:decide (-2147483648<=v)=true:=by simpa using c1
    have z2:decide (v<=2147483647)=true:=by simpa using c2
    clear hv hb hu b1 b2 c1 c2 hl;go_in;go_wp2_with fail;refine(AT.out _).mono ?_;rintro e w1 ⟨rfl,E⟩;have g1:=g.below E
    go_wp2_with (first|fail|(go_at_call 178;refine av (Gh v _) ?_;rw[HB.out]))
    refine(IT.out _ g1).mono ?_;rintro e w2 ⟨rfl,E2⟩;have E:=E.trans (E2.mono E.size);cases bb<;>
    ·go_wp2
     go_ret2
     exact⟨v,_,rfl,HO.out,E⟩
  | false=>
    have HB:=hid hb;have HO:=hid (WK hv hb);clear hv hb b1 b2 hl;go_in;go_wp2_with fail;refine(AT.out _).mono ?_;rintro e w1 ⟨rfl,E⟩
    go_wp2_with (first|fail|(go_at_call 178;refine av (Gh v _) ?_;rw[HB.out]))
    go_ret2
    exact⟨v,_,rfl,HO.out _,E⟩
 have hv: ∀v,aoq s≠ .ok v:=fun v h=>hv ⟨v,h⟩
 have AT:=hid (EO s hl hv);have HO:=hid (WJ hv);clear hv hl;go_in;go_wp2_with fail;refine(AT.out _ g).mono ?_;rintro e w1 ⟨n,tp,p,rfl,E⟩;go_wp2
 go_ret2
 exact⟨n,_,rfl,HO.out _,E⟩
theorem Ym(s:Tx)(hl:s.length<=1000000)(w:World)(g:Gl w):Calls prog 51 #[.string (tx s)] w (Ew (aU s) w):=by
 by_cases hv: ∃v,aoq s= .ok v
 ·obtain⟨v,hv⟩:=hv
  obtain⟨b1,b2⟩:=ao7 hv;have AT:=hid (ER s hl v hv);have IT:=hid (fun(w:World) (g:Gl w)=>yq v b1 b2 w g);cases hb:bO v with
  | true=>
    have HB:=hid hb;have HO:=hid (WL hv hb);obtain⟨c1,c2⟩:=Gy.1 hb;obtain⟨u,hu⟩:=aj (aoe v);rw[hu]at HO IT;have hz:((tx u).toList==(tx s).toList)=(u==s):=iQ u s;generalize (u==s)=bb at*;have z1:decide (-2147483648<=v)=true:=by simpa using c1
    have z2:decide (v<=2147483647)=true:=by simpa using c2
    clear hv hb hu b1 b2 c1 c2 hl;go_in;go_wp2_with fail;refine(AT.out _).mono ?_;rintro e w1 ⟨rfl,E⟩;have g1:=g.below E
    go_wp2_with (first|fail)
    refine(IT.out _ g1).mono ?_;rintro e w2 ⟨rfl,E2⟩;have E:=E.trans (E2.mono E.size);cases bb<;>
    ·go_wp2
     go_ret2
     exact⟨v,_,rfl,HO.out,E⟩
  | false=>
    have HO:=hid (WK hv hb)
    have c:v< -2147483648\/(-2147483648<=v/\2147483647<v):=by
     rcases Int.lt_or_le v (-2147483648)with h|h
     ·exact .inl h
     refine .inr ⟨h,?_⟩
     rcases Int.lt_or_le 2147483647 v with h'|h'
     ·exact h'
     rw[Gy.2 ⟨h,h'⟩]at hb;cases hb
    obtain⟨u,hu⟩:=aj (aoe v);rw[hu]at IT;have hz:((tx u).toList==(tx s).toList)=(u==s):=iQ u s;generalize (u==s)=bb at*;clear hv hb hu b1 b2 hl;rcases c with c|⟨c1,c2⟩
    ·have z1:decide (-2147483648<=v)=false:=ah
     clear c;go_in;go_wp2_with fail;refine(AT.out _).mono ?_;rintro e w1 ⟨rfl,E⟩;have g1:=g.below E;go_wp2_with fail;refine(IT.out _ g1).mono ?_;rintro e w2 ⟨rfl,E2⟩;have E:=E.trans (E2.mono E.size);cases bb<;>
     ·go_wp2
      go_ret2
      exact⟨v,_,rfl,HO.out _,E⟩
    have z1:decide (-2147483648<=v)=true:=by simpa using c1
    have z2:decide (v<=2147483647)=false:=ah;clear c1 c2;go_in;go_wp2_with fail;refine(AT.out _).mono ?_;rintro e w1 ⟨rfl,E⟩;have g1:=g.below E;go_wp2_with fail;refine(IT.out _ g1).mono ?_;rintro e w2 ⟨rfl,E2⟩;have E:=E.trans (E2.mono E.size);cases bb<;>
    ·go_wp2
     go_ret2
     exact⟨v,_,rfl,HO.out _,E⟩
 have hv: ∀v,aoq s≠ .ok v:=fun v h=>hv ⟨v,h⟩
 have AT:=hid (EO s hl hv);have HO:=hid (WJ hv);clear hv hl;go_in;go_wp2_with fail;refine(AT.out _ g).mono ?_;rintro e w1 ⟨n,tp,p,rfl,E⟩;go_wp2
 go_ret2
 exact⟨n,_,rfl,HO.out _,E⟩
def qA(o:Option Nat):Int × Int:=match o with
 |some n=>(n,0)
 |none=>(0,90)
theorem Yx(h:n<15)(e:cI n=s):qA (cK s)=((n:Int),0):=by subst e;rw[aj0 h];rfl
theorem Yz(h: ∀m,m<15->cI m≠s):qA (cK s)=(0,90):=by
 cases hr:cK s with
 |none=>rfl
 |some n=>obtain⟨h1,h2⟩:=GM hr;exact absurd h2.symm (h n h1)
theorem GQ{c d:Int}(h:a=c)(h':b=d):Ending.returned (.tuple #[.int .i64 a,.int .i64 b])= .returned (.tuple #[.int .i64 c,.int .i64 d]):=by rw[h,h']
def aY:Tx->Nat
 |[]=>0
 |c::r=>if cg c then 1 else if aD c||(c==45&&decide (0<r.length))then 2 else 3
def gh(N:Nat):List Tok->Nat
 |[]=>N
 |t::_=>t.2+t.1.length
def Lx(S:Tx)(l:List Tok):Prop:= ∃i,i<=S.length/\lex i (S.drop i)=l
theorem uI(c:UInt8)(r:Tx):aY (c::r)=if cg c then 1 else if aD c||(c==45&&decide (0<r.length))then 2 else 3:=rfl
theorem afw(c:UInt8)(r:Tx):aY ((c::r).take (cy (c::r)))=if cg c then 1 else if aD c||(c==45&&(r.head?.any aD))then 2 else 3:=by
 rw[kD]
 by_cases h1:cg c=true
 ·rw[if_pos h1,if_pos h1,ao8,aoM,uI,if_pos h1]
 have h1:cg c=false:=by simpa using h1
 cases h2:aD c with
 |true=>simp only[h1,h2,Bool.true_or,if_true,aoK,if_false,ao8 1,aoM,uI]
 | false=>
   by_cases h3:c=45
   ·subst h3
    cases r with
    |nil=>decide+kernel
    | cons d r=>
      cases h4:aD d with
      | true=>
        simp only[h1,h2,h4,aoh,apb,aoO,beq_self_eq_true,Bool.and_self,if_true,aoK,if_false,ao8 1,aoM,uI,aom,ans];simp
      | false=>
        simp only[h1,h4,aoh,apb,aoO,Bool.and_false,aoK,if_false];rw[if_neg (by simp)];rw[show(1:Nat)=0+1 by rfl,aoM,List.take_zero]
        decide
   have e1:(c==45)=false:=by simpa using h3
   have key: ∀u,aY (c::u)=3:=fun u=>by
    rw[uI];simp only[h1,h2,e1,aoO,Bool.false_and,aoK,if_false]
   simp only[h1,e1,aoO,Bool.false_and,aoK,if_false];split
   ·rw[aoM];exact key _
   rw[aoM];exact key _
theorem Mq(S:Tx): ∀(n i:Nat),S.length-i<=n->i<=S.length-> ∀t r,lex i (S.drop i)=t::r->i<=t.2/\1<=t.1.length/\t.2+t.1.length<=S.length/\t.1=(S.take (t.2+t.1.length)).drop t.2/\lex (t.2+t.1.length) (S.drop (t.2+t.1.length))=r
 | n,i,h,hi,t,r,e=>by
   rcases ani i S.length with hlt|hge
   ·have hs:=Gp (am9 hlt)
    rw[e]at hs;cases hb:aq S[i]with
    | true=>
      rw[hb]at hs;cases n with
      |zero=>omega
      | succ n=>
        have:=Mq S n (i+1) (by omega) (by omega) t r hs.symm;exact⟨by omega,this.2⟩
    | false=>
      rw[hb]at hs;simp only[aoK,if_false]at hs
      injection hs with h1 h2
      have hd:S.drop i=S[i]::S.drop (i+1):=aoI hlt;have l1:1<=cy (S.drop i):=by rw[hd];exact nJ _ _
      have l2:cy (S.drop i)<=S.length-i:=by
       have:=tC S[i] (S.drop (i+1));rw[hd];rw[aoN]at this;omega
      have hl:t.1.length=cy (S.drop i):=by rw[h1];simp;omega
      have Tp:t.2=i:=by rw[h1]
      have h3:t.1=(S.take (t.2+t.1.length)).drop t.2:=by
       rw[Tp,hl,h1,aoZ,aoJ ah];simp
      exact⟨by omega,by omega,by omega,h3,by rw[Tp,hl];exact h2.symm⟩
   have:S.drop i=[]:=anj hge
   rw[this,lex_nil]at e;cases e
section
variable {S:Tx} {l:List Tok}
theorem Lx.start(S:Tx):Lx S (lex 0 S):=⟨0,Nat.zero_le _,rfl⟩
theorem Lx.at(S:Tx){i:Nat}(h:i<=S.length):Lx S (lex i (S.drop i)):=⟨i,h,rfl⟩
theorem Lx.head{t:Tok}{r:List Tok}(h:Lx S (t::r)):1<=t.1.length/\t.2+t.1.length<=S.length:=by
 obtain⟨i,hi,e⟩:=h;obtain⟨-, a,b, -⟩:=Mq _ _ i (anb _) hi t r e;exact⟨a,b⟩
theorem Lx.next(h:Lx S l):gh S.length l<=S.length/\lex (gh S.length l) (S.drop (gh S.length l))=l.tail:=by
 cases l with
 |nil=>exact⟨anb _,by show lex S.length (S.drop S.length)=[];rw[aob,lex_nil]⟩
 | cons t r=>
   obtain⟨i,hi,e⟩:=h;obtain⟨-, a,b,-, c⟩:=Mq _ _ i (anb _) hi t r e;exact⟨b,c⟩
theorem Lx.tail(h:Lx S l):Lx S l.tail:=⟨_,h.next.1,h.next.2⟩
theorem Lx.au(h:Lx S l):(Go.Proofs.YtkbbgjloifmmbaaGreatDoor.au l).length<=S.length:=by
 cases l with
 |nil=>exact Nat.zero_le _
 |cons t r=>have:=h.head;show t.1.length<=_;omega
theorem Lx.len(h:Lx S l):l.length<=S.length:=by
 obtain⟨i,hi,rfl⟩:=h;have:=Ck _ i (S.drop i) (anb _);simp at this;omega
end
theorem aeH(h:cg c=true):aY (c::r)=1:=by show(if cg c then 1 else _)=1;rw[if_pos h]
theorem yu(h:aC u=true):aY u=1:=by
 obtain⟨c,r,rfl,h2⟩:=MC h;exact aeH h2
theorem Md(h:dh af u=some n):aY u=1:=by
 obtain⟨h1,rfl⟩:=Df h;have h3: ∀n:Fin 15,aY (cI n.val)=1:=dx;have h2: ∀n:Fin 32,aY (iu n.val)=1:=dx;unfold ek dO at*;split
 ·rename_i e;rw[if_pos e]at h1;exact h3 ⟨n,by omega⟩
 rename_i e;rw[if_neg e]at h1;exact h2 ⟨n,by omega⟩
theorem aeG(v:Int):aY (aoe v)=2:=by
 have hd: ∀n:Nat,∃c r,aoc n=c::r/\aD c=true:=fun n=>by
  cases h:aoc n with
  |nil=>have:=Lib.decDigits_length n;have h2:=Lib.nDigits_pos n;rw[h]at this;simp at this;omega
  |cons c r=>exact⟨c,r,rfl,Fi.2 (od n c (by rw[h];simp))⟩
 by_cases h0:0<=v
 ·obtain⟨u,rfl⟩: ∃u:Nat,v=(u:Int):=⟨v.toNat,by omega⟩
  rw[Lib.itoa_nonneg];obtain⟨c,r,e,h⟩:=hd u;rw[e,uI,(JZ h).2.1,h];rfl
 obtain⟨u,rfl,hu⟩: ∃u:Nat,v= -(u:Int)/\1<=u:=⟨v.natAbs,by omega,by omega⟩
 rw[Lib.itoa_neg u hu];obtain⟨c,r,e,h⟩:=hd u;rw[e,uI,if_neg (by decide),if_pos (by simp)]
theorem Cg(h:aU u=some v):aY u=2:=by
 rw[(nK.1 h).1];exact aeG v
theorem aeF(h:aY u=2):qz u=true:=by
 cases u with
 |nil=>cases h
 | cons c r=>
   have h:(if cg c then 1 else if aD c||(c==45&&decide (0<r.length))then 2 else 3)=2:=h;show(aD c||c==45)=true
   split at h
   ·cases h
   split at h
   ·rename_i h1;simp only[Bool.or_eq_true,anS]at h1⊢
    rcases h1 with h1|h1
    ·exact .inl h1
    exact .inr h1.1
   cases h
theorem af8(h:aC u=true):qz u=false:=by
 obtain⟨c,r,rfl,hl⟩:=MC h;clear h;show(aD c||c==45)=false
 have h1:aD c=false:=by
  cases hd:aD c with
  |false=>rfl
  |true=>have:=(JZ hd).2.1;rw[hl]at this;cases this
 have h2:c≠45:=by rintro rfl;exact absurd hl (by decide)
 simp[h1,h2]
theorem Hh(af:Int)(l:List Tok):eY af l=if aY (au l)=2 then(match jM 0 15 l with
 | .error e=>.error e
 | .ok (n,r)=>match bg [58] r with
   | .error e=>.error e
   | .ok r=>match dh af (au r)with
     |none=>.error r
     |some k=>.ok (⟨n,k,[]⟩,r.tail))
 else if au l=[91]then(match iL l.tail with
  | .error e=>.error e
  | .ok (x,r)=>match bg [93] r with
    | .error e=>.error e
    | .ok r=>.ok (⟨-1,0,x⟩,r))
 else match iL l with
  | .error e=>.error e
  | .ok (x,r)=>.ok (⟨-1,0,x⟩,r):=by
 unfold eY
 by_cases hk:aY (au l)=2
 ·have h1:au l≠[91]:=fun e=>by rw[e]at hk;exact absurd hk (by decide)
  rw[if_neg h1,if_pos (aeF hk),if_pos hk]<;>rfl
 rw[if_neg hk]
 by_cases h1:au l=[91]
 ·rw[if_pos h1,if_pos h1]<;>rfl
 rw[if_neg h1,if_neg h1]
 by_cases h2:qz (au l)=true
 ·rw[if_pos h2]
  have e1:jM 0 15 l= .error l:=by
   cases l with
   |nil=>rfl
   | cons t r=>
     rw[pG];cases h:aU t.1 with
     |none=>rfl
     |some v=>exact absurd (Cg h) hk
  have e2:iL l= .error l:=by
   cases l with
   |nil=>rfl
   | cons t r=>
     rw[rN,if_neg];intro h;have:=af8 h;have h2:qz t.1=true:=h2;rw[this]at h2;cases h2
  rw[e1,e2]
 rw[if_neg h2]<;>rfl
theorem VH(S:Tx): ∀(n i:Nat),S.length-i<=n->i<=S.length-> ∃j,i<=j/\j<=S.length/\(∀k,i<=k->k<j-> ∃x,S[k]? =some x/\aq x=true)/\(∀x,S[j]? =some x->aq x=false)/\lex i (S.drop i)=lex j (S.drop j)
 | n,i,h,hi=>by
   rcases ani i S.length with hlt|hge
   ·have hg:=am9 hlt
    have hs:=Gp hg;cases hb:aq S[i]with
    | true=>
      rw[hb]at hs;cases n with
      |zero=>omega
      | succ n=>
        obtain⟨j,h1,h2,h3,h4,h5⟩:=VH S n (i+1) (by omega) (by omega);refine⟨j,by omega,h2,fun k hk hkj=>?_,h4,by rw[hs];exact h5⟩;rcases ani i k with h|h
        ·exact h3 k (by omega) hkj
        have:k=i:=by omega
        subst this;exact⟨_,hg,hb⟩
    |false=>exact⟨i,anb _,hi,fun k h1 h2=>by omega,(fun x hx=>by rw[hg]at hx;cases hx;exact hb),rfl⟩
   exact⟨i,anb _,hi,fun k h1 h2=>by omega,(fun x hx=>by rw[anI hge]at hx;cases hx),rfl⟩
theorem pK(p:UInt8->Bool)(S:Tx): ∀(n a:Nat),S.length-a<=n->a<=S.length-> ∃q,a<=q/\q<=S.length/\(∀k,a<=k->k<q-> ∃x,S[k]? =some x/\p x=true)/\(∀x,S[q]? =some x->p x=false)/\((S.drop a).takeWhile p).length=q-a
 | n,i,h,hi=>by
   rcases ani i S.length with hlt|hge
   ·have hg:=am9 hlt
    have hd:S.drop i=S[i]::S.drop (i+1):=aoI hlt;cases hb:p S[i]with
    | true=>
      cases n with
      |zero=>omega
      | succ n=>
        obtain⟨j,h1,h2,h3,h4,h5⟩:=pK p S n (i+1) (by omega) (by omega);refine⟨j,by omega,h2,fun k hk hkj=>?_,h4,by rw[hd,aom,if_pos hb,ans,h5];omega⟩;rcases ani i k with h|h
        ·exact h3 k (by omega) hkj
        have:k=i:=by omega
        subst this;exact⟨_,hg,hb⟩
    |false=>exact⟨i,anb _,hi,fun k h1 h2=>by omega,(fun x hx=>by rw[hg]at hx;cases hx;exact hb),by rw[hd,aom,if_neg (by rw[hb];decide)];simp⟩
   exact⟨i,anb _,hi,fun k h1 h2=>by omega,(fun x hx=>by rw[anI hge]at hx;cases hx),by rw[anj hge];simp⟩
def Jg(S:Tx)(l:List Tok)(j k m:Nat):Prop:=dz S.length l=j/\gh S.length l=m/\au l=(S.take m).drop j/\aY (au l)=k
theorem alz(h:S.length<=j)(hj:j<=S.length):Jg S (lex j (S.drop j)) S.length 0 S.length/\au (lex j (S.drop j))=[]:=by
 rw[anj h,lex_nil];exact⟨⟨rfl,rfl,by show[]=_;simp,rfl⟩,rfl⟩
theorem alA(h:S[j]? =some c)(hb:aq c=false):Jg S (lex j (S.drop j)) j (if cg c then 1 else if aD c||(c==45&&((S[j+1]?).any aD))then 2 else 3) (j+cy (S.drop j)):=by
 have hs:=Gp h;obtain⟨hlt,rfl⟩:=anx.1 h;rw[hb]at hs;simp only[aoK,if_false]at hs;have hd:S.drop j=S[j]::S.drop (j+1):=aoI hlt
 have l2:cy (S.drop j)<=S.length-j:=by
  have:=tC S[j] (S.drop (j+1));rw[hd];rw[aoN]at this;omega
 have e1:(S.drop j).take (cy (S.drop j))=(S.take (j+cy (S.drop j))).drop j:=by
  rw[aoZ,aoJ ah];simp
 have hk:aY ((S.drop j).take (cy (S.drop j)))=if cg S[j]then 1 else if aD S[j]||(S[j]==45&&((S[j+1]?).any aD))then 2 else 3:=by
  have:=afw S[j] (S.drop (j+1));rw[<-hd]at this;rw[this,ao4]
 rw[hs];refine⟨rfl,?_,e1,hk⟩;show j+((S.drop j).take (cy (S.drop j))).length=_;rw[ao2,aoN,Nat.min_eq_left l2]
theorem afz{q:Nat}(h:S[j]? =some c)(hl:cg c=true)(hq:((S.drop (j+1)).takeWhile cP).length=q-(j+1))(rG:j+1<=q):j+cy (S.drop j)=q:=by
 obtain⟨hlt,rfl⟩:=anx.1 h;rw[aoI hlt,kD,if_pos hl,hq];omega
theorem afx{q:Nat}(h:S[j]? =some c)(hl:cg c=false)(hd:(aD c||(c==45&&((S[j+1]?).any aD)))=true)(hq:((S.drop (j+1)).takeWhile aD).length=q-(j+1))(rG:j+1<=q):j+cy (S.drop j)=q:=by
 obtain⟨hlt,rfl⟩:=anx.1 h;rw[aoI hlt,kD,if_neg (by rw[hl];decide),ao4,if_pos hd,hq];omega
theorem afy(h:S[j]? =some c)(hl:cg c=false)(hd:(aD c||(c==45&&((S[j+1]?).any aD)))=false):j+cy (S.drop j)=if(c==47&&S[j+1]? ==some 92)||(c==92&&S[j+1]? ==some 47)then j+2 else j+1:=by
 obtain⟨hlt,rfl⟩:=anx.1 h;rw[aoI hlt,kD,if_neg (by rw[hl];decide),ao4,if_neg (by rw[hd];decide)]
 split<;>rfl
end Go.Proofs.YtkbbgjloifmmbaaGreatDoor
