/- What ReadBackP leans on, part 12. -/
import Derived.Test.YtkbbgjloifmmbaaGreatDoorRb11
set_option linter.unusedVariables false
namespace Go.Proofs.YtkbbgjloifmmbaaGreatDoor
open _root_.List renaming cons_append->anr,length_cons->ans,drop_append_of_le_length->ank,length_tail->anQ,nil_append->anJ,take_append_of_le_length->anR,mem_singleton->anw,append_inj'->anN,takeWhile_cons->anC,all_eq_true->anq,append_nil->anz
open _root_.Nat renaming le_refl->amS
open _root_.Go.Lib renaming itoa->anj
open _root_.List.cons renaming injEq->anO
def aq(r:Tx):Tx:=r.dropWhile aj
def aI(u:Tx):Tx:=dz (u.takeWhile (· != 10))
def aZ(u:Tx):Tx:=(u.dropWhile (· != 10)).drop 1
def nb(c:UInt8):Bool:= !aj c
def sG(l:Tx):Option (Tx × Tx):=
 let m:=(l.dropWhile nb).dropWhile aj
 if m=[]\/m.any aj=true then none else some (l.takeWhile nb,m)
def xu(w:Tx):Option Int:=if w=[88,56,54]then some 1 else if w=[82,73,83,67,86]then some 2 else none
abbrev EP(α:Type):=Except (Int × Nat) α
def bO(N:Nat)(u:Tx):Nat:=N-u.length
def gE(N:Nat)(r:Tx):EP (Int × Tx × Tx):=
 let u:=aq r
 match sG (aI u)with
 |none=>.error (140,bO N u)
 | some (w,n)=>match xu w with
   |none=>.error (5,bO N u)
   |some a=>.ok (a,n,aZ u)
def eP(N:Nat)(r:Tx):EP (Tx × Tx):=
 let u:=aq r
 let l:=aI u
 if l.head?≠some 34 then .ok ([],r)
 else if l.length<2\/l.getLast?≠some 34\/l.count 34≠2 then .error (140,bO N u)
 else .ok (ah (l.drop 1).dropLast,aZ u)
def jl(af:Int)(h:Tx):Option aF:=
 if h.head?=some 91/\h.getLast?=some 93/\2<=h.length then
  (if az (ah (h.drop 1).dropLast)=true then some ⟨-1,0,ah (h.drop 1).dropLast,[],0⟩else none)
 else if(58:UInt8)∈h then
  match cD (ah (h.takeWhile (· != 58))),dQ af (ah ((h.dropWhile (· != 58)).drop 1))with
  |some n,some r=>if 0<=n/\n<16 then some ⟨n,r,[],[],0⟩else none
  |_,_=>none
 else if az h=true then some ⟨-1,0,h,[],0⟩else none
def fH(v:Tx):Option (Tx × Int):=match cD v with
 |some n=>some ([],n)
 |none=>if az v=true then some (v,0)else none
def mZ(o:Option aF)(v:Option (Tx × Int)):Option aF:=match o,v with
 |some x,some (l,n)=>some ⟨x.thread,x.au,x.loc,l,n⟩
 |_,_=>none
theorem tS(o:Option aF):mZ o none=none:=by cases o<;>rfl
theorem yq(v:Option (Tx × Int)):mZ none v=none:=rfl
def kO(af:Int)(s:Tx):Option aF:=
 if 262144<s.length\/(61:UInt8)∉s then none
 else mZ (jl af (ah (s.takeWhile (· != 61)))) (fH (ah ((s.dropWhile (· != 61)).drop 1)))
def gM(af:Int)(N:Nat):List Tx->Tx->List aF->EP (List aF)
 |[],_,acc=>.ok acc
 | p::L,v,acc=>
   if ah p=[]then gM af N L (v.drop (p.length+1)) acc
   else match kO af p with
    |none=>.error (140,bO N (aq v))
    |some x=>gM af N L (v.drop (p.length+1)) (acc++[x])
def fD(af:Int)(N:Nat)(r:Tx):EP (List aF × Tx):=
 let u:=aq r
 if u.head?≠some 123\/(125:UInt8)∉u then .error (140,bO N u)
 else match gM af N (aD 59 ((u.takeWhile (· != 125)).drop 1)) (u.drop 1) []with
  | .error e=>.error e
  | .ok l=>.ok (l,(u.dropWhile (· != 125)).drop 1)
def gp(u:Tx):Bool:=(aI u).getLast?==some 59
def gB(u:Tx):List Tx:=aD 124 (aI u).dropLast
def pE(af:Int)(s:Tx):Option Ins:=if af=1 then eL s else eD s
def dO(af:Int)(N:Nat):List Tx->Tx->List (List Ins)->EP (List (List Ins))
 |[],_,acc=>.ok acc
 |c::L,v,[]=>.ok []
 | c::L,v,x::acc=>
   if ah c=[]then match dO af N L (v.drop (c.length+1)) acc with
    | .error e=>.error e
    | .ok r=>.ok (x::r)
   else match pE af (ah c)with
    |none=>.error (91,bO N (aq v))
    | some i=>match dO af N L (v.drop (c.length+1)) acc with
      | .error e=>.error e
      | .ok r=>.ok ((x++[i])::r)
def jj(af:Int)(N:Nat):Nat->Tx->List (List Ins)->EP (List (List Ins) × Tx)
 |0,r,acc=>.ok (acc,r)
 | n+1,r,acc=>
   let u:=aq r
   if gp u=false then .ok (acc,r)
   else if(gB u).length≠acc.length then .error (140,bO N u)
   else match dO af N (gB u) u acc with
    | .error e=>.error e
    | .ok l=>jj af N n (aZ u) l
def qg(l:List Tx):Bool:=l.mapIdx (fun i c=>decide (ah c=80::anj (i:Int))) |>.all id
def gu(af:Int)(N:Nat)(r:Tx):EP (List (List Ins) × Tx):=
 let u:=aq r
 if gp u=false\/qg (gB u)=false then .error (140,bO N u)
 else jj af N (r.length+1) (aZ u) (List.replicate (gB u).length [])
def kK(af:Int)(N:Nat)(r:Tx):EP (Int × Nd):=
 let u:=aq r
 match cM af u with
 | .ok c=>.ok c
 | .error (e,k)=>.error (e,if e=2 then 0 else bO N u+k)
def sn(af:Int)(name aC:Tx)(init:List aF)(code:List (List Ins))(q:Int)(x:Nd):ak:=⟨af,name,aC,none,0,init,none,0,code.map fun l=>⟨none,0,l⟩,q,x⟩
def jO(N:Nat)(s:Tx):EP ak:=do
 let (a,n,r) <-gE N s
 let (c,r) <-eP N r
 let (i,r) <-fD a N r
 let (l,r) <-gu a N r
 let (q,x) <-kK a N r
 .ok (sn a n c i l q x)
def gL(s:Tx):EP ak:=
 if 262144<s.length then .error (2,0)
 else match jO s.length s with
  | .error e=>.error e
  | .ok t=>if bI t=0 then .ok t else .error (bI t,0)
def av(s:Tx):List Tx:=(lex 0 s).map (·.1)
theorem JI: ∀(n p q:Nat) (s:Tx),(gW n p s).map (·.1)=(gW n q s).map (·.1)
 |0,_,_,_=>rfl
 |n+1,_,_,[]=>rfl
 | n+1,p,q,c::r=>by
   show(if aj c then gW n (p+1) r else _::gW n _ _).map (·.1)=(if aj c then gW n (q+1) r else _::gW n _ _).map (·.1);split
   ·exact JI n _ _ r
   ·simp only[List.map_cons];rw[JI n (p+bS (c::r)) (q+bS (c::r))]
theorem JO(p:Nat)(s:Tx):(lex p s).map (·.1)=av s:=JI _ _ _ _
theorem vW:av []=[]:=rfl
theorem ku{c:UInt8}(r:Tx)(h:aj c=true):av (c::r)=av r:=by rw[av,yx 0 r h,JO]
theorem kP{c:UInt8}(r:Tx)(h:aj c=false):av (c::r)=(c::r).take (bS (c::r))::av ((c::r).drop (bS (c::r))):=by
 rw[av,Bh 0 r h,List.map_cons,JO]
def vw(c:UInt8):Bool:=c==61||c==58||c==91||c==93
theorem ID{c:UInt8}(h:vw c=true):aj c=false/\bU c=false/\aR c=false/\cG c=false/\c≠45/\c≠47/\c≠92:=by
 have k:=kZ (p:=fun c=> !vw c||(!aj c&& !bU c&& !aR c&& !cG c&&c != 45&&c != 47&&c != 92)) (by decide+kernel) c;rw[h]at k;simpa[and_assoc]using k
theorem aet{c:UInt8}(r:Tx)(h:vw c=true):bS (c::r)=1:=by
 obtain⟨h1,h2,h3,h4,h5,h6,h7⟩:=ID h;rw[ju];simp[h3,h4,h5,h6,h7]
theorem wJ{p:UInt8->Bool}{c:UInt8}(h:p c=false)(B:Tx): ∀A:Tx,(A++c::B).takeWhile p=A.takeWhile p
 |[]=>by simp[h]
 | x::A=>by
   rw[anr,anC,anC,wJ h B A]
theorem aeu{c x:UInt8}(A B:Tx)(h:vw c=true):bS (x::A++c::B)=bS (x::A):=by
 obtain⟨h1,h2,h3,h4,h5,h6,h7⟩:=ID h;rw[anr];rw[ju,ju];rw[wJ h2,wJ h3];cases A with
 |nil=>simp[h3,h6,h7]
 |cons y A=>simp
theorem nX: ∀(n:Nat) (A B:Tx) {c:UInt8},A.length<=n->vw c=true->av (A++c::B)=av A++[c]::av B
 | _,[],B,c,_,h=>by
   rw[anJ,kP _ (ID h).1,aet _ h];rfl
 |0,_::_,_,_,hn,_=>absurd hn (by simp)
 | n+1,x::A,B,c,hn,h=>by
   simp only[ans]at hn;cases hb:aj x with
   |true=>rw[anr,ku _ hb,ku _ hb,nX n A B (by omega) h]
   | false=>
     have hp:=mB x A;have hle:=tZ x A;have e:=aeu (x:=x) A B h;rw[anr]at e⊢;rw[kP _ hb,kP _ hb,e,<-anr,anR (by simp;omega),ank (by simp;omega),nX n _ B (by simp;omega) h,anr]
theorem tW: ∀(n:Nat) (A B:Tx),A.length<=n->(∀c∈B,aj c=true)->av (A++B)=av A
 |_,[],[],_,_=>rfl
 |n,[],c::B,hn,h=>by rw[anJ,ku _ (h c (by simp))];exact tW n [] B hn (fun d hd=>h d (by simp[hd]))
 |0,_::_,_,hn,_=>absurd hn (by simp)
 |n+1,x::A,[],hn,h=>by rw[anz]
 | n+1,x::A,c::B,hn,h=>by
   simp only[ans]at hn;have hc:=h c (by simp)
   have hno:bU c=false/\aR c=false/\c≠47/\c≠92:=by
    have k:=kZ (p:=fun c=> !aj c||(!bU c&& !aR c&&c != 47&&c != 92)) (by decide+kernel) c;rw[hc]at k;simpa[and_assoc]using k
   cases hb:aj x with
   |true=>rw[anr,ku _ hb,ku _ hb,tW n A _ (by omega) h]
   | false=>
     have hp:=mB x A;have hle:=tZ x A
     have e:bS (x::(A++c::B))=bS (x::A):=by
      rw[ju,ju];rw[wJ hno.1,wJ hno.2.1];cases A with
      |nil=>simp[hno.2.1,hno.2.2.1,hno.2.2.2]
      |cons y A=>simp
     rw[anr,kP _ hb,kP _ hb,e,<-anr,anR (by simp;omega),ank (by simp;omega),tW n _ _ (by simp;omega) h]
theorem Be: ∀l:Tx,av (l.dropWhile aj)=av l
 |[]=>rfl
 | c::r=>by
   rw[List.dropWhile_cons];split
   ·rename_i h;rw[Be r,ku _ h]
   ·rfl
theorem tX(l:Tx):av (ah l)=av l:=by
 obtain⟨b,h1,h2⟩:=qB l;rw[pL,Be]
 conv=>rhs;rw[h1]
 exact(tW _ _ _ (amS _) h2).symm
theorem Eo: ∀{s:Tx},av s=[]-> ∀c∈s,aj c=true
 |[],_,c,hc=>by cases hc
 | x::s,h,c,hc=>by
   cases hb:aj x with
   | true=>
     rw[ku _ hb]at h;rcases List.mem_cons.1 hc with rfl|hc
     ·exact hb
     ·exact Eo h c hc
   |false=>rw[kP _ hb]at h;cases h
theorem Sb{s w:Tx}{L:List Tx}(h: ∀c,s.head?=some c->aj c=false)(hw:av s=w::L): ∃r,s=w++r/\av r=L/\w≠[]:=by
 cases s with
 |nil=>cases hw
 | cons c r=>
   rw[kP _ (h c rfl),anO]at hw;refine⟨_,by rw[<-hw.1];exact(List.take_append_drop _ _).symm,hw.2,?_⟩;rw[<-hw.1];have:=mB c r;cases hk:bS (c::r)with
   |zero=>omega
   |succ k=>simp
theorem Bf{s a:Tx}(h:Tr s)(hw:av s=[a]):s=a:=by
 obtain⟨r,rfl,hr, -⟩:=Sb h.1 hw;rw[Nt h.2 (Eo hr),anz]
theorem JK: ∀(n:Nat) (s:Tx),s.length<=n-> ∀w∈av s,∀c∈w,c∈s
 |_,[],_,w,hw,_,_=>by cases hw
 |0,_::_,hn,_,_,_,_=>absurd hn (by simp)
 | n+1,x::s,hn,w,hw,c,hc=>by
   simp only[ans]at hn;cases hb:aj x with
   |true=>rw[ku _ hb]at hw;exact List.mem_cons_of_mem _ (JK n s (by omega) w hw c hc)
   | false=>
     have hp:=mB x s;rw[kP _ hb]at hw;rcases List.mem_cons.1 hw with rfl|hw
     ·exact List.mem_of_mem_take hc
     ·exact List.mem_of_mem_drop (JK n _ (by simp;omega) w hw c hc)
theorem Ep{s w:Tx}{c:UInt8}(hw:w∈av s)(hc:c∈w):c∈s:=JK _ s (amS _) w hw c hc
theorem JL{s:Tx}(h0:s≠[])(hb: ∀c,s.head?=some c->aj c=false)(h:bS s=s.length):av s=[s]:=by
 cases s with
 |nil=>exact absurd rfl h0
 | cons c r=>
   rw[kP _ (hb c rfl),h];simp[vW]
theorem ad7{c:UInt8}(h:cG c=true):aj c=false:=by
 have k:=kZ (p:=fun c=> !cG c|| !aj c) (by decide+kernel) c;rw[h]at k;simpa using k
theorem alz{s:Tx}(h: ∃c r,s=c::r/\cG c=true)(h2: ∀b∈s,bU b=true):av s=[s]:=by
 obtain⟨c,r,rfl,hc⟩:=h;refine JL (by simp) (fun d hd=>by simp at hd;subst hd;exact ad7 hc) ?_;rw[ju];rw[if_pos hc,(y8 (fun b hb=>h2 b (by simp[hb]))).1,ans];omega
theorem yC{s:Tx}(h:az s=true):av s=[s]:=alz (Bn h) (yB h)
theorem aa0{c:UInt8}(h:aR c=true):aj c=false/\cG c=false/\c≠45:=by
 have k:=kZ (p:=fun c=> !aR c||(!aj c&& !cG c&&c != 45)) (by decide+kernel) c;rw[h]at k;simpa[and_assoc]using k
theorem vQ(n:Int):av (anj n)=[anj n]:=by
 unfold anj;split
 ·have h1:=xK n.natAbs
  have h2:=O3 (xJ n.natAbs);generalize Lib.decDigits n.natAbs=d at*;refine JL (by simp) (fun c hc=>by simp at hc;subst hc;rfl) ?_;cases d with
  |nil=>exact absurd rfl h1
  | cons c r=>
    rw[anq]at h2;have h3:(c::r).takeWhile aR=c::r:=(y8 h2).1;have h4:=h2 c (by simp);rw[ju];rw[if_neg (by decide),if_pos (by simp[h4]),h3];simp;omega
 ·have h1:=xK n.toNat
  have h2:=O3 (xJ n.toNat);generalize Lib.decDigits n.toNat=d at*;cases d with
  |nil=>exact absurd rfl h1
  | cons c r=>
    rw[anq]at h2;have h4:=h2 c (by simp);obtain⟨b1,b2,b3⟩:=aa0 h4;refine JL (by simp) (fun d hd=>by simp at hd;subst hd;exact b1) ?_;have h3:r.takeWhile aR=r:=(y8 (fun b hb=>h2 b (by simp[hb]))).1;rw[ju];rw[if_neg (by simp[b2]),if_pos (by simp[h4]),h3];simp;omega
theorem Bz{af:Int}{s:Tx}{n:Nat}(h:dQ af s=some n):(n:Int)<cE af/\s=cz af n:=by
 unfold dQ at h;have h1:=List.find?_some h;have h2:=List.mem_range.1 (List.mem_of_find?_eq_some h);exact⟨by omega,(by simpa using h1:cz af n=s).symm⟩
theorem Fa{af:Int}{n:Nat}(h:(n:Int)<cE af):av (cz af n)=[cz af n]:=by
 have h1: ∀n:Fin 15,av (aO n.val)=[aO n.val]:=by decide+kernel
 have h2: ∀n:Fin 32,av (bH n.val)=[bH n.val]:=by decide+kernel
 unfold cz cE at*;split
 ·rename_i e;rw[if_pos e]at h;exact h1 ⟨n,by omega⟩
 ·rename_i e;rw[if_neg e]at h;exact h2 ⟨n,by omega⟩
def kX(af:Int):List Tx->Option aF
 |[a]=>if az a=true then some ⟨-1,0,a,[],0⟩else none
 | [a,b,c]=>if a=[91]/\c=[93]/\az b=true then some ⟨-1,0,b,[],0⟩
   else if b=[58]then(match cD a,dQ af c with
    |some n,some r=>if 0<=n/\n<16 then some ⟨n,r,[],[],0⟩else none
    |_,_=>none)
   else none
 |_=>none
theorem Li(af:Int)(a b c:Tx):kX af [a,b,c]=if a=[91]/\c=[93]/\az b=true then some ⟨-1,0,b,[],0⟩
 else if b=[58]then(match cD a,dQ af c with
  |some n,some r=>if 0<=n/\n<16 then some ⟨n,r,[],[],0⟩else none
  |_,_=>none)
 else none:=rfl
theorem ae5:cD [58]=none:=by decide+kernel
theorem ae6:cD [61]=none:=by decide+kernel
theorem ae7:cD [91]=none:=by decide+kernel
theorem alg{s:Tx}(h:Tr s):fH s=match av s with
 |[a]=>fH a
 |_=>none:=by
 cases hr:fH s with
 | some n=>
   have e:av s=[s]:=by
    unfold fH at hr;cases hn:cD s with
    |some v=>obtain⟨rfl, -⟩:=mC.1 hn;exact vQ v
    | none=>
      rw[hn]at hr;simp only at hr
      split at hr
      ·rename_i hh;exact yC hh
      ·cases hr
   rw[e];exact hr.symm
 | none=>
   split
   ·rename_i a e;rw[<-Bf h e];exact hr.symm
   ·rfl
theorem aea{m:Tx}{z:UInt8}(hz:aj z=false){L:List Tx}{c:UInt8}(hc:vw c=true)(h:av (m++[z])=L++[[c]]):z=c/\av m=L:=by
 have key: ∀(n:Nat) (m:Tx),m.length<=n-> ∃K w,av (m++[z])=K++[w++[z]]:=by
  intro n
  induction n with
  | zero=>
    intro m hm;obtain rfl:=List.length_eq_zero_iff.1 (by omega:m.length=0);refine⟨[],[],?_⟩;rw[anJ,kP _ hz];have h1:=mB z [];have h2:=tZ z [];rw[show bS [z]=1 by simp at h2;omega];rfl
  | succ n ih=>
    intro m hm;cases m with
    |nil=>exact ih [] (by simp)
    | cons x m=>
      simp only[ans]at hm;rw[anr];cases hb:aj x with
      |true=>rw[ku _ hb];exact ih m (by omega)
      | false=>
        have hp:=mB x (m++[z]);have hle:=tZ x (m++[z]);rw[kP _ hb];obtain⟨k,hk⟩: ∃k,bS (x::(m++[z]))=k:=⟨_,rfl⟩;rw[hk]at hp hle⊢;rw[<-anr];rcases Nat.lt_or_ge (x::m).length k with h1|h1
        ·have:k=(x::m++[z]).length:=by simp at hle h1 ⊢; omega
         refine⟨[],x::m,?_⟩;rw[this,List.take_length,List.drop_length];rfl
        ·obtain⟨K,w,e⟩:=ih ((x::m).drop k) (by simp;omega)
         refine⟨(x::m++[z]).take k::K,w,?_⟩;rw[ank h1,e];rfl
 cases hh:vw z with
 | true=>
   have e:=nX _ m [] (amS _) hh;rw[show m++z::[]=m++[z]from rfl,h]at e;have:=anN (show L++[[c]]=av m++[[z]]from e) rfl;exact⟨by simpa using this.2.symm,this.1.symm⟩
 | false=>
   obtain⟨K,w,e⟩:=key _ m (amS _);rw[h]at e;have:=(anN e rfl).2;have e4:[]++[c]=w++[z]:=by simpa using this
   have e5:=(anN e4 rfl).2;simp only[anO,and_true]at e5;rw[e5]at hc;rw[hc]at hh;cases hh
theorem akD(af:Int){s:Tx}(h:Tr s):jl af s=kX af (av s):=by
 unfold jl
 by_cases nR:s.head?=some 91/\s.getLast?=some 93/\2<=s.length
 ·rw[if_pos nR]
  obtain⟨h1,h2,h3⟩:=nR;have e:=SJ h3 h1 h2;generalize (s.drop 1).dropLast=m at*;subst e
  have e2:av (91::(m++[93]))=[91]::(av m++[[93]]):=by
   have:=nX 0 [] (m++[93]) (c:=91) (by simp) (by decide);rw[anJ]at this;rw[this,show m++[93]=m++93::[]from rfl,nX _ m [] (amS _) (by decide)];rfl
  rw[e2];split
  ·rename_i hn
   rw[<-tX m,yC hn];show _=if _ then _ else _
   rw[if_pos ⟨rfl,rfl,hn⟩]
  ·rename_i hn
   have hl:=tX m;generalize av m=M at*
   match M with
   |[]=>rfl
   | [b]=>
     have ht:ah m=b:=Bf (Tr.trim m) hl;show none=if _ then _ else _
     rw[if_neg (by rintro⟨-, -, hb⟩;rw[ht]at hn;exact hn hb)];split
     ·rw[ae7]
     ·rfl
   |_::_::t=>cases t<;>rfl
 ·rw[if_neg nR]
  by_cases oV:(58:UInt8)∈s
  ·rw[if_pos oV]
   obtain⟨A,B,e,hA⟩:=DI 58 _ oV;obtain⟨k1,k2⟩:=wI 58 B A hA;rw[<-e]at k1 k2;have e2:av s=av (ah A)++[58]::av (ah B):=by rw[e,nX _ A B (amS _) (by decide),tX,tX]
   rw[k1,k2,e2];simp only[List.drop_one,List.tail_cons];have hno:([58]:Tx)∉av (ah A):=fun hm=>hA (Fy (Ep hm (by simp)))
   cases hn:cD (ah A)with
   | none=>
     have t1:=fun a (e:av (ah A)=[a])=>Bf (Tr.trim A) e
     generalize av (ah A)=P at*;generalize av (ah B)=Q at*
     match P,Q with
     |[],[]=>rfl
     |[],[_]=>rfl
     | [],[b,c]=>
       show none=kX af [[58],b,c];rw[Li,if_neg (by rintro⟨e, -⟩;cases e),ae5]
       split<;>rfl
     |[],_::_::_::_=>rfl
     |[a],[]=>rfl
     | [a],[c]=>
       show none=if _ then _ else _
       rw[if_neg (by rintro⟨-, -, e⟩;cases e),if_pos rfl,<-t1 a rfl,hn]
     |[a],_::_::_=>rfl
     | [a,b],[]=>
       show none=if _ then _ else _
       rw[if_neg (by rintro⟨-, e, -⟩;cases e),if_neg (fun e=>hno (by simp[e]))]
     |[a,b],_::_=>rfl
     |_::_::_::t,Q=>cases t<;>cases Q<;>rfl
   | some n=>
     have eA:av (ah A)=[ah A]:=by obtain⟨e, -⟩:=mC.1 hn;rw[e];exact vQ n
     rw[eA];cases hr:dQ af (ah B)with
     | none=>
       have t1:=fun a (e:av (ah B)=[a])=>Bf (Tr.trim B) e
       generalize av (ah B)=Q at*
       match Q with
       |[]=>rfl
       | [c]=>
         show none=if _ then _ else _
         rw[if_neg (by rintro⟨-, -, e⟩;cases e),if_pos rfl,<-t1 c rfl,hr];simp only[hn]
       |_::_::_=>rfl
     | some r=>
       obtain⟨e1,e3⟩:=Bz hr;have eB:av (ah B)=[ah B]:=by rw[e3];exact Fa e1
       rw[eB];show _=if _ then _ else _
       rw[if_neg (by rintro⟨-, -, e⟩;cases e),if_pos rfl,hn,hr]
  ·rw[if_neg oV]
   split
   ·rename_i hn;rw[yC hn];show _=if _ then _ else _;rw[if_pos hn]
   ·rename_i hn
    have hno:([58]:Tx)∉av s:=fun hm=>oV (Ep hm (by simp))
    have t1:=fun a (e:av s=[a])=>Bf h e
    have t3: ∀b,av s≠[[91],b,[93]]:=fun b e3=>by
     obtain⟨r,hs,hr, -⟩:=Sb h.1 e3;have hne:r≠[]:=by intro e;subst e;cases hr
     obtain⟨z,hz⟩: ∃z,r.getLast?=some z:=⟨r.getLast hne,List.getLast?_eq_some_getLast hne⟩;obtain⟨m,rfl⟩:=tV.1 hz;have hzb:aj z=false:=h.2 z (by rw[hs,yu hne];exact hz);obtain⟨rfl, -⟩:=aea hzb (L:=[b]) (c:=93) (by decide) hr;exact nR ⟨by rw[hs];rfl,by rw[hs,yu hne];exact hz,by rw[hs];simp⟩
    generalize av s=P at*
    match P with
    |[]=>rfl
    |[a]=>show none=if _ then _ else _;rw[if_neg (by rw[<-t1 a rfl];exact hn)]
    |[_,_]=>rfl
    | [a,b,c]=>
      show none=if _ then _ else _
      rw[if_neg (by rintro⟨rfl,rfl, -⟩;exact t3 b rfl),if_neg (fun e=>hno (by simp[e]))]
    |_::_::_::_::_=>rfl
def nc(af:Int):List Tx->Option aF
 |[a,e,v]=>if e=[61]then mZ (kX af [a]) (fH v)else none
 |[a,b,c,e,v]=>if e=[61]then mZ (kX af [a,b,c]) (fH v)else none
 |_=>none
theorem A8(af:Int)(a e v:Tx):nc af [a,e,v]=if e=[61]then mZ (kX af [a]) (fH v)else none:=rfl
theorem vM(af:Int)(a b c e v:Tx):nc af [a,b,c,e,v]=if e=[61]then mZ (kX af [a,b,c]) (fH v)else none:=rfl
theorem Jr{af:Int}{s:Tx}(hl:s.length<=262144):kO af s=nc af (av s):=by
 unfold kO
 by_cases tH:(61:UInt8)∈s
 ·rw[if_neg (by rintro(h|h);omega;exact h tH)]
  obtain⟨A,B,e,hA⟩:=DI 61 _ tH;obtain⟨k1,k2⟩:=wI 61 B A hA;rw[<-e]at k1 k2;have e2:av s=av (ah A)++[61]::av (ah B):=by rw[e,nX _ A B (amS _) (by decide),tX,tX]
  rw[k1,k2,e2];simp only[List.drop_one,List.tail_cons];rw[akD af (Tr.trim A),alg (Tr.trim B)];have hno:([61]:Tx)∉av (ah A):=fun hm=>hA (Fy (Ep hm (by simp)))
  have c1:kX af [[61]]=none:=rfl
  have c2: ∀b c:Tx,kX af [[61],b,c]=none:=fun b c=>by
   rw[Li,if_neg (by rintro⟨e, -⟩;cases e),ae6]
   split<;>rfl
  have r61:dQ af [61]=none:=by
   cases hr:dQ af [61]with
   |none=>rfl
   | some n=>
     obtain⟨h1,h2⟩:=Bz hr;have h3:=Fa h1;have k1: ∀n:Fin 15,aO n.val≠[61]:=by decide+kernel
     have k2: ∀n:Fin 32,bH n.val≠[61]:=by decide+kernel
     unfold cz cE at*
     split at h2
     ·rename_i e;rw[if_pos e]at h1;exact absurd h2.symm (k1 ⟨n,by omega⟩)
     ·rename_i e;rw[if_neg e]at h1;exact absurd h2.symm (k2 ⟨n,by omega⟩)
  have c3: ∀a b:Tx,kX af [a,b,[61]]=none:=fun a b=>by
   show(if _ then _ else _)=_;rw[if_neg (by rintro⟨-, e, -⟩;cases e)];split
   ·rw[r61];cases cD a<;>rfl
   ·rfl
  have c4: ∀a c:Tx,kX af [a,[61],c]=none:=fun a c=>by
   show(if _ then _ else _)=_;rw[if_neg (by rintro⟨-, -, e⟩;cases e),if_neg (by decide)]
  generalize av (ah A)=P at*;generalize av (ah B)=Q at*;have n1: ∀a:Tx,kX af [a]=kX af [a]:=fun _=>rfl
  match P,Q with
  |[],[]=>rfl
  |[],[_]=>rfl
  |[],[b,c]=>show none=nc af [[61],b,c];rw[A8,c1,yq];split<;>rfl
  |[],[_,_,_]=>rfl
  |[],[b,c,d,e]=>show none=nc af [[61],b,c,d,e];rw[vM,c2,yq];split<;>rfl
  |[],_::_::_::_::_::_=>rfl
  |[a],[]=>exact tS _
  |[a],[v]=>show mZ (kX af [a]) (fH v)=nc af [a,[61],v];rw[A8,if_pos rfl]
  |[a],[_,_]=>exact tS _
  |[a],[c,d,e]=>show mZ (kX af [a]) none=nc af [a,[61],c,d,e];rw[vM,c4,tS,yq];split<;>rfl
  |[a],_::_::_::_::_=>exact tS _
  | [a,b],[]=>
    have hb:b≠[61]:=fun e=>hno (by simp[e])
    show none=nc af [a,b,[61]];rw[A8,if_neg hb]
  |[a,b],[_]=>rfl
  |[a,b],[d,e]=>show none=nc af [a,b,[61],d,e];rw[vM,c3,yq];split<;>rfl
  |[a,b],_::_::_::_=>rfl
  |[a,b,c],[]=>exact tS _
  |[a,b,c],[v]=>show mZ (kX af [a,b,c]) (fH v)=nc af [a,b,c,[61],v];rw[vM,if_pos rfl]
  |[a,b,c],_::_::_=>exact tS _
  | [a,b,c,d],[]=>
    have hd:d≠[61]:=fun e=>hno (by simp[e])
    show none=nc af [a,b,c,d,[61]];rw[vM,if_neg hd]
  |[a,b,c,d],_::_=>rfl
  |_::_::_::_::_::t,Q=>cases t<;>cases Q<;>rfl
 ·rw[if_pos (.inr tH)]
  have hno:([61]:Tx)∉av s:=fun hm=>tH (Ep hm (by simp))
  generalize av s=P at*
  match P with
  |[]=>rfl
  |[_]=>rfl
  |[_,_]=>rfl
  |[a,e,v]=>rw[A8,if_neg (fun h=>hno (by simp[h]))]
  |[_,_,_,_]=>rfl
  |[a,b,c,e,v]=>rw[vM,if_neg (fun h=>hno (by simp[h]))]
  |_::_::_::_::_::_::_=>rfl
theorem uk(s:Tx)(t:Tok)(l:List Tok):bt s (t::l)=if t.1=s then .ok l else .error (t::l):=rfl
theorem tU(a b:Int)(t:Tok)(l:List Tok):jf a b (t::l)=match cD t.1 with
 |some n=>if a<=n/\n<=b then .ok (n,l)else .error (t::l)
 |none=>.error (t::l):=rfl
theorem tY(t:Tok)(l:List Tok):jg (t::l)=if az t.1 then .ok (t.1,l)else .error (t::l):=rfl
theorem Fu{s:Tx}{l r:List Tok}(h:bt s l= .ok r): ∃t,l=t::r/\t.1=s:=by
 cases l with
 |nil=>cases h
 | cons t l=>
   rw[uk]at h
   split at h
   ·rename_i e;cases h;exact⟨t,rfl,e⟩
   ·cases h
theorem Rs{a b:Int}{l r:List Tok}{n:Int}(h:jf a b l= .ok (n,r)): ∃t,l=t::r/\cD t.1=some n/\a<=n/\n<=b:=by
 cases l with
 |nil=>cases h
 | cons t l=>
   rw[tU]at h
   split at h
   ·rename_i e
    split at h
    ·rename_i hh;cases h;exact⟨t,rfl,e,hh.1,hh.2⟩
    ·cases h
   ·cases h
theorem Sq{l r:List Tok}{s:Tx}(h:jg l= .ok (s,r)): ∃t,l=t::r/\t.1=s/\az s=true:=by
 cases l with
 |nil=>cases h
 | cons t l=>
   rw[tY]at h
   split at h
   ·rename_i e;cases h;exact⟨t,rfl,rfl,e⟩
   ·cases h
theorem akx{af:Int}{l r:List Tok}{t:Th}(h:gv af l= .ok (t,r)):bE af t=true/\r.length<l.length:=by
 unfold gv at h
 split at h
 ·split at h
  ·cases h
  ·rename_i x r1 e1
   split at h
   ·cases h
   ·rename_i r2 e2
    cases h;obtain⟨t1,f1,f2,f3⟩:=Sq e1;obtain⟨t2,rfl,g2⟩:=Fu e2;refine⟨by unfold bE;simp[f3],?_⟩;have:=congrArg List.length f1;simp only[anQ,ans]at this;omega
 ·split at h
  ·split at h
   ·cases h
   ·rename_i n r1 e1
    split at h
    ·cases h
    ·rename_i r2 e2
     split at h
     ·cases h
     ·rename_i k hk
      cases h;obtain⟨t1,rfl,f2,f3,f4⟩:=Rs e1;obtain⟨t2,rfl,g2⟩:=Fu e2;obtain⟨k1,k2⟩:=Bz hk;refine⟨?_,by simp;omega⟩;unfold bE;rw[if_neg (by simp only;omega)];simp;omega
  ·split at h
   ·cases h
   ·rename_i x r1 e1
    cases h;obtain⟨t1,rfl,rfl,f3⟩:=Sq e1;exact⟨by unfold bE;simp[f3],by simp⟩
def pQ(af:Int)(l:List Tok)(p:PR Nd):Prop:= ∀x r,p= .ok (x,r)->bK af x/\r.length<l.length
theorem YA(af:Int)(l:List Tok):pQ af l (jN af l):=by
 intro x r h;unfold jN at h
 split at h
 ·cases h
 ·rename_i t r1 e1
  split at h
  ·cases h
  ·rename_i r2 e2
   split at h
   ·cases h
   ·rename_i v r3 e3
    cases h;obtain⟨a1,a2⟩:=akx e1;obtain⟨t2,rfl,g2⟩:=Fu e2;obtain⟨t3,rfl,g3,g4,g5⟩:=Rs e3;refine⟨⟨_,?_,fun y hy=>absurd hy (by simp[Nd.kids])⟩,by simp only[ans]at a2;omega⟩;unfold dN;simp only[Nd.kind,Nd.th,Nd.val,Nd.kids,if_true,a1,(mC.1 g3).2];rfl
theorem J6{af k:Int}{l:List Nd}(h:dN af k eN 0 l.length=true)(hk: ∀y∈l,bK af y):bK af (uc k l):=⟨_,h,hk⟩
theorem Tq{af k:Int}{l:List Nd}(h4:k=4\/k=5)(h0:l≠[])(hk: ∀y∈l,bK af y):bK af (pF k l):=by
 match l,h0 with
 |[x],_=>exact hk x (by simp)
 | x::y::r,_=>
   refine J6 ?_ hk;unfold dN;rw[if_neg (by omega),if_neg (by omega),if_neg (by omega),if_pos h4];simp
theorem Vf{af k:Int}{sign:Tx}{one:List Tok->PR Nd}(h4:k=4\/k=5)(H: ∀l,pQ af l (one l)): ∀(n:Nat) (acc:List Nd) (l:List Tok) (x:Nd) (r:List Tok),acc≠[]->(∀y∈acc,bK af y)->gN k sign one n acc l= .ok (x,r)->bK af x/\r.length<=l.length
 |0,acc,l,x,r,h0,hk,h=>by cases h;exact⟨Tq h4 h0 hk,amS _⟩
 | n+1,acc,l,x,r,h0,hk,h=>by
   unfold gN at h
   split at h
   ·split at h
    ·cases h
    ·rename_i y r1 e1
     obtain⟨a1,a2⟩:=H _ y r1 e1
     obtain⟨b1,b2⟩:=Vf h4 H n _ r1 x r (by simp) (fun z hz=>by
      rcases List.mem_append.1 hz with hz|hz
      ·exact hk z hz
      ·rcases anw.1 hz with rfl;exact a1) h
     refine⟨b1,?_⟩;rw[anQ]at a2;omega
   ·cases h;exact⟨Tq h4 h0 hk,amS _⟩
theorem Ff{af k:Int}{sign:Tx}{one:List Tok->PR Nd}(h4:k=4\/k=5)(H: ∀l,pQ af l (one l))(l:List Tok):pQ af l (fR k sign one l):=by
 intro x r h;unfold fR at h
 split at h
 ·cases h
 ·rename_i y r1 e1
  obtain⟨a1,a2⟩:=H _ y r1 e1;obtain⟨b1,b2⟩:=Vf h4 H _ _ _ x r (by simp) (fun z hz=>by rcases anw.1 hz with rfl;exact a1) h;exact⟨b1,by omega⟩
theorem Tu{af:Int}{one:List Tok->PR Nd}(H: ∀l,pQ af l (one l))(l:List Tok):pQ af l (gI one l):=Ff (.inr rfl) (fun l=>Ff (.inl rfl) H l) l
theorem we(af:Int): ∀(n:Nat) (l:List Tok),pQ af l (bg af n l)
 |0,l=>fun x r h=>by cases h
 | n+1,l=>fun x r h=>by
   unfold bg at h
   split at h
   ·split at h
    ·cases h
    ·rename_i y r1 e1
     obtain⟨a1,a2⟩:=we af n _ y r1 e1;cases h;refine⟨J6 (by unfold dN;rw[if_neg (by decide),if_neg (by decide),if_pos rfl];simp) (fun z hz=>by rcases anw.1 hz with rfl;exact a1),?_⟩;rw[anQ]at a2;omega
   ·split at h
    ·split at h
     ·cases h
     ·rename_i y r1 e1
      obtain⟨a1,a2⟩:=Tu (we af n) _ y r1 e1
      split at h
      ·cases h
      ·rename_i r2 e2
       cases h;obtain⟨t2,rfl,g2⟩:=Fu e2;refine⟨a1,?_⟩;simp only[anQ,ans]at a2;omega
    ·split at h
     ·rename_i hh
      cases h;refine⟨J6 (by unfold dN;rw[if_neg (by decide),if_pos rfl];simp) (fun z hz=>by cases hz),?_⟩;cases l with
      |nil=>exact absurd hh.1 (by decide)
      |cons a b=>simp
     ·exact YA af l x r h
theorem ZN{l r:List Tok}{q:Int}(h:kf l= .ok (q,r)):1<=q/\q<=3:=by
 unfold kf at h
 split at h
 ·cases h;omega
 ·split at h
  ·split at h
   ·cases h
   ·cases h;omega
  ·split at h
   ·cases h
   ·cases h;omega
theorem aao{af:Int}{l:List Tok}{q:Int}{x:Nd}(h:ep af l= .ok (q,x)):1<=q/\q<=3/\bK af x:=by
 unfold ep at h
 split at h
 ·cases h
 ·rename_i q1 l1 e1
  split at h
  ·cases h
  ·rename_i l2 e2
   split at h
   ·cases h
   ·rename_i y l3 e3
    split at h
    ·cases h
    ·split at h
     ·cases h
      obtain⟨a,b⟩:=ZN e1;exact⟨a,b,(Tu (we af _) _ _ _ e3).1⟩
     ·cases h
theorem ali{af:Int}: ∀(x:Nd) (met deep:Nat),bK af x->(dA af x met deep).2=0\/(dA af x met deep).2=2:=by
 intro x
 induction x using Nd.ind with
 | h x ih=>
   intro met deep h;rw[BY];split
   ·exact .inr rfl
   ·rw[if_neg (by rw[h.may];decide)]
    have key: ∀(l:List Nd),(∀k∈l,k∈x.kids)-> ∀met deep,(gP af l met deep).2=0\/(gP af l met deep).2=2:=by
     intro l
     induction l with
     |nil=>intro _ met deep;rw[BX];exact .inl rfl
     | cons y r ihl=>
       intro hin met deep;rw[FG];split
       ·exact ihl (fun k hk=>hin k (by simp[hk])) _ _
       ·exact ih y (hin y (by simp)) met deep (h.dm y (hin y (by simp)))
    exact key _ (fun k hk=>hk) _ _
theorem aaK{af q:Int}{x:Nd}(ha:aH af=true)(h1:1<=q)(h3:q<=3)(h:bK af x):bF af q x=0\/bF af q x=2:=by
 unfold bF;rw[if_neg (by rw[ha];decide),if_neg (by omega)];exact ali x 0 0 h
def iX(N:Nat)(e:List Tok):Nat:=(e.head?.map (·.2)).getD N
theorem TV{af:Int}{s:Tx}(ha:aH af=true)(hl:s.length<=262144):(∃q x,ep af (lex 0 s)= .ok (q,x)/\bK af x/\1<=q/\q<=3/\((bF af q x=0/\cM af s= .ok (q,x))\/(bF af q x=2/\cM af s= .error (2,0))))\/ ∃e,ep af (lex 0 s)= .error e/\cM af s= .error (80,iX s.length e):=by
 unfold cM;rw[if_neg (by rw[ha];decide),if_neg (by omega)];cases h:ep af (lex 0 s)with
 |error e=>exact .inr ⟨e,rfl,rfl⟩
 | ok p=>
   obtain⟨q,x⟩:=p;obtain⟨a,b,c⟩:=aao h;refine .inl ⟨q,x,rfl,c,a,b,?_⟩;rcases aaK ha a b c with e|e
   ·exact .inl ⟨e,by simp only[e];rfl⟩
   ·exact .inr ⟨e,by simp only[e];rfl⟩
def eE(d:Nat)(L:List Tok):List Tok:=L.map fun t=>(t.1,t.2+d)
def jz{α:Type}(d:Nat):PR α->PR α
 | .ok (x,r)=>.ok (x,eE d r)
 | .error e=>.error (eE d e)
theorem KT(d:Nat)(t:Tok)(l:List Tok):eE d (t::l)=(t.1,t.2+d)::eE d l:=rfl
theorem BJ(d:Nat)(l:List Tok):(eE d l).tail=eE d l.tail:=by cases l<;>rfl
theorem BI(d:Nat)(l:List Tok):aA (eE d l)=aA l:=by cases l<;>rfl
theorem VH(d:Nat)(l:List Tok):(eE d l).length=l.length:=by simp[eE]
theorem JJ(d:Nat): ∀(n p:Nat) (s:Tx),gW n (p+d) s=eE d (gW n p s)
 |0,_,_=>rfl
 |n+1,_,[]=>rfl
 | n+1,p,c::r=>by
   show(if aj c then gW n (p+d+1) r else _::gW n _ _)=eE d (if aj c then gW n (p+1) r else _::gW n _ _);split
   ·rw[show p+d+1=(p+1)+d by omega,JJ d n _ r]
   ·rw[show p+d+bS (c::r)=(p+bS (c::r))+d by omega,JJ d n _ _];rfl
theorem aed(d p:Nat)(s:Tx):lex (p+d) s=eE d (lex p s):=JJ d _ _ _
theorem Sh: ∀(b:Tx) (p:Nat) (s:Tx),(∀c∈b,aj c=true)->lex p (b++s)=lex (p+b.length) s
 |[],p,s,_=>rfl
 | c::b,p,s,h=>by
   rw[anr,yx p _ (h c (by simp)),Sh b (p+1) s (fun d hd=>h d (by simp[hd]))]
   congr 1;simp;omega
theorem um(d:Nat)(s:Tx)(l:List Tok):bt s (eE d l)=match bt s l with
 | .ok r=>.ok (eE d r)
 | .error e=>.error (eE d e):=by
 cases l with
 |nil=>rfl
 |cons t l=>rw[KT];rw[uk,uk];split<;>rfl
theorem Rt(d:Nat)(a b:Int)(l:List Tok):jf a b (eE d l)=jz d (jf a b l):=by
 cases l with
 |nil=>rfl
 | cons t l=>
   rw[KT,tU,tU];simp only;cases cD t.1 with
   |none=>rfl
   |some n=>simp only;split<;>rfl
theorem Sr(d:Nat)(l:List Tok):jg (eE d l)=jz d (jg l):=by
 cases l with
 |nil=>rfl
 |cons t l=>rw[KT];rw[tY,tY];split<;>rfl
theorem aky(af:Int)(d:Nat)(l:List Tok):gv af (eE d l)=jz d (gv af l):=by
 unfold gv;rw[BI,BJ];split
 ·rw[Sr]
  cases jg l.tail with
  |error e=>rfl
  | ok p=>
    obtain⟨x,r⟩:=p;simp only[jz];rw[um];cases bt [93] r<;>rfl
 ·split
  ·rw[Rt]
   cases jf 0 15 l with
   |error e=>rfl
   | ok p=>
     obtain⟨x,r⟩:=p;simp only[jz];rw[um];cases bt [58] r with
     |error e=>rfl
     | ok r=>
       simp only;rw[BI];cases dQ af (aA r)with
       |none=>rfl
       |some k=>simp only[BJ]
  ·rw[Sr]
   cases jg l with
   |error e=>rfl
   |ok p=>rfl
theorem YB(af:Int)(d:Nat)(l:List Tok):jN af (eE d l)=jz d (jN af l):=by
 unfold jN;rw[aky];cases gv af l with
 |error e=>rfl
 | ok p=>
   obtain⟨x,r⟩:=p;simp only[jz];rw[um];cases bt [61] r with
   |error e=>rfl
   | ok r=>
     simp only;rw[Rt];cases jf (-2147483648) 2147483647 r<;>rfl
theorem Vg{k:Int}{sign:Tx}{one:List Tok->PR Nd}(d:Nat)(H: ∀l,one (eE d l)=jz d (one l)): ∀(n:Nat) (acc:List Nd) (l:List Tok),gN k sign one n acc (eE d l)=jz d (gN k sign one n acc l)
 |0,_,_=>rfl
 | n+1,acc,l=>by
   unfold gN;rw[BI,BJ];split
   ·rw[H]
    cases one l.tail with
    |error e=>rfl
    |ok p=>exact Vg d H n _ _
   ·rfl
theorem Vi{k:Int}{sign:Tx}{one:List Tok->PR Nd}(d:Nat)(H: ∀l,one (eE d l)=jz d (one l))(l:List Tok):fR k sign one (eE d l)=jz d (fR k sign one l):=by
 unfold fR;rw[H];cases one l with
 |error e=>rfl
 | ok p=>
   obtain⟨x,r⟩:=p;simp only[jz];rw[VH];exact Vg d H _ _ _
theorem Tv{one:List Tok->PR Nd}(d:Nat)(H: ∀l,one (eE d l)=jz d (one l))(l:List Tok):gI one (eE d l)=jz d (gI one l):=Vi d (Vi d H) l
theorem J8(af:Int)(d:Nat): ∀(n:Nat) (l:List Tok),bg af n (eE d l)=jz d (bg af n l)
 |0,_=>rfl
 | n+1,l=>by
   unfold bg;simp only[BI,BJ];split
   ·rw[J8 af d n]
    cases bg af n l.tail<;>rfl
   ·split
    ·rw[Tv d (J8 af d n)]
     cases gI (bg af n) l.tail with
     |error e=>rfl
     | ok p=>
       obtain⟨x,r⟩:=p;simp only[jz];rw[um];cases bt [41] r<;>rfl
    ·split
     ·rfl
     ·exact YB af d l
theorem ZO(d:Nat)(l:List Tok):kf (eE d l)=jz d (kf l):=by
 unfold kf;rw[BI,BJ,um,um];split
 ·rfl
 ·split
  ·cases bt [101,120,105,115,116,115] l.tail<;>rfl
  ·cases bt [101,120,105,115,116,115] l<;>rfl
theorem aap(af:Int)(d:Nat)(l:List Tok):ep af (eE d l)=match ep af l with
 | .ok p=>.ok p
 | .error e=>.error (eE d e):=by
 unfold ep;rw[ZO];cases kf l with
 |error e=>rfl
 | ok p=>
   obtain⟨q,l⟩:=p;simp only[jz];rw[um];cases bt [40] l with
   |error e=>rfl
   | ok l=>
     simp only;rw[VH,Tv d (J8 af d _)];cases gI (bg af (l.length+1)) l with
     |error e=>rfl
     | ok p=>
       obtain⟨x,l⟩:=p;simp only[jz];rw[um];cases bt [41] l with
       |error e=>rfl
       | ok l=>
         cases l with
         |nil=>rfl
         |cons t l=>rfl
theorem aj7(d N:Nat)(e:List Tok):iX (d+N) (eE d e)=d+iX N e:=by
 cases e with
 |nil=>rfl
 |cons t l=>show t.2+d=d+t.2;omega
theorem afD{af:Int}{b s:Tx}(ha:aH af=true)(hb: ∀c∈b,aj c=true)(hl:b.length+s.length<=262144):
 cM af (b++s)=match cM af s with
  | .ok c=>.ok c
  | .error (e,k)=>.error (e,if e=2 then 0 else b.length+k):=by
 have e1:ep af (lex 0 (b++s))=match ep af (lex 0 s)with
  | .ok p=>.ok p
  | .error e=>.error (eE b.length e):=by
  rw[Sh b 0 s hb,aed,aap]
 rcases TV (s:=b++s) ha (by simpa using hl)with⟨q,x,h1,-, -, -, h2⟩|⟨e,h1,h2⟩<;>rcases TV (s:=s) ha (by omega)with⟨q',x',g1,-, -, -, g2⟩|⟨e',g1,g2⟩<;>rw[h1,g1]at e1
 ·cases e1
  rcases h2 with⟨a1,a2⟩|⟨a1,a2⟩<;>rcases g2 with⟨b1,b2⟩|⟨b1,b2⟩
  ·rw[a2,b2]
  ·rw[a1]at b1;cases b1
  ·rw[a1]at b1;cases b1
  ·rw[a2,b2];rfl
 ·cases e1
 ·cases e1
 ·cases e1
  rw[h2,g2,List.length_append,aj7];rfl
end Go.Proofs.YtkbbgjloifmmbaaGreatDoor
