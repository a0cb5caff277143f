/- What ReadAgainP leans on, part 7. -/
import Derived.Test.YtkbbgjloifmmbaaGreatDoorPf4
set_option linter.unusedVariables false
set_option maxRecDepth 100000
set_option maxHeartbeats 25600000
open _root_.Go.Proofs.Tryz
open _root_.Go renaming World->aAX,Calls->aA7,Ending->aBp
open _root_.Go.Instr renaming indexAt->aA2,sliceAt->aA1
open _root_.Go.Lib renaming decDigits->aA8
open _root_.And renaming intro->aA6
open _root_.Go.World renaming frozen?->aBU,cell?->aA4
namespace Go.Proofs.YtkbbgjloifmmbaaGreatDoor
open Go.RowKit
variable{a:Addr}{ok:Bool}{v:Int}{r:Int->aBp}{A P l:List Tx}{V b' f i j k:Nat}{op p s t z:Tx}{b c x:UInt8}{w w' wr:aAX}
theorem qs:xP ek 191:=fun c=>aiU c _ ay
theorem GU:UF bf 255:=fun c=>Fk c _ ay
def Gz(n:Int):Bool:=decide (-2147483648<=n)&&decide (n<=2147483647)
theorem Yp(n:Int)(w:aAX):aA7 prog 256 #[.int .i64 n] w fun e w'=>e= .returned (.bool (Gz n))/\w=w':=GB n _ ay w
theorem Ba:UF aH 108:=fun c=>Jo c _ ay
theorem Yq(n:Int)(w:aAX):aA7 prog 257 #[.int .i64 n] w fun e w'=>e= .returned (.string (tx (iY n)))/\w=w':=by
 by_cases h0:n=0
 ·subst h0
  exact wK
 by_cases h1:n=1
 ·subst h1
  exact wK
 have z0:(n==0)=false:=aS h0;have z1:(n==1)=false:=aS h1;have hf:iY n=[114,119]:=by unfold iY;rw[ai h0,ai h1]
 rw[hf];exact wK
theorem qq:SF aU 190:=fun l hl=>Gy l hl _ ay
theorem Lz: ∀l:Tx,((l.dropWhile aH).reverse.dropWhile aH).reverse=aG l
 |[]=>by decide
 | c::r=>by
   have ih:=Lz r;rw[zw]at ih⊢
   by_cases hb:aH c=true
   ·rw[k7,ak hb,ih,Ca,IP]
    cases hx:r.reverse.dropWhile aH with
    |nil=>simp[hb]
    | cons y ys=>
      rw[ai aq,zY,aaD,yl,k7,ak hb]
   rw[k7,ai hb,Ca,IP]
   cases hx:r.reverse.dropWhile aH with
   |nil=>simp[hb]
   | cons y ys=>
     rw[ai aq,zY,aaD,yl,k7,ai hb]
def Bg:Value->Nat
 | .string b=>b.size
 |_=>0
theorem Hf(l:Tx):Bg (.string (tx l))=l.length:=bC l
theorem aix(r:Tx)(c:UInt8)(h:aH c=true):((r++[c]).reverse.dropWhile aH).reverse=(r.reverse.dropWhile aH).reverse:=by simp[h]
theorem aiy(r:Tx)(c:UInt8)(h:aH c=false):((r++[c]).reverse.dropWhile aH).reverse=r++[c]:=by simp[h]
theorem last_cases(l:Tx):l=[]\/(∃r c,l=r++[c]/\aH c=false)\/(∃r c,l=r++[c]/\aH c=true):=by
 rcases MU l with rfl|⟨r,c,rfl⟩
 ·exact .inl rfl
 cases hb:aH c
 ·exact .inr (.inl ⟨r,c,IQ,hb⟩)
 exact .inr (.inr ⟨r,c,IQ,hb⟩)
theorem Yr(s:Tx)(hs:s.length<=9223372036854775807)(w:aAX):aA7 prog 106 #[.string (tx s)] w fun e w'=>e= .returned (.string (tx (aG s)))/\w=w':=by
 have HT:=af (Lz s);generalize aG s=T at*;go_in;go_wp2_with fail
 go_loop [0] (fun v=> ∃l:Tx,v= .string (tx l)/\l.length<=9223372036854775807/\Hid (l.dropWhile aH=s.dropWhile aH)) Bg
 ·exact⟨s,rfl,hs,rfl⟩
 obtain⟨l,rfl,hl,HL⟩:=hrel
 have hc:l=[]\/(∃c r,l=c::r/\aH c=false)\/(∃c r,l=c::r/\aH c=true):=by
  cases l with
  |nil=>exact .inl rfl
  |cons c r=>cases hb:aH c;exact .inr (.inl ⟨c,r,rfl,hb⟩);exact .inr (.inr ⟨c,r,rfl,hb⟩)
 rcases hc with rfl|⟨c,r,rfl,hb⟩|⟨c,r,rfl,hb⟩
 ·have HR:=af (show T=[] by rw[<-HT.oo,<-HL.oo];rfl)
  have hz:(tx []).size=0:=rfl;go_wp2_with fail
  go_loop [0] (fun v=> ∃l:Tx,v= .string (tx l)/\l.length<=9223372036854775807/\Hid ((l.reverse.dropWhile aH).reverse=T)) Bg
  ·exact⟨[],rfl,hl,by rw[HR.oo];rfl⟩
  obtain⟨l,rfl,hl,HL⟩:=hrel;rcases last_cases l with rfl|⟨r,c,rfl,hb⟩|⟨r,c,rfl,hb⟩
  ·have HR:=af (show T=[] by rw[<-HL.oo];rfl)
   exact adK
  ·have HR:=af (show r++[c]=T by rw[<-HL.oo,aiy r c hb])
   have HB:=af hb;obtain⟨k,hk⟩:=aF r.length;have hsz:(tx (r++[c])).size=k+1:=by rw[bC];simp[hk]
   have hk2:k+1<=9223372036854775807:=by rw[<-hsz,bC];exact hl
   have ix:=cH (r++[c]) k c (by simp[<-hk]);generalize r++[c]=l at*
   go_wp2_with (go_at_call 108;refine aK (Ba c _) ?_;rw[HB.oo])
   exact adL
  have HR:=af (show(r.reverse.dropWhile aH).reverse=T by rw[<-HL.oo,aix r c hb])
  have HB:=af hb;obtain⟨k,hk⟩:=aF r.length;have hsz:(tx (r++[c])).size=k+1:=by rw[bC];simp[hk]
  have hk2:k+1<=9223372036854775807:=by rw[<-hsz,bC];exact hl
  have ix:=cH (r++[c]) k c (by simp[<-hk])
  have sl: ∀w,(aA1 9 (.string (tx (r++[c]))) none (some (.int .i64 k)) none).run prog w= .ok (.string (tx r)) w:=fun w=>by
   have:=xA (r++[c]) k aC w
   rwa[show(r++[c]).take k=r by rw[<-hk];simp]at this
  have HM:=af (show Bg (.string (tx r))<Bg (.string (tx (r++[c]))) by rw[Hf,Hf];simp);have HQ:=af (show r.length<=9223372036854775807 by simp at hl;omega);generalize r++[c]=l at*
  go_wp2_with (go_at_call 108;refine aK (Ba c _) ?_;rw[HB.oo])
  go_round
  case rel=>exact⟨r,rfl,HQ.oo,HR.oo⟩
  case measure=>exact HM.oo
 ·have HR:=af (show((c::r).reverse.dropWhile aH).reverse=T by rw[<-HT.oo,<-HL.oo,k7,ai (by rw[hb];simp)])
  have HB:=af hb;have i0:=oU (c::r) c rfl;obtain⟨n,hn⟩:=aF ((tx (c::r)).size);have nc:0<n:=by rw[<-hn,bC];simp
  go_wp2_with (go_at_call 108;refine aK (Ba c _) ?_;rw[HB.oo])
  go_loop [0] (fun v=> ∃l:Tx,v= .string (tx l)/\l.length<=9223372036854775807/\Hid ((l.reverse.dropWhile aH).reverse=T)) Bg
  ·exact⟨_,rfl,hl,HR.oo⟩
  obtain⟨l,rfl,hl,HL⟩:=hrel;rcases last_cases l with rfl|⟨r,c,rfl,hb⟩|⟨r,c,rfl,hb⟩
  ·have HR:=af (show T=[] by rw[<-HL.oo];rfl)
   exact adK
  ·have HR:=af (show r++[c]=T by rw[<-HL.oo,aiy r c hb])
   have HB:=af hb;obtain⟨k,hk⟩:=aF r.length;have hsz:(tx (r++[c])).size=k+1:=by rw[bC];simp[hk]
   have hk2:k+1<=9223372036854775807:=by rw[<-hsz,bC];exact hl
   have ix:=cH (r++[c]) k c (by simp[<-hk]);generalize r++[c]=l at*
   go_wp2_with (go_at_call 108;refine aK (Ba c _) ?_;rw[HB.oo])
   exact adL
  have HR:=af (show(r.reverse.dropWhile aH).reverse=T by rw[<-HL.oo,aix r c hb])
  have HB:=af hb;obtain⟨k,hk⟩:=aF r.length;have hsz:(tx (r++[c])).size=k+1:=by rw[bC];simp[hk]
  have hk2:k+1<=9223372036854775807:=by rw[<-hsz,bC];exact hl
  have ix:=cH (r++[c]) k c (by simp[<-hk])
  have sl: ∀w,(aA1 9 (.string (tx (r++[c]))) none (some (.int .i64 k)) none).run prog w= .ok (.string (tx r)) w:=fun w=>by
   have:=xA (r++[c]) k aC w
   rwa[show(r++[c]).take k=r by rw[<-hk];simp]at this
  have HM:=af (show Bg (.string (tx r))<Bg (.string (tx (r++[c]))) by rw[Hf,Hf];simp);have HQ:=af (show r.length<=9223372036854775807 by simp at hl;omega);generalize r++[c]=l at*
  go_wp2_with (go_at_call 108;refine aK (Ba c _) ?_;rw[HB.oo])
  go_round
  case rel=>exact⟨r,rfl,HQ.oo,HR.oo⟩
  case measure=>exact HM.oo
 have HR:=af (show r.dropWhile aH=s.dropWhile aH by rw[<-HL.oo,k7,ak hb])
 have HB:=af hb;have i0:=oU (c::r) c rfl;have sl: ∀w,(aA1 9 (.string (tx (c::r))) (some (.int .i64 1)) none none).run prog w= .ok (.string (tx r)) w:=xz (c::r) 1 aq;obtain⟨n,hn⟩:=aF ((tx (c::r)).size);have nc:0<n:=by rw[<-hn,bC];simp
 go_wp2_with (go_at_call 108;refine aK (Ba c _) ?_;rw[HB.oo])
 go_round
 case rel=>exact⟨r,rfl,by simp at hl;omega,HR.oo⟩
 case measure=>rw[Hf,Hf];simp
def ki(w:aAX)(B:Nat)(a:Option Addr)(n c:Nat)(l:List Tx):Prop:=au w B 9 1 a n c (l.map fun x=>Value.string (tx x))
theorem ki.lF{B n c:Nat}{a:Option Addr}(h:ki w B a n c l)(hl:l.length<=1000000000000000000):cO w a l:=⟨au.row h,hl⟩
def nJ(b:UInt8)(s:Tx)(A:List Tx)(k f:Nat)(P:List Tx):Prop:=
 (k<=s.length->f<=k/\P++(bh b (s.drop f)).map aG=A/\b∉(s.take k).drop f)/\(k=s.length+1->P=A)
theorem nJ.zero(b:UInt8)(s:Tx):nJ b s ((bh b s).map aG) 0 0 []:=⟨fun _=>⟨aX _,aq,aq⟩,fun h=>by omega⟩
theorem nJ.step(h:nJ b s A k f P)(hx:s[k]? =some x)(aN:x≠b):nJ b s A (k+1) f P:=by
 obtain⟨hk, -⟩:=bt.1 hx;obtain⟨h1,h2,h3⟩:=h.1 ah;refine⟨fun _=>⟨ ah,h2,?_⟩,fun e=>by omega⟩;rw[List.take_add_one,hx,tg aC];simp only[Option.toList_some,fc,kJ,tf];exact⟨h3,fun e=>aN e.symm⟩
theorem anz(h1:f<=k)(h2:k<=s.length):s.drop f=(s.take k).drop f++s.drop k:=by
 conv=>lhs;rw[<-qL k s]
 rw[tg aC]
theorem nJ.cut(h:nJ b s A k f P)(hx:s[k]? =some b):nJ b s A (k+1) (k+1) (P++[aG ((s.take k).drop f)]):=by
 obtain⟨hk,he⟩:=bt.1 hx;obtain⟨h1,h2,h3⟩:=h.1 ah;refine⟨fun _=>⟨aX _,?_,by rw[iN aC];simp⟩,fun e=>by omega⟩;rw[anz h1 ah,jB hk,he,y7 b _ _ h3]at h2;rw[<-h2];simp
theorem nJ.fin(h:nJ b s A k f P)(hk:k=s.length):nJ b s A (k+1) (k+1) (P++[aG ((s.take k).drop f)]):=by
 subst hk;obtain⟨h1,h2,h3⟩:=h.1 (aX _);refine⟨fun e=>by omega,fun _=>?_⟩;rw[jC]at h3⊢;rw[DI b _ h3]at h2;rw[<-h2];simp
theorem nJ.le(h:nJ b s A k f P)(hk:k<=s.length):f<=k:=(h.1 hk).1
theorem nJ.all(h:nJ b s A k f P)(hk:k=s.length+1):P=A:=h.2 hk
def akR(w:aAX)(A:List Tx)(e:aBp)(w':aAX):Prop:= ∃a c,e= .returned (.slice a A.length c)/\cO w' a A/\Below w.heap.size w w'
theorem aiG(s:Tx)(b:UInt8)(hs:s.length<=1000000)(w:aAX):aA7 prog 110 #[.string (tx s),.int .u8 b.toNat] w (akR w ((bh b s).map aG)):=by
 have H0:=af (nJ.zero b s);have HL:=af (show((bh b s).map aG).length<=1000001 by have:=vE b s;simp;omega);generalize (bh b s).map aG=A at*;obtain⟨n,hn⟩:=aF s.length;have hsz:(tx s).size=n:=by rw[bC,hn]
 have HN:=af hn;rw[hn]at hs;go_in;go_wp2
 go_loopw [5,6,7] (fun v f i wr=> ∃(k f':Nat) (P:List Tx) (a:Option Addr) (c:Nat),k<=n+1/\i= .int .i64 k/\f= .int .i64 f'/\v= .slice a P.length c/\P.length<=k/\ki wr w.heap.size a P.length c P/\Below w.heap.size w wr/\Hid (nJ b s A k f' P)) (fun _ _ i _=>n+1-(intOf i).toNat)
 ·exact⟨0,0,[],none,0,ah,rfl,rfl,rfl,aq,au.nil _ _ _ _,bS _ _,H0⟩
 obtain⟨k,f,P,a,c,hk,rfl,rfl,rfl,hP,o1,E,HS⟩:=hrel
 have hc:(k<n/\ ∃x,s[k]? =some x/\x≠b)\/((k<=n/\f<=k)/\(((k:Int)==(n:Int))=true\/(((k:Int)==(n:Int))=false/\s[k]? =some b))/\nJ b s A (k+1) (k+1) (P++[aG ((s.take k).drop f)]))\/k=n+1:=by
  have hn:=HN.oo;rcases Nat.lt_trichotomy k n with h|h|h
  ·obtain⟨x,hx⟩: ∃x,s[k]? =some x:=⟨_,aV ah⟩
   by_cases e:x=b
   ·subst e;exact .inr (.inl ⟨⟨ ah,HS.oo.le ah⟩,.inr ⟨ aC,hx⟩,HS.oo.cut hx⟩)
   exact .inl ⟨h,x,hx,e⟩
  ·exact .inr (.inl ⟨⟨ ah,HS.oo.le ah⟩,.inl aC,HS.oo.fin ah⟩)
  exact .inr (.inr ah)
 rcases hc with⟨aA,x,hx,aN⟩|⟨⟨hkn,AH⟩,ht,hS⟩|rfl
 ·have ix:=cH s k x hx
  have z1:((k:Int)==(n:Int))=false:=aC;have z2:((x.toNat:Int)==(b.toNat:Int))=false:=by simp only[Ah,ne_eq];intro e;exact aN (tD.1 ah)
  have HR:=af (HS.oo.step hx aN);go_wp2
  go_roundw;exact⟨k+1,f,P,a,c,ah,by go_num,rfl,rfl,ah,o1,E,HR.oo⟩;exact ep
 ·have HR:=af hS
  have sl:=nB s f k AH (by rw[HN.oo];exact hkn);have hq:((s.take k).drop f).length<=9223372036854775807:=aC;have TR:=af (fun w=>Yr ((s.take k).drop f) hq w);generalize (s.take k).drop f=q at*;rcases ht with z1|⟨z1,hx⟩
  ·go_wp2_with fail
   refine aK (TR.oo _) ?_
   go_wp2_with (at_builtin;go_loud(refine mR jR (.tmp 25) (.tmp 31) rfl rfl rfl o1 rfl rfl kP E E.size ah dx ?_))
   intro a3 c3 w3 o3 g3 B3;have o4:ki w3 w.heap.size a3 (P.length+1) c3 (P++[aG q]):=by simpa[ki]using o3
   go_wp2
   exact adM
  have ix:=cH s k b hx
  have aA:k<n:=by simp at z1;omega
  go_wp2_with fail;refine aK (TR.oo _) ?_
  go_wp2_with (at_builtin;go_loud(refine mR jR (.tmp 25) (.tmp 31) rfl rfl rfl o1 rfl rfl kP E E.size ah dx ?_))
  intro a3 c3 w3 o3 g3 B3;have o4:ki w3 w.heap.size a3 (P.length+1) c3 (P++[aG q]):=by simpa[ki]using o3
  go_wp2
  exact adM
 obtain rfl:P=A:=HS.oo.all (by rw[HN.oo])
 go_wp2;go_ret;exact⟨_,_,rfl,o1.lF (bE HL.oo),E⟩
def fF(s:Tx):Option Int:=
 if s=[]\/11<s.length then none
 else if s.head?=some 45 then(if s.drop 1=[]\/(s.drop 1).head?=some 48\/(s.drop 1).all bf=false then none else some (-(ie 0 (s.drop 1):Int)))
 else if(s.head?=some 48/\1<s.length)\/s.all bf=false then none else some (ie 0 s:Int)
def Iw(s:Tx)(v:Int)(ok:Bool):Prop:=(fF s=none/\v=0/\ok=false)\/(fF s=some v/\ok=Gz v)
def BG(s:Tx)(w:aAX)(e:aBp)(w':aAX):Prop:=(∃v ok,e= .returned (.tuple #[.int .i64 v,.bool ok])/\Iw s v ok)/\w=w'
theorem BG.no(w:aAX)(h:fF s=none):BG s w (.returned (.tuple #[.int .i64 0,.bool false])) w:=⟨⟨0,false,rfl,.inl ⟨h,rfl,rfl⟩⟩,rfl⟩
theorem BG.yes(w:aAX)(h:fF s=some v):BG s w (.returned (.tuple #[.int .i64 v,.bool (Gz v)])) w:=⟨⟨v,_,rfl,.inr ⟨h,rfl⟩⟩,rfl⟩
theorem Za(x:UInt8): ∀(l:Tx) (a:Nat),ie a (l++[x])=10*ie a l+(x.toNat-48)
 |[],a=>rfl
 |c::r,a=>Za x r _
def oh(s:Tx)(i k V:Nat):Prop:=i<=k/\V=ie 0 ((s.take k).drop i)/\((s.take k).drop i).all bf=true/\V<10 ^ (k-i)
theorem Ar(h:bf x=true):48<=x.toNat/\x.toNat<=57:=by
 unfold bf at h;simp only[bV,dw,Ai]at h;exact h
theorem oh.zero(s:Tx)(i:Nat):oh s i i 0:=by
 have e:(s.take i).drop i=[]:=iN aC;exact⟨aX _,by rw[e];rfl,by rw[e];rfl,aq⟩
theorem oh.step(h:oh s i k V)(hx:s[k]? =some x)(hd:bf x=true):oh s i (k+1) (10*V+(x.toNat-48)):=by
 obtain⟨h1,h2,h3,h4⟩:=h;obtain⟨hk, -⟩:=bt.1 hx
 have e:(s.take (k+1)).drop i=(s.take k).drop i++[x]:=by
  rw[List.take_add_one,hx,tg aC];rfl
 have hb:=(Ar hd).2;refine⟨ ah,by rw[e,Za,<-h2],by rw[e,List.all_append,h3];simp[hd],?_⟩;rw[show k+1-i=(k-i)+1 by omega,Ng];omega
theorem oh.small(h:oh s i k V)(hk:k<=11):V<=100000000000:=by
 have h1:10 ^ (k-i)<=10 ^ 11:=Nat.pow_le_pow_right ah ah;have h2:=h.2.2.2;have h3:(10:Nat) ^ 11=100000000000:=ay;omega
theorem oh.bad(h:oh s i k V)(hx:s[k]? =some x)(hd:bf x=false):(s.drop i).all bf=false:=by
 rw[List.all_eq_false];refine⟨x,cV (i:=k-i) ?_,by rw[hd];simp⟩;rw[tA,show i+(k-i)=k by have:=h.1;omega];exact hx
theorem oh.done(h:oh s i k V)(hk:k=s.length):V=ie 0 (s.drop i)/\(s.drop i).all bf=true:=by
 subst hk;have:=h.2;rw[jC]at this;exact⟨this.1,this.2.1⟩
def om(r:Int->aBp)(s:Tx)(w:aAX)(e:aBp)(w':aAX):Prop:=w=w'/\match fF s with
 |none=>e= .returned (.tuple #[.int .i64 0,.bool false])
 |some v=>e=r v
theorem om.no(w:aAX)(h:fF s=none):om r s w (.returned (.tuple #[.int .i64 0,.bool false])) w:=⟨rfl,by rw[h]⟩
theorem om.yes(w:aAX)(h:fF s=some v):om r s w (r v) w:=⟨rfl,by rw[h]⟩
theorem om.is(w:aAX){e:aBp}(h:fF s=some v)(he:e=r v):om r s w e w:=⟨rfl,by rw[h];exact he⟩
theorem ahl(F:Nat)(r:Int->aBp)(hF:(F=194/\r=fun v=>.returned (.tuple #[.int .i64 v,.bool (Gz v)]))\/(F=116/\r=fun v=>.returned (.tuple #[.int .i64 (if bJ v=true then v else 0),.bool (bJ v)])))(s:Tx)(w:aAX):aA7 prog F #[.string (tx s)] w (om r s w):=by
 rcases hF with⟨rfl,rfl⟩|⟨rfl,rfl⟩
 all_goals
  obtain⟨n,hn⟩:=aF s.length;have hsz:(tx s).size=n:=by rw[bC,hn]
  have HN:=af hn
  by_cases h0:n=0
  ·have HR:=af (show fF s=none by unfold fF;rw[ak (.inl (lH ah))])
   have z0:((n:Int)==0)=true:=aC;exact adN
  have z0:((n:Int)==0)=false:=aC;have nc:1<=n:=ah
  by_cases h11:11<n
  ·have HR:=af (show fF s=none by unfold fF;rw[ak (.inr ah)])
   exact adN
  obtain⟨c,hc⟩: ∃c,s[0]? =some c:=⟨_,aV ah⟩;have hh:s.head?=some c:=by rw[<-hc];cases s<;>rfl
  have HU: ¬(s=[]\/11<s.length):=by
   rintro(rfl|h)
   ·exact h0 hn.symm
   omega
  have i0:=oU s c hc
  by_cases h45:c=45
  ·subst h45
   have Zm:(((45:UInt8).toNat:Int)==45)=true:=ay;have HV:=af (show fF s=(if s.drop 1=[]\/(s.drop 1).head?=some 48\/(s.drop 1).all bf=false then none else some (-(ie 0 (s.drop 1):Int))) by unfold fF;rw[ai HU,ak hh]);clear HU hh hc
   by_cases h1:n=1
   ·have HR:=af (show fF s=none by rw[HV.oo,ak (.inl (iN ah))])
    have z1:((1:Int)==(n:Int))=true:=aC;clear hn h0 h1 HV;exact adO
   have z1:((1:Int)==(n:Int))=false:=aC;obtain⟨d,hd⟩: ∃d,s[1]? =some d:=⟨_,aV ah⟩;have FI:(s.drop 1).head?=some d:=by rw[Ce];exact hd
   have i1: ∀w,(Instr.index 9 (.string (tx s)) (.int .i64 1)).run prog w= .ok (.int .u8 d.toNat) w:=cH s 1 d hd
   by_cases h48:d=48
   ·have Zn:((d.toNat:Int)==48)=true:=by rw[h48];decide
    have HR:=af (show fF s=none by rw[HV.oo,ak (.inr (.inl (by rw[FI,h48])))]);clear hn h0 HV FI h48 hd
    by_cases h2:2<n
    ·go_in
     exact adP
    go_in
    exact adP
   have Zn:((d.toNat:Int)==48)=false:=by
    exact adQ
   have HB:=af (fun(h:(s.drop 1).all bf=false)=>show fF s=none by rw[HV.oo,ak (.inr (.inr h))])
   have HG:=af (fun(h:(s.drop 1).all bf=true)=>show fF s=some (-(ie 0 (s.drop 1):Int)) by
    rw[HV.oo,ai];rintro(h'|h'|h')
    ·rw[h']at FI;cases FI
    ·rw[FI]at h';exact h48 (fU h')
    rw[h]at h';cases h')
   clear hn h0 HV FI h48 hd;go_in;go_wp2_with fail
   go_loop [5,6] (fun v kk=> ∃k V:Nat,k<=n/\kk= .int .i64 k/\v= .int .i64 V/\Hid (oh s 1 k V)) (fun _ kk=>n-(intOf kk).toNat)
   ·exact⟨1,0,ah,rfl,rfl,oh.zero s 1⟩
   obtain⟨k,V,hk,rfl,rfl,HA⟩:=hrel;have hV:=HA.oo.small ah
   by_cases aA:k<n
   ·obtain⟨x,hx⟩: ∃x,s[k]? =some x:=⟨_,aV (bE HN.oo)⟩
    have ix:=cH s k x hx;cases hd:bf x
    ·have HR:=af (HB.oo (HA.oo.bad hx hd))
     have HD:=af hd;clear hx hd HA
     go_wp2_with (first|(go_at_call 255;refine aK (GU x _) ?_;rw[HD.oo])|(go_at_call 200;refine aK (xq x _) ?_;rw[HD.oo]))
     exact UX
    have HR:=af (HA.oo.step hx hd)
    have HD:=af hd;obtain⟨x1,x2⟩:=Ar hd;clear hx hd HA
    go_wp2_with (first|(go_at_call 255;refine aK (GU x _) ?_;rw[HD.oo])|(go_at_call 200;refine aK (xq x _) ?_;rw[HD.oo]))
    go_round
    case rel=>exact⟨k+1,_,ah,by go_num,by congr 1;omega,HR.oo⟩
    case measure=>simp[intOf];omega
   obtain⟨hv,ha⟩:=HA.oo.done (bE HN.oo)
   have HR:=af (HG.oo ha);rw[<-hv]at HR;clear hv ha HA
   first
    |(go_wp2_with (go_at_call 256;refine aK (Yp _ _) ?_)
      go_ret2;exact om.yes _ HR.oo)
    |(have eG: ∀b v,bJ v=b-> ∀w,aA7 prog 201 #[.int .i64 v] w fun e w'=>e= .returned (.bool b)/\w=w':=fun b v h w=>h▸Qg v w
      rcases MP (bJ _)with hq|hq
      all_goals go_wp2_with (go_at_call 201;refine aK (eG _ _ hq _) ?_)
      all_goals go_ret2
      all_goals exact om.is _ HR.oo (by simp[hq]))
  have Zm:((c.toNat:Int)==45)=false:=by
   simp only[Ah,ne_eq];intro e;exact h45 (tD.1 (by have:(45:UInt8).toNat=45:=rfl;omega))
  have HV:=af (show fF s=(if(s.head?=some 48/\1<s.length)\/s.all bf=false then none else some (ie 0 s:Int)) by unfold fF;rw[ai HU,ai (by rw[hh];intro e;exact h45 (fU e))]);have z1:((0:Int)==(n:Int))=false:=aC;have HB:=af (fun(h:(s.drop 0).all bf=false)=>show fF s=none by rw[HV.oo,ak (.inr h)])
  by_cases h48:c=48
  ·have Zn:((c.toNat:Int)==48)=true:=by rw[h48];decide
   by_cases h1:1<n
   ·have HR:=af (show fF s=none by rw[HV.oo,ak (.inl ⟨by rw[hh,h48],ah⟩)])
    clear hn h0 HV hh h48 hc HU h45;exact adO
   have HG:=af (fun(h:(s.drop 0).all bf=true)=>show fF s=some (ie 0 (s.drop 0):Int) by
    rw[HV.oo,ai]
    ·rfl
    rintro(⟨-, h'⟩|h')
    ·omega
    rw[show s.all bf=true from h]at h';cases h')
   clear hn h0 HV hh h48 hc HU h45;go_in;go_wp2_with fail
   go_loop [5,6] (fun v kk=> ∃k V:Nat,k<=n/\kk= .int .i64 k/\v= .int .i64 V/\Hid (oh s 0 k V)) (fun _ kk=>n-(intOf kk).toNat)
   ·exact⟨0,0,ah,rfl,rfl,oh.zero s 0⟩
   obtain⟨k,V,hk,rfl,rfl,HA⟩:=hrel;have hV:=HA.oo.small ah
   by_cases aA:k<n
   ·obtain⟨x,hx⟩: ∃x,s[k]? =some x:=⟨_,aV (bE HN.oo)⟩
    have ix:=cH s k x hx;cases hd:bf x
    ·have HR:=af (HB.oo (HA.oo.bad hx hd))
     have HD:=af hd;clear hx hd HA
     go_wp2_with (first|(go_at_call 255;refine aK (GU x _) ?_;rw[HD.oo])|(go_at_call 200;refine aK (xq x _) ?_;rw[HD.oo]))
     exact UX
    have HR:=af (HA.oo.step hx hd)
    have HD:=af hd;obtain⟨x1,x2⟩:=Ar hd;clear hx hd HA
    go_wp2_with (first|(go_at_call 255;refine aK (GU x _) ?_;rw[HD.oo])|(go_at_call 200;refine aK (xq x _) ?_;rw[HD.oo]))
    go_round
    case rel=>exact⟨k+1,_,ah,by go_num,by congr 1;omega,HR.oo⟩
    case measure=>simp[intOf];omega
   obtain⟨hv,ha⟩:=HA.oo.done (bE HN.oo)
   have HR:=af (HG.oo ha);rw[<-hv]at HR;clear hv ha HA
   first
    |(go_wp2_with (go_at_call 256;refine aK (Yp _ _) ?_)
      go_ret2;exact om.yes _ HR.oo)
    |(have eG: ∀b v,bJ v=b-> ∀w,aA7 prog 201 #[.int .i64 v] w fun e w'=>e= .returned (.bool b)/\w=w':=fun b v h w=>h▸Qg v w
      rcases MP (bJ _)with hq|hq
      all_goals go_wp2_with (go_at_call 201;refine aK (eG _ _ hq _) ?_)
      all_goals go_ret2
      all_goals exact om.is _ HR.oo (by simp[hq]))
  have Zn:((c.toNat:Int)==48)=false:=by
   exact adQ
  have HG:=af (fun(h:(s.drop 0).all bf=true)=>show fF s=some (ie 0 (s.drop 0):Int) by
   rw[HV.oo,ai]
   ·rfl
   rintro(⟨h', -⟩|h')
   ·rw[hh]at h';exact h48 (fU h')
   rw[show s.all bf=true from h]at h';cases h')
  clear hn h0 HV hh h48 hc HU h45;go_in;go_wp2_with fail
  go_loop [5,6] (fun v kk=> ∃k V:Nat,k<=n/\kk= .int .i64 k/\v= .int .i64 V/\Hid (oh s 0 k V)) (fun _ kk=>n-(intOf kk).toNat)
  ·exact⟨0,0,ah,rfl,rfl,oh.zero s 0⟩
  obtain⟨k,V,hk,rfl,rfl,HA⟩:=hrel;have hV:=HA.oo.small ah
  by_cases aA:k<n
  ·obtain⟨x,hx⟩: ∃x,s[k]? =some x:=⟨_,aV (bE HN.oo)⟩
   have ix:=cH s k x hx;cases hd:bf x
   ·have HR:=af (HB.oo (HA.oo.bad hx hd))
    have HD:=af hd;clear hx hd HA
    go_wp2_with (first|(go_at_call 255;refine aK (GU x _) ?_;rw[HD.oo])|(go_at_call 200;refine aK (xq x _) ?_;rw[HD.oo]))
    exact UX
   have HR:=af (HA.oo.step hx hd)
   have HD:=af hd;obtain⟨x1,x2⟩:=Ar hd;clear hx hd HA
   go_wp2_with (first|(go_at_call 255;refine aK (GU x _) ?_;rw[HD.oo])|(go_at_call 200;refine aK (xq x _) ?_;rw[HD.oo]))
   go_round
   case rel=>exact⟨k+1,_,ah,by go_num,by congr 1;omega,HR.oo⟩
   case measure=>simp[intOf];omega
  obtain⟨hv,ha⟩:=HA.oo.done (bE HN.oo)
  have HR:=af (HG.oo ha);rw[<-hv]at HR;clear hv ha HA
  first
   |(go_wp2_with (go_at_call 256;refine aK (Yp _ _) ?_)
     go_ret2;exact om.yes _ HR.oo)
   |(have eG: ∀b v,bJ v=b-> ∀w,aA7 prog 201 #[.int .i64 v] w fun e w'=>e= .returned (.bool b)/\w=w':=fun b v h w=>h▸Qg v w
     rcases MP (bJ _)with hq|hq
     all_goals go_wp2_with (go_at_call 201;refine aK (eG _ _ hq _) ?_)
     all_goals go_ret2
     all_goals exact om.is _ HR.oo (by simp[hq]))
theorem awl(s:Tx)(w:aAX):aA7 prog 194 #[.string (tx s)] w (BG s w):=
 (ahl _ _ (.inl ⟨rfl,rfl⟩) s w).mono fun e w' ⟨hw,h⟩=>by
  subst hw;cases hn:fF s with
  |none=>rw[hn]at h;subst h;exact BG.no _ hn
  |some v=>rw[hn]at h;subst h;exact BG.yes _ hn
def X8(s:Tx):Option Nat:=match (bh 40 s).map aG with
 |[x,y]=>if x=[48]/\y.getLast?=some 41 then bR (aG y.dropLast)else none
 |_=>none
theorem Cv(p:UInt8->Bool)(c:UInt8)(hc:p c=false)(ys:Tx): ∀xs:Tx,(xs++c::ys).dropWhile p=xs.dropWhile p++c::ys
 |[]=>by simp[hc]
 | x::xs=>by
   rw[cY,k7,k7]
   by_cases hx:p x=true
   ·rw[ak hx,ak hx,Cv p c hc ys xs]
   rw[ai hx,ai hx];rfl
theorem NS(p:UInt8->Bool)(c:UInt8)(hc:p c=false): ∀xs:Tx,c∈xs->c∈xs.dropWhile p
 |[],h=>h
 | x::xs,h=>by
   rw[k7]
   by_cases hx:p x=true
   ·rw[ak hx]
    rcases cq.1 h with e|e
    ·subst e;rw[hc]at hx;cases hx
    exact NS p c hc xs e
   rw[ai hx];exact h
theorem UI(p:UInt8->Bool)(c:UInt8)(xs:Tx)(h:c∈xs.dropWhile p):c∈xs:=(iu p).subset h
theorem anA(p:UInt8->Bool)(xs:Tx):(xs.dropWhile p).dropWhile p=xs.dropWhile p:=Fl (fun c hc=>lQ hc)
theorem YX(l:Tx):aG (l.dropWhile aH)=aG l:=by
 rw[<-Lz,<-Lz,anA]
def cR(l:Tx):Tx:=(l.reverse.dropWhile aH).reverse
theorem rF(l:Tx):aG l=(cR l).dropWhile aH:=zw l
theorem Hi(A B:Tx)(c:UInt8)(hc:aH c=false):aG (A++c::B)=A.dropWhile aH++c::cR B:=by
 rw[zw,zY,Ca,dA,yl,Cv _ _ hc,zY,Ca,BQ,dA,yl,Cv _ _ hc];rfl
theorem DO(c:UInt8)(B:Tx): ∀A:Tx,c∉A->(A++c::B).takeWhile (· != c)=A/\(A++c::B).dropWhile (· != c)=c::B
 |[],_=>by simp
 | x::A,h=>by
   simp only[cq,tf]at h;obtain⟨h1,h2⟩:=DO c B A h.2;rw[cY,mU,k7,ak (by simpa using wu h.1),ak (by simpa using wu h.1),h1,h2];exact⟨rfl,rfl⟩
theorem agQ(hc:aH c=false){l:Tx}(h:c∈l):c∈cR l:=by
 unfold cR;rw[EI];exact NS _ _ hc _ (EI.2 h)
theorem arD(hc:aH c=false){l:Tx}(h:c∈l):c∈aG l:=by
 rw[rF];exact NS _ _ hc _ (agQ hc h)
theorem Lv{l:Tx}(h:c∈aG l):c∈l:=by
 rw[zw]at h;have:=UI _ _ _ h;rw[EI]at this;exact EI.1 (UI _ _ _ this)
theorem FA(c:UInt8): ∀l:Tx,c∈l-> ∃A B,l=A++c::B/\c∉A
 |[],h=>by simp at h
 | x::l,h=>by
   by_cases hx:x=c
   ·exact⟨[],l,by rw[hx];rfl,aq⟩
   have hm:c∈l:=by rcases cq.1 h with e|e;exact absurd e.symm hx;exact e
   obtain⟨A,B,rfl,hA⟩:=FA c l hm;exact⟨x::A,B,rfl,by simp only[cq,tf];exact⟨wu hx,hA⟩⟩
theorem awM: ∀n:Fin 32,(40:UInt8)∉cZ n.val:=dD
theorem awB(h:(40:UInt8)∈t):bR t=none:=by
 cases hr:bR t with
 |none=>rfl
 | some n=>
   obtain⟨h1,h2⟩:=Qs hr;rw[h2]at h;exact absurd h (awM ⟨n,h1⟩)
theorem vh{l:Tx}:l.getLast?=some c<-> ∃X,l=X++[c]:=by
 constructor
 ·intro h
  have aN:l≠[]:=by intro e;subst e;simp at h
  refine⟨l.dropLast,?_⟩;rw[pz aN]at h;simp at h;rw[<-h];exact(MK aN).symm
 rintro⟨X,rfl⟩;simp
theorem akT(A B:Tx)(hA:(40:UInt8)∉A):fK (A++40::B)=if aG A=[48]/\(cR B).getLast?=some 41 then bR (aG (cR B).dropLast)else none:=by
 have hA':(40:UInt8)∉A.dropWhile aH:=fun h=>hA (UI _ _ _ h)
 obtain⟨t1,t2⟩:=DO 40 (cR B) _ hA';unfold fK;simp only;rw[Hi A B 40 ay,t1,t2,YX];have hc:(A.dropWhile aH++40::cR B).contains 40=true:=aq;rw[hc,Ew,Ez,yc,qR,qP];generalize cR B=B';cases hB:B'.getLast? with
 |none=>simp
 | some x=>
   by_cases hx:x=41<;>by_cases hT:aG A=[48]<;>simp[hx,hT]
theorem atb(s:Tx):X8 s=fK s:=by
 by_cases h:(40:UInt8)∈s
 ·obtain⟨A,B,rfl,hA⟩:=FA 40 s h
  rw[akT A B hA];unfold X8;rw[y7 40 A B hA,ox]
  by_cases hB:(40:UInt8)∈B
  ·obtain⟨A2,B2,rfl,Vs⟩:=FA 40 B hB
   rw[y7 40 A2 B2 Vs,ox];have aN:=uc 40 B2
   have hn:(if aG A=[48]/\(cR (A2++40::B2)).getLast?=some 41 then bR (aG (cR (A2++40::B2)).dropLast)else none)=none:=by
    split
    ·rename_i hh
     obtain⟨X,hX⟩:=vh.1 hh.2;rw[hX,BR];refine awB (arD ay ?_);have hm:=agQ (c:=40) ay hB;rw[hX]at hm;rcases fc.1 hm with h|h
     ·exact h
     simp at h
    rfl
   rw[hn];cases hs:bh 40 B2 with
   |nil=>exact absurd hs aN
   |cons u v=>rfl
  rw[DI 40 B hB]
  simp only[ox,EO]
  have key:(aG B).getLast?=some 41<->(cR B).getLast?=some 41:=by
   rw[rF];constructor
   ·exact Kw
   intro hh
   obtain⟨X,hX⟩:=vh.1 hh;rw[hX,Cv aH 41 ay];simp
  by_cases hh:(cR B).getLast?=some 41
  ·obtain⟨X,hX⟩:=vh.1 hh
   have e2:aG (aG B).dropLast=aG (cR B).dropLast:=by
    rw[rF B,hX,Cv aH 41 ay,BR,BR,YX]
   rw[e2]
   by_cases hT:aG A=[48]
   ·rw[ak ⟨hT,key.2 hh⟩,ak ⟨hT,hh⟩]
   rw[ai (fun h=>hT h.1),ai (fun h=>hT h.1)]
  rw[ai (fun h=>hh (key.1 h.2)),ai (fun h=>hh h.2)]
 rw[aal (fun h'=>h (Lv h'))]
 unfold X8;rw[DI 40 s h];rfl
theorem ace(h1:48<=x.toNat)(h2:x.toNat<=57)(a:Nat):mL (10*a+(x.toNat-48))=x:=by
 unfold mL;rw[show 48+(10*a+(x.toNat-48))%10=x.toNat by omega];exact UInt8.ofNat_toNat
theorem aj9: ∀(l:Tx) (a:Nat),0<a->0<ie a l
 |[],a,h=>h
 |c::r,a,h=>aj9 r _ ah
theorem Zb{l:Tx}(h0:l≠[])(hd:l.all bf=true)(hh:l.head?≠some 48):0<ie 0 l:=by
 cases l with
 |nil=>exact absurd rfl h0
 | cons c r=>
   simp only[Tu,bV]at hd;have hc:=Ar hd.1;refine aj9 r _ ?_;have:c.toNat≠48:=fun e=>hh (by simp only[ya,qM];exact tD.1 e)
   omega
theorem ans(n:Nat)(h: ¬n<10):aA8 n=aA8 (n/10)++[mL n]:=by rw[aA8,ET h];rfl
theorem decDigits_one(n:Nat)(h:n<10):aA8 n=[mL n]:=by rw[aA8,yg h];unfold mL;rw[Tm h]
theorem canon: ∀(n:Nat) (l:Tx),l.length=n+1->l.all bf=true->(l.head?=some 48->l.length=1)->aA8 (ie 0 l)=l
 | 0,l,hn,hd,_=>by
   match l,hn with
   | [x],_=>
     simp only[Tu,List.all_nil,yd]at hd;have hx:=Ar hd;have:=ace hx.1 hx.2 0;show aA8 (10*0+(x.toNat-48))=[x];rw[decDigits_one _ ah,this]
 | n+1,l,hn,hd,hh=>by
   rcases MU l with rfl|⟨r,x,rfl⟩
   ·simp at hn
   rw[IQ]at*;have hr:r.length=n+1:=by simp at hn;omega
   rw[List.all_append]at hd;simp only[bV,Tu,List.all_nil,yd]at hd;have hx:=Ar hd.2;have aN:r≠[]:=by intro e;subst e;simp at hr
   have FO:(r++[x]).head?=r.head?:=by cases r with
    |nil=>exact absurd rfl aN
    |cons a b=>rfl
   have h48:r.head?≠some 48:=by
    intro e;rw[FO]at hh;have:=hh e;rw[bu]at this;simp only[cy,je]at this;omega
   have hp:=Zb aN hd.1 h48;have ih:=canon n r hr hd.1 (fun e=>absurd e h48);rw[Za,ans _ ah,ace hx.1 hx.2,show(10*ie 0 r+(x.toNat-48))/10=ie 0 r by omega,ih]
theorem asf(h:fF z=some v)(h1: -2048<=v)(h2:v<=2047):nT z=some v:=by
 suffices e:z=jI v by rw[e];exact XO h1 h2
 unfold fF at h
 split at h
 ·cases h
 rename_i hu
 split at h
 ·rename_i hm
  split at h
  ·cases h
  rename_i hn
  obtain⟨r,rfl⟩: ∃r,z=45::r:=by cases z with
   |nil=>simp at hm
   |cons a b=>simp at hm;subst hm;exact⟨b,rfl⟩
  simp only[qR,qP]at h hn;cases h;have a1:r≠[]:=fun e=>hn (.inl e)
  have a2:r.head?≠some 48:=fun e=>hn (.inr (.inl e))
  have a3:r.all bf=true:=by cases hb:r.all bf;exact absurd (.inr (.inr hb)) hn;rfl
  have hp:=Zb a1 a3 a2;have hc:=canon (r.length-1) r (by have:=BS.2 a1;omega) a3 (fun e=>absurd e a2);unfold jI;rw[ak ah,Int.natAbs_neg,Int.natAbs_natCast,<-JF ah,hc]
 split at h
 ·cases h
 rename_i hn;cases h;have a1:z≠[]:=fun e=>hu (.inl e)
 have a3:z.all bf=true:=by cases hb:z.all bf;exact absurd (.inr hb) hn;rfl
 have a2:z.head?=some 48->z.length=1:=fun e=>by
  have:=BS.2 a1;rcases iA 1 z.length with h'|h'
  ·exact absurd (.inl ⟨e,h'⟩) hn
  omega
 have hc:=canon (z.length-1) z (by have:=BS.2 a1;omega) a3 a2;unfold jI;rw[ai ah,uC,<-JF ah,hc]
theorem asg: ∀a:Fin 64,∀b:Fin 64,fF (jI (((64*a.val+b.val:Nat):Int)-2048))=some (((64*a.val+b.val:Nat):Int)-2048):=dD
theorem ahh(h:nT z=some v):fF z=some v:=by
 obtain⟨e,b1,b2⟩:=GA h;have:=asg ⟨(v+2048).toNat/64,ah⟩ ⟨(v+2048).toNat%64,ah⟩;simp only at this;rw[show((64*((v+2048).toNat/64)+(v+2048).toNat%64:Nat):Int)-2048=v by omega]at this;rw[e];exact this
theorem aqi{a b:Nat}(ha:a<32)(hb:b<32)(hv:Iw z v ok):
 gG ⟨8,a,b,0,v,[],[],0⟩ ok=match nT z with
  |some n=>some ⟨8,a,b,0,n,[],[],0⟩
  |none=>none:=by
 rcases hv with⟨h1,rfl,rfl⟩|⟨h1,rfl⟩
 ·cases hn:nT z with
  |none=>rfl
  |some n=>rw[ahh hn]at h1;cases h1
 unfold gG
 rw[Un ha hb]
 by_cases hr: -2048<=v/\v<=2047
 ·rw[asf h1 hr.1 hr.2]
  have hB:Gz v=true:=by unfold Gz;simp;omega
  rw[hB,eU hr.1,eU hr.2];rfl
 rw[show(decide (-2048<=v)&&decide (v<=2047))=false by simp;omega]
 cases hn:nT z with
 |none=>simp
 | some n=>
   rw[ahh hn]at h1;cases h1;obtain⟨-, b1,b2⟩:=GA hn;exact absurd ⟨b1,b2⟩ hr
def yC(p s:Tx):Int:=match nP p,nP s with
 |some k,some j=>3+3*k+j
 |_,_=>0
def KT:List Tx->Option Nat
 |[x,y]=>if x=[48]/\y.getLast?=some 41 then bR (aG y.dropLast)else none
 |_=>none
theorem as9(s:Tx):KT ((bh 40 s).map aG)=fK s:=atb s
theorem ata(h:l.length≠2):KT l=none:=by
 match l with
 |[]=>rfl
 |[_]=>rfl
 |[_,_]=>simp at h
 |_::_::_::_=>rfl
theorem ajz(c:UInt8)(s:Tx)(hs:s.length<=1000000):Sm ((bh c s).map aG):=by
 intro x hx;obtain⟨y,hy,rfl⟩:=Ae.1 hx;have h1:=lZ y;have h2:=He c s y hy;omega
def Mx(o:Option Nat)(w:aAX)(e:aBp)(w':aAX):Prop:=e= .returned (.tuple #[.int .i64 (iK o),.bool o.isSome])/\Below w.heap.size w w'
theorem Mx.no{o:Option Nat}(h:o=none)(hb:Below w.heap.size w w'):Mx o w (.returned (.tuple #[.int .i64 0,.bool false])) w':=by
 subst h;exact⟨rfl,hb⟩
theorem aws(s:Tx)(hs:s.length<=1000000)(w:aAX):aA7 prog 193 #[.string (tx s)] w (Mx (fK s) w):=by
 have SP:=af (fun w=>aiG s 40 hs w);have hsm:=ajz 40 s hs;rw[<-as9];generalize (bh 40 s).map aG=A at*
 by_cases h2:A.length=2
 ·obtain⟨x,y,rfl⟩:=xe h2
  clear h2;have hx:=hsm x aq;have hy:=hsm y aq;have i0: ∀a w0,cO w0 a [x,y]-> ∀c w',(aA2 42 (.slice a 2 c) (.int .i64 0)).run prog w'= .ok (.pointer (some ⟨bk a,fo a,none⟩)) w':=fun a w0 h c w'=>h.idx 0 aq c w'
  have i1: ∀a w0,cO w0 a [x,y]-> ∀c w',(aA2 42 (.slice a 2 c) (.int .i64 1)).run prog w'= .ok (.pointer (some ⟨bk a,fo a+1,none⟩)) w':=fun a w0 h c w'=>h.idx 1 aq c w'
  have I0:=af i0;have I1:=af i1;clear i0 i1 hsm;have HP:=af (show KT [x,y]=if x=[48]/\y.getLast?=some 41 then bR (aG y.dropLast)else none from rfl);generalize KT [x,y]=o at*
  by_cases h48:x=[48]
  ·subst h48
   have z1:((tx [48]).toList != [48])=false:=by rw[bU];rfl
   have z1':(!((tx [48]).toList==[48]))=false:=by rw[bU];rfl
   have Q5:((tx [48]).toList==[48])=true:=by rw[bU];rfl
   rcases MU y with rfl|⟨Y,c,hyc⟩
   ·have HR:=af (show o=none by rw[HP.oo,ai aq])
    have hz0:(tx ([]:Tx)).size=0:=rfl;clear HP;go_in;go_wp2_with fail;refine(SP.oo _).mono ?_;rintro e w1 ⟨a,c,rfl,t1,E⟩;have j0:=I0.oo a w1 t1 c;have j1:=I1.oo a w1 t1 c;have c0:w1.cell? ⟨bk a,fo a,none⟩=some (.string (tx [48])):=t1.cell 0 aq;have c1:w1.cell? ⟨bk a,fo a+1,none⟩=some (.string (tx [])):=t1.cell 1 aq;clear t1;go_wp2_with fail
    go_quiet (fail)
    exact Oe
   rw[IQ]at hyc
   subst hyc;obtain⟨k,hk⟩:=aF Y.length;have hsz:(tx (Y++[c])).size=k+1:=by rw[bC];simp[hk]
   have hkb:k+1<=1000000:=by rw[<-hsz,bC];exact hy
   have ix:=cH (Y++[c]) k c (by simp[<-hk]);have hw1:IntKind.i64.wrap ((k:Int)+1-1)=k:=by rw[show(k:Int)+1-1=k by omega];exact IntWalk.i64_in _ ah
   have iG:decide ((k:Int)+1<1)=false:=aC
   by_cases JZ:c=41
   ·subst JZ
    have z2:(((41:UInt8).toNat:Int) != 41)=false:=ay;have z2q:(((41:UInt8).toNat:Int)==41)=true:=ay;have z2':(!(((41:UInt8).toNat:Int)==41))=false:=ay
    have sl: ∀w,(aA1 9 (.string (tx (Y++[41]))) none (some (.int .i64 k)) none).run prog w= .ok (.string (tx Y)) w:=fun w=>by
     have h1:=xA (Y++[41]) k (by rw[bu,hk];omega) w;have e:List.take k (Y++[41])=Y:=by rw[<-hk];simp
     rw[e]at h1;exact h1
    have HR:=af (show o=bR (aG Y) by rw[HP.oo,ak ⟨rfl,aq⟩,BR]);have TR:=af (fun w=>Yr Y ah w);have e1:=Yu (aG Y);have e2:=Yt (aG Y);rw[<-HR.oo]at e1 e2;generalize aG Y=T at*;have RG:=af (fun w=>aiF T w);have H1:=af e1;have H2:=af e2;clear HP hk hy e1 e2;generalize Y++[41]=yy at*;go_in;go_wp2_with fail;refine(SP.oo _).mono ?_;rintro e w1 ⟨a,c,rfl,t1,E⟩;have j0:=I0.oo a w1 t1 c;have j1:=I1.oo a w1 t1 c;have c0:w1.cell? ⟨bk a,fo a,none⟩=some (.string (tx [48])):=t1.cell 0 aq;have c1:w1.cell? ⟨bk a,fo a+1,none⟩=some (.string (tx yy)):=t1.cell 1 aq;clear t1;go_wp2_with fail
    go_quiet (fail)
    go_wp2_with fail
    go_quiet (first|(go_at_call 106;refine aK (TR.oo _) ?_;exact⟨rfl,_,rfl⟩)|(go_at_call 192;refine aK (RG.oo _) ?_;exact⟨rfl,_,rfl⟩))
    go_wp2;go_ret2;exact⟨aiY H1.oo H2.oo,by first|exact E.trans ((below_drewN _ _).mono E.size)|(rw[World.drewN_drewN];exact E.trans ((below_drewN _ _).mono E.size))⟩
   have z2:((c.toNat:Int) != 41)=true:=rG c 41 JZ
   have z2q:((c.toNat:Int)==41)=false:=aj3 c 41 JZ;have z2':(!((c.toNat:Int)==41))=true:=by rw[z2q];rfl
   have HR:=af (show o=none by rw[HP.oo,ai (by simp;exact JZ)]);clear HP hk hy JZ;generalize Y++[c]=yy at*;go_in;go_wp2_with fail;refine(SP.oo _).mono ?_;rintro e w1 ⟨a,c,rfl,t1,E⟩;have j0:=I0.oo a w1 t1 c;have j1:=I1.oo a w1 t1 c;have c0:w1.cell? ⟨bk a,fo a,none⟩=some (.string (tx [48])):=t1.cell 0 aq;have c1:w1.cell? ⟨bk a,fo a+1,none⟩=some (.string (tx yy)):=t1.cell 1 aq;clear t1;go_wp2_with fail
   go_quiet (fail)
   exact Oe
  have z1:((tx x).toList != [48])=true:=by rw[bU];simpa using h48
  have Q5:((tx x).toList==[48])=false:=by rw[bU];simpa using h48
  have z1':(!((tx x).toList==[48]))=true:=by rw[Q5];rfl
  have HR:=af (show o=none by rw[HP.oo,ai (fun h=>h48 h.1)]);clear HP h48;go_in;go_wp2_with fail;refine(SP.oo _).mono ?_;rintro e w1 ⟨a,c,rfl,t1,E⟩;have j0:=I0.oo a w1 t1 c;have j1:=I1.oo a w1 t1 c;have c0:w1.cell? ⟨bk a,fo a,none⟩=some (.string (tx x)):=t1.cell 0 aq;have c1:w1.cell? ⟨bk a,fo a+1,none⟩=some (.string (tx y)):=t1.cell 1 aq;clear t1;go_wp2_with fail
  go_quiet (fail)
  exact Oe
 have HR:=af (ata h2)
 have z1:((A.length:Int) != 2)=true:=aC;have Q5:((A.length:Int)==2)=false:=aC;have z1':(!((A.length:Int)==2))=true:=by rw[Q5];rfl
 clear h2 hsm;generalize KT A=o at*;go_in;go_wp2_with fail;refine(SP.oo _).mono ?_;rintro e w1 ⟨a,c,rfl,t1,E⟩;clear t1 SP;generalize A.length=n at*;go_wp2_with fail
 go_quiet (fail)
 exact Oe
def Iv(p s:Tx)(k:Nat):Prop:= ∀j:Nat,j<k-> ¬(iY ((j:Int)/3)=p/\iY ((j:Int)%3)=s)
theorem anR(hk:k<9)(h1:iY ((k:Int)/3)=p)(h2:iY ((k:Int)%3)=s):yC p s=3+k:=by
 subst h1 h2;have: ∀k:Fin 9,yC (iY ((k.val:Int)/3)) (iY ((k.val:Int)%3))=3+(k.val:Int):=dD;exact this ⟨k,hk⟩
theorem anS(h:Iv p s 9):yC p s=0:=by
 unfold yC;cases hp:nP p with
 |none=>rfl
 | some a=>
   cases hs:nP s with
   |none=>rfl
   | some b=>
     obtain⟨i,hi,rfl,h1⟩:=CD hp;obtain⟨j,hj,rfl,h2⟩:=CD hs;exfalso;have key: ∀i:Fin 3,∀j:Fin 3,([[114],[119],[114,119]]:List Tx)[i.val]? =some (iY (((3*i.val+j.val:Nat):Int)/3))/\([[114],[119],[114,119]]:List Tx)[j.val]? =some (iY (((3*i.val+j.val:Nat):Int)%3)):=dD;obtain⟨k1,k2⟩:=key ⟨i,hi⟩ ⟨j,hj⟩;simp only at k1 k2;rw[h1]at k1;rw[h2]at k2;exact h (3*i+j) ah ⟨(fU k1).symm,(fU k2).symm⟩
theorem Iv.step(h:Iv p s k)(hn: ¬(iY ((k:Int)/3)=p/\iY ((k:Int)%3)=s)):Iv p s (k+1):=by
 intro j hj;rcases fO.1 hj with h'|h'
 ·exact h j h'
 subst h';exact hn
theorem awh(p s:Tx)(w:aAX):aA7 prog 195 #[.string (tx p),.string (tx s)] w fun e w'=>e= .returned (.int .i64 (yC p s))/\w=w':=by
 go_in;go_wp2_with fail
 go_loop [5] (fun i=> ∃k:Nat,k<=9/\i= .int .i64 k/\Hid (Iv p s k)) (fun i=>9-(intOf i).toNat)
 ·exact⟨0,ah,rfl,fun j hj=>absurd hj (iz j)⟩
 obtain⟨k,hk,rfl,HN⟩:=hrel
 by_cases aA:k<9
 ·by_cases h1:iY ((k:Int)/3)=p
  ·have z1:((tx (iY ((k:Int)/3))).toList==(tx p).toList)=true:=by rw[j9];simpa using h1
   by_cases h2:iY ((k:Int)%3)=s
   ·have z2:((tx (iY ((k:Int)%3))).toList==(tx s).toList)=true:=by rw[j9];simpa using h2
    have HR:=af (anR aA h1 h2)
    go_wp2_with (go_at_call 257;refine aK (Yq _ _) ?_)
    go_ret;exact⟨nA HR.oo.symm,rfl⟩
   have z2:((tx (iY ((k:Int)%3))).toList==(tx s).toList)=false:=qA h2
   have HR:=af (HN.oo.step (fun h=>h2 h.2))
   go_wp2_with (go_at_call 257;refine aK (Yq _ _) ?_)
   go_round
   case rel=>exact⟨k+1,ah,by go_num,HR⟩
   case measure=>simp[intOf];omega
  have z1:((tx (iY ((k:Int)/3))).toList==(tx p).toList)=false:=qA h1
  have HR:=af (HN.oo.step (fun h=>h1 h.1))
  go_wp2_with (go_at_call 257;refine aK (Yq _ _) ?_)
  go_round
  case rel=>exact⟨k+1,ah,by go_num,HR⟩
  case measure=>simp[intOf];omega
 obtain rfl:k=9:=ah
 have HR:=af (anS HN.oo);go_wp2;go_ret;exact⟨nA HR.oo.symm,rfl⟩
abbrev vL:Obj:=.cells #[.int .i64 0,.int .i64 0,.int .i64 0] 201
abbrev Hw:Obj:=.cells #[.bool false,.bool false,.bool false] 202
def gR(l:List Tx)(k j:Nat):Int:=if j<k then vw (l.getD j [])else 0
def gS(l:List Tx)(k j:Nat):Bool:=if j<k then vu (l.getD j [])==0 else false
structure sX(w wr:aAX)(l:List Tx)(k:Nat):Prop where
 i0: ∀j,j<8->wr.cell? ⟨w.heap.size,j,none⟩=(iC Di)[j]?
 i1: ∀j,j<8->wr.cell? ⟨w.heap.size+1,j,none⟩=(iC Di)[j]?
 r: ∀j,j<3->wr.cell? ⟨w.heap.size+2,j,none⟩=some (.int .i64 (gR l k j))
 s: ∀j,j<3->wr.cell? ⟨w.heap.size+3,j,none⟩=some (.bool (gS l k j))
 f: ∀b j,w.heap.size<=b->b<=w.heap.size+3->wr.frozen? ⟨b,j,none⟩=false
 size:w.heap.size+4<=wr.heap.size
 cF:Below w.heap.size w wr
theorem sX.below(h:sX w wr l k)(hb:Below wr.heap.size wr w'):sX w w' l k:=by
 have hz:=h.size;refine⟨fun j hj=>?_,fun j hj=>?_,fun j hj=>?_,fun j hj=>?_,fun b j h1 h2=>?_,dY hz hb.size,aI h.cF hb⟩
 ·rw[hb.cell (p:=⟨w.heap.size,j,none⟩) (by dsimp only;omega)];exact h.i0 j hj
 ·rw[hb.cell (p:=⟨w.heap.size+1,j,none⟩) (by dsimp only;omega)];exact h.i1 j hj
 ·rw[hb.cell (p:=⟨w.heap.size+2,j,none⟩) (by dsimp only;omega)];exact h.r j hj
 ·rw[hb.cell (p:=⟨w.heap.size+3,j,none⟩) (by dsimp only;omega)];exact h.s j hj
 rw[hb.frozen (p:=⟨b,j,none⟩) (by dsimp only;omega)];exact h.f b j h1 h2
theorem sX.start(w:aAX)(l:List Tx):sX w ((((w.alloc cK).alloc cK).alloc vL).alloc Hw) l 0:=by
 have s1:(w.alloc cK).heap.size=w.heap.size+1:=aq;have s2:((w.alloc cK).alloc cK).heap.size=w.heap.size+2:=aq;have s3:(((w.alloc cK).alloc cK).alloc vL).heap.size=w.heap.size+3:=aq;have s4:((((w.alloc cK).alloc cK).alloc vL).alloc Hw).heap.size=w.heap.size+4:=aq;have B1:=al w cK;have B2:=al (w.alloc cK) cK;have B3:=al ((w.alloc cK).alloc cK) vL;have B4:=al (((w.alloc cK).alloc cK).alloc vL) Hw;have h1:=lJ w cK;have h2:=lJ (w.alloc cK) cK;have h3:=lJ ((w.alloc cK).alloc cK) vL;have h4:=lJ (((w.alloc cK).alloc cK).alloc vL) Hw
 have C1: ∀j,(w.alloc cK).cell? ⟨w.heap.size,j,none⟩=(iC Di)[j]? :=fun j=>by
  simp only[aA4,h1];simp[iC,Di];rfl
 have C2: ∀j,((w.alloc cK).alloc cK).cell? ⟨w.heap.size+1,j,none⟩=(iC Di)[j]? :=fun j=>by
  rw[<-s1];simp only[aA4,h2];simp[iC,Di];rfl
 have C3: ∀j,(((w.alloc cK).alloc cK).alloc vL).cell? ⟨w.heap.size+2,j,none⟩=([.int .i64 0,.int .i64 0,.int .i64 0]:List Value)[j]? :=fun j=>by
  rw[<-s2];simp only[aA4,h3];simp
 have C4: ∀j,((((w.alloc cK).alloc cK).alloc vL).alloc Hw).cell? ⟨w.heap.size+3,j,none⟩=([.bool false,.bool false,.bool false]:List Value)[j]? :=fun j=>by
  rw[<-s3];simp only[aA4,h4];simp
 have F1: ∀j,(w.alloc cK).frozen? ⟨w.heap.size,j,none⟩=false:=fun j=>by simp only[aBU,h1];simp
 have F2: ∀j,((w.alloc cK).alloc cK).frozen? ⟨w.heap.size+1,j,none⟩=false:=fun j=>by rw[<-s1];simp only[aBU,h2];simp
 have F3: ∀j,(((w.alloc cK).alloc cK).alloc vL).frozen? ⟨w.heap.size+2,j,none⟩=false:=fun j=>by rw[<-s2];simp only[aBU,h3];simp
 have F4: ∀j,((((w.alloc cK).alloc cK).alloc vL).alloc Hw).frozen? ⟨w.heap.size+3,j,none⟩=false:=fun j=>by rw[<-s3];simp only[aBU,h4];simp
 refine⟨fun j hj=>?_,fun j hj=>?_,fun j hj=>?_,fun j hj=>?_,fun b j hb eG=>?_,by rw[s4];exact aX _,gU (gU (gU B1 _) _) _⟩
 ·rw[B4.cell (p:=⟨w.heap.size,j,none⟩) (by dsimp only;omega),B3.cell (p:=⟨w.heap.size,j,none⟩) (by dsimp only;omega),B2.cell (p:=⟨w.heap.size,j,none⟩) (by dsimp only;omega)];exact C1 j
 ·rw[B4.cell (p:=⟨w.heap.size+1,j,none⟩) (by dsimp only;omega),B3.cell (p:=⟨w.heap.size+1,j,none⟩) (by dsimp only;omega)];exact C2 j
 ·rw[B4.cell (p:=⟨w.heap.size+2,j,none⟩) (by dsimp only;omega),C3 j]
  have hj:j=0\/j=1\/j=2:=ah;rcases hj with rfl|rfl|rfl<;>rfl
 ·rw[C4 j]
  have hj:j=0\/j=1\/j=2:=ah;rcases hj with rfl|rfl|rfl<;>rfl
 have hb:b=w.heap.size\/b=w.heap.size+1\/b=w.heap.size+2\/b=w.heap.size+3:=ah
 rcases hb with rfl|rfl|rfl|rfl
 ·rw[B4.frozen (p:=⟨w.heap.size,j,none⟩) (by dsimp only;omega),B3.frozen (p:=⟨w.heap.size,j,none⟩) (by dsimp only;omega),B2.frozen (p:=⟨w.heap.size,j,none⟩) (by dsimp only;omega)];exact F1 j
 ·rw[B4.frozen (p:=⟨w.heap.size+1,j,none⟩) (by dsimp only;omega),B3.frozen (p:=⟨w.heap.size+1,j,none⟩) (by dsimp only;omega)];exact F2 j
 ·rw[B4.frozen (p:=⟨w.heap.size+2,j,none⟩) (by dsimp only;omega)];exact F3 j
 exact F4 j
theorem BN{b:Nat}(h:b≠b'):(⟨b,i,none⟩:Addr)≠⟨b',j,none⟩:=by intro e;injection e with e1;exact h e1
theorem aan{b:Nat}(h:i≠j):(⟨b,i,none⟩:Addr)≠⟨b',j,none⟩:=by intro e;injection e with e1 e2;exact h e2
theorem yA{b:Addr}{v:Value}(h:a≠b):(w.setCell a v).cell? b=w.cell? b:=aav _ _ _ _ h
theorem css{v u:Value}(h:w.cell? a=some u):(w.setCell a v).cell? a=some v:=aax _ _ _ h
theorem sX.step(h:sX w wr l k)(hk:k<3)(ht:l[k]? =some t):sX w ((wr.setCell ⟨w.heap.size+2,k,none⟩ (.int .i64 (vw t))).setCell ⟨w.heap.size+3,k,none⟩ (.bool (vu t==0))) l (k+1):=by
 have hg:l.getD k []=t:=by rw[pY,ht];rfl
 refine⟨fun j hj=>?_,fun j hj=>?_,fun j hj=>?_,fun j hj=>?_,fun b j h1 h2=>?_,by simpa using h.size,uE (uE h.cF (by dsimp only;omega) _) (by dsimp only;omega) _⟩
 ·rw[yA (BN ah),yA (BN ah)];exact h.i0 j hj
 ·rw[yA (BN ah),yA (BN ah)];exact h.i1 j hj
 ·rw[yA (BN ah)]
  by_cases hjk:j=k
  ·subst hjk
   rw[css (h.r j hj)];unfold gR;rw[ak ah,hg]
  rw[yA (aan (fun e=>hjk e.symm)),h.r j hj]
  unfold gR
  by_cases aA:j<k
  ·rw[ak aA,ak ah]
  rw[ai aA,ai ah]
 ·by_cases hjk:j=k
  ·subst hjk
   rw[css (u:=.bool (gS l j j)) (by rw[yA (BN ah)];exact h.s j hj)];unfold gS;rw[ak ah,hg]
  rw[yA (aan (fun e=>hjk e.symm)),yA (BN ah),h.s j hj]
  unfold gS
  by_cases aA:j<k
  ·rw[ak aA,ak ah]
  rw[ai aA,ai ah]
 rw[BP,BP];exact h.f b j h1 h2
theorem aqg(x y:Tx):gG ⟨13,0,0,0,0,[],[],yC x y⟩ true=fq [102,101,110,99,101] [x,y]:=by
 rw[Yl];unfold yC;cases hx:nP x with
 |none=>rfl
 | some a=>
   cases hy:nP y with
   |none=>rfl
   | some b=>
     obtain⟨i,hi,rfl, -⟩:=CD hx;obtain⟨j,hj,rfl, -⟩:=CD hy;exact Ku (by rw[Um];simp;omega)
theorem avZ(h1:op≠[108,119])(h2:op≠[115,119])(h3:op≠[111,114,105])(h4:op≠[120,111,114])(h5:op≠[97,100,100])(h6:op≠[98,110,101])(h7:op≠[102,101,110,99,101])(l:List Tx):fq op l=none:=by
 by_cases hl:l.length=3
 ·obtain⟨x,y,z,rfl⟩:=Gn hl
  rw[xw _ _ _ h1 h2 h7];cases bR x with
  |none=>rfl
  | some a=>cases bR y with
    |none=>rfl
    | some b=>
      simp only;rw[ai h6,ai h3];cases bR z with
      |none=>rfl
      |some c=>simp only;rw[ai h4,ai h5]
 exact GR h1 h2 h7 hl
def gO(l:List Tx)(j:Nat):Option Nat:=l[j]?.bind bR
theorem aou(hk:l.length<=k\/3<=k)(hj:j<3)(hl:k<=l.length):gR l k j=iK (gO l j)/\gS l k j=(gO l j).isSome:=by
 unfold gR gS gO
 by_cases h:j<k
 ·rw[ak h,ak h,pY,aV ah,Ti,Tl,Yu,Yt]
  exact⟨rfl,rfl⟩
 rw[ai h,ai h,mg ah]
 exact⟨rfl,rfl⟩
theorem avH(l:List Tx):fq [108,119] l=if l.length=2/\(gO l 0).isSome=true then gG ⟨6,iK (gO l 0),iK (fK (l.getD 1 [])),0,0,[],[],0⟩ (fK (l.getD 1 [])).isSome else none:=by
 by_cases h:l.length=2
 ·obtain⟨x,y,rfl⟩:=xe h
  rw[(Ql x y).trans (agd mO MJ).symm,show gO [x,y] 0=bR x from rfl];cases hx:bR x<;>simp[WX]
 rw[Yn h,ai (fun e=>h e.1)]
theorem avJ(l:List Tx):fq [115,119] l=if l.length=2/\(gO l 0).isSome=true then gG ⟨7,0,iK (fK (l.getD 1 [])),iK (gO l 0),0,[],[],0⟩ (fK (l.getD 1 [])).isSome else none:=by
 by_cases h:l.length=2
 ·obtain⟨x,y,rfl⟩:=xe h
  rw[(Qm x y).trans (age mO MJ).symm,show gO [x,y] 0=bR x from rfl];cases hx:bR x<;>simp[WX]
 rw[Yo h,ai (fun e=>h e.1)]
theorem asa(s:Tx): ∃v ok,Iw s v ok:=by
 cases h:fF s with
 |none=>exact⟨0,false,.inl ⟨h,rfl,rfl⟩⟩
 |some v=>exact⟨v,_,.inr ⟨h,rfl⟩⟩
theorem avI(hv:Iw (l.getD 2 []) v ok):fq [111,114,105] l=if l.length=3/\(gO l 0).isSome=true/\(gO l 1).isSome=true then gG ⟨8,iK (gO l 0),iK (gO l 1),0,v,[],[],0⟩ ok else none:=by
 by_cases h:l.length=3
 ·obtain⟨x,y,z,rfl⟩:=Gn h
  rw[xw _ _ _ ay ay ay,show gO [x,y,z] 0=bR x from rfl,show gO [x,y,z] 1=bR y from rfl];cases hx:bR x with
  |none=>simp
  | some a=>cases hy:bR y with
    |none=>simp
    |some b=>rw[ak ⟨rfl,rfl,rfl⟩];exact(aqi (mO _ hx) (mO _ hy) hv).symm
 rw[GR ay ay ay h,ai (fun e=>h e.1)]
theorem avK{q:Int}(l:List Tx)(h:op=[120,111,114]/\q=9\/op=[97,100,100]/\q=10):fq op l=gG ⟨q,iK (gO l 0),iK (gO l 1),iK (gO l 2),0,[],[],0⟩ (((((l.length:Nat):Int)==3)&&(gO l 0).isSome)&&(gO l 1).isSome&&(gO l 2).isSome):=by
 have hq:q=9\/q=10:=ah;have hn:op≠[108,119]/\op≠[115,119]/\op≠[102,101,110,99,101]/\op≠[98,110,101]/\op≠[111,114,105]:=by rcases h with⟨rfl, -⟩|⟨rfl, -⟩<;>decide
 by_cases h3:l.length=3
 ·obtain⟨x,y,z,rfl⟩:=Gn h3
  rw[xw _ _ _ hn.1 hn.2.1 hn.2.2.1];rw[show gO [x,y,z] 0=bR x from rfl,show gO [x,y,z] 1=bR y from rfl,show gO [x,y,z] 2=bR z from rfl,show((([x,y,z].length:Nat):Int)==3)=true from rfl];cases hx:bR x with
  |none=>rfl
  | some a=>cases hy:bR y with
    |none=>rfl
    | some b=>
      refine Eq.trans ?_ (WY hq (mO _ hx) (mO _ hy) (o:=bR z) mO).symm;simp only;rw[ai hn.2.2.2.1,ai hn.2.2.2.2];cases bR z with
      |none=>rfl
      |some c=>rcases h with⟨rfl,rfl⟩|⟨rfl,rfl⟩<;>rfl
 rw[GR hn.1 hn.2.1 hn.2.2.1 h3,show(((l.length:Nat):Int)==3)=false by simp;omega];rfl
theorem avF(l:List Tx):fq [98,110,101] l=if l.length=3 then gG ⟨11,0,iK (gO l 0),iK (gO l 1),0,[],l.getD 2 [],0⟩ ((gO l 0).isSome&&(gO l 1).isSome)else none:=by
 by_cases h:l.length=3
 ·obtain⟨x,y,z,rfl⟩:=Gn h
  rw[xw _ _ _ ay ay ay,ak h];rw[show gO [x,y,z] 0=bR x from rfl,show gO [x,y,z] 1=bR y from rfl];cases hx:bR x with
  |none=>rfl
  | some a=>cases hy:bR y with
    |none=>rfl
    |some b=>exact(agc (mO _ hx) (mO _ hy)).symm
 rw[GR ay ay ay h,ai h]
theorem avG(l:List Tx):fq [102,101,110,99,101] l=if l.length=2 then gG ⟨13,0,0,0,0,[],[],yC (l.getD 0 []) (l.getD 1 [])⟩ true else none:=by
 by_cases h:l.length=2
 ·obtain⟨x,y,rfl⟩:=xe h
  rw[ak h];exact(aqg x y).symm
 rw[Ym h,ai h]
theorem sX.all(h:sX w wr l k){x0 x1 x2:Int}{y0 y1 y2:Bool}(H:(gR l k 0=x0/\gS l k 0=y0)/\(gR l k 1=x1/\gS l k 1=y1)/\(gR l k 2=x2/\gS l k 2=y2)):
 (wr.cell? ⟨w.heap.size,0,none⟩=some (.int .i64 0)/\wr.cell? ⟨w.heap.size,1,none⟩=some (.int .i64 0)/\wr.cell? ⟨w.heap.size,2,none⟩=some (.int .i64 0)/\wr.cell? ⟨w.heap.size,3,none⟩=some (.int .i64 0)/\wr.cell? ⟨w.heap.size,4,none⟩=some (.int .i64 0)/\wr.cell? ⟨w.heap.size,5,none⟩=some (.string ⟨#[]⟩)/\wr.cell? ⟨w.heap.size,6,none⟩=some (.string ⟨#[]⟩)/\wr.cell? ⟨w.heap.size,7,none⟩=some (.int .i64 0))/\
 (wr.cell? ⟨w.heap.size+1,0,none⟩=some (.int .i64 0)/\wr.cell? ⟨w.heap.size+1,1,none⟩=some (.int .i64 0)/\wr.cell? ⟨w.heap.size+1,2,none⟩=some (.int .i64 0)/\wr.cell? ⟨w.heap.size+1,3,none⟩=some (.int .i64 0)/\wr.cell? ⟨w.heap.size+1,4,none⟩=some (.int .i64 0)/\wr.cell? ⟨w.heap.size+1,5,none⟩=some (.string ⟨#[]⟩)/\wr.cell? ⟨w.heap.size+1,6,none⟩=some (.string ⟨#[]⟩)/\wr.cell? ⟨w.heap.size+1,7,none⟩=some (.int .i64 0))/\
 (wr.cell? ⟨w.heap.size+2,0,none⟩=some (.int .i64 x0)/\wr.cell? ⟨w.heap.size+2,1,none⟩=some (.int .i64 x1)/\wr.cell? ⟨w.heap.size+2,2,none⟩=some (.int .i64 x2)/\wr.cell? ⟨w.heap.size+3,0,none⟩=some (.bool y0)/\wr.cell? ⟨w.heap.size+3,1,none⟩=some (.bool y1)/\wr.cell? ⟨w.heap.size+3,2,none⟩=some (.bool y2))/\
 (∀j,wr.frozen? ⟨w.heap.size,j,none⟩=false)/\w.heap.size+4<=wr.heap.size/\Below w.heap.size w wr:=by
 obtain⟨⟨rfl,rfl⟩,⟨rfl,rfl⟩,rfl,rfl⟩:=H
 exact⟨⟨h.i0 0 ah,h.i0 1 ah,h.i0 2 ah,h.i0 3 ah,h.i0 4 ah,h.i0 5 ah,h.i0 6 ah,h.i0 7 ah⟩,⟨h.i1 0 ah,h.i1 1 ah,h.i1 2 ah,h.i1 3 ah,h.i1 4 ah,h.i1 5 ah,h.i1 6 ah,h.i1 7 ah⟩,
  ⟨h.r 0 ah,h.r 1 ah,h.r 2 ah,h.s 0 ah,h.s 1 ah,h.s 2 ah⟩,fun j=>h.f _ j ah ah,h.size,h.cF⟩
theorem awm(op:Tx)(l:List Tx)(a:Option Addr)(c:Nat)(w:aAX)(h:cO w a l)(hs:Sm l):aA7 prog 109 #[.string (tx op),.slice a l.length c] w (Rd (fq op l) w):=by
 obtain⟨r,hr⟩:=aF (fq op l);rw[hr];have HR:=af hr;obtain⟨n,hn⟩:=aF l.length;have HN:=af hn;have HS:=af (fun(k:Nat) (u:Tx) (hu:l[k]? =some u)=>hs u (cV hu));have HT:=af h;rw[hn];have O0:=sX.start w l;have yH:=h.idx;rw[hn]at yH;have HI:=af yH;have HX:=af (fun(k:Nat) (hk:k<n)=>show ∃t,l[k]? =some t/\l.getD k []=t from⟨l[k],aV _,by rw[pY,aV ah];rfl⟩);have HB:=af (by have:=h.len;omega:n<=1000000000000000000);clear hr hn hs yH h;go_in;go_wp2_with fail
 go_loopw [10] (fun i wr=> ∃k:Nat,k<=3/\k<=n/\i= .int .i64 k/\sX w wr l k) (fun i _=>3-(intOf i).toNat)
 ·exact⟨0,ah,ah,rfl,O0⟩
 clear O0;obtain⟨k,hk,hkn,rfl,O⟩:=hrel
 by_cases aA:k<n/\k<3
 ·obtain⟨dn,dS⟩:=aA
  obtain⟨t,ht, -⟩:=HX.oo k dn;have ix:=HI.oo k dn;have ck:=(HT.oo.below O.cF).yq ht;have O2:=O.step dS ht;have uO:=fun j=>O.f (w.heap.size+2) j ah ah
  have hf3:=fun j=>O.f (w.heap.size+3) j ah ah
  obtain⟨-, -, ⟨fk,sj,hr2,hs0,hs1,hs2⟩,-, hsz, -⟩:=O.all ⟨⟨rfl,rfl⟩,⟨rfl,rfl⟩,rfl,rfl⟩;clear ht O;have uQ:k=0\/k=1\/k=2:=ah;rcases uQ with rfl|rfl|rfl
  all_goals
   (try replace ix: ∀c w',(aA2 42 (.slice a n c) (.int .i64 0)).run prog w'= .ok (.pointer (some ⟨bk a,fo a,none⟩)) w':=ix)
   (try replace ix: ∀c w',(aA2 42 (.slice a n c) (.int .i64 1)).run prog w'= .ok (.pointer (some ⟨bk a,fo a+1,none⟩)) w':=ix)
   (try replace ix: ∀c w',(aA2 42 (.slice a n c) (.int .i64 2)).run prog w'= .ok (.pointer (some ⟨bk a,fo a+2,none⟩)) w':=ix)
   (try replace ck:wr.cell? ⟨bk a,fo a,none⟩=some (.string (tx t)):=ck)
   go_wp2_with (go_at_call 192;refine aK (aiF t _) ?_)
   go_roundw;exact⟨_,ah,ah,by go_num,O2⟩;simp[intOf]<;>omega
 have hkk:l.length<=k\/3<=k:=by rw[HN.oo];omega
 have hG:=fun j (hj:j<3)=>aou hkk hj (by rw[HN.oo];exact hkn)
 obtain⟨x0,hx0⟩: ∃x,iK (gO l 0)=x:=⟨_,rfl⟩;obtain⟨x1,hx1⟩: ∃x,iK (gO l 1)=x:=⟨_,rfl⟩;obtain⟨x2,hx2⟩: ∃x,iK (gO l 2)=x:=⟨_,rfl⟩;obtain⟨y0,hy0⟩: ∃x,(gO l 0).isSome=x:=⟨_,rfl⟩;obtain⟨y1,hy1⟩: ∃x,(gO l 1).isSome=x:=⟨_,rfl⟩;obtain⟨y2,hy2⟩: ∃x,(gO l 2).isSome=x:=⟨_,rfl⟩;have HG:=af (show(gR l k 0=x0/\gS l k 0=y0)/\(gR l k 1=x1/\gS l k 1=y1)/\(gR l k 2=x2/\gS l k 2=y2)from⟨⟨(hG 0 ah).1.trans hx0,(hG 0 ah).2.trans hy0⟩,⟨(hG 1 ah).1.trans hx1,(hG 1 ah).2.trans hy1⟩,(hG 2 ah).1.trans hx2,(hG 2 ah).2.trans hy2⟩);have HQ:=af (aA6 (avH l) (aA6 (avJ l) (aA6 (fun v ok=>avI (l:=l) (v:=v) (ok:=ok)) (aA6 (fun o q=>avK (op:=o) (q:=q) l) (aA6 (avF l) (avG l))))));rw[hx0,hx1,hx2,hy0,hy1,hy2,HN.oo]at HQ;obtain⟨⟨d0,d1,d2,d3,d4,d5,d6,d7⟩,⟨e0,e1,e2,e3,e4,e5,e6,e7⟩,⟨r0,r1,r2,s0,s1,s2⟩,iZ,hsz,B⟩:=O.all HG.oo;have HO:=af O;clear hkk hG hx0 hx1 hx2 hy0 hy1 hy2 O;have K0:=af (fun(h:none=r)=>show gG ⟨0,0,0,0,0,[],[],0⟩ false=r from h);have hend:n<=k\/(k<n/\3<=k):=ah;clear aA;rcases hend with hge|⟨hge,h3k⟩
 all_goals
  have h12:op=[108,119]\/op≠[108,119]/\op=[115,119]\/op≠[108,119]/\op≠[115,119]:=by
   by_cases h1:op=[108,119]
   ·exact .inl h1
   by_cases h2:op=[115,119]
   ·exact .inr (.inl ⟨h1,h2⟩)
   exact .inr (.inr ⟨h1,h2⟩)
  rcases h12 with h1|⟨h1,h2⟩|⟨h1,h2⟩
  focus
   have z1:=xG op _ h1;have hq:=HQ.oo.1;rw[<-h1,HR.oo]at hq;clear h1
  rotate_left
  focus
   have z1:=eD op _ h1;have z2:=xG op _ h2;have hq:=HQ.oo.2.1;rw[<-h2,HR.oo]at hq;clear h1 h2
  rotate_left 2
  iterate 2
   focus
    by_cases hc:n=2/\y0=true
    rotate_left
    ·rw[ai hc]at hq
     have HK:=af (K0.oo hq.symm)
     have hc2:((n:Int) != 2)=true\/((n:Int) != 2)=false/\y0=false:=by
      by_cases n2:n=2
      ·exact .inr ⟨ aC,by cases y0;rfl;exact absurd ⟨n2,rfl⟩ hc⟩
      exact .inl aC
     clear hc hq;rcases hc2 with z9|⟨z9,rfl⟩
     all_goals
      exact Cz
    obtain⟨n2,rfl⟩:=hc
    rw[ak ⟨n2,rfl⟩]at hq;have z9:((n:Int) != 2)=false:=aC;obtain⟨u,hu,mN⟩:=HX.oo 1 ah;rw[mN]at hq;have PL:=af (fun w=>aws u (HS.oo 1 u hu) w);have ck:=(HT.oo.below B).yq hu;have ix: ∀c w',(aA2 42 (.slice a n c) (.int .i64 1)).run prog w'= .ok (.pointer (some ⟨bk a,fo a+1,none⟩)) w':=HI.oo 1 ah;generalize fK u=o2 at*;have HK:=af hq.symm;clear hu mN hq n2;go_wp2_with fail;refine aQ (PL.oo _) fun w2 E2=>?_
    clear ck d0 d1 d2 d3 d4 d5 d6 d7 e0 e1 e2 e3 e4 e5 e6 e7 r0 r1 r2 s0 s1 s2 iZ hsz B;obtain⟨⟨d0,d1,d2,d3,d4,d5,d6,d7⟩,-, ⟨r0,-, -, -, -, -⟩,iZ,hsz,B⟩:=(HO.oo.below E2).all HG.oo;clear E2;exact Cz
  have z1:=eD op _ h1;have z2:=eD op _ h2;have Z9:=af (aA6 h1 h2);clear h1 h2
  by_cases h3:op=[111,114,105]
  ·have z3:=xG op _ h3
   have hq:=HQ.oo.2.2.1;rw[<-h3,HR.oo]at hq;have ZR:=af hq;clear h3 hq
   by_cases hc:n=3/\y0=true/\y1=true
   rotate_left
   ·obtain⟨v,ok,hv⟩:=asa (l.getD 2 [])
    have HK:=af (K0.oo ((ZR.oo v ok hv).trans (ai hc)).symm)
    have hc2:((n:Int) != 3)=true\/((n:Int) != 3)=false/\y0=false\/((n:Int) != 3)=false/\y0=true/\y1=false:=by
     by_cases n2:n=3
     ·refine .inr ?_
      have z:((n:Int) != 3)=false:=aC;cases y0
      ·exact .inl ⟨z,rfl⟩
      cases y1
      ·exact .inr ⟨z,rfl,rfl⟩
      exact absurd ⟨n2,rfl,rfl⟩ hc
     exact .inl aC
    clear hc hv;rcases hc2 with z9|⟨z9,rfl⟩|⟨z9,rfl,rfl⟩
    all_goals
     exact Cz
   obtain⟨n2,rfl,rfl⟩:=hc
   have z9:((n:Int) != 3)=false:=aC;obtain⟨u,hu,mN⟩:=HX.oo 2 ah;have ck:=(HT.oo.below B).yq hu;have ix: ∀c w',(aA2 42 (.slice a n c) (.int .i64 2)).run prog w'= .ok (.pointer (some ⟨bk a,fo a+2,none⟩)) w':=HI.oo 2 ah;have HU:=af (fun v ok (hv:Iw u v ok)=>((ZR.oo v ok (mN.symm▸hv)).trans (ak ⟨n2,rfl,rfl⟩)).symm);clear hu mN n2;go_wp2_with fail;refine(awl u _).mono ?_;rintro e w2 ⟨⟨v,ok,rfl,hv⟩,rfl⟩;have HK:=af (HU.oo v ok hv);clear hv ck;exact Cz
  have z3:=eD op _ h3;have N3:=af h3;clear h3
  have h45:op=[120,111,114]\/op≠[120,111,114]/\op=[97,100,100]\/op≠[120,111,114]/\op≠[97,100,100]:=by
   by_cases h4:op=[120,111,114]
   ·exact .inl h4
   by_cases h5:op=[97,100,100]
   ·exact .inr (.inl ⟨h4,h5⟩)
   exact .inr (.inr ⟨h4,h5⟩)
  rcases h45 with h4|⟨h4,h5⟩|⟨h4,h5⟩
  focus
   have z4:=xG op _ h4;have hq:=HQ.oo.2.2.2.1 _ 9 (.inl ⟨h4,rfl⟩);clear h4
  rotate_left
  focus
   have z4:=eD op _ h4;have z5:=xG op _ h5;have hq:=HQ.oo.2.2.2.1 _ 10 (.inr ⟨h5,rfl⟩);clear h4 h5
  rotate_left 2
  iterate 2
   focus
    rw[HR.oo]at hq;obtain⟨b3,jn⟩: ∃b,((n:Int)==3)=b:=⟨_,rfl⟩;rw[jn]at hq;have HK:=af hq.symm;clear hq;have hc:b3=false\/b3=true/\y0=false\/b3=true/\y0=true/\y1=false\/b3=true/\y0=true/\y1=true:=by cases b3<;>cases y0<;>cases y1<;>simp
    rcases hc with rfl|⟨rfl,rfl⟩|⟨rfl,rfl,rfl⟩|⟨rfl,rfl,rfl⟩
    all_goals
     go_wp2_with fail
     go_big_region
     exact Cz
  have z4:=eD op _ h4;have z5:=eD op _ h5;have N45:=af (aA6 h4 h5);clear h4 h5
  by_cases h6:op=[98,110,101]
  ·have z6:=xG op _ h6
   have hq:=HQ.oo.2.2.2.2.1;rw[<-h6,HR.oo]at hq;clear h6
   by_cases hc:n=3
   rotate_left
   ·have z9:((n:Int) != 3)=true:=aC
    exact adS
   rw[ak hc]at hq
   have z9:((n:Int) != 3)=false:=aC;obtain⟨u,hu,mN⟩:=HX.oo 2 ah;have ck:=(HT.oo.below B).yq hu;have ix: ∀c w',(aA2 42 (.slice a n c) (.int .i64 2)).run prog w'= .ok (.pointer (some ⟨bk a,fo a+2,none⟩)) w':=HI.oo 2 ah;have iH:=HS.oo 2 u hu;rw[mN]at hq;have HK:=af hq.symm;clear hu mN hc hq;cases y0
   all_goals
    go_wp2_with fail
    go_big_region
    go_wp2_with fail;exact aZ (by simp[results,results109,go_sem,d0,d1,d2,d3,d4,d5,d6,d7]) rfl ⟨11,0,x0,x1,0,u,0,_,rfl,HK.oo,iH,cG⟩
  have z6:=eD op _ h6;have N6:=af h6;clear h6
  by_cases h7:op=[102,101,110,99,101]
  ·have z7:=xG op _ h7
   have hq:=HQ.oo.2.2.2.2.2;rw[<-h7,HR.oo]at hq;clear h7
   by_cases hc:n=2
   rotate_left
   ·have z9:((n:Int) != 2)=true:=aC
    exact adS
   rw[ak hc]at hq
   have z9:((n:Int) != 2)=false:=aC;obtain⟨u,hu,mN⟩:=HX.oo 0 ah;obtain⟨v,hv,hv2⟩:=HX.oo 1 ah;have ck:wr.cell? ⟨bk a,fo a,none⟩=some (.string (tx u)):=(HT.oo.below B).yq hu;have ck2:=(HT.oo.below B).yq hv;have ix: ∀c w',(aA2 42 (.slice a n c) (.int .i64 0)).run prog w'= .ok (.pointer (some ⟨bk a,fo a,none⟩)) w':=HI.oo 0 ah;have Kt: ∀c w',(aA2 42 (.slice a n c) (.int .i64 1)).run prog w'= .ok (.pointer (some ⟨bk a,fo a+1,none⟩)) w':=HI.oo 1 ah;rw[mN,hv2]at hq;have FN:=af (fun w=>awh u v w);generalize yC u v=fv at*;have HK:=af hq.symm;clear hu mN hv hv2 hc hq;go_wp2_with fail
   go_region_with (go_at_call 195;refine(FN.oo _).mono ?_;rintro e' w' ⟨rfl,rfl⟩)
   all_goals
    exact Cz
  have z7:=eD op _ h7;have HK:=af (K0.oo ((avZ Z9.oo.1 Z9.oo.2 N3.oo N45.oo.1 N45.oo.2 N6.oo h7 l).symm.trans HR.oo));clear h7;exact Cz
end Go.Proofs.YtkbbgjloifmmbaaGreatDoor
