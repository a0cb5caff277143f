/- What ReadBackP leans on, part 11. -/
import Derived.Test.YtkbbgjloifmmbaaGreatDoorRb10
set_option linter.unusedVariables false
namespace Go.Proofs.YtkbbgjloifmmbaaGreatDoor
open _root_.List renaming nil_append->anJ,cons_append->anr,takeWhile_append_dropWhile->anL,mem_append->anu,head?_cons->anM,getLast?_eq_some_getLast->amJ,dropWhile_cons->amO,append_assoc->anF,all_eq_true->anq,append_inj'->anN,mem_cons->amY,takeWhile_cons->anC,mem_singleton->anw
open _root_.Bool renaming and_eq_true->am6
open _root_.Option.some renaming injEq->anK
open _root_.List.cons renaming injEq->anO
open _root_.UInt8 renaming ofNat->anP
theorem BQ(O:Tx)(h:O.length<=5): ∀t,O++32::t≠[102,101,110,99,101,46,116,115,111]:=by
 intro t e;have h1:(O++32::t)[O.length]? =some 32:=by simp
 rw[e]at h1;have h2: ∀k,k<=5->([102,101,110,99,101,46,116,115,111]:Tx)[k]? ≠some 32:=by decide
 exact h2 _ h h1
theorem RV(n:Nat):([48,40]++bH n++[41]:Tx).getLast?=some 41:=List.getLast?_concat
theorem aiU{n:Nat}(h:n<32):(44:UInt8)∉([48,40]++bH n++[41]:Tx):=by
 have:=(nK h).comma;simp only[anu,not_or];exact⟨⟨by decide,this⟩,by decide⟩
theorem Ub(O:Tx)(d a:Nat)(hd:d<32)(ha:a<32)(hO:O≠[]/\ ∀c∈O,aj c=false)(hl:O.length<=5):
 eD (O++32::(bH d++44::([48,40]++bH a++[41])))=dZ O [bH d,[48,40]++bH a++[41]]:=by
 have h1:=kU hd;have h2:=kU ha
 have yb:(bH d++44::([48,40]++bH a++[41])).getLast?=some 41:=by
  rw[List.getLast?_append,List.getLast?_cons,RV];rfl
 rw[Uc O _ hO (by simp) (by intro c hc;rw[yb]at hc;cases hc;decide) (by simp;omega) (BQ O hl _),ajT (nK hd) (aiU ha)];rw[BN (l:=[48,40]++bH a++[41]) (by intro c hc;simp at hc;subst hc;decide) (by intro c hc;rw[RV]at hc;cases hc;decide)]
theorem yK(n:Nat):rT (n:Int)=bH n:=by unfold rT;simp
theorem afQ{d a:Nat}(hd:d<32)(ha:a<32):eD (bV ⟨6,d,a,0,0,[],[],0⟩)=some ⟨6,d,a,0,0,[],[],0⟩:=by
 have e:bV ⟨6,d,a,0,0,[],[],0⟩=[108,119]++32::(bH d++44::([48,40]++bH a++[41])):=by
  unfold bV;simp only[yK];rw[if_pos trivial];simp
 rw[e,Ub [108,119] d a hd ha (by decide) (by decide),Ky,nv hd,MZ ha]
theorem afT{b a:Nat}(hd:b<32)(ha:a<32):eD (bV ⟨7,0,a,b,0,[],[],0⟩)=some ⟨7,0,a,b,0,[],[],0⟩:=by
 have e:bV ⟨7,0,a,b,0,[],[],0⟩=[115,119]++32::(bH b++44::([48,40]++bH a++[41])):=by
  unfold bV;simp only[yK];rw[if_neg (by decide),if_pos trivial];simp
 rw[e,Ub [115,119] b a hd ha (by decide) (by decide),Kz,nv hd,MZ ha]
theorem afR{d a:Nat}{n:Int}(hd:d<32)(ha:a<32)(h1: -2048<=n)(h2:n<=2047):eD (bV ⟨8,d,a,0,n,[],[],0⟩)=some ⟨8,d,a,0,n,[],[],0⟩:=by
 have e:bV ⟨8,d,a,0,n,[],[],0⟩=[111,114,105]++32::(bH d++44::(bH a++44::gD n)):=by
  unfold bV;simp only[yK];rw[if_neg (by decide),if_neg (by decide),if_pos trivial];simp
 have l1:=kU hd;have l2:=kU ha;have l3:=Dy n;rw[e,EG [111,114,105] _ _ _ (by decide) (nK hd) (nK ha) (Zs h1 h2) (by simp;omega) (BQ _ (by decide)),yN _ _ _ (by decide) (by decide) (by decide),nv hd,nv ha];simp only;rw[if_neg (by decide),if_pos trivial,Tg h1 h2]
theorem afU{d a b:Nat}(hd:d<32)(ha:a<32)(hb:b<32):eD (bV ⟨9,d,a,b,0,[],[],0⟩)=some ⟨9,d,a,b,0,[],[],0⟩:=by
 have e:bV ⟨9,d,a,b,0,[],[],0⟩=[120,111,114]++32::(bH d++44::(bH a++44::bH b)):=by
  unfold bV;simp only[yK];rw[if_neg (by decide),if_neg (by decide),if_neg (by decide),if_pos trivial];simp
 have l1:=kU hd;have l2:=kU ha;have l3:=kU hb;rw[e,EG [120,111,114] _ _ _ (by decide) (nK hd) (nK ha) (nK hb) (by simp;omega) (BQ _ (by decide)),yN _ _ _ (by decide) (by decide) (by decide),nv hd,nv ha];simp only;rw[if_neg (by decide),if_neg (by decide),nv hb];simp only;rw[if_pos trivial]
theorem afL{d a b:Nat}(hd:d<32)(ha:a<32)(hb:b<32):eD (bV ⟨10,d,a,b,0,[],[],0⟩)=some ⟨10,d,a,b,0,[],[],0⟩:=by
 have e:bV ⟨10,d,a,b,0,[],[],0⟩=[97,100,100]++32::(bH d++44::(bH a++44::bH b)):=by
  unfold bV;simp only[yK];rw[if_neg (by decide),if_neg (by decide),if_neg (by decide),if_neg (by decide),if_pos trivial];simp
 have l1:=kU hd;have l2:=kU ha;have l3:=kU hb;rw[e,EG [97,100,100] _ _ _ (by decide) (nK hd) (nK ha) (nK hb) (by simp;omega) (BQ _ (by decide)),yN _ _ _ (by decide) (by decide) (by decide),nv hd,nv ha];simp only;rw[if_neg (by decide),if_neg (by decide),nv hb];simp only;rw[if_neg (by decide),if_pos trivial]
theorem afM{a b:Nat}{l:Tx}(ha:a<32)(hb:b<32)(hl:az l=true):eD (bV ⟨11,0,a,b,0,[],l,0⟩)=some ⟨11,0,a,b,0,[],l,0⟩:=by
 have e:bV ⟨11,0,a,b,0,[],l,0⟩=[98,110,101]++32::(bH a++44::(bH b++44::l)):=by
  unfold bV;simp only[yK];rw[if_neg (by decide),if_neg (by decide),if_neg (by decide),if_neg (by decide),if_neg (by decide),if_pos trivial];simp
 have l1:=kU ha;have l2:=kU hb;obtain⟨hcl,l3⟩:=iU hl;rw[e,EG [98,110,101] _ _ _ (by decide) (nK ha) (nK hb) hcl (by simp;omega) (BQ _ (by decide)),yN _ _ _ (by decide) (by decide) (by decide),nv ha,nv hb];simp only;rw[if_pos trivial,if_pos hl]
theorem afP{l:Tx}(hl:az l=true):eD (bV ⟨12,0,0,0,0,[],l,0⟩)=some ⟨12,0,0,0,0,[],l,0⟩:=by
 obtain⟨hcl,hlen⟩:=iU hl
 have e:bV ⟨12,0,0,0,0,[],l,0⟩=l++[58]:=by
  unfold bV;simp
 have ht:ah (l++[58])=l++[58]:=by
  refine BN (fun c hc=>?_) (fun c hc=>by simp at hc;subst hc;decide)
  obtain⟨x,r,rfl⟩: ∃x r,l=x::r:=by cases l with
   |nil=>exact absurd rfl hcl.1
   |cons x r=>exact⟨x,r,rfl⟩
  exact hcl.head c (by simpa using hc)
 rw[e];unfold eD;rw[if_neg (by simp;omega)];simp only[ht]
 rw[if_neg (by
  intro h;have:(l++[58]).getLast?=some 58:=by simp
  rw[h]at this;cases this),if_pos (by simp),List.dropLast_concat,hcl.trim,if_pos hl]
theorem afO: ∀k:Fin 10,eD (bV ⟨13,0,0,0,0,[],[],(k.val:Int)+2⟩)=some ⟨13,0,0,0,0,[],[],(k.val:Int)+2⟩:=by decide+kernel
theorem afS(i:Ins)(h:aU i=true):eD (bV i)=some i:=by
 obtain⟨ho,hw,hd,ha,hb⟩:=xD h;obtain⟨op,d,a,b,ag,loc,label,ai⟩:=i;unfold kE at hw;unfold dn at ho;simp only at ho hw hd ha hb;obtain⟨nd,hnd,rfl⟩:=yO hd;obtain⟨na,hna,rfl⟩:=yO ha;obtain⟨nb,hnb,rfl⟩:=yO hb
 by_cases h6:op=6
 ·subst h6;simp at hw
  obtain⟨hz,rfl,rfl,rfl,rfl⟩:=hw;rw[show(nb:Int)=0 by omega];exact afQ hnd hna
 by_cases h7:op=7
 ·subst h7;simp at hw
  obtain⟨hz,rfl,rfl,rfl,rfl⟩:=hw;rw[show(nd:Int)=0 by omega];exact afT hnb hna
 by_cases h8:op=8
 ·subst h8;simp at hw ho
  obtain⟨hz,rfl,rfl,rfl⟩:=hw;rw[show(nb:Int)=0 by omega];exact afR hnd hna ho.1 ho.2
 by_cases h9:op=9
 ·subst h9;simp at hw
  obtain⟨rfl,rfl,rfl,rfl⟩:=hw;exact afU hnd hna hnb
 by_cases h10:op=10
 ·subst h10;simp at hw
  obtain⟨rfl,rfl,rfl,rfl⟩:=hw;exact afL hnd hna hnb
 by_cases h11:op=11
 ·subst h11;simp at hw ho
  obtain⟨hz,rfl,rfl,rfl⟩:=hw;rw[show(nd:Int)=0 by omega];exact afM hna hnb ho
 by_cases h12:op=12
 ·subst h12;simp at hw ho
  obtain⟨hz,vL,hz3,rfl,rfl,rfl⟩:=hw;rw[show(nd:Int)=0 by omega,show(na:Int)=0 by omega,show(nb:Int)=0 by omega];exact afP ho
 by_cases tG:op=13
 ·subst tG;simp at hw ho
  obtain⟨hz,vL,hz3,rfl,rfl,rfl⟩:=hw;rw[show(nd:Int)=0 by omega,show(na:Int)=0 by omega,show(nb:Int)=0 by omega];have:=afO ⟨(ai-2).toNat,by omega⟩;simp only at this
  rwa[show(((ai-2).toNat:Nat):Int)+2=ai by omega]at this
 exfalso;rw[if_neg h8,if_neg (by omega),if_neg tG]at ho;simp at ho;omega
theorem Py{x:Tx}{k:Int}(h:nP x=some k):0<=k/\k<=2:=by
 obtain⟨n,hn,rfl, -⟩:=Ih h;omega
theorem aih{op:Tx}{l:List Tx}{k:Ins}(h:dZ op l=some k):aU k=true:=by
 by_cases h1:op=[108,119]
 ·subst h1
  by_cases hl:l.length=2
  ·obtain⟨x,y,rfl⟩:=yw hl
   rw[Ky]at h;cases hx:bP x with
   |none=>rw[hx]at h;simp at h
   | some d=>cases hy:eH y with
     |none=>rw[hx,hy]at h;simp at h
     |some a=>rw[hx,hy]at h;simp at h;subst h;exact Oa (pH d hx) (Gy hy)
  ·rw[UY hl]at h;cases h
 by_cases h2:op=[115,119]
 ·subst h2
  by_cases hl:l.length=2
  ·obtain⟨x,y,rfl⟩:=yw hl
   rw[Kz]at h;cases hx:bP x with
   |none=>rw[hx]at h;simp at h
   | some d=>cases hy:eH y with
     |none=>rw[hx,hy]at h;simp at h
     |some a=>rw[hx,hy]at h;simp at h;subst h;exact Oc (pH d hx) (Gy hy)
  ·rw[UZ hl]at h;cases h
 by_cases h3:op=[102,101,110,99,101]
 ·subst h3
  by_cases hl:l.length=2
  ·obtain⟨x,y,rfl⟩:=yw hl
   rw[UU]at h;cases hx:nP x with
   |none=>rw[hx]at h;simp at h
   | some d=>cases hy:nP y with
     |none=>rw[hx,hy]at h;simp at h
     | some a=>
       rw[hx,hy]at h;simp at h;subst h;have:=Py hx;have:=Py hy;rw[N9];simp;omega
  ·rw[UW hl]at h;cases h
 by_cases hl:l.length=3
 ·obtain⟨x,y,z,rfl⟩:=RX hl
  rw[yN _ _ _ h1 h2 h3]at h;cases hx:bP x with
  |none=>rw[hx]at h;simp at h
  | some a=>cases hy:bP y with
    |none=>rw[hx,hy]at h;simp at h
    | some b=>
      rw[hx,hy]at h;simp only at h;have la:=pH a hx;have lb:=pH b hy
      split at h
      ·split at h
       ·rename_i hn;cases h;rw[N8 la lb];exact hn
       ·cases h
      ·split at h
       ·cases hn:nr z with
        |none=>rw[hn]at h;simp at h
        | some n=>
          rw[hn]at h;simp at h;subst h;obtain⟨-, b1,b2⟩:=Ey hn;rw[Ob la lb];simp;omega
       ·cases hz:bP z with
        |none=>rw[hz]at h;simp at h
        | some c=>
          rw[hz]at h;simp only at h;have lc:=pH c hz
          split at h
          ·cases h;exact G7 (.inl rfl) la lb lc
          ·split at h
           ·cases h;exact G7 (.inr rfl) la lb lc
           ·cases h
 ·rw[UT h1 h2 h3 hl]at h;cases h
theorem afN{s:Tx}{k:Ins}(h:eD s=some k):aU k=true:=by
 unfold eD at h
 split at h
 ·cases h
 ·simp only at h
  split at h
  ·cases h;decide
  ·split at h
   ·split at h
    ·rename_i hn;cases h;rw[G8];exact hn
    ·cases h
   ·exact aih h
def dS(s:Tx):Prop:= ∃p c,s=p++[c]/\c≠32
theorem dS.app(a:Tx){b:Tx}(h:dS b):dS (a++b):=by
 obtain⟨p,c,rfl,hc⟩:=h;exact⟨a++p,c,by simp,hc⟩
theorem dS.one(a:Tx){c:UInt8}(h:c≠32):dS (a++[c]):=⟨a,c,rfl,h⟩
theorem dS.of{p:UInt8->Bool}{s:Tx}(h0:s≠[])(h: ∀b∈s,p b=true)(hp:p 32=false):dS s:=by
 refine⟨s.dropLast,s.getLast h0,(List.dropLast_concat_getLast h0).symm,fun e=>?_⟩;have:=h _ (List.getLast_mem h0);rw[e,hp]at this;cases this
theorem dS.ok{s:Tx}(h:dS s):s=[]\/s.getLast?≠some 32:=by
 obtain⟨p,c,rfl,hc⟩:=h
 right;simpa using hc
theorem dS.ne{s:Tx}(h:dS s):s≠[]:=by
 obtain⟨p,c,rfl,hc⟩:=h;simp
theorem aeT{s:Tx}(h:az s=true):dS s:=by
 obtain⟨c,r,e, -⟩:=Bn h;exact dS.of (by rw[e];simp) (yB h) (by decide)
theorem RE(n:Int):dS (Lib.itoa n):=dS.of (RH n) (si n) (by decide)
theorem Dz(n:Nat):dS (cR n):=by
 have d: ∀n a,dS (a++[lD n]):=fun n a=>dS.one a (by
  have key: ∀k:Fin 10,(anP (48+k.val))≠32:=by decide
  exact key ⟨n%10,Nat.mod_lt _ (by omega)⟩)
 unfold cR;split
 ·exact d _ []
 ·split
  ·exact d _ [_]
  ·split
   ·exact d _ [_,_]
   ·exact d _ [_,_,_]
theorem aaW(n:Int):dS (gD n):=by
 unfold gD;split
 ·exact(Dz _).app [45]
 ·exact Dz _
theorem UO(n:Int):dS (rT n):=(Dz _).app [_]
theorem ai0{n:Nat}(h:n<15):dS (aO n):=by
 have k: ∀n:Fin 15,(aO n.val).all lp=true:=by decide+kernel
 exact dS.of (Fe ⟨n,h⟩).2 (anq.1 (k ⟨n,h⟩)) (by decide)
theorem abD(n:Int):dS (iN n):=by
 unfold iN;split
 ·exact⟨[],114,rfl,by decide⟩
 ·split
  ·exact⟨[],119,rfl,by decide⟩
  ·exact⟨[114],119,rfl,by decide⟩
theorem af6{i:Ins}(h:aU i=true):dS (bV i):=by
 unfold aU at h;simp only[am6]at h;obtain⟨⟨⟨⟨ho, -⟩,hd⟩,ha⟩,hb⟩:=h
 have hl:i.op=11\/i.op=12->dS i.label:=fun e=>by
  unfold dn at ho;rw[if_neg (by omega),if_pos e]at ho;exact aeT ho
 unfold bV
 by_cases e1:i.op=6
 ·rw[if_pos e1];exact dS.one _ (by decide)
 rw[if_neg e1]
 by_cases e2:i.op=7
 ·rw[if_pos e2];exact dS.one _ (by decide)
 rw[if_neg e2]
 by_cases e3:i.op=8
 ·rw[if_pos e3];exact(aaW _).app _
 rw[if_neg e3]
 by_cases e4:i.op=9
 ·rw[if_pos e4];exact(UO _).app _
 rw[if_neg e4]
 by_cases e5:i.op=10
 ·rw[if_pos e5];exact(UO _).app _
 rw[if_neg e5]
 by_cases e6:i.op=11
 ·rw[if_pos e6];exact(hl (.inl e6)).app _
 rw[if_neg e6]
 by_cases e7:i.op=12
 ·rw[if_pos e7];exact dS.one _ (by decide)
 rw[if_neg e7];split
 ·exact⟨[102,101,110,99,101,46,116,115],111,rfl,by decide⟩
 ·exact(abD _).app _
theorem af9{i:Ins}(h:dy i=true):dS (dJ i):=by
 unfold dy kQ at h;unfold dJ
 by_cases h1:i.op=1
 ·rw[if_pos h1];exact(RE _).app _
 rw[if_neg h1]at h⊢
 by_cases h2:i.op=2
 ·rw[if_pos h2]at h⊢
  simp only[am6]at h;obtain⟨k,hk,e⟩:=qC h.1.2;rw[e,mI];exact(ai0 hk).app _
 rw[if_neg h2]at h⊢
 by_cases h3:i.op=3
 ·rw[if_pos h3];exact dS.one _ (by decide)
 rw[if_neg h3]at h⊢
 by_cases h4:i.op=4
 ·rw[if_pos h4];exact(RE _).app _
 rw[if_neg h4];exact⟨[77,70,69,78,67],69,rfl,by decide⟩
theorem Zp{i:Ins}(h:dy i=true):
 (∃l n,i=⟨1,0,0,0,n,l,[],0⟩/\az l=true)\/(∃l,∃a:Nat,i=⟨2,0,a,0,0,l,[],0⟩/\az l=true/\a<15)\/(∃l,∃d:Nat,i=⟨3,d,0,0,0,l,[],0⟩/\az l=true/\d<15)\/(∃n,∃d:Nat,i=⟨4,d,0,0,n,[],[],0⟩/\d<15)\/i=⟨5,0,0,0,0,[],[],0⟩:=by
 obtain⟨ho,hw⟩:=G6 h;unfold kQ at ho;unfold qL at hw
 by_cases h1:i.op=1
 ·rw[if_pos h1]at ho hw
  simp only[am6]at ho;exact .inl ⟨_,_,hw,ho.1⟩
 rw[if_neg h1]at ho hw
 by_cases h2:i.op=2
 ·rw[if_pos h2]at ho hw
  simp only[am6]at ho;obtain⟨k,hk,e⟩:=qC ho.2;exact .inr (.inl ⟨_,k,by rw[e]at hw;exact hw,ho.1,hk⟩)
 rw[if_neg h2]at ho hw
 by_cases h3:i.op=3
 ·rw[if_pos h3]at ho hw
  simp only[am6]at ho;obtain⟨k,hk,e⟩:=qC ho.2;exact .inr (.inr (.inl ⟨_,k,by rw[e]at hw;exact hw,ho.1,hk⟩))
 rw[if_neg h3]at ho hw
 by_cases h4:i.op=4
 ·rw[if_pos h4]at ho hw
  simp only[am6]at ho;obtain⟨k,hk,e⟩:=qC ho.1;exact .inr (.inr (.inr (.inl ⟨_,k,by rw[e]at hw;exact hw,hk⟩)))
 rw[if_neg h4]at ho hw;simp only[decide_eq_true_eq]at ho;rw[ho]at hw;exact .inr (.inr (.inr (.inr hw)))
theorem U5{a:Nat}(h:a<15): ∀b∈aO a,lp b=true:=by
 have k: ∀n:Fin 15,(aO n.val).all lp=true:=by decide+kernel
 exact anq.1 (k ⟨a,h⟩)
theorem KJ{a:Nat}(h:a<15): ∃c t,aO a=c::t/\c≠91/\c≠36:=by
 cases e:aO a with
 |nil=>exact absurd e (Fe ⟨a,h⟩).2
 | cons c t=>
   have:=U5 h c (by rw[e];simp);refine⟨c,t,rfl,?_,?_⟩
   ·rintro rfl;exact absurd this (by decide)
   ·rintro rfl;exact absurd this (by decide)
def qF(c:UInt8):Bool:=c==91||c==93||c==44
def gj(c:UInt8):Bool:= !aj c&& !qF c
def fB(u:Tx):List Tx:=if u=[]then[]else[u]
def iY:Tx->Tx->List Tx
 |u,[]=>fB u
 |u,c::r=>if aj c then fB u++iY [] r else if qF c then fB u++[c]::iY [] r else iY (u++[c]) r
def aT(s:Tx):List Tx:=iY [] s
theorem sL(u:Tx):iY u []=fB u:=rfl
theorem pM(u:Tx){c:UInt8}(r:Tx)(h:aj c=true):iY u (c::r)=fB u++aT r:=by rw[iY,if_pos h];rfl
theorem ajF{c:UInt8}(h:qF c=true):aj c=false:=by
 have:=kZ (p:=fun c=> !qF c|| !aj c) (by decide+kernel) c;rw[h]at this;simpa using this
theorem qK(u:Tx){c:UInt8}(r:Tx)(h:qF c=true):iY u (c::r)=fB u++[c]::aT r:=by
 rw[iY,if_neg (by rw[ajF h];decide),if_pos h];rfl
theorem sK(u:Tx){c:UInt8}(r:Tx)(h:gj c=true):iY u (c::r)=iY (u++[c]) r:=by
 unfold gj at h;simp only[am6,Bool.not_eq_true']at h;rw[iY,if_neg (by rw[h.1];decide),if_neg (by rw[h.2];decide)]
theorem uC(c:UInt8):aj c=true\/qF c=true\/gj c=true:=by
 unfold gj;cases aj c<;>cases qF c<;>simp
theorem rQ{u:Tx}(h:u≠[]):fB u=[u]:=by unfold fB;rw[if_neg h]
theorem wN: ∀(a u b:Tx) {c:UInt8},qF c=true->iY u (a++c::b)=iY u a++[c]::aT b
 |[],u,b,c,h=>by rw[anJ,qK _ _ h,sL]
 | x::a,u,b,c,h=>by
   rw[anr];rcases uC x with k|k|k
   ·rw[pM _ _ k,pM _ _ k,aT,wN a [] b h,anF];rfl
   ·rw[qK _ _ k,qK _ _ k,aT,wN a [] b h,anF];rfl
   ·rw[sK _ _ k,sK _ _ k,wN a _ b h]
theorem Ce: ∀(a u b:Tx),(∀c∈b,aj c=true)->iY u (a++b)=iY u a
 |[],u,[],_=>rfl
 | [],u,c::b,h=>by
   have:=Ce [] [] b (fun d hd=>h d (by simp[hd]));rw[anJ,pM _ _ (h c (by simp)),sL];rw[anJ,sL]at this;rw[aT,this];simp[fB]
 | x::a,u,b,h=>by
   rw[anr];rcases uC x with k|k|k
   ·rw[pM _ _ k,pM _ _ k,aT,Ce a [] b h];rfl
   ·rw[qK _ _ k,qK _ _ k,aT,Ce a [] b h];rfl
   ·rw[sK _ _ k,sK _ _ k,Ce a _ b h]
theorem WJ: ∀l:Tx,aT (l.dropWhile aj)=aT l
 |[]=>rfl
 | c::r=>by
   rw[amO];split
   ·rename_i h;rw[WJ r];show _=iY [] (c::r);rw[pM _ _ h];rfl
   ·rfl
theorem qB(l:Tx): ∃b,l=dz l++b/\ ∀c∈b,aj c=true:=by
 refine⟨(l.reverse.takeWhile aj).reverse,?_,fun c hc=>?_⟩
 ·unfold dz
  rw[<-List.reverse_append,anL,List.reverse_reverse]
 ·rw[List.mem_reverse]at hc
  exact anq.1 (List.all_takeWhile) c hc
theorem Ch(l:Tx):aT (ah l)=aT l:=by
 obtain⟨b,h1,h2⟩:=qB l;rw[pL,WJ]
 conv=>rhs;rw[h1]
 exact(Ce _ _ _ h2).symm
theorem Cc: ∀(s u:Tx),∀w∈iY u s,∀c∈w,c∈u\/c∈s
 | [],u,w,hw,c,hc=>by
   rw[sL]at hw;unfold fB at hw
   split at hw
   ·cases hw
   ·rcases anw.1 hw with rfl;exact .inl hc
 | x::s,u,w,hw,c,hc=>by
   have fl:w∈fB u->c∈u:=fun h=>by
    unfold fB at h;split at h
    ·cases h
    ·rcases anw.1 h with rfl;exact hc
   rcases uC x with k|k|k
   ·rw[pM _ _ k]at hw
    rcases anu.1 hw with h|h
    ·exact .inl (fl h)
    ·rcases Cc s [] w h c hc with h|h
     ·cases h
     ·exact .inr (by simp[h])
   ·rw[qK _ _ k]at hw
    rcases anu.1 hw with h|h
    ·exact .inl (fl h)
    ·rcases amY.1 h with rfl|h
     ·exact .inr (by simp at hc;simp[hc])
     ·rcases Cc s [] w h c hc with h|h
      ·cases h
      ·exact .inr (by simp[h])
   ·rw[sK _ _ k]at hw
    rcases Cc s _ w hw c hc with h|h
    ·rcases anu.1 h with h|h
     ·exact .inl h
     ·exact .inr (by simp at h;simp[h])
    ·exact .inr (by simp[h])
theorem WH: ∀(r u:Tx),u≠[]->iY u r=(u++r.takeWhile gj)::aT (r.dropWhile gj)
 |[],u,h=>by rw[sL,rQ h];simp[aT,sL,fB]
 | c::r,u,h=>by
   have nb:gj c=false->iY u (c::r)=u::aT (c::r):=fun hc=>by
    rcases uC c with k|k|k
    ·rw[pM _ _ k,rQ h,show aT (c::r)=aT r from pM [] r k];rfl
    ·rw[qK _ _ k,rQ h,show aT (c::r)=[c]::aT r from qK [] r k];rfl
    ·rw[hc]at k;cases k
   cases hc:gj c with
   |false=>rw[nb hc,anC,amO,hc];simp
   |true=>rw[sK _ _ hc,WH r _ (by simp),anC,amO,hc];simp
theorem Cf{c:UInt8}(r:Tx)(h:gj c=true):aT (c::r)=(c::r.takeWhile gj)::aT (r.dropWhile gj):=by
 rw[aT,sK _ _ h,WH _ _ (by simp)];rfl
theorem uD{c:UInt8}(r:Tx)(h:qF c=true):aT (c::r)=[c]::aT r:=by rw[aT,qK _ _ h];rfl
theorem WI{c:UInt8}(r:Tx)(h:aj c=true):aT (c::r)=aT r:=by rw[aT,pM _ _ h];rfl
theorem zb{s:Tx}(h0:s≠[])(h: ∀c∈s,gj c=true):aT s=[s]:=by
 cases s with
 |nil=>exact absurd rfl h0
 | cons c r=>
   have h1:r.takeWhile gj=r:=(y8 fun d hd=>h d (by simp[hd])).1;have h2:r.dropWhile gj=[]:=(y8 fun d hd=>h d (by simp[hd])).2;rw[Cf r (h c (by simp)),h1,h2];rfl
theorem LU: ∀{s:Tx},aT s=[]-> ∀c∈s,aj c=true
 |[],_,c,hc=>by cases hc
 | x::s,h,c,hc=>by
   rcases uC x with k|k|k
   ·rw[WI _ k]at h
    rcases amY.1 hc with rfl|hc
    ·exact k
    ·exact LU h c hc
   ·rw[uD _ k]at h;cases h
   ·rw[Cf _ k]at h;cases h
def Tr(s:Tx):Prop:=(∀c,s.head?=some c->aj c=false)/\ ∀c,s.getLast?=some c->aj c=false
theorem Tr.trim(l:Tx):Tr (ah l):=⟨Ll,Wf⟩
theorem Tr.none{s:Tx}(h:Tr s)(hw:aT s=[]):s=[]:=by
 cases s with
 |nil=>rfl
 | cons c r=>
   have:=LU hw c (by simp);rw[h.1 c rfl]at this;cases this
theorem LR{s w:Tx}{L:List Tx}(h: ∀c,s.head?=some c->aj c=false)(hw:aT s=w::L): ∃r,s=w++r/\aT r=L/\w≠[]:=by
 cases s with
 |nil=>simp[aT,sL,fB]at hw
 | cons c r=>
   rcases uC c with k|k|k
   ·rw[h c rfl]at k;cases k
   ·rw[uD _ k,anO]at hw
    exact⟨r,by rw[<-hw.1];rfl,hw.2,by rw[<-hw.1];simp⟩
   ·rw[Cf _ k,anO]at hw
    exact⟨r.dropWhile gj,by rw[<-hw.1,anr,anL],hw.2,by rw[<-hw.1];simp⟩
theorem yu{a r:Tx}(h:r≠[]):(a++r).getLast?=r.getLast?:=El h
theorem Nt{a r:Tx}(h: ∀c,(a++r).getLast?=some c->aj c=false)(hr: ∀c∈r,aj c=true):r=[]:=by
 cases hn:r with
 |nil=>rfl
 | cons x t=>
   have hne:r≠[]:=by rw[hn];simp
   obtain⟨y,hy⟩: ∃y,r.getLast?=some y:=⟨r.getLast hne,amJ hne⟩;have h1:=h y (by rw[yu hne];exact hy);rw[hr y (List.mem_of_getLast? hy)]at h1;cases h1
theorem FJ{s a:Tx}(h:Tr s)(hw:aT s=[a]):s=a:=by
 obtain⟨r,rfl,hr, -⟩:=LR h.1 hw;rw[Nt h.2 (LU hr),List.append_nil]
theorem FI: ∀(m u:Tx) {z:UInt8},gj z=true-> ∃L w,iY u (m++[z])=L++[w++[z]]
 |[],u,z,h=>⟨[],u,by rw[anJ,sK _ _ h,sL,rQ (by simp)];rfl⟩
 | x::m,u,z,h=>by
   rw[anr];rcases uC x with k|k|k
   ·obtain⟨L,w,e⟩:=FI m [] h
    exact⟨fB u++L,w,by rw[pM _ _ k,aT,e,anF]⟩
   ·obtain⟨L,w,e⟩:=FI m [] h
    exact⟨fB u++[x]::L,w,by rw[qK _ _ k,aT,e];simp⟩
   ·obtain⟨L,w,e⟩:=FI m (u++[x]) h
    exact⟨L,w,by rw[sK _ _ k,e]⟩
def cU(s:Tx):Option Nat:=(List.range 15).find? fun n=>aO n==s
theorem Fc{s:Tx}{n:Nat}(h:cU s=some n):n<15/\s=aO n:=by
 unfold cU at h;have h1:=List.find?_some h;have h2:=List.mem_of_find?_eq_some h;exact⟨List.mem_range.1 h2,(by simpa using h1:aO n=s).symm⟩
theorem Fb{n:Nat}(h:n<15):cU (aO n)=some n:=by
 have k: ∀n:Fin 15,cU (aO n.val)=some n.val:=by decide+kernel
 exact k ⟨n,h⟩
def fQ(s:Tx):Option Tx:=if 2<=s.length/\s.head?=some 91/\s.getLast?=some 93/\az (ah (s.drop 1).dropLast)=true then some (ah (s.drop 1).dropLast)else none
def jd(s:Tx):Option Int:=if s.head?=some 36 then cD (s.drop 1)else none
def Eu:Ins:=⟨5,0,0,0,0,[],[],0⟩
def iD(x0 fr:Tx):Option Ins:=
 match fQ x0 with
 |some x=>if fr.head?=some 36 then(cD (fr.drop 1)).map fun n=>⟨1,0,0,0,n,x,[],0⟩else(cU fr).map fun a=>⟨2,0,a,0,0,x,[],0⟩
 | none=>match cU x0 with
   |none=>none
   |some d=>if fr.head?=some 36 then(cD (fr.drop 1)).map fun n=>⟨4,d,0,0,n,[],[],0⟩else(fQ fr).map fun x=>⟨3,d,0,0,0,x,[],0⟩
def eL(s:Tx):Option Ins:=
 if 262144<s.length then none
 else if ah s=[77,70,69,78,67,69]then some Eu
 else if ¬((ah s).take 3=[77,79,86]/\((ah s).drop 3).head?.any aj=true)then none
 else if(44:UInt8)∈(ah s).drop 3 then iD (ah (((ah s).drop 3).takeWhile (· != 44))) (ah ((((ah s).drop 3).dropWhile (· != 44)).drop 1))
 else none
def jE(a b c:Tx):Option Tx:=if a=[91]/\c=[93]/\az b=true then some b else none
def fO:List Tx->Option Ins
 | [a,b,c,d,e]=>
   if d=[44]then(match jd e with
    |some n=>(jE a b c).map fun x=>⟨1,0,0,0,n,x,[],0⟩
    | none=>match jE a b c,cU e with
      |some x,some r=>some ⟨2,0,r,0,0,x,[],0⟩
      |_,_=>none)
   else if b=[44]then(match cU a,jE c d e with
    |some r,some x=>some ⟨3,r,0,0,0,x,[],0⟩
    |_,_=>none)
   else none
 |[a,b,c]=>if b=[44]then(match cU a,jd c with
  |some r,some n=>some ⟨4,r,0,0,n,[],[],0⟩
  |_,_=>none)else none
 |_=>none
def GA(s:Tx):Bool:=((s.dropWhile aj).drop 3).head?.any aj
def Ki(s:Tx):Option Ins:=
 if 262144<s.length then none
 else if aT s=[[77,70,69,78,67,69]]then some Eu
 else if(aT s).length<4\/(aT s).head?≠some [77,79,86]\/GA s=false then none
 else fO ((aT s).drop 1)
theorem Jm{p:UInt8->Bool}(hp: ∀n:Fin 256,(!p (anP n.val)||gj (anP n.val))=true){s:Tx}(h: ∀b∈s,p b=true): ∀b∈s,gj b=true:=fun b hb=>by
 have:=hp ⟨b.toNat,b.toNat_lt⟩;simp only[UInt8.ofNat_toNat,h b hb]at this;simpa using this
theorem SX{s:Tx}(h:az s=true): ∀b∈s,gj b=true:=Jm (p:=bU) (by decide+kernel) (yB h)
theorem Tk(n:Int): ∀b∈Lib.itoa n,gj b=true:=Jm (p:=qs) (by decide+kernel) (si n)
theorem U4{n:Nat}(h:n<15): ∀b∈aO n,gj b=true:=Jm (p:=lp) (by decide+kernel) (U5 h)
theorem U6{s:Tx}(h:Tr s):cU s=match aT s with
 |[a]=>cU a
 |_=>none:=by
 cases hr:cU s with
 | some n=>
   obtain⟨hn,rfl⟩:=Fc hr;rw[zb (by have:=(Fe ⟨n,hn⟩).2;exact this) (U4 hn)];exact hr.symm
 | none=>
   split
   ·rename_i a e;rw[<-FJ h e];exact hr.symm
   ·rfl
theorem abK{s:Tx}(h:Tr s):jd s=match aT s with
 |[a]=>jd a
 |_=>none:=by
 cases hr:jd s with
 | some n=>
   unfold jd at hr
   split at hr
   ·rename_i iP
    cases s with
    |nil=>cases iP
    | cons c r=>
      simp only[anM,anK]at iP;subst iP;obtain⟨e, -⟩:=mC.1 hr;simp only[List.drop_one,List.tail_cons]at e hr;subst e
      rw[zb (by simp) (fun b hb=>by
       rcases amY.1 hb with rfl|hb
       ·decide
       ·exact Tk n b hb)]
      show _=jd (36::Lib.itoa n);unfold jd;rw[if_pos (by rfl)];exact hr.symm
   ·cases hr
 | none=>
   split
   ·rename_i a e;rw[<-FJ h e];exact hr.symm
   ·rfl
theorem SN{s:Tx}(h:az s=true):s≠[]:=fun e=>by subst e;cases h
theorem SJ{s:Tx}(h:2<=s.length)(h1:s.head?=some 91)(h2:s.getLast?=some 93):s=91::((s.drop 1).dropLast++[93]):=by
 cases s with
 |nil=>cases h1
 | cons c r=>
   simp only[anM,anK]at h1;subst h1;have hne:r≠[]:=by intro e;subst e;simp at h
   obtain⟨X,hX⟩:=tV.1 h2
   have:r.getLast?=some 93:=by
    rw[<-h2];cases r with
    |nil=>exact absurd rfl hne
    |cons a b=>rw[List.getLast?_cons_cons]
   obtain⟨Y,rfl⟩:=tV.1 this;simp
theorem Uo{s:Tx}(h:Tr s):fQ s=match aT s with
 |[a,b,c]=>jE a b c
 |_=>none:=by
 cases hr:fQ s with
 | some n=>
   unfold fQ at hr
   split at hr
   ·rename_i hh
    obtain⟨h1,h2,h3,h4⟩:=hh;cases hr;have e:=SJ h1 h2 h3;generalize (s.drop 1).dropLast=m at*;subst e
    have e2:aT (91::(m++[93]))=[[91],ah m,[93]]:=by
     rw[uD _ (by decide),aT,wN _ _ _ (by decide)];show[91]::(aT m++[93]::aT [])=_;rw[<-Ch m,zb (SN h4) (SX h4)];rfl
    rw[e2];show _=jE _ _ _;unfold jE;rw[if_pos ⟨rfl,rfl,h4⟩]
   ·cases hr
 | none=>
   split
   ·rename_i a b c e
    unfold jE;split
    ·rename_i hh
     obtain⟨rfl,rfl,hb⟩:=hh;obtain⟨r,hs,hr2, -⟩:=LR h.1 e;have hne:r≠[]:=by intro e;subst e;cases hr2
     obtain⟨z,hz⟩: ∃z,r.getLast?=some z:=⟨r.getLast hne,amJ hne⟩;obtain⟨m,rfl⟩:=tV.1 hz;have hzb:aj z=false:=h.2 z (by rw[hs,yu hne];exact hz)
     have acP:z=93/\aT m=[b]:=by
      rcases uC z with k|k|k
      ·rw[hzb]at k;cases k
      ·rw[aT,wN _ _ _ k]at hr2
       have e3:aT m++[[z]]=[b]++[[93]]:=hr2;have:=anN e3 rfl;exact⟨by simpa using this.2,this.1⟩
      ·obtain⟨L,w,e3⟩:=FI m [] k
       rw[aT,e3]at hr2;have:=anN (show L++[w++[z]]=[b]++[[93]]from hr2) rfl;have e4:w++[z]=[]++[93]:=by simpa using this.2
       have e5:=(anN e4 rfl).2;simp only[anO,and_true]at e5;subst e5;cases k
     obtain⟨rfl,hm⟩:=acP;have ht:ah m=b:=FJ (Tr.trim m) (by rw[Ch];exact hm)
     have hp:fQ s=some b:=by
      unfold fQ;have e6:(s.drop 1).dropLast=m:=by rw[hs];simp
      rw[e6,ht,if_pos ⟨by rw[hs];simp,by rw[hs];rfl,by rw[hs,yu (by simp)];simp,hb⟩]
     rw[hp]at hr;cases hr
    ·rfl
   ·rfl
theorem abJ{s:Tx}(h:s.head?=some 36):cU s=none/\fQ s=none:=by
 constructor
 ·cases hr:cU s with
  |none=>rfl
  | some n=>
    obtain⟨hn,rfl⟩:=Fc hr;obtain⟨c,t,e,-, h2⟩:=KJ hn;rw[e]at h;simp at h;exact absurd h h2
 ·unfold fQ;rw[if_neg];rintro⟨-, h2, -⟩;rw[h]at h2;cases h2
theorem aeI(x0 fr:Tx):iD x0 fr=match fQ x0 with
 | some x=>(match jd fr with
   |some n=>some ⟨1,0,0,0,n,x,[],0⟩
   |none=>(cU fr).map fun a=>⟨2,0,a,0,0,x,[],0⟩)
 | none=>match cU x0 with
   |none=>none
   | some d=>match jd fr with
     |some n=>some ⟨4,d,0,0,n,[],[],0⟩
     |none=>(fQ fr).map fun x=>⟨3,d,0,0,0,x,[],0⟩:=by
 unfold iD jd
 by_cases h:fr.head?=some 36
 ·obtain⟨h1,h2⟩:=abJ h
  simp only[h,if_true,h1,h2];cases fQ x0<;>cases cU x0<;>cases cD (fr.drop 1)<;>rfl
 ·simp only[h,if_false]
theorem Ta:cU [44]=none:=by decide+kernel
theorem aeJ{X Y:Tx}(hX:Tr X)(hY:Tr Y)(mo:(44:UInt8)∉X):iD X Y=fO (aT X++[44]::aT Y):=by
 rw[aeI,Uo hX,U6 hX,abK hY,U6 hY,Uo hY]
 have hn:([44]:Tx)∉aT X:=fun h=>mo (by
  rcases Cc X [] _ h 44 (by simp)with h|h
  ·cases h
  ·exact h)
 generalize aT X=P at*;generalize aT Y=Q at*;clear hX hY mo;have p3: ∀a c:Tx,jE a [44] c=none:=fun a c=>by unfold jE;rw[if_neg (by rintro⟨-, -, h⟩;cases h)]
 have p3a: ∀b c:Tx,jE [44] b c=none:=fun b c=>by unfold jE;rw[if_neg (by rintro⟨h, -⟩;cases h)]
 have p3c: ∀a b:Tx,jE a b [44]=none:=fun a b=>by unfold jE;rw[if_neg (by rintro⟨-, h, -⟩;cases h)]
 match P,Q,hn with
 |[],[],_=>rfl
 |[],[b],_=>rfl
 |[],[b,c],_=>simp only[anJ,fO,Ta];split<;>rfl
 |[],[b,c,d],_=>rfl
 | [],[b,c,d,e],_=>
   simp only[anJ,fO,Ta,p3a];split
   ·cases jd e<;>rfl
   ·split<;>rfl
 |[],_::_::_::_::_::_,_=>rfl
 |[a],[],_=>simp only[anr,anJ,fO];cases cU a<;>rfl
 | [a],[c],_=>
   simp only[anr,anJ,fO,if_true];cases cU a<;>cases jd c<;>rfl
 |[a],[c,d],_=>simp only[anr,anJ,fO];cases cU a<;>rfl
 | [a],[c,d,e],_=>
   simp only[anr,anJ,fO,if_true,p3]
   by_cases hd:d=[44]
   ·subst hd
    simp only[if_true,p3];cases cU a<;>cases jd e<;>rfl
   ·simp only[hd,if_false]
    cases cU a<;>cases jE c d e<;>rfl
 |[a],_::_::_::_::_,_=>simp only[anr,anJ,fO];cases cU a<;>rfl
 | [a,b],[],hn=>
   have h2:b≠[44]:=fun e=>hn (by simp[e])
   simp only[anr,anJ,fO,h2,if_false]
 |[a,b],[c],_=>rfl
 | [a,b],[c,d],hn=>
   have h2:b≠[44]:=fun e=>hn (by simp[e])
   simp only[anr,anJ,fO,h2,if_false,p3c];split
   ·cases jd d<;>rfl
   ·rfl
 |[a,b],_::_::_::_,_=>rfl
 |[a,b,c],[],_=>simp only[anr,anJ,fO];cases jE a b c<;>rfl
 | [a,b,c],[e],_=>
   simp only[anr,anJ,fO,if_true];cases jE a b c<;>cases jd e<;>cases cU e<;>rfl
 |[a,b,c],_::_::_,_=>simp only[anr,anJ,fO];cases jE a b c<;>rfl
 | [a,b,c,d],[],hn=>
   have h2:b≠[44]:=fun e=>hn (by simp[e])
   have h4:d≠[44]:=fun e=>hn (by simp[e])
   simp only[anr,anJ,fO,h2,h4,if_false]
 |[a,b,c,d],_::_,_=>rfl
 |_::_::_::_::_::t,Q,_=>cases t<;>cases Q<;>rfl
theorem aeG{L:List Tx}(h:([44]:Tx)∉L):fO L=none:=by
 match L,h with
 |[],_=>rfl
 |[_],_=>rfl
 |[_,_],_=>rfl
 |[a,b,c],h=>simp only[fO];rw[if_neg (fun e=>h (by simp[e]))]
 |[_,_,_,_],_=>rfl
 |[a,b,c,d,e],h=>simp only[fO];rw[if_neg (fun e=>h (by simp[e])),if_neg (fun e=>h (by simp[e]))]
 |_::_::_::_::_::_::_,_=>rfl
theorem aeH{L:List Tx}(h:L.length<3):fO L=none:=by
 match L,h with
 |[],_=>rfl
 |[_],_=>rfl
 |[_,_],_=>rfl
 |_::_::_::_,h=>simp at h;omega
theorem akT(s:Tx): ∃b,s.dropWhile aj=ah s++b/\ ∀c∈b,aj c=true:=by
 obtain⟨b,h1,h2⟩:=qB (s.dropWhile aj);refine⟨b,?_,h2⟩
 have e:ah s=dz (s.dropWhile aj):=by
  rw[<-akN s,pL];apply xL;intro c hc;cases hr:dz (s.dropWhile aj)with
  |nil=>rw[hr]at hc;cases hc
  | cons x t=>
    rw[hr]at hc;simp only[anM,anK]at hc;subst hc;exact js (l:=s) (by rw[h1,hr];rfl)
 rw[e];exact h1
theorem afI(s:Tx):Ki s=eL s:=by
 unfold Ki eL
 by_cases hl:262144<s.length
 ·rw[if_pos hl,if_pos hl]
 rw[if_neg hl,if_neg hl];have hT:=Tr.trim s;have hw:=Ch s;obtain⟨bl,dM,dH⟩:=akT s;have hap:GA s=(((ah s)++bl).drop 3).head?.any aj:=by unfold GA;rw[dM]
 rw[hap,<-hw];clear hap hw dM;generalize ah s=t at*
 by_cases hm:t=[77,70,69,78,67,69]
 ·subst hm;rw[if_pos (by decide+kernel),if_pos rfl]
 rw[if_neg (fun e=>hm (FJ hT e)),if_neg hm]
 by_cases hc:t.take 3=[77,79,86]/\(t.drop 3).head?.any aj=true
 ·rw[if_neg (show ¬ ¬_ from fun h=>h hc)]
  obtain⟨h1,h2⟩:=hc;obtain⟨u,hu⟩: ∃u,t.drop 3=u:=⟨_,rfl⟩;have ht:t=[77,79,86]++u:=by rw[<-h1,<-hu,List.take_append_drop]
  rw[hu]at h2⊢
  obtain⟨b,r,rfl,eJ⟩: ∃b r,u=b::r/\aj b=true:=by
   cases u with
   |nil=>cases h2
   |cons b r=>exact⟨b,r,rfl,h2⟩
  have hwt:aT t=[77,79,86]::aT (b::r):=by
   rw[ht];have hnb:gj b=false:=by unfold gj;rw[eJ];rfl
   show aT (77::(79::86::b::r))=_;rw[Cf _ (by decide)];simp[hnb,show gj 79=true by decide,show gj 86=true by decide]
  have hap:((t++bl).drop 3).head?.any aj=true:=by rw[ht];simpa using eJ
  have e1:(if(aT t).length<4\/(aT t).head?≠some [77,79,86]\/((t++bl).drop 3).head?.any aj=false then none else fO ((aT t).drop 1))=fO (aT (b::r)):=by
   rw[hwt];split
   ·rename_i h
    rcases h with h|h|h
    ·exact(aeH (by simp at h;omega)).symm
    ·exact absurd rfl h
    ·rw[hap]at h;cases h
   ·rfl
  rw[e1]
  by_cases mo:(44:UInt8)∈b::r
  ·rw[if_pos mo]
   obtain⟨A,B,e,hA⟩:=DI 44 _ mo;rw[e];obtain⟨k1,k2⟩:=wI 44 B A hA;rw[k1,k2];show _=iD (ah A) (ah B);rw[aeJ (Tr.trim A) (Tr.trim B) (fun h=>hA (Fy h)),Ch,Ch,aT,wN _ _ _ (by decide)];rfl
  ·rw[if_neg mo]
   exact aeG (fun h=>mo (by
    rcases Cc _ [] _ h 44 (by simp)with h|h
    ·cases h
    ·exact h))
 ·rw[if_pos hc]
  split
  ·rfl
  ·rename_i h
   exfalso;simp only[not_or]at h;obtain⟨n1,n2,n3⟩:=h;have n2:(aT t).head?=some [77,79,86]:=Classical.not_not.1 n2;have n3:((t++bl).drop 3).head?.any aj=true:=by simpa using n3
   obtain⟨L,hL⟩: ∃L,aT t=[77,79,86]::L:=by
    generalize aT t=W at*;cases W with
    |nil=>cases n2
    |cons a b=>simp only[anM,anK]at n2;exact⟨b,by rw[n2]⟩
   obtain⟨r,hr,hr2, -⟩:=LR hT.1 hL;cases r with
   | nil=>
     rw[<-hr2]at hL;rw[hL]at n1;simp[aT,sL,fB]at n1
   | cons x r=>
     refine hc ⟨by rw[hr];rfl,?_⟩;rw[hr]at n3⊢;simpa using n3
theorem Un{s n:Tx}(h:fQ s=some n):az n=true:=by
 unfold fQ at h;split at h
 ·rename_i hh;cases h;exact hh.2.2.2
 ·cases h
theorem SK{a b:Tx}{i:Ins}(h:iD a b=some i):dy i=true:=by
 have Kt: ∀{s:Tx} {n:Nat},cU s=some n->lV (n:Int)=true:=fun h=>aiV (Fc h).1
 have n32: ∀{s:Tx} {n:Int},cD s=some n->aY n=true:=fun h=>(mC.1 h).2
 unfold iD at h
 split at h
 ·rename_i x hx
  have hx:=Un hx
  split at h
  ·cases hn:cD (b.drop 1)with
   |none=>rw[hn]at h;cases h
   |some n=>rw[hn]at h;cases h;simp[dy,kQ,qL,hx,n32 hn]
  ·cases hn:cU b with
   |none=>rw[hn]at h;cases h
   |some n=>rw[hn]at h;cases h;simp[dy,kQ,qL,hx,Kt hn]
 ·split at h
  ·cases h
  ·rename_i d hd
   split at h
   ·cases hn:cD (b.drop 1)with
    |none=>rw[hn]at h;cases h
    |some n=>rw[hn]at h;cases h;simp[dy,kQ,qL,Kt hd,n32 hn]
   ·cases hn:fQ b with
    |none=>rw[hn]at h;cases h
    |some n=>rw[hn]at h;cases h;simp[dy,kQ,qL,Kt hd,Un hn]
theorem afJ{s:Tx}{i:Ins}(h:eL s=some i):dy i=true:=by
 unfold eL at h
 split at h
 ·cases h
 split at h
 ·cases h;decide
 split at h
 ·cases h
 split at h
 ·exact SK h
 ·cases h
end Go.Proofs.YtkbbgjloifmmbaaGreatDoor
