/- What ReadCutsP leans on, part 2. -/
import Derived.Test.YtkbbgjloifmmbaaGreatDoorRc1
import Derived.Test.YtkbbgjloifmmbaaGreatDoorRb43
set_option linter.unusedVariables false
set_option maxRecDepth 100000
set_option maxHeartbeats 3200000
namespace Go.Proofs.YtkbbgjloifmmbaaGreatDoor
open _root_.Go.Proofs.Tryz
open _root_.List renaming length_take->aoc
theorem awu{af:Int}{s:Tx}{e:Int}{k:Nat}(h:cM af s= .error (e,k)):e≠0:=by
 unfold cM at h
 split at h
 ·cases h;decide
 ·split at h
  ·cases h;decide
  ·split at h
   ·cases h;decide
   ·rename_i q x _
    by_cases h0:bF af q x=0
    ·simp only[if_pos h0]at h;cases h
    ·simp only[if_neg h0]at h;cases h;exact h0
theorem avO{N:Nat}{r:Tx}{e:Int}{k:Nat}(h:gE N r= .error (e,k)):e≠0:=by
 unfold gE at h
 dsimp only at h
 split at h
 ·cases h;decide
 ·split at h
  ·cases h;decide
  ·cases h
theorem avD{N:Nat}{r:Tx}{e:Int}{k:Nat}(h:eP N r= .error (e,k)):e≠0:=by
 unfold eP at h
 dsimp only at h
 split at h
 ·cases h
 ·split at h
  ·cases h;decide
  ·cases h
theorem atk{af:Int}{N:Nat}: ∀{L:List Tx} {v:Tx} {acc:List aF} {e:Int} {k:Nat},gM af N L v acc= .error (e,k)->e≠0
 |[],v,acc,e,k,h=>by cases h
 | p::L,v,acc,e,k,h=>by
   rw[gM]at h
   split at h
   ·exact atk h
   ·split at h
    ·cases h;decide
    ·exact atk h
theorem avW{af:Int}{N:Nat}{r:Tx}{e:Int}{k:Nat}(h:fD af N r= .error (e,k)):e≠0:=by
 unfold fD at h
 dsimp only at h
 split at h
 ·cases h;decide
 ·split at h
  ·rename_i x hx;obtain⟨x1,x2⟩:=x;cases h;exact atk hx
  ·cases h
theorem asO{af:Int}{N:Nat}: ∀{L:List Tx} {v:Tx} {acc:List (List Ins)} {e:Int} {k:Nat},dO af N L v acc= .error (e,k)->e≠0
 |[],v,acc,e,k,h=>by cases h
 |c::L,v,[],e,k,h=>by cases h
 | c::L,v,x::acc,e,k,h=>by
   rw[dO]at h
   split at h
   ·split at h
    ·rename_i y hy;obtain⟨y1,y2⟩:=y;cases h;exact asO hy
    ·cases h
   ·split at h
    ·cases h;decide
    ·split at h
     ·rename_i y hy;obtain⟨y1,y2⟩:=y;cases h;exact asO hy
     ·cases h
theorem auW{af:Int}{N:Nat}: ∀{n:Nat} {r:Tx} {acc:List (List Ins)} {e:Int} {k:Nat},jj af N n r acc= .error (e,k)->e≠0
 |0,r,acc,e,k,h=>by cases h
 | n+1,r,acc,e,k,h=>by
   rw[jj]at h
   try dsimp only at h
   split at h
   ·cases h
   ·split at h
    ·cases h;decide
    ·split at h
     ·rename_i y hy;obtain⟨y1,y2⟩:=y;cases h;exact asO hy
     ·exact auW h
theorem axA{af:Int}{N:Nat}{r:Tx}{e:Int}{k:Nat}(h:gu af N r= .error (e,k)):e≠0:=by
 unfold gu at h
 dsimp only at h
 split at h
 ·cases h;decide
 ·exact auW h
theorem avy{af:Int}{N:Nat}{r:Tx}{e:Int}{k:Nat}(h:kK af N r= .error (e,k)):e≠0:=by
 unfold kK at h
 dsimp only at h
 split at h
 ·cases h
 ·rename_i e2 k2 hk
  cases h;exact awu hk
theorem awv{s:Tx}{e:Int}{k:Nat}(h:gL s= .error (e,k)):e≠0:=by
 unfold gL at h
 split at h
 ·cases h;decide
 split at h
 ·rename_i x hx
  cases h;unfold jO at hx;cases h1:gE s.length s with
  |error x=>rw[h1]at hx;obtain⟨x1,x2⟩:=x;cases hx;exact avO h1
  | ok p=>
    obtain⟨a,n,r1⟩:=p;rw[h1]at hx
    change (eP s.length r1 >>= _)=_ at hx
    cases h2:eP s.length r1 with
    |error x=>rw[h2]at hx;obtain⟨x1,x2⟩:=x;cases hx;exact avD h2
    | ok p=>
      obtain⟨c,r2⟩:=p;rw[h2]at hx
      change (fD a s.length r2 >>= _)=_ at hx
      cases h3:fD a s.length r2 with
      |error x=>rw[h3]at hx;obtain⟨x1,x2⟩:=x;cases hx;exact avW h3
      | ok p=>
        obtain⟨i,r3⟩:=p;rw[h3]at hx
        change (gu a s.length r3 >>= _)=_ at hx
        cases h4:gu a s.length r3 with
        |error x=>rw[h4]at hx;obtain⟨x1,x2⟩:=x;cases hx;exact axA h4
        | ok p=>
          obtain⟨l,r4⟩:=p;rw[h4]at hx
          change (kK a s.length r4 >>= _)=_ at hx
          cases h5:kK a s.length r4 with
          |error x=>rw[h5]at hx;obtain⟨x1,x2⟩:=x;cases hx;exact avy h5
          |ok p=>obtain⟨q,x⟩:=p;rw[h5]at hx;cases hx
 ·split at h
  ·cases h
  ·rename_i h0;cases h;exact h0
theorem asu(t:ak):qb t [10]=qb t []++[10]:=by
 unfold qb;simp only[List.append_assoc,List.cons_append,List.append_nil]
theorem avK(t:ak):1<=(qb t []).length:=by
 unfold qb;simp only[List.length_append,List.length_cons];omega
theorem avC{t:ak}(h:(iF t).2=0){k:Nat}(hk:k<(iF t).1.length):
 (k+1=(iF t).1.length/\ ∃u,gL ((iF t).1.take k)= .ok u)\/(k+1≠(iF t).1.length/\ ∃e p,gL ((iF t).1.take k)= .error (e,p)/\e≠0/\p<=k):=by
 obtain⟨a,b,c⟩:=agc h;rw[c]at hk⊢;have hl:(qb t [10]).length=(qb t []).length+1:=by rw[asu];simp
 have hle:(qb t []).length<=262144:=by omega
 by_cases vF:k=(qb t []).length
 ·refine .inl ⟨by omega,lA t,?_⟩
  rw[asu,List.take_left' vF.symm];exact aif a [] (fun c hc=>by cases hc) hle
 ·refine .inr ⟨by omega,?_⟩
  have e:(qb t [10]).take k=(qb t []).take k:=by rw[asu,List.take_append_of_le_length (by omega)]
  rw[e];have e2:qb t []=(qb t []).take k++(qb t []).drop k:=(List.take_append_drop _ _).symm
  have hr:(qb t []).drop k≠[]:=fun h0=>by
   have:=congrArg List.length h0;rw[List.length_drop]at this;simp at this;omega
  cases hp:gL ((qb t []).take k)with
  |ok u=>exact absurd hp (awx a hle e2 hr)
  | error x=>
    obtain⟨n,p⟩:=x;refine⟨n,p,rfl,awv hp,?_⟩;have:=aww hp;rw[aoc]at this;omega
theorem awG{t:ak}(h:(iF t).2=0):2<=(iF t).1.length/\(iF t).1.getLast? =some 10:=by
 obtain⟨a,b,c⟩:=agc h;rw[c,asu];have:=avK t;exact⟨by simp;omega,by simp⟩
end Go.Proofs.YtkbbgjloifmmbaaGreatDoor
namespace Go.Proofs.YtkbbgjloifmmbaaGreatDoor
open _root_.Go.Proofs.Tryz
open _root_.List renaming length_take->aoc
open Go.RowKit Go.Sort
theorem av3(t:ak)(cut:Int)(w:World)(h:dw w t)(_z:Gx t)(g:Gl w):Calls prog 8 #[vT t,.int .i64 cut] w (ax w (.bool true)):=by
 have A1:=al w (bC t);have a0:=eG.new w t;have HA:=hid A1;have H1:=hid (h.keep A1);have HG:=hid (g.below A1);have AW:=hid YD;have PA:=hid (fun(w':World) (h:dw w' t) (g:Gl w')=>abh t w' h g);have RA:=hid (fun(w':World) (h:dw w' t) (g:Gl w')=>ahC t w' h g);have at3:=af2 t;have PR:=hid (fun(k:Nat) (w':World) (g:Gl w')=>EV ((iF t).1.take k) (by rw[aoc];omega) w' g);have CU:=hid (fun h k hk=>avC (t:=t) h (k:=k) hk);have azq:=hid (awG (t:=t));obtain⟨pa,hpa⟩: ∃p,iF t=p:=⟨_,rfl⟩;rw[hpa]at PA RA PR CU azq at3;obtain⟨s,e1⟩:=pa
 dsimp only at PA RA PR CU azq at3
 clear h A1 g hpa;go_in
 go_upto_region 1 with(fail)
 generalize w.alloc (bC t)=W1 at*;obtain⟨p0,p1,p2,p3,p4,p5,p6,p7,p8,p9,jB,jC⟩:=a0.cells;go_wp2_with fail;refine(PA.out _ H1.out HG.out).mono ?_;rintro e w2 ⟨rfl,E⟩;clear p0 p1 p2 p3 p4 p5 p6 p7 p8 p9 jB jC
 by_cases hz:e1=0
 ·subst hz
  obtain⟨bN,yb⟩:=azq.out rfl;obtain⟨n,hn⟩: ∃n,(tx s).size=n:=⟨_,rfl⟩;have hns:n=s.length:=by rw[<-hn,aP]
  have zn:decide ((n:Int)<2)=false:=by simp;omega
  have il:=iV s (n-1) 10 (by rw[hns,<-List.getLast?_eq_getElem?];exact yb);rw[show((n-1:Nat):Int)=(n:Int)-1 by omega]at il;have z10:(((10:UInt8).toNat:Int) != 10)=false:=rfl;have hnb:n<=262144:=by omega
  obtain⟨k,hkn,HK⟩: ∃k:Nat,k<n/\wrap64 ((IntKind.u64.wrap cut).tmod (n:Int))=(k:Int):=by
   have h0:0<=IntKind.u64.wrap cut:=by unfold IntKind.wrap;simp[IntKind.bits,IntKind.signed];omega
   have h1:=Int.tmod_nonneg (n:Int) h0;have h2:=Int.tmod_lt_of_pos (IntKind.u64.wrap cut) (show(0:Int)<(n:Int) by omega);generalize (IntKind.u64.wrap cut).tmod (n:Int)=x at*;exact⟨x.toNat,by omega,by unfold wrap64;omega⟩
  have HK:=hid HK;have sl: ∀w,(Instr.sliceAt 9 (.string (tx s)) none (some (.int .i64 k)) none).run prog w= .ok (.string (tx (s.take k))) w:=BC s k (by omega);have PRk:=hid (PR.out k);have CUk:=CU.out rfl k (by omega);clear RA PA yb;have HNS:=hid hns;clear hns
  go_upto_region 8 with(fail)
  rw[HK.out];have hns:=HNS.out;rcases CUk with⟨vF,y,hy⟩|⟨vF,er,p,hy,hnz,hpk⟩
  ·rw[hy]at PRk
   have zk:((k:Int)==(n:Int)-1)=true:=by simp;omega
   clear hy vF CU PR hns;go_wp2_with fail;refine(PRk.out _ (HG.out.below E)).mono ?_;rintro e w3 ⟨E3,x,hx,rfl,hO⟩;have E:=E.trans (E3.mono E.size);have E4:=E.trans ((al w3 (bC x)).mono E.size);have AW:=hid (AW.out _ (HG.out.below E4));clear E3 hx hO E;go_wp2_with fail;refine AW.out.mono ?_;rintro e w6 ⟨rfl,E6⟩;have E:=E4.trans (E6.mono E4.size);go_wp2_with fail
   (try go_simp)
   go_ret;exact⟨rfl,HA.out.trans (E.mono HA.out.size)⟩
  ·rw[hy]at PRk
   have zk:((k:Int)==(n:Int)-1)=false:=by simp;omega
   have ze:((er:Int)==0)=false:=by simpa using hnz
   have zp:decide ((k:Int)<(p:Int))=false:=by simp;omega
   clear hy vF CU PR hnz hns;go_wp2_with fail;refine(PRk.out _ (HG.out.below E)).mono ?_;rintro e w3 ⟨E3,rfl⟩;have E:=E.trans (E3.mono E.size);have E4:=E.trans ((al w3 pO).mono E.size);have AW:=hid (AW.out _ (HG.out.below E4));clear E3 E;go_wp2_with fail;refine AW.out.mono ?_;rintro e w6 ⟨rfl,E6⟩;have E:=E4.trans (E6.mono E4.size);go_wp2_with fail
   (try go_simp)
   go_ret;exact⟨rfl,HA.out.trans (E.mono HA.out.size)⟩
 ·have z1:(e1 != 0)=true:=by simpa using hz
  have z2:(e1==e1)=true:=by simp
  clear PR CU azq hz;obtain⟨p0,p1,p2,p3,p4,p5,p6,p7,p8,p9,jB,jC⟩:=(a0.below E).cells;go_wp2_with fail;refine(RA.out _ (H1.out.keep E) (HG.out.below E)).mono ?_;rintro e w3 ⟨rfl,E3⟩;have E:=E.trans (E3.mono E.size);clear p0 p1 p2 p3 p4 p5 p6 p7 p8 p9 jB jC;have AW:=hid (AW.out _ (HG.out.below E));go_wp2_with fail;refine AW.out.mono ?_;rintro e w6 ⟨rfl,E6⟩;have E:=E.trans (E6.mono E.size);go_wp2_with fail
  (try go_simp)
  go_ret;exact⟨rfl,HA.out.trans (E.mono HA.out.size)⟩
end Go.Proofs.YtkbbgjloifmmbaaGreatDoor
