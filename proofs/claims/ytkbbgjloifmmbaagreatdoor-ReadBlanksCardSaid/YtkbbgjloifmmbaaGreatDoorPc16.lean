/- What ReadBlanksP leans on, part 16. -/
import Derived.Test.YtkbbgjloifmmbaaGreatDoorPc11
import Derived.Test.YtkbbgjloifmmbaaGreatDoorPc12
import Derived.Test.YtkbbgjloifmmbaaGreatDoorPc13
set_option linter.unusedVariables false
set_option maxRecDepth 100000
set_option maxHeartbeats 6400000
open _root_.Go.Proofs.Tryz
open _root_.List renaming getElem?_eq_getElem->am9,getElem?_eq_some_iff->anx,mem_of_getElem?->anw,take_succ_eq_append_getElem->anH,getElem?_drop->ao5,getElem_take->apf,length->anO,length_take->ao2,length_set->apg,length_nil->apa
open _root_.Nat renaming lt_succ_iff_lt_or_eq->anv,not_lt_zero->anC,le_refl->anb
open _root_.Bool renaming and_false->apc,false_and->apd,and_true->ape,eq_iff_iff->an8
open _root_.And renaming intro->anY
open _root_.Option renaming map_some->ant
open _root_.UInt8 renaming toNat_inj->aph
namespace Go.Proofs.YtkbbgjloifmmbaaGreatDoor
open Go.RowKit Go.Sort
attribute [local go_sem high] xR wH
variable{x:aL}{af:Int}{L l:List Th}{B c i k n q:Nat}{a:Option Addr}{w:World}
theorem JM{α:Type}[DecidableEq α]{l:List α}{k:Nat}(hk:k+1<l.length):cZ (l.take (k+2))=if l[k+1]=l[k]then cZ (l.take (k+1))else cZ (l.take (k+1))++[l[k+1]]:=by
 have h1:l.take (k+2)=l.take k++[l[k]]++[l[k+1]]:=by
  rw[anH (show k+1<l.length from hk),anH (show k<l.length by omega)]
 have h2:l.take (k+1)=l.take k++[l[k]]:=anH (by omega);rw[h1,h2,JL]
def tT(l:List Th)(k:Nat):Prop:= ∀i (h:i+1<l.length),i+1<k->l[i+1]≠l[i]
theorem tT.all(h:tT l l.length):cZ l=l:=Ry fun i h1=>h i h1 h1
theorem tT.take(h:tT l (k+1))(hk:k+1<l.length)(e:l[k+1]=l[k]):cZ (l.take (k+2))=l.take (k+1):=by
 rw[JM hk,if_pos e];refine Ry fun i h1=>?_
 simp only[ao2]at h1;rw[apf,apf];exact h i (by omega) (by omega)
structure oO(l L:List Th)(i q:Nat):Prop where
 len:L.length=l.length
 lt:i<q
 le:q<=l.length
 front:L.take i=cZ (l.take q)
 rest: ∀j,q-1<=j->L[j]? =l[j]?
theorem oO.start(h:tT l (k+1))(hk:k+1<l.length)(e:l[k+1]=l[k]):oO l l (k+1) (k+2):=
 ⟨rfl,by omega,by omega,(h.take hk e).symm,fun _ _=>rfl⟩
theorem oO.skip(h:oO l L i (q+1))(hq:q+1<l.length)(e:l[q+1]=l[q]):oO l L i (q+2):=
 ⟨h.len,by have:=h.lt;omega,by omega,by rw[h.front,JM hq,if_pos e],fun j hj=>h.rest j (by omega)⟩
theorem oO.keep(h:oO l L i (q+1))(hq:q+1<l.length)(e:l[q+1]≠l[q]):oO l (L.set i l[q+1]) (i+1) (q+2):=by
 have hl:=h.len;have hlt:=h.lt;refine⟨by rw[apg];exact hl,by omega,by omega,?_,fun j hj=>?_⟩
 ·rw[JM hq,if_neg e,<-h.front]
  have hi:i<L.length:=by omega
  rw[anH (by rw[apg];exact hi),List.getElem_set_self,List.take_set_of_le (anb i)]
 rw[List.getElem?_set_ne (by omega)];exact h.rest j (by omega)
theorem oO.done(h:oO l L i l.length):L.take i=cZ l/\(cZ l).length=i:=by
 have h1:=h.front;rw[List.take_length]at h1;have h2:=congrArg anO h1;rw[ao2]at h2;have:=h.len;have:=h.lt;have:=h.le;exact⟨h1,by omega⟩
theorem aku(w:World)(b o:Nat)(e:Th):w.setCells b o (lW e)=((w.setCell ⟨b,o,none⟩ (.int .i64 e.thread)).setCell ⟨b,o+1,none⟩ (.int .i64 e.az)).setCell ⟨b,o+2,none⟩ (.string (tx e.loc)):=rfl
abbrev dQ(w:World)(B:Nat)(a:Option Addr)(n c:Nat)(l:List Th):Prop:=Own w B 25 3 a n c (flat lW l)
theorem dQ.dG(h:dQ w B a n c l)(hn:0<n)(k:Nat):
 w.frozen? ⟨bk a,fo a+k*3,none⟩=false/\w.frozen? ⟨bk a,fo a+k*3+1,none⟩=false/\w.frozen? ⟨bk a,fo a+k*3+2,none⟩=false:=by
 have f:=fun j=>Own.frozen h (Own.some h hn) j
 exact⟨f (k*3),by have:=f (k*3+1);rwa[<-Nat.add_assoc]at this,by have:=f (k*3+2);rwa[<-Nat.add_assoc]at this⟩
theorem dQ.idx(h:dQ w B a n c l)(hl:l.length<=1000000)(k:Nat)(hk:k<n):
 ∀w',(Instr.indexAt 112 (.slice a n c) (.int .i64 k)).run prog w'= .ok (.pointer (some ⟨bk a,fo a+k*3,none⟩)) w':=by
 obtain⟨h1,rfl⟩:=Own.els h ep (by omega) (by omega);exact h1.idx jR ep k hk c
theorem Oj(w:World)(k:Nat)(a:Option Addr):Step w (w.drewN k) a a:=⟨⟨rfl,rfl,rfl,anb _,fun _ _ _=>rfl⟩,.inl rfl⟩
theorem abm(l:List Th)(w:World)(B:Nat)(a:Option Addr)(c:Nat)(h:dQ w B a l.length c l)(hB:B<=w.heap.size)(hl:l.length<=1000000):
 Calls prog 284 #[.slice a l.length c] w fun e w'=>e= .returned (.slice a (cZ l).length c)/\dQ w' B a (cZ l).length c (cZ l)/\Step w w' a a:=by
 obtain⟨n,hn⟩:=aj l.length;have HN:=hid hn;have hcap:=h.cap.1;rw[hn]at h hl hcap⊢;have H:=hid h
 by_cases h2:n<2
 ·have E:=hid (show cZ l=l by
   have:=HN.out
   match l,this with
   |[],_=>rfl
   |[x],_=>rfl
   |x::y::r,h=>simp at h;omega)
  clear h hn;go_in;go_wp2;go_ret;rw[E.out,HN.out];exact⟨rfl,H.out,Step.refl _ _⟩
 clear h hn
 go_in;go_wp2
 go_loopw [3] (fun i wr=> ∃k:Nat,k+1<=n/\i= .int .i64 ((k:Int)+1)/\QW w wr/\Hid (tT l (k+1))) (fun i _=>n-(intOf i).toNat)
 ·exact⟨0,by omega,by go_num,QW.refl _,fun i h1 h2=>by omega⟩
 obtain⟨k,hk,rfl,⟨nd,rfl⟩,HA⟩:=hrel;have o1:dQ (w.drewN nd) B a n c l:=Own.below H.out (below_drewN w nd)
 by_cases hlt:k+1<n
 ·have hlt':k+1<l.length:=by rw[HN.out];exact hlt
  obtain⟨x,hx⟩:=aj (l[k]'(by omega));obtain⟨y,hy⟩:=aj (l[k+1]);have UP:l[k]? =some x:=by rw[<-hx];exact am9 _
  have bH:l[k+1]? =some y:=by rw[<-hy];exact am9 _
  have els:=(Own.els H.out ep (by omega) (aI HN.out)).1;obtain⟨p0,p1,p2⟩:=els.th UP;obtain⟨q0,q1,q2⟩:=els.th bH;have i1:=dQ.idx o1 (by rw[HN.out];exact hl) k (by omega);have i2:=dQ.idx o1 (by rw[HN.out];exact hl) (k+1) hlt;rw[show((k+1:Nat):Int)=(k:Int)+1 by omega]at i2;have hlen:(1:Int)<=(k:Int)+1:=by omega
  clear els UP bH
  by_cases e:y=x
  ·have hd:decide (y=x)=true:=decide_eq_true e
   have PS:=hid (oO.start HA.out hlt' (by rw[hy,hx];exact e));clear hx hy HA e;go_wp2_with fail
   go_quiet (fail)
   go_wp2_with fail;have oA:dQ (w.drewN (nd+nq)) B a n c l:=Own.below H.out (below_drewN w (nd+nq));have sA:Step w (w.drewN (nd+nq)) a a:=⟨⟨rfl,rfl,rfl,anb _,fun _ _ _=>rfl⟩,.inl rfl⟩;clear o1;generalize w.drewN (nd+nq)=W at*
   have hsome:a=some ⟨bk a,fo a,none⟩:=by
    refine oA.row.head ?_;intro e0;have:=congrArg anO e0;rw[iY ep]at this;simp only[apa]at this;have:=HN.out;omega
   have Uf:Option.map (fun x:Addr=>x.add ((k+1)*3)) a=some ⟨bk a,fo a+(k+1)*3,none⟩:=by
    conv=>lhs;rw[hsome]
    rw[ant,Addr.add_lit]
   simp only[Uf];clear Uf hsome p0 p1 p2 q0 q1 q2 i1 i2 hd nd nq;obtain⟨i0,hi0⟩:=aj (k+1);have Ur:(k:Int)+1=(i0:Int):=by omega
   rw[show k+2=i0+1 by omega]at PS;simp only[hi0,Ur]at*;have h1i:1<=i0:=by omega
   clear hi0 Ur hlt' hlen hk
   go_loopw [3,5] (fun s t wr=> ∃(i j:Nat) (L:List Th),s= .int .i64 i/\t= .int .i64 ((j:Int)+1)/\i0+j+1<=n/\Hid (oO l L i (i0+j+1))/\dQ wr B a n c L/\Step w wr a a) (fun _ t _=>n-(intOf t).toNat)
   ·exact⟨i0,0,l,rfl,by go_num,by omega,PS,oA,sA⟩
   clear oA sA PS;obtain⟨i,j,L,rfl,rfl,hj,PS,oR,sR⟩:=hrel;have xY:=PS.out.len;have hPi:=PS.out.lt;have hLn:L.length=n:=by rw[xY,HN.out]
   clear xY
   by_cases hq:i0+j+1<n
   ·have BT:i0+j+1<l.length:=by rw[HN.out];exact hq
    obtain⟨u,hu⟩:=aj (l[i0+j]'(by omega));obtain⟨v,hv⟩:=aj (l[i0+j+1]);have Km:(L.drop i0)[j]? =some u:=by rw[ao5,PS.out.rest _ (by omega),<-hu];exact am9 _
    have Kn:(L.drop i0)[j+1]? =some v:=by rw[ao5,show i0+(j+1)=i0+j+1 by omega,PS.out.rest _ (by omega),<-hv];exact am9 _
    have els:=(Own.els oR ep (by omega) (by omega)).1
    have Lr:a=some ⟨bk a,fo a,none⟩:=by
     refine oR.row.head ?_;intro e0;have:=congrArg anO e0;rw[iY ep]at this;simp only[apa]at this;omega
    have xQ:bK lW wr (some ⟨bk a,fo a+i0*3,none⟩) (L.drop i0):=by
     have h9:=els.drop ep (by omega) i0 (c=i0) (fun hc=>by omega)
     have h8:j8 a (c=i0) (i0*3)=some ⟨bk a,fo a+i0*3,none⟩:=by
      unfold j8;rw[if_neg (by omega)];conv=>lhs;rw[Lr];rw[ant,Addr.add_lit]
     rwa[h8]at h9
    obtain⟨p0,p1,p2⟩:=xQ.th Km;obtain⟨q0,q1,q2⟩:=xQ.th Kn;have hdl:(L.drop i0).length=n-i0:=by rw[List.length_drop,hLn]
    have i1:=xQ.idx jR ep j (by omega) (c-i0);have i2:=xQ.idx jR ep (j+1) (by omega) (c-i0);rw[hdl]at i1 i2;rw[show((j+1:Nat):Int)=(j:Int)+1 by omega]at i2;simp only[gv,gX]at p0 p1 p2 q0 q1 q2 i1 i2;have hM:(j:Int)+1<((n-i0:Nat):Int):=by omega
    have hj1:(1:Int)<=(j:Int)+1:=by omega
    by_cases e:v=u
    ·have hd:decide (v=u)=true:=decide_eq_true e
     have jJ:(!decide (v=u))=false:=by rw[hd];rfl
     have xy:=hid (PS.out.skip BT (by rw[hv,hu];exact e));have jV:=hid (anY oR sR);clear hu hv e Km Kn els xQ Lr PS;go_wp2_with fail
     go_quiet (fail)
     obtain⟨oR,sR⟩:=jV.out;have dB:=below_drewN wr nq;have oR:=Own.below oR dB;have sR:=sR.trans (Oj wr nq a);go_wp2
     go_roundw;exact⟨i,j+1,L,rfl,by go_num,by omega,xy,oR,sR⟩;simp[intOf];omega
    have hd:decide (v=u)=false:=decide_eq_false e
    have jJ:(!decide (v=u))=true:=by rw[hd];rfl
    have xy:=PS.out.keep BT (by rw[hv,hu];exact e);rw[hv]at xy;have xy:=hid xy;have jV:=hid (anY oR sR);have eT:=hid hLn;clear hu hv e Km Kn els xQ Lr PS hLn;go_wp2_with fail
    go_quiet (fail)
    obtain⟨oR,sR⟩:=jV.out;have dB:=below_drewN wr nq;have oR:=Own.below oR dB;have sR:=sR.trans (Oj wr nq a);have q0:(wr.drewN nq).cell? ⟨bk a,fo a+i0*3+(j+1)*3,none⟩=some (.int .i64 v.thread):=by rw[cell?_drewN];exact q0
    have q1:(wr.drewN nq).cell? ⟨bk a,fo a+i0*3+(j+1)*3+1,none⟩=some (.int .i64 v.az):=by rw[cell?_drewN];exact q1
    have q2:(wr.drewN nq).cell? ⟨bk a,fo a+i0*3+(j+1)*3+2,none⟩=some (.string (tx v.loc)):=by rw[cell?_drewN];exact q2
    clear p0 p1 p2;generalize wr.drewN nq=wq at*;have ii:=dQ.idx oR (by rw[eT.out];exact hl) i (by omega);have els:=(Own.els oR ep (by omega) (aI eT.out)).1;obtain⟨z,hz⟩: ∃z,L[i]? =some z:=⟨_,am9 (aI eT.out)⟩;obtain⟨r0,r1,r2⟩:=els.th hz;obtain⟨f0,f1,f2⟩:=dQ.dG oR (by omega) i;obtain⟨o2,s2⟩:=Own.G9 ep oR (by omega) i (aI eT.out) v;have s3:=sR.trans s2;rw[aku]at o2 s3;have vm:=hid (anY o2 s3);clear hz els oR sR o2 s2 s3 jV;go_wp2_with fail;obtain⟨o2,s3⟩:=vm.out
    go_roundw;exact⟨i+1,j+1,L.set i v,by go_num,by go_num,by omega,xy,o2,s3⟩;simp[intOf];omega
   have rK:i0+j+1=n:=by omega
   have lJ:i0+j+1=l.length:=by rw[HN.out];exact rK
   have IW:=PS.out;rw[lJ]at IW;obtain⟨hd1,jJ⟩:=IW.done;have hi:i<n:=by omega
   have hM:((n-i0:Nat):Int)<=(j:Int)+1:=by omega
   have sc:=GU jR a n c i (by omega) .i64;have st:=Y9 jR a n c i (by omega) .i64;obtain⟨w9,hrun,o9,s9⟩:=akl jR zeroValue25 (JA ⟨0,0,[]⟩) oR i hi;have MP:=Own.ac8 ep o9 hLn.symm (by omega);rw[hd1]at MP;have Zb:=sR.trans s9;have HD:=hid jJ;have vm:=hid (anY MP Zb);clear hd1 jJ IW PS o9 s9 MP Zb oR sR lJ rK hLn;go_wp2;go_ret;rw[HD.out];exact⟨rfl,vm.out.1,vm.out.2⟩
  have hd:decide (y=x)=false:=decide_eq_false e
  have HA2:=hid (show tT l (k+2)from fun i h1 h2=>by
   by_cases hik:i=k
   ·subst hik;rw[hy,hx];exact e
   exact HA.out i h1 (by omega))
  clear hx hy HA e o1;go_wp2_with fail
  go_quiet (fail)
  go_wp2
  go_roundw;exact⟨k+1,by omega,by go_num,⟨nd+nq,rfl⟩,HA2⟩;simp[intOf];omega
 have hkn:k+1=n:=by omega
 have E:=hid (show cZ l=l from tT.all (by rw[HN.out,<-hkn];exact HA.out));clear HA hkn;go_wp2;go_ret;rw[E.out,HN.out];exact⟨rfl,o1,Oj w nd a⟩
theorem Ob(lo:Nat)(c:UInt8):mo lo c=(decide (lo<=c.toNat)&&(decide (c.toNat<=126)&&decide (c.toNat≠34))):=rfl
theorem SU(lo:Nat)(h0:1<=lo)(h1:lo<=34)(l:Tx)(hl:l.length<=9223372036854775807)(w:World):Calls prog 67 #[.string (tx l),.int .u8 lo] w fun e w'=>e= .returned (.bool (pL lo l))/\w=w':=by
 obtain⟨n,hn⟩:=aj ((tx l).size);have mI:l.length=n:=by rw[<-hn,aM]
 have HN:=hid mI;rw[mI]at hl;clear mI;go_in;go_wp2_with fail
 go_loop [5] (fun i=> ∃k:Nat,k<=n/\i= .int .i64 k/\Hid (∀(i:Nat) (x:UInt8),i<k->l[i]? =some x->mo lo x=true)) (fun i=>n-(intOf i).toNat)
 ·exact⟨0,by omega,rfl,fun i x hi=>absurd hi (anC i)⟩
 obtain⟨k,hk,rfl,HM⟩:=hrel
 by_cases hlt:k<n
 ·obtain⟨x,hx⟩: ∃x,l[k]? =some x:=⟨_,am9 (by rw[HN.out];exact hlt)⟩
  have ix:=bB l k x hx;have hlt':x.toNat<256:=x.toNat_lt;obtain⟨m,hm⟩:=aj x.toNat;have HC:=hid (show mo lo x=(decide (lo<=m)&&(decide (m<=126)&&decide (m≠34))) by rw[Ob,hm]);rw[hm]at ix hlt';have HF:=hid (fun h=>Oa (lo:=lo) (l:=l) (k:=k) (c:=x) hx h)
  have eo:mo lo x=true->Hid (∀(i:Nat) (y:UInt8),i<k+1->l[i]? =some y->mo lo y=true):=fun hx' i y hi hy=>by
   rcases anv.1 hi with h|h
   ·exact HM.out i y h hy
   subst h;rw[hx]at hy;cases hy;exact hx'
  have eo:=hid eo;clear hm hx HM;have hp:m<lo\/(lo<=m/\m=34)\/(lo<=m/\m<=126/\m≠34)\/126<m:=by omega
  rcases hp with h|⟨h,h'⟩|⟨h,h',h''⟩|h
  all_goals
   (try(have z34:((m:Int)==34)=false:=ah))
   (try subst h')
   go_wp2_with fail
   first
   |(go_round
     case rel=>exact⟨k+1,by omega,by go_num,eo.out (by rw[HC.out];simp<;>omega)⟩
     case measure=>simp[intOf];omega)
   |(go_ret
     exact⟨aQ ((fun h=>h.symm) (HF.out (by rw[HC.out];simp<;>omega))),rfl⟩)
 have HS:=hid (N9 (lo:=lo) (l:=l) (fun i x hi=>HM.out i x (by
  have h1:=(anx.1 hi).1;have:=HN.out
  omega) hi))
 go_wp2;go_ret;exact⟨aQ HS.out.symm,rfl⟩
theorem aib(l:Tx)(hl:l.length<=9223372036854775807)(w:World):Calls prog 165 #[.string (tx l)] w fun e w'=>e= .returned (.bool (l8 l))/\w=w':=by
 obtain⟨n,hn⟩:=aj ((tx l).size);have mI:l.length=n:=by rw[<-hn,aM]
 have HN:=hid mI;rw[mI]at hl;clear mI
 by_cases hb:n<1\/1024<n
 ·have HF:=hid (show l8 l=false by unfold l8;rw[HN.out];rcases hb with h|h<;>simp<;>omega)
  rcases hb with h|h
  all_goals
   go_in;go_wp2;go_ret;exact⟨aQ HF.out.symm,rfl⟩
 have dH:1<=n:=by omega
 have de:n<=1024:=by omega
 have HT:=hid (show l8 l=pL 33 l by unfold l8;rw[HN.out,decide_eq_true dH,decide_eq_true de];rfl);clear hb;go_in;go_wp2_with fail
 go_loop [3] (fun i=> ∃k:Nat,k<=n/\i= .int .i64 k/\Hid (∀(i:Nat) (x:UInt8),i<k->l[i]? =some x->mo 33 x=true)) (fun i=>n-(intOf i).toNat)
 ·exact⟨0,by omega,rfl,fun i x hi=>absurd hi (anC i)⟩
 obtain⟨k,hk,rfl,HM⟩:=hrel
 by_cases hlt:k<n
 ·obtain⟨x,hx⟩: ∃x,l[k]? =some x:=⟨_,am9 (by rw[HN.out];exact hlt)⟩
  have ix:=bB l k x hx;have hlt':x.toNat<256:=x.toNat_lt;obtain⟨m,hm⟩:=aj x.toNat;have HC:=hid (show mo 33 x=(decide (33<=m)&&(decide (m<=126)&&decide (m≠34))) by rw[Ob,hm]);rw[hm]at ix hlt';have HF:=hid (fun h=>Oa (lo:=33) (l:=l) (k:=k) (c:=x) hx h)
  have eo:mo 33 x=true->Hid (∀(i:Nat) (y:UInt8),i<k+1->l[i]? =some y->mo 33 y=true):=fun hx' i y hi hy=>by
   rcases anv.1 hi with h|h
   ·exact HM.out i y h hy
   subst h;rw[hx]at hy;cases hy;exact hx'
  have eo:=hid eo;clear hm hx HM;have hp:m<33\/(33<=m/\m=34)\/(33<=m/\m<=126/\m≠34)\/126<m:=by omega
  rcases hp with h|⟨h,h'⟩|⟨h,h',h''⟩|h
  all_goals
   (try(have z34:((m:Int)==34)=false:=ah))
   (try subst h')
   go_wp2_with fail
   first
   |(go_round
     case rel=>exact⟨k+1,by omega,by go_num,eo.out (by rw[HC.out];simp<;>omega)⟩
     case measure=>simp[intOf];omega)
   |(go_ret
     exact⟨aQ ((fun h=>(HT.out.trans h).symm) (HF.out (by rw[HC.out];simp<;>omega))),rfl⟩)
 have HS:=hid (N9 (lo:=33) (l:=l) (fun i x hi=>HM.out i x (by
  have h1:=(anx.1 hi).1;have:=HN.out
  omega) hi))
 go_wp2;go_ret;exact⟨aQ (HT.out.trans HS.out).symm,rfl⟩
theorem alF(l:Tx)(hl:l.length<=9223372036854775807)(w:World):Calls prog 68 #[.string (tx l),.string ⟨#[32]⟩] w (aJ w (.string (tx (Lib.trimB l 32)))):=by
 refine(Any.strings_Trim_laid Tryz.VC aN (tx l) ⟨#[32]⟩ w (by rw[aM];exact hl) (by decide) (ascii_of_all (by decide))).mono fun e w' hh=>⟨?_,hh.2⟩
 rw[hh.1,jk,show(⟨#[32]⟩:ByteArray).data.toList=[32]from rfl,Lib.trimS_one];rfl
theorem aim(l:Tx)(hl:l.length<=9223372036854775807)(w:World):Calls prog 166 #[.string (tx l)] w fun e w'=>e= .returned (.bool (me l))/\w=w':=by
 obtain⟨n,hn⟩:=aj ((tx l).size);have mI:l.length=n:=by rw[<-hn,aM]
 have HN:=hid mI;rw[mI]at hl;clear mI
 by_cases hb:262144<n
 ·have HF:=hid (show me l=false by unfold me;rw[HN.out,decide_eq_false (by omega)];rfl)
  go_in;go_wp2;go_ret;exact⟨aQ HF.out.symm,rfl⟩
 have HT:=hid (show me l=(pL 32 l&&rA l) by unfold me;rw[HN.out,decide_eq_true (by omega)];rfl);go_in;go_wp2_with fail
 go_loop [3] (fun i=> ∃k:Nat,k<=n/\i= .int .i64 k/\Hid (∀(i:Nat) (x:UInt8),i<k->l[i]? =some x->mo 32 x=true)) (fun i=>n-(intOf i).toNat)
 ·exact⟨0,by omega,rfl,fun i x hi=>absurd hi (anC i)⟩
 obtain⟨k,hk,rfl,HM⟩:=hrel
 by_cases hlt:k<n
 ·obtain⟨x,hx⟩: ∃x,l[k]? =some x:=⟨_,am9 (by rw[HN.out];exact hlt)⟩
  have ix:=bB l k x hx;have hlt':x.toNat<256:=x.toNat_lt;obtain⟨m,hm⟩:=aj x.toNat;have HC:=hid (show mo 32 x=(decide (32<=m)&&(decide (m<=126)&&decide (m≠34))) by rw[Ob,hm]);rw[hm]at ix hlt';have HF:=hid (fun h=>Oa (lo:=32) (l:=l) (k:=k) (c:=x) hx h)
  have eo:mo 32 x=true->Hid (∀(i:Nat) (y:UInt8),i<k+1->l[i]? =some y->mo 32 y=true):=fun hx' i y hi hy=>by
   rcases anv.1 hi with h|h
   ·exact HM.out i y h hy
   subst h;rw[hx]at hy;cases hy;exact hx'
  have eo:=hid eo;clear hm hx HM;have hp:m<32\/(32<=m/\m=34)\/(32<=m/\m<=126/\m≠34)\/126<m:=by omega
  rcases hp with h|⟨h,h'⟩|⟨h,h',h''⟩|h
  all_goals
   (try(have z34:((m:Int)==34)=false:=ah))
   (try subst h')
   go_wp2_with fail
   first
   |(go_round
     case rel=>exact⟨k+1,by omega,by go_num,eo.out (by rw[HC.out];simp<;>omega)⟩
     case measure=>simp[intOf];omega)
   |(go_ret
     exact⟨aQ ((fun h=>(HT.out.trans (by rw[h,apd])).symm) (HF.out (by rw[HC.out];simp<;>omega))),rfl⟩)
 have HS:=hid (N9 (lo:=32) (l:=l) (fun i x hi=>HM.out i x (by
  have h1:=(anx.1 hi).1;have:=HN.out
  omega) hi))
 by_cases hz:n=0
 ·have HF:=hid (show rA l=true by have:=List.eq_nil_of_length_eq_zero (HN.out.trans hz);rw[this];rfl)
  have HT:=hid (HT.out.trans (show(pL 32 l&&rA l)=true by rw[HS.out,HF.out,Bool.and_self]));subst hz;clear HM HS HF;go_wp2;go_ret;exact⟨aQ HT.out.symm,rfl⟩
 obtain⟨m,hm⟩: ∃m,n=m+1:=⟨n-1,by omega⟩
 obtain⟨x,hx⟩: ∃x,l[0]? =some x:=⟨_,am9 (by rw[HN.out];omega)⟩;obtain⟨y,hy⟩: ∃y,l[m]? =some y:=⟨_,am9 (by rw[HN.out];omega)⟩;have ix:=kJ l x hx;have iy:=bB l m y hy;rw[show(m:Int)=(n:Int)-1 by omega]at iy;have qo:l.head?=some x:=by rw[List.head?_eq_getElem?];exact hx
 have kC:l.getLast?=some y:=by rw[List.getLast?_eq_getElem?,HN.out,hm];exact hy
 have hne:l.isEmpty=false:=by cases l with
  |nil=>have:=HN.out;simp at this;omega
  |cons _ _=>rfl
 obtain⟨p,hp⟩:=aj x.toNat;obtain⟨q,hq⟩:=aj y.toNat
 have UO:(some x != some (32:UInt8))=decide (p≠32):=by
  rw[an8];simp[<-hp,<-aph]
 have UQ:(some y != some (32:UInt8))=decide (q≠32):=by
  rw[an8];simp[<-hq,<-aph]
 have HT:=hid (show me l=(decide (p≠32)&&decide (q≠32)) by rw[HT.out,HS.out];unfold rA;rw[qo,kC,UO,UQ,hne];rfl);rw[hp]at ix;rw[hq]at iy;clear hx hy qo kC hne hp hq UO UQ HM HS hm;have h1n:(1:Int)<=n:=by omega
 have z0:((n:Int)==0)=false:=ah;clear hz
 by_cases hp:p=32
 ·subst hp
  go_wp2;go_ret;exact⟨aQ (by rw[HT.out];first|rfl|simp[h1n,z0]|(simp;omega)),rfl⟩
 have zp:((p:Int) != 32)=true:=ah
 by_cases hq:q=32
 ·subst hq
  go_wp2;go_ret;exact⟨aQ (by rw[HT.out];first|rfl|(simp<;>omega)),rfl⟩
 have zq:((q:Int) != 32)=true:=ah
 go_wp2;go_ret;exact⟨aQ (by rw[HT.out];first|rfl|(simp[hp,hq]<;>omega)),rfl⟩
theorem aio(af:Int)(ha:af=1\/af=2)(i:ay)(h1:i.loc.length<=9223372036854775807)(h2:i.label.length<=9223372036854775807)(w:World):Calls prog 241 #[.int .i64 af,vI i] w (aJ w (.int .i64 (if nI af i=true then 0 else 91))):=by
 have A:=al w (kj i);obtain⟨c0,c1,c2,c3,c4,c5,c6,c7⟩:=(gH.new w i).cells;rcases ha with rfl|rfl
 focus
  have CK:=hid (fun w=>aiL i h1 w);rw[show(if nI 1 i=true then(0:Int)else 91)=dP i from rfl];generalize dP i=e at*
 rotate_left
 focus
  have CK:=hid (fun w=>yU i h2 w);rw[show(if nI 2 i=true then(0:Int)else 91)=gA i from rfl];generalize gA i=e at*
 all_goals
  go_in;go_wp2_with fail;refine(CK.out _).mono ?_;rintro ee w1 ⟨rfl,E⟩;have B:=A.trans (E.mono A.size);go_wp2;go_ret;exact⟨rfl,B⟩
theorem Yg(t:aG)(ha:t.af=1\/t.af=2)(w:World)(h:iT w t):Calls prog 167 #[vT t] w (aJ w (.int .i64 (dF t))):=by
 have A:=al w (cq t);have b0:=fF.new w t;have HI:=hid (h.keep A);have HA:=hid A;have ve:=hid ha;have FH:=h.code.len;clear ha
 by_cases hn:t.code.length<1\/16<t.code.length
 ·rw[RE hn]
  obtain⟨c0,c1,c2,c3,c4,c5,c6,c7,c8,c9,c10,c11⟩:=b0.cells;clear h A;rcases hn with hn|hn
  all_goals
   go_in;go_wp2_with fail;go_ret;exact⟨rfl,HA.out⟩
 have h1:1<=t.code.length:=by omega
 have h16:t.code.length<=16:=by omega
 have nV:=hid hn;clear hn h A;go_in
 go_upto_region 1 with(fail)
 generalize w.alloc (cq t)=W1 at*;obtain⟨c0,c1,c2,c3,c4,c5,c6,c7,c8,c9,c10,c11⟩:=b0.cells;go_wp2_with fail;clear c0 c1 c2 c3 c4 c5 c6 c7 c8 c9 c10 c11
 go_loopw [3] (fun i wr=> ∃k:Nat,k<=t.code.length/\i= .int .i64 k/\Below W1.heap.size W1 wr/\Hid (∀(j:Nat) (x:Cd),j<k->t.code[j]? =some x->x.l.length<=256)) (fun i _=>t.code.length-(intOf i).toNat)
 ·exact⟨0,by omega,rfl,Below.refl _ _,fun j x hj=>absurd hj (anC j)⟩
 obtain⟨k,hk,rfl,E,HK⟩:=hrel;obtain⟨c0,c1,c2,c3,c4,c5,c6,c7,c8,c9,c10,c11⟩:=(b0.below E).cells
 by_cases hlt:k<t.code.length
 ·obtain⟨x,hx⟩: ∃x,t.code[k]? =some x:=⟨_,am9 hlt⟩
  have p0:=(HI.out.code.below E).cd hx;have ix:=HI.out.code.sO k hlt t.cc;have hxl:=(HI.out.rows x (anw hx)).is.len;have HX:=hid hx;clear hx
  by_cases hl:256<x.l.length
  ·have HZ:=hid (RA nV.out HX.out hl)
   go_wp2_with fail;go_ret;rw[HZ.out];exact⟨rfl,HA.out.trans (E.mono HA.out.size)⟩
  have hl':x.l.length<=256:=by omega
  have cE: ∀(j:Nat) (y:Cd),j<k+1->t.code[j]? =some y->y.l.length<=256:=fun j y hj hy=>by
   rcases anv.1 hj with h|h
   ·exact HK.out j y h hy
   subst h;rw[HX.out]at hy;cases hy;exact hl'
  have cE:=hid cE;clear HK hl;go_wp2_with fail
  go_roundw;exact⟨k+1,by omega,by go_num,E,cE⟩;simp[intOf];omega
 obtain rfl:k=t.code.length:=by omega
 have HR:=hid (RH nV.out (fun k x hx=>HK.out k x (anx.1 hx).1 hx));have HL:=hid (fun(k:Nat) (x:Cd) (hx:t.code[k]? =some x)=>HK.out k x (anx.1 hx).1 hx);clear HK hk hlt;go_wp2_with fail;clear c0 c1 c2 c3 c4 c5 c6 c7 c8 c9 c10 c11
 go_loopw [4] (fun i wr2=> ∃k:Nat,k<=t.code.length/\i= .int .i64 k/\Below W1.heap.size W1 wr2/\Hid (kn t.af (t.code.drop k)=dF t)) (fun i _=>t.code.length-(intOf i).toNat)
 ·exact⟨0,by omega,rfl,E,by rw[List.drop_zero];exact HR.out.symm⟩
 clear E;obtain⟨k,hk,rfl,E,HD⟩:=hrel;obtain⟨c0,c1,c2,c3,c4,c5,c6,c7,c8,c9,c10,c11⟩:=(b0.below E).cells
 by_cases hlt:k<t.code.length
 ·obtain⟨x,hx⟩: ∃x,t.code[k]? =some x:=⟨_,am9 hlt⟩
  have ix:=HI.out.code.sO k hlt t.cc;have wm:=HI.out.rows x (anw hx);have hxl:=wm.is.len;have k7:=hid wm;have HXG:=hid hx;have hl6:=HL.out k x hx;have HD:=hid (show(if nP t.af x.l=0 then kn t.af (t.code.drop (k+1))else nP t.af x.l)=dF t by rw[<-YY hx];exact HD.out);clear hx wm;go_wp2_with fail;clear c0 c1 c2 c3 c4 c5 c6 c7 c8 c9 c10 c11
  go_loopw [5] (fun i O6=> ∃j:Nat,j<=x.l.length/\i= .int .i64 j/\Below W1.heap.size W1 O6/\Hid (∀(m:Nat) (i:ay),m<j->x.l[m]? =some i->nI t.af i=true)) (fun i _=>x.l.length-(intOf i).toNat)
  ·exact⟨0,by omega,rfl,E,fun j x hj=>absurd hj (anC j)⟩
  clear E;obtain⟨j,hj,rfl,E,HJ⟩:=hrel;obtain⟨c0,c1,c2,c3,c4,c5,c6,c7,c8,c9,c10,c11⟩:=(b0.below E).cells;have p0:=(HI.out.code.below E).cd HXG.out
  by_cases hjt:j<x.l.length
  ·obtain⟨i,hi⟩: ∃i,x.l[j]? =some i:=⟨_,am9 hjt⟩
   obtain⟨q0,q1,q2,q3,q4,q5,q6,q7⟩:=(k7.out.is.below E).cells hi;have Gi:=(k7.out.is.below E).idx j hjt x.c;have hb:=k7.out.rO i (anw hi);have CK:=hid (fun w=>aio t.af ve.out i hb.1 hb.2 w);have sr:=hid hi;clear hi hb;obtain⟨e,he⟩: ∃e:Int,(if nI t.af i=true then 0 else 91)=e:=⟨_,rfl⟩;rw[he]at CK;have HE:=hid he;clear he;go_wp2_with fail;have cA:=fun(d:Nat) (os:Array Obj)=>Calls.regrown_of (yY (CK.out (grow (redrawn wr d) os)))
   have q0:=cell_regrown q0;have q1:=cell_regrown q1;have q2:=cell_regrown q2;have q3:=cell_regrown q3;have q4:=cell_regrown q4;have q5:=cell_regrown q5;have q6:=cell_regrown q6;have q7:=cell_regrown q7;have c0:=cell_regrown c0;have c4:=cell_regrown c4;have p0:=cell_regrown p0;refine wp_region_quiet_below aN aN ?_
   repeat(go_big_quiet_step (exact cA _ _))
   refine wpQuiet_nil ?_;intro _ hw';obtain⟨⟨dq,cH⟩,hw''⟩:=hw';subst hw'';have EQ:=below_regrown wr dq cH;generalize grow (redrawn wr dq) cH=W5 at*;have E:=E.trans (EQ.mono E.size);clear q0 q1 q2 q3 q4 q5 q6 q7 EQ CK c0 c1 c2 c3 c4 c5 c6 c7 c8 c9 c10 c11 p0 Gi cA
   by_cases bY:nI t.af i=true
   ·have e0:e=0:=by rw[<-HE.out,if_pos bY]
    subst e0
    have gT: ∀(m:Nat) (y:ay),m<j+1->x.l[m]? =some y->nI t.af y=true:=fun m y hm hy=>by
     rcases anv.1 hm with h|h
     ·exact HJ.out m y h hy
     subst h;rw[sr.out]at hy;cases hy;exact bY
    have gT:=hid gT;clear bY HJ sr HE;go_wp2_with fail
    go_roundw;exact⟨j+1,by omega,by go_num,E,gT⟩;simp[intOf];omega
   have e0:e=91:=by rw[<-HE.out,if_neg bY]
   subst e0;have HZ:=hid (show dF t=91 by rw[<-HD.out,YL sr.out (by simpa using bY),if_neg (by omega)]);clear bY HJ sr HE;go_wp2_with fail;go_ret;rw[HZ.out];exact⟨rfl,HA.out.trans (E.mono HA.out.size)⟩
  obtain rfl:j=x.l.length:=by omega
  have sB:=hid (YK (fun m i hi=>HJ.out m i (anx.1 hi).1 hi));rcases ve.out with ha|ha
  ·have HD:=hid (show kn t.af (t.code.drop (k+1))=dF t by rw[<-HD.out,if_pos (by rw[sB.out,ha];rfl)])
   rw[ha]at c0;clear HJ ha sB;go_wp2_with fail
   go_roundw;exact⟨k+1,by omega,by go_num,E,HD⟩;simp[intOf];omega
  rw[ha]at c0;have Bx: ∀i∈x.l,i.label.length<=9223372036854775807:=fun i hi=>(k7.out.rO i hi).2
  have LK:=ajK x.l x.a x.c Bx wr (k7.out.is.below E);obtain⟨e,he⟩:=aj ((jg x.l).2.1)
  have HD:=hid (show(if e=0 then kn t.af (t.code.drop (k+1))else e)=dF t by
   rw[<-HD.out,show nP t.af x.l=e from by rw[sB.out,if_pos ha,he]])
  have tY:=hid he;have LK:=hid LK;clear HJ he Bx sB ha;go_wp2_with fail;refine LK.out.mono ?_;rintro ee w5 ⟨a5,c5',rfl,o5,E5⟩;rw[tY.out];have E:=E.trans (E5.mono E.size);clear o5 E5 LK c0 c1 c2 c3 c4 c5 c6 c7 c8 c9 c10 c11 p0 ix
  by_cases h0:e=0
  ·subst h0
   have HD:=hid (show kn t.af (t.code.drop (k+1))=dF t from HD.out);go_wp2_with fail
   go_roundw;exact⟨k+1,by omega,by go_num,E,HD⟩;simp[intOf];omega
  have z0:(e != 0)=true:=by simpa using h0
  have HZ:=hid (show dF t=e by rw[<-HD.out,if_neg h0]);clear h0;go_wp2_with fail;go_ret;rw[HZ.out];exact⟨rfl,HA.out.trans (E.mono HA.out.size)⟩
 obtain rfl:k=t.code.length:=by omega
 have HZ:=hid (show dF t=0 by rw[<-HD.out];exact YZ);go_wp2_with fail;go_ret;rw[HZ.out];exact⟨rfl,HA.out.trans (E.mono HA.out.size)⟩
theorem aik(t:aG)(ha:t.af=1)(w:World)(h:iT w t):Calls prog 167 #[vT t] w (aJ w (.int .i64 (dF t))):=Yg t (.inl ha) w h
theorem ail(t:aG)(ha:t.af=2)(w:World)(h:iT w t):Calls prog 167 #[vT t] w (aJ w (.int .i64 (dF t))):=Yg t (.inr ha) w h
theorem Dx{l:Tx}{b:Bool}(h:decide (l=[])=b):((tx l).toList==([]:List UInt8))=b/\(tx l).toList.isEmpty=b:=by
 rw[bh,<-h];cases l<;>simp
theorem acZ(h:x.thread= -1):lF af n x=(aC x.loc&&(decide (x.az=0)&&(decide (x.aT=[])&&bO x.n))):=by unfold lF;rw[if_pos h]
theorem J9(h:x.thread≠ -1)(h2:x.thread<0\/(n:Int)<=x.thread\/x.loc≠[]):lF af n x=false:=by unfold lF;rw[if_neg h,if_pos h2]
theorem SY(h:x.thread≠ -1)(h2: ¬(x.thread<0\/(n:Int)<=x.thread\/x.loc≠[]))(h3:if af=2 then x.az<1\/31<x.az else x.az<0\/14<x.az):lF af n x=false:=by unfold lF;rw[if_neg h,if_neg h2,if_pos h3]
theorem SX(h:x.thread≠ -1)(h2: ¬(x.thread<0\/(n:Int)<=x.thread\/x.loc≠[]))(h3: ¬(if af=2 then x.az<1\/31<x.az else x.az<0\/14<x.az)):lF af n x=if x.aT≠[]then aC x.aT&&decide (x.n=0)else bO x.n:=by unfold lF;rw[if_neg h,if_neg h2,if_neg h3]
theorem acO(t:aG)(x:aL)(h1:x.loc.length<=9223372036854775807)(h2:x.aT.length<=9223372036854775807)(hn:t.code.length<=1000)(w:World):
 Calls prog 141 #[vT t,lQ x] w (aJ w (.bool (lF t.af t.code.length x))):=by
 have B:=eZ (al w (cq t)) (kE x);obtain⟨thread,az,loc,aT,n⟩:=x;simp only at h1 h2;obtain⟨b1,dH⟩: ∃b,aC loc=b:=⟨_,rfl⟩;obtain⟨b2,de⟩: ∃b,aC aT=b:=⟨_,rfl⟩;obtain⟨b3,eJ⟩: ∃b,bO n=b:=⟨_,rfl⟩;obtain⟨b4,ku⟩: ∃b,decide (loc=[])=b:=⟨_,rfl⟩;obtain⟨b5,lI⟩: ∃b,decide (aT=[])=b:=⟨_,rfl⟩;have NL:=hid (show ∀w,Calls prog 225 #[.string (tx loc)] w fun e w'=>e= .returned (.bool b1)/\w=w' from fun w=>dH▸SR loc h1 w);have NV:=hid (show ∀w,Calls prog 225 #[.string (tx aT)] w fun e w'=>e= .returned (.bool b2)/\w=w' from fun w=>de▸SR aT h2 w);have NN:=hid (show ∀w,Calls prog 226 #[.int .i64 n] w fun e w'=>e= .returned (.bool b3)/\w=w' from fun w=>eJ▸acQ n w);obtain⟨zl,zl'⟩:=Dx ku;obtain⟨zv,zv'⟩:=Dx lI;have HL:=hid ku;have HV:=hid lI;have HB:=hid (anY dH (anY de eJ));obtain⟨N,hN⟩:=aj t.code.length;obtain⟨ar,har⟩:=aj t.af;rw[hN]at hn;have HN:=hid hN;clear dH de eJ ku lI h1 h2
 by_cases ht:thread= -1
 ·subst ht
  have E:=hid (acZ (af:=t.af) (n:=t.code.length) (x:=⟨-1,az,loc,aT,n⟩) rfl)
  by_cases hr:az=0
  ·subst hr
   have E2:=hid (E.out.trans (show _=(b1&&(b5&&b3)) by simp only[HB.out.1,HB.out.2.2,HV.out,decide_true,Bool.true_and]));clear hN har;cases b1<;>cases b5<;>cases b3
   all_goals
    go_in
    go_wp2_with (first|(go_at_call 225;refine(NL.out _).mono ?_;rintro e w1 ⟨rfl,rfl⟩)|(go_at_call 226;refine(NN.out _).mono ?_;rintro e w1 ⟨rfl,rfl⟩))
    go_ret;exact⟨aQ ((show _=_ from by first|rfl|simp).trans E2.out.symm),bC⟩
  have zr:(az==0)=false:=by simpa using hr
  have E2:=hid (E.out.trans (show _=false by simp only[decide_eq_false hr,apd,apc]));clear hN har hr;cases b1
  all_goals
   go_in
   go_wp2_with (first|(go_at_call 225;refine(NL.out _).mono ?_;rintro e w1 ⟨rfl,rfl⟩)|(go_at_call 226;refine(NN.out _).mono ?_;rintro e w1 ⟨rfl,rfl⟩))
   go_ret;exact⟨aQ ((show _=_ from by first|rfl|simp).trans E2.out.symm),bC⟩
 have zt:(thread== -1)=false:=by simpa using ht
 by_cases h0:thread<0
 ·have E:=hid (J9 (af:=t.af) (n:=t.code.length) (x:=⟨thread,az,loc,aT,n⟩) ht (.inl h0))
  clear hN har ht;go_in
  go_wp2_with (first|(go_at_call 225;refine(NL.out _).mono ?_;rintro e w1 ⟨rfl,rfl⟩)|(go_at_call 226;refine(NN.out _).mono ?_;rintro e w1 ⟨rfl,rfl⟩))
  go_ret;exact⟨aQ (E.out.symm),bC⟩
 have h0':0<=thread:=by omega
 by_cases hc:(N:Int)<=thread
 ·have E:=hid (J9 (af:=t.af) (n:=t.code.length) (x:=⟨thread,az,loc,aT,n⟩) ht (.inr (.inl (by rw[hN];exact hc))))
  rw[<-hN]at hc;clear hN har ht;go_in
  go_wp2_with (first|(go_at_call 225;refine(NL.out _).mono ?_;rintro e w1 ⟨rfl,rfl⟩)|(go_at_call 226;refine(NN.out _).mono ?_;rintro e w1 ⟨rfl,rfl⟩))
  go_ret;exact⟨aQ (E.out.symm),bC⟩
 have hc':thread<t.code.length:=by omega
 cases b4 with
 | false=>
   have E:=hid (J9 (af:=t.af) (n:=t.code.length) (x:=⟨thread,az,loc,aT,n⟩) ht (.inr (.inr (by simpa using HL.out))));clear hN har ht hc;go_in
   go_wp2_with (first|(go_at_call 225;refine(NL.out _).mono ?_;rintro e w1 ⟨rfl,rfl⟩)|(go_at_call 226;refine(NN.out _).mono ?_;rintro e w1 ⟨rfl,rfl⟩))
   go_ret;exact⟨aQ (E.out.symm),bC⟩
 | true=>
   have hnot: ¬(thread<0\/(t.code.length:Int)<=thread\/loc≠[]):=by
    have:=HL.out;simp at this;subst this;simp;omega
   have HA:=hid har
   by_cases ha:ar=2
   ·have za:(t.af==2)=true:=by rw[har,ha];rfl
    by_cases hr:az<1\/31<az
    ·have E:=hid (SY (af:=t.af) (n:=t.code.length) (x:=⟨thread,az,loc,aT,n⟩) ht hnot (by rw[if_pos (har.trans ha)];exact hr))
     clear hN har ht hc hnot ha;rcases hr with hr|hr
     all_goals
      go_in
      go_wp2_with (first|(go_at_call 225;refine(NV.out _).mono ?_;rintro e w1 ⟨rfl,rfl⟩)|(go_at_call 226;refine(NN.out _).mono ?_;rintro e w1 ⟨rfl,rfl⟩))
      go_ret;exact⟨aQ (E.out.symm),bC⟩
    have r1:1<=az:=by omega
    have r2:az<=31:=by omega
    have E:=hid (SX (af:=t.af) (n:=t.code.length) (x:=⟨thread,az,loc,aT,n⟩) ht hnot (by rw[if_pos (har.trans ha)];exact hr));clear hN har ht hc hnot ha hr;cases b5 with
    | true=>
      have E2:=hid (E.out.trans (show _=b3 by rw[if_neg (by simpa using HV.out)];exact HB.out.2.2));go_in
      go_wp2_with (first|(go_at_call 225;refine(NV.out _).mono ?_;rintro e w1 ⟨rfl,rfl⟩)|(go_at_call 226;refine(NN.out _).mono ?_;rintro e w1 ⟨rfl,rfl⟩))
      go_ret;exact⟨aQ ((show _=_ from by first|rfl|simp).trans E2.out.symm),bC⟩
    | false=>
      by_cases hn0:n=0
      ·subst hn0
       have E2:=hid (E.out.trans (show _=b2 by rw[if_pos (by simpa using HV.out)];simp only[HB.out.2.1,decide_true,ape]));cases b2
       all_goals
        go_in
        go_wp2_with (first|(go_at_call 225;refine(NV.out _).mono ?_;rintro e w1 ⟨rfl,rfl⟩)|(go_at_call 226;refine(NN.out _).mono ?_;rintro e w1 ⟨rfl,rfl⟩))
        go_ret;exact⟨aQ ((show _=_ from by first|rfl|simp).trans E2.out.symm),bC⟩
      have zn:(n==0)=false:=by simpa using hn0
      have E2:=hid (E.out.trans (show _=false by rw[if_pos (by simpa using HV.out)];simp only[decide_eq_false hn0,apc]));clear hn0;cases b2
      all_goals
       go_in
       go_wp2_with (first|(go_at_call 225;refine(NV.out _).mono ?_;rintro e w1 ⟨rfl,rfl⟩)|(go_at_call 226;refine(NN.out _).mono ?_;rintro e w1 ⟨rfl,rfl⟩))
       go_ret;exact⟨aQ ((show _=_ from by first|rfl|simp).trans E2.out.symm),bC⟩
   have za:(t.af==2)=false:=by rw[har];simpa using ha
   by_cases hr:az<0\/14<az
   ·have E:=hid (SY (af:=t.af) (n:=t.code.length) (x:=⟨thread,az,loc,aT,n⟩) ht hnot (by rw[if_neg (by rw[har];exact ha)];exact hr))
    clear hN har ht hc hnot ha;rcases hr with hr|hr
    all_goals
     go_in
     go_wp2_with (first|(go_at_call 225;refine(NV.out _).mono ?_;rintro e w1 ⟨rfl,rfl⟩)|(go_at_call 226;refine(NN.out _).mono ?_;rintro e w1 ⟨rfl,rfl⟩))
     go_ret;exact⟨aQ (E.out.symm),bC⟩
   have r1:0<=az:=by omega
   have r2:az<=14:=by omega
   have E:=hid (SX (af:=t.af) (n:=t.code.length) (x:=⟨thread,az,loc,aT,n⟩) ht hnot (by rw[if_neg (by rw[har];exact ha)];exact hr));clear hN har ht hc hnot ha hr;cases b5 with
   | true=>
     have E2:=hid (E.out.trans (show _=b3 by rw[if_neg (by simpa using HV.out)];exact HB.out.2.2));go_in
     go_wp2_with (first|(go_at_call 225;refine(NV.out _).mono ?_;rintro e w1 ⟨rfl,rfl⟩)|(go_at_call 226;refine(NN.out _).mono ?_;rintro e w1 ⟨rfl,rfl⟩))
     go_ret;exact⟨aQ ((show _=_ from by first|rfl|simp).trans E2.out.symm),bC⟩
   | false=>
     by_cases hn0:n=0
     ·subst hn0
      have E2:=hid (E.out.trans (show _=b2 by rw[if_pos (by simpa using HV.out)];simp only[HB.out.2.1,decide_true,ape]));cases b2
      all_goals
       go_in
       go_wp2_with (first|(go_at_call 225;refine(NV.out _).mono ?_;rintro e w1 ⟨rfl,rfl⟩)|(go_at_call 226;refine(NN.out _).mono ?_;rintro e w1 ⟨rfl,rfl⟩))
       go_ret;exact⟨aQ ((show _=_ from by first|rfl|simp).trans E2.out.symm),bC⟩
     have zn:(n==0)=false:=by simpa using hn0
     have E2:=hid (E.out.trans (show _=false by rw[if_pos (by simpa using HV.out)];simp only[decide_eq_false hn0,apc]));clear hn0;cases b2
     all_goals
      go_in
      go_wp2_with (first|(go_at_call 225;refine(NV.out _).mono ?_;rintro e w1 ⟨rfl,rfl⟩)|(go_at_call 226;refine(NN.out _).mono ?_;rintro e w1 ⟨rfl,rfl⟩))
      go_ret;exact⟨aQ ((show _=_ from by first|rfl|simp).trans E2.out.symm),bC⟩
def rP(aT:Tx)(n:Int):Bool:=if aT=[]then bO n else aC aT&&decide (n=0)
def GD(af:Int)(n:Nat)(x:aL):Bool:=
 if x.thread= -1 then aC x.loc&&(decide (x.az=0)&&decide (x.aT=[]))
 else if x.thread<0\/(n:Int)<=x.thread\/x.loc≠[]then false
 else if af=2 then decide (1<=x.az)&&decide (x.az<32)else decide (0<=x.az)&&decide (x.az<15)
theorem acY(af:Int)(n:Nat)(x:aL):lF af n x=(rP x.aT x.n&&GD af n x):=by
 unfold lF rP GD
 by_cases h1:x.thread= -1
 ·rw[if_pos h1,if_pos h1]
  by_cases h2:x.aT=[]
  ·rw[if_pos h2,decide_eq_true h2];cases aC x.loc<;>cases bO x.n<;>simp
  rw[if_neg h2,decide_eq_false h2];simp
 rw[if_neg h1,if_neg h1]
 by_cases h2:x.thread<0\/(n:Int)<=x.thread\/x.loc≠[]
 ·rw[if_pos h2,if_pos h2,apc]
 rw[if_neg h2,if_neg h2]
 have hv:(if x.aT≠[]then aC x.aT&&decide (x.n=0)else bO x.n)=(if x.aT=[]then bO x.n else aC x.aT&&decide (x.n=0)):=by
  by_cases h:x.aT=[]<;>simp[h]
 by_cases h3:af=2
 ·by_cases h4:x.az<1\/31<x.az
  ·rw[if_pos (by rw[if_pos h3];exact h4),if_pos h3]
   have:(decide (1<=x.az)&&decide (x.az<32))=false:=ah;rw[this,apc]
  rw[if_neg (by rw[if_pos h3];exact h4),if_pos h3,hv]
  have:(decide (1<=x.az)&&decide (x.az<32))=true:=ah;rw[this,ape]
 by_cases h4:x.az<0\/14<x.az
 ·rw[if_pos (by rw[if_neg h3];exact h4),if_neg h3]
  have:(decide (0<=x.az)&&decide (x.az<15))=false:=ah;rw[this,apc]
 rw[if_neg (by rw[if_neg h3];exact h4),if_neg h3,hv]
 have:(decide (0<=x.az)&&decide (x.az<15))=true:=ah;rw[this,ape]
theorem ah4(aT:Tx)(n:Int)(h2:aT.length<=9223372036854775807)(w:World):Calls prog 303 #[.agg #[.string (tx aT),.int .i64 n]] w (aJ w (.bool (rP aT n))):=by
 have B:=al w (.cells #[.string (tx aT),.int .i64 n] 54);obtain⟨b2,de⟩: ∃b,aC aT=b:=⟨_,rfl⟩;obtain⟨b3,eJ⟩: ∃b,bO n=b:=⟨_,rfl⟩;obtain⟨b5,lI⟩: ∃b,decide (aT=[])=b:=⟨_,rfl⟩;have NV:=hid (show ∀w,Calls prog 252 #[.string (tx aT)] w fun e w'=>e= .returned (.bool b2)/\w=w' from fun w=>de▸yP aT h2 w);have NN:=hid (show ∀w,Calls prog 309 #[.int .i64 n] w fun e w'=>e= .returned (.bool b3)/\w=w' from fun w=>eJ▸C8 n w);obtain⟨zv,zv'⟩:=Dx lI;cases b5 with
 | true=>
   have E:=hid (show rP aT n=b3 by unfold rP;rw[if_pos (by simpa using lI)];exact eJ);clear de eJ lI;go_in
   go_wp2_with (go_at_call 309;refine(NN.out _).mono ?_;rintro e w1 ⟨rfl,rfl⟩)
   go_ret;exact⟨aQ E.out.symm,bC⟩
 | false=>
   have hv:aT≠[]:=by simpa using lI
   by_cases hn0:n=0
   ·subst hn0
    have E:=hid (show rP aT 0=b2 by unfold rP;rw[if_neg hv,de];simp);clear de eJ lI hv;cases b2
    all_goals
     go_in
     go_wp2_with (go_at_call 252;refine(NV.out _).mono ?_;rintro e w1 ⟨rfl,rfl⟩)
     go_ret;exact⟨aQ E.out.symm,bC⟩
   have zn:(n==0)=false:=by simpa using hn0
   have E:=hid (show rP aT n=false by unfold rP;rw[if_neg hv,decide_eq_false hn0,apc]);clear de eJ lI hv hn0;cases b2
   all_goals
    go_in
    go_wp2_with (go_at_call 252;refine(NV.out _).mono ?_;rintro e w1 ⟨rfl,rfl⟩)
    go_ret;exact⟨aQ E.out.symm,bC⟩
theorem aiq(t:aG)(ha:bF t.af=true)(x:aL)(h1:x.loc.length<=9223372036854775807)(h2:x.aT.length<=9223372036854775807)(hn:t.code.length<=1000)(w:World):
 Calls prog 243 #[vT t,lQ x] w (aJ w (.bool (lF t.af t.code.length x))):=by
 have B:=eZ (al w (cq t)) (kE x);have b0:=(fF.new w t).below (al (w.alloc (cq t)) (kE x));have x0:aA ((w.alloc (cq t)).alloc (kE x)) (w.alloc (cq t)).heap.size (fN x):=aA.new _ _ _;rw[show(w.alloc (cq t)).heap.size=w.heap.size+1 by simp]at x0;obtain⟨thread,az,loc,aT,n⟩:=x;simp only at h1 h2;have EQ:=acY t.af t.code.length ⟨thread,az,loc,aT,n⟩;obtain⟨b1,dH⟩: ∃b,aC loc=b:=⟨_,rfl⟩;obtain⟨b6,KE⟩: ∃b,rP aT n=b:=⟨_,rfl⟩;obtain⟨b4,ku⟩: ∃b,decide (loc=[])=b:=⟨_,rfl⟩;obtain⟨b5,lI⟩: ∃b,decide (aT=[])=b:=⟨_,rfl⟩;have NL:=hid (show ∀w,Calls prog 252 #[.string (tx loc)] w fun e w'=>e= .returned (.bool b1)/\w=w' from fun w=>dH▸yP loc h1 w);have NM:=hid (show ∀w,Calls prog 303 #[.agg #[.string (tx aT),.int .i64 n]] w (aJ w (.bool b6))from fun w=>KE▸ah4 aT n h2 w);obtain⟨zl,zl'⟩:=Dx ku;obtain⟨zv,zv'⟩:=Dx lI;have HL:=hid ku;have HV:=hid lI;have tU:=hid dH;have HA0:=hid ha;simp only at EQ;rw[KE]at EQ;have Iu:=hid EQ;clear EQ dH ku lI KE h1 h2 ha;cases b6 with
 | false=>
   have E2:=hid (Iu.out.trans (apd _));go_in;go_wp2_with fail;refine(NM.out _).mono ?_;rintro e w1 ⟨rfl,E1⟩;have q0:=(b0.below E1).cells.1;have q4:=(b0.below E1).cells.2.2.2.2.1;have i0:=(x0.below E1).get 0 _ rfl;have i1:=(x0.below E1).get 1 _ rfl;have i2:=(x0.below E1).get 2 _ rfl;have i3:=(x0.below E1).get 3 _ rfl;have B:=B.trans (E1.mono B.size);clear E1
   go_wp2_with (first|(go_at_call 252;refine(NL.out _).mono ?_;rintro e w1 ⟨rfl,rfl⟩))
   go_ret;exact⟨aQ (E2.out.symm),bC⟩
 |true=>
 have PL:=hid (Iu.out.trans (Bool.true_and _));clear Iu
 by_cases ht:thread= -1
 ·subst ht
  have P2:=hid (PL.out.trans (show _=(b1&&(decide (az=0)&&b5)) by unfold GD;rw[if_pos rfl];simp only[tU.out,HV.out]));clear PL
  by_cases hr:az=0
  ·subst hr
   cases b1<;>cases b5
   all_goals
    go_in;go_wp2_with fail;refine(NM.out _).mono ?_;rintro e w1 ⟨rfl,E1⟩;have q0:=(b0.below E1).cells.1;have q4:=(b0.below E1).cells.2.2.2.2.1;have i0:=(x0.below E1).get 0 _ rfl;have i1:=(x0.below E1).get 1 _ rfl;have i2:=(x0.below E1).get 2 _ rfl;have i3:=(x0.below E1).get 3 _ rfl;have B:=B.trans (E1.mono B.size);clear E1
    go_wp2_with (first|(go_at_call 252;refine(NL.out _).mono ?_;rintro e w1 ⟨rfl,rfl⟩))
    go_ret;exact⟨aQ ((show _=_ from by first|rfl|simp).trans P2.out.symm),bC⟩
  have zr:(az==0)=false:=by simpa using hr
  have P3:=hid (P2.out.trans (show _=false by rw[decide_eq_false hr,apd,apc]));clear hr P2;cases b1
  all_goals
   go_in;go_wp2_with fail;refine(NM.out _).mono ?_;rintro e w1 ⟨rfl,E1⟩;have q0:=(b0.below E1).cells.1;have q4:=(b0.below E1).cells.2.2.2.2.1;have i0:=(x0.below E1).get 0 _ rfl;have i1:=(x0.below E1).get 1 _ rfl;have i2:=(x0.below E1).get 2 _ rfl;have i3:=(x0.below E1).get 3 _ rfl;have B:=B.trans (E1.mono B.size);clear E1
   go_wp2_with (first|(go_at_call 252;refine(NL.out _).mono ?_;rintro e w1 ⟨rfl,rfl⟩))
   go_ret;exact⟨aQ (P3.out.symm),bC⟩
 have zt:(thread== -1)=false:=by simpa using ht
 have P2:=hid (PL.out.trans (show _=(if thread<0\/(t.code.length:Int)<=thread\/loc≠[]then false else if t.af=2 then decide (1<=az)&&decide (az<32)else decide (0<=az)&&decide (az<15)) by unfold GD;rw[if_neg ht]));clear PL
 by_cases h0:thread<0
 ·have P3:=hid (P2.out.trans (if_pos (.inl h0)))
  clear ht P2;go_in;go_wp2_with fail;refine(NM.out _).mono ?_;rintro e w1 ⟨rfl,E1⟩;have q0:=(b0.below E1).cells.1;have q4:=(b0.below E1).cells.2.2.2.2.1;have i0:=(x0.below E1).get 0 _ rfl;have i1:=(x0.below E1).get 1 _ rfl;have i2:=(x0.below E1).get 2 _ rfl;have i3:=(x0.below E1).get 3 _ rfl;have B:=B.trans (E1.mono B.size);clear E1
  go_wp2_with (first|(go_at_call 252;refine(NL.out _).mono ?_;rintro e w1 ⟨rfl,rfl⟩))
  go_ret;exact⟨aQ (P3.out.symm),bC⟩
 have h0':0<=thread:=by omega
 by_cases hc:(t.code.length:Int)<=thread
 ·have P3:=hid (P2.out.trans (if_pos (.inr (.inl hc))))
  clear ht P2;go_in;go_wp2_with fail;refine(NM.out _).mono ?_;rintro e w1 ⟨rfl,E1⟩;have q0:=(b0.below E1).cells.1;have q4:=(b0.below E1).cells.2.2.2.2.1;have i0:=(x0.below E1).get 0 _ rfl;have i1:=(x0.below E1).get 1 _ rfl;have i2:=(x0.below E1).get 2 _ rfl;have i3:=(x0.below E1).get 3 _ rfl;have B:=B.trans (E1.mono B.size);clear E1
  go_wp2_with (first|(go_at_call 252;refine(NL.out _).mono ?_;rintro e w1 ⟨rfl,rfl⟩))
  go_ret;exact⟨aQ (P3.out.symm),bC⟩
 have hc':thread<t.code.length:=by omega
 cases b4 with
 | false=>
   have P3:=hid (P2.out.trans (if_pos (.inr (.inr (by simpa using HL.out)))));clear ht hc P2;go_in;go_wp2_with fail;refine(NM.out _).mono ?_;rintro e w1 ⟨rfl,E1⟩;have q0:=(b0.below E1).cells.1;have q4:=(b0.below E1).cells.2.2.2.2.1;have i0:=(x0.below E1).get 0 _ rfl;have i1:=(x0.below E1).get 1 _ rfl;have i2:=(x0.below E1).get 2 _ rfl;have i3:=(x0.below E1).get 3 _ rfl;have B:=B.trans (E1.mono B.size);clear E1
   go_wp2_with (first|(go_at_call 252;refine(NL.out _).mono ?_;rintro e w1 ⟨rfl,rfl⟩))
   go_ret;exact⟨aQ (P3.out.symm),bC⟩
 | true=>
   have hnot: ¬(thread<0\/(t.code.length:Int)<=thread\/loc≠[]):=by
    have:=HL.out;simp at this;subst this;simp;omega
   have P3:=hid (P2.out.trans (if_neg hnot));clear P2 hnot ht hc
   by_cases ha:t.af=2
   ·have za:(t.af==1)=false:=by rw[ha];rfl
    have P4:=hid (P3.out.trans (if_pos ha));clear P3 ha;have hp:az<1\/(1<=az/\az<32)\/32<=az:=by omega
    rcases hp with hr|⟨hr,hr'⟩|hr
    all_goals
     go_in;go_wp2_with fail;refine(NM.out _).mono ?_;rintro e w1 ⟨rfl,E1⟩;have q0:=(b0.below E1).cells.1;have q4:=(b0.below E1).cells.2.2.2.2.1;have i0:=(x0.below E1).get 0 _ rfl;have i1:=(x0.below E1).get 1 _ rfl;have i2:=(x0.below E1).get 2 _ rfl;have i3:=(x0.below E1).get 3 _ rfl;have B:=B.trans (E1.mono B.size);clear E1
     go_wp2_with (first|(go_at_call 252;refine(NL.out _).mono ?_;rintro e w1 ⟨rfl,rfl⟩))
     go_ret;exact⟨aQ (by rw[P4.out];first|rfl|(simp<;>omega)),bC⟩
   have h1:t.af=1:=by
    have:=HA0.out;unfold bF at this;simp at this;omega
   have za:(t.af==1)=true:=by rw[h1];rfl
   have P4:=hid (P3.out.trans (if_neg ha));clear P3 ha h1;have hp:az<0\/(0<=az/\az<15)\/15<=az:=by omega
   rcases hp with hr|⟨hr,hr'⟩|hr
   all_goals
    go_in;go_wp2_with fail;refine(NM.out _).mono ?_;rintro e w1 ⟨rfl,E1⟩;have q0:=(b0.below E1).cells.1;have q4:=(b0.below E1).cells.2.2.2.2.1;have i0:=(x0.below E1).get 0 _ rfl;have i1:=(x0.below E1).get 1 _ rfl;have i2:=(x0.below E1).get 2 _ rfl;have i3:=(x0.below E1).get 3 _ rfl;have B:=B.trans (E1.mono B.size);clear E1
    go_wp2_with (first|(go_at_call 252;refine(NL.out _).mono ?_;rintro e w1 ⟨rfl,rfl⟩))
    go_ret;exact⟨aQ (by rw[P4.out];first|rfl|(simp<;>omega)),bC⟩
theorem ain(t:aG)(ha:bF t.af=true)(oh:t.code.length<=1000)(w:World)(h:iT w t):Calls prog 168 #[vT t] w (aJ w (.int .i64 (iV t))):=by
 have A:=al w (cq t);have b0:=fF.new w t;have HI:=hid (h.keep A);have HA:=hid A;have ve:=hid ha;have hil:=h.init.len;clear ha
 by_cases hn:1024<t.init.length
 ·rw[QY hn]
  obtain⟨c0,c1,c2,c3,c4,c5,c6,c7,c8,c9,c10,c11⟩:=b0.cells;clear h A;go_in;go_wp2_with fail;go_ret;exact⟨rfl,HA.out⟩
 have adh:t.init.length<=1024:=by omega
 have nV:=hid hn;clear hn h A;go_in
 go_upto_region 1 with(fail)
 generalize w.alloc (cq t)=W1 at*;obtain⟨c0,c1,c2,c3,c4,c5,c6,c7,c8,c9,c10,c11⟩:=b0.cells;go_wp2_with fail;clear c0 c1 c2 c3 c4 c5 c6 c7 c8 c9 c10 c11
 go_loopw [3] (fun i wr=> ∃k:Nat,k<=t.init.length/\i= .int .i64 k/\Below W1.heap.size W1 wr/\Hid (xg t k/\xd t k)) (fun i _=>t.init.length-(intOf i).toNat)
 ·exact⟨0,by omega,rfl,Below.refl _ _,fun j x hj=>absurd hj (anC j),fun i j x y _ hj=>absurd hj (anC j)⟩
 obtain⟨k,hk,rfl,E,HK⟩:=hrel;obtain⟨c0,c1,c2,c3,c4,c5,c6,c7,c8,c9,c10,c11⟩:=(b0.below E).cells
 by_cases hlt:k<t.init.length
 ·obtain⟨x,hx⟩: ∃x,t.init[k]? =some x:=⟨_,am9 hlt⟩
  obtain⟨p0,p1,p2,p3,p4⟩:=(HI.out.init.below E).ow hx;have ix:=HI.out.init.idx pF mC k hlt t.ic;have hxl:=HI.out.rO x (anw hx);have HX:=hid hx;have LN:=hid (fun w=>aiq t ve.out x hxl.1 hxl.2 oh w);obtain⟨f,hf⟩:=aj (lF t.af t.code.length x);rw[hf]at LN;have HF:=hid hf;clear hx hf hxl
  go_upto_region 7 with(fail)
  have A3:=al wr (kE x);have x0:aA (wr.alloc (kE x)) wr.heap.size (fN x):=aA.new _ _ _;generalize wr.alloc (kE x)=W3 at*;have E:=E.trans (A3.mono E.size);clear c0 c1 c2 c3 c4 c5 c6 c7 c8 c9 c10 c11 p0 p1 p2 p3 p4 ix A3;obtain⟨c0,c1,c2,c3,c4,c5,c6,c7,c8,c9,c10,c11⟩:=(b0.below E).cells;obtain⟨i0,i1,i2,i3,i4⟩:=x0.fc;go_wp2_with fail;refine(LN.out _).mono ?_;rintro e w4 ⟨rfl,E4⟩;have x0:=x0.below E4;have E:=E.trans (E4.mono E.size);clear c0 c1 c2 c3 c4 c5 c6 c7 c8 c9 c10 c11 i0 i1 i2 i3 i4 E4 LN;cases f with
  | false=>
    have HZ:=hid (QX nV.out HX.out HF.out);go_wp2_with fail;go_ret;rw[HZ.out];exact⟨rfl,HA.out.trans (E.mono HA.out.size)⟩
  | true=>
    go_wp2_with fail;obtain⟨xb,gD⟩:=aj wr.heap.size;rw[gD]at x0⊢;clear gD
    go_loopw [5] (fun i wr2=> ∃j:Nat,j<=k/\i= .int .i64 j/\Below W1.heap.size W1 wr2/\aA wr2 xb (fN x)/\Hid (∀(i:Nat) (y:aL),i<j->t.init[i]? =some y->gN y≠gN x)) (fun i _=>k-(intOf i).toNat)
    ·exact⟨0,by omega,rfl,E,x0,fun j x hj=>absurd hj (anC j)⟩
    clear E x0;obtain⟨j,hj,rfl,E,x0,HJ⟩:=hrel
    by_cases hjt:j<k
    ·obtain⟨y,hy⟩: ∃y,t.init[j]? =some y:=⟨_,am9 (by omega)⟩
     obtain⟨c0,c1,c2,c3,c4,c5,c6,c7,c8,c9,c10,c11⟩:=(b0.below E).cells;obtain⟨p0,p1,p2,p3,p4⟩:=(HI.out.init.below E).ow hy;have ix:=HI.out.init.idx pF mC j (by omega) t.ic;have HY:=hid hy;clear hy;have hne: ∀(p:Prop),(gN y=gN x<->(x.thread=y.thread/\x.az=y.az/\x.loc=y.loc)):=fun _=>Vy x y
     have Pv:=hid (Vy x y);clear hne;obtain⟨i0,i1,i2⟩:=x0.oa;have x0l:=x0.1
     go_upto_region 13 with(fail)
     have A3:=al wr (kE y);have y0:aA (wr.alloc (kE y)) wr.heap.size (fN y):=aA.new _ _ _;have x1:=x0.below A3;generalize wr.alloc (kE y)=W5 at*;have E:=E.trans (A3.mono E.size);clear c0 c1 c2 c3 c4 c5 c6 c7 c8 c9 c10 c11 p0 p1 p2 p3 p4 ix i0 i1 i2 A3 x0 x0l;obtain⟨i0,i1,i2⟩:=x1.oa;obtain⟨j0,j1,j2⟩:=y0.oa;obtain⟨d1,hd1⟩: ∃d,(x.thread==y.thread)=d:=⟨_,rfl⟩;obtain⟨d2,jJ⟩: ∃d,(x.az==y.az)=d:=⟨_,rfl⟩;obtain⟨d3,FM⟩: ∃d,((tx x.loc).toList==(tx y.loc).toList)=d:=⟨_,rfl⟩
     have HQ:=hid (show decide (gN y=gN x)=(d1&&(d2&&d3)) by
      rw[<-hd1,<-jJ,<-FM,iQ,an8,decide_eq_true_eq,Pv.out];simp)
     clear Pv
     have gT:(d1&&(d2&&d3))=false->Hid (∀(i:Nat) (z:aL),i<j+1->t.init[i]? =some z->gN z≠gN x):=fun hd i z hi hz=>by
      rcases anv.1 hi with h1|h1
      ·exact HJ.out i z h1 hz
      subst h1;rw[HY.out]at hz;cases hz
      have:=HQ.out;rw[hd]at this;exact of_decide_eq_false this
     have gT:=hid gT;have HZ:=hid (fun hd:(d1&&(d2&&d3))=true=>Q0 nV.out hjt HY.out HX.out (of_decide_eq_true (HQ.out.trans hd)));clear HJ;cases d1
     rotate_left
     ·cases d2
      rotate_left
      ·cases d3
       rotate_left
       ·go_wp2_with fail
        go_ret;rw[HZ.out rfl];exact⟨rfl,HA.out.trans (E.mono HA.out.size)⟩
       go_wp2_with fail
       go_roundw;exact⟨j+1,by omega,by go_num,E,x1,gT.out rfl⟩;simp[intOf];omega
      go_wp2_with fail
      go_roundw;exact⟨j+1,by omega,by go_num,E,x1,gT.out rfl⟩;simp[intOf];omega
     go_wp2_with fail
     go_roundw;exact⟨j+1,by omega,by go_num,E,x1,gT.out rfl⟩;simp[intOf];omega
    obtain rfl:j=k:=by omega
    have cE:=hid (anY (HK.out.1.snoc HX.out HF.out) (HK.out.2.snoc HX.out HJ.out));go_wp2_with fail
    go_roundw;exact⟨j+1,by omega,by go_num,E,cE⟩;simp[intOf];omega
 obtain rfl:k=t.init.length:=by omega
 have HZ:=hid (QZ nV.out HK.out.1 HK.out.2);go_wp2_with fail;go_ret;rw[HZ.out];exact⟨rfl,HA.out.trans (E.mono HA.out.size)⟩
theorem SN(t:aG)(ha:t.af=1\/t.af=2)(w:World)(h:iT w t):Calls prog 69 #[vT t] w (aJ w (.int .i64 (dF t))):=by
 have A:=al w (cq t);have b0:=fF.new w t;have HI:=hid (h.keep A);have HA:=hid A;have ve:=hid ha;have FH:=h.code.len;clear ha
 by_cases hn:t.code.length<1\/16<t.code.length
 ·rw[RE hn]
  obtain⟨c0,c1,c2,c3,c4,c5,c6,c7,c8,c9,c10,c11⟩:=b0.cells;clear h A;rcases hn with hn|hn
  all_goals
   go_in;go_wp2_with fail;go_ret;exact⟨rfl,HA.out⟩
 have h1:1<=t.code.length:=by omega
 have h16:t.code.length<=16:=by omega
 have nV:=hid hn;clear hn h A;go_in
 go_upto_region 1 with(fail)
 generalize w.alloc (cq t)=W1 at*;obtain⟨c0,c1,c2,c3,c4,c5,c6,c7,c8,c9,c10,c11⟩:=b0.cells;go_wp2_with fail;clear c0 c1 c2 c3 c4 c5 c6 c7 c8 c9 c10 c11
 go_loopw [25] (fun i wr=> ∃k:Nat,k<=t.code.length/\i= .int .i64 k/\Below W1.heap.size W1 wr/\Hid (∀(j:Nat) (x:Cd),j<k->t.code[j]? =some x->x.l.length<=256)) (fun i _=>t.code.length-(intOf i).toNat)
 ·exact⟨0,by omega,rfl,Below.refl _ _,fun j x hj=>absurd hj (anC j)⟩
 obtain⟨k,hk,rfl,E,HK⟩:=hrel
 by_cases hlt:k<t.code.length
 ·obtain⟨x,hx⟩: ∃x,t.code[k]? =some x:=⟨_,am9 hlt⟩
  have p0:=(HI.out.code.below E).cd hx;have ix:=HI.out.code.sO k hlt t.cc;have hxl:=(HI.out.rows x (anw hx)).is.len;have HX:=hid hx;clear hx
  by_cases hl:256<x.l.length
  ·have HZ:=hid (RA nV.out HX.out hl)
   go_wp2_with fail;go_ret;rw[HZ.out];exact⟨rfl,HA.out.trans (E.mono HA.out.size)⟩
  have hl':x.l.length<=256:=by omega
  have cE: ∀(j:Nat) (y:Cd),j<k+1->t.code[j]? =some y->y.l.length<=256:=fun j y hj hy=>by
   rcases anv.1 hj with h|h
   ·exact HK.out j y h hy
   subst h;rw[HX.out]at hy;cases hy;exact hl'
  have cE:=hid cE;clear HK hl;go_wp2_with fail
  go_roundw;exact⟨k+1,by omega,by go_num,E,cE⟩;simp[intOf];omega
 obtain rfl:k=t.code.length:=by omega
 have HR:=hid (RH nV.out (fun k x hx=>HK.out k x (anx.1 hx).1 hx));have HL:=hid (fun(k:Nat) (x:Cd) (hx:t.code[k]? =some x)=>HK.out k x (anx.1 hx).1 hx);obtain⟨c0,c1,c2,c3,c4,c5,c6,c7,c8,c9,c10,c11⟩:=(b0.below E).cells;clear HK hk hlt;go_wp2_with fail;clear c0 c1 c2 c3 c4 c5 c6 c7 c8 c9 c10 c11
 go_loopw [36] (fun i wr2=> ∃k:Nat,k<=t.code.length/\i= .int .i64 k/\Below W1.heap.size W1 wr2/\Hid (kn t.af (t.code.drop k)=dF t)) (fun i _=>t.code.length-(intOf i).toNat)
 ·exact⟨0,by omega,rfl,E,by rw[List.drop_zero];exact HR.out.symm⟩
 clear E;obtain⟨k,hk,rfl,E,HD⟩:=hrel
 by_cases hlt:k<t.code.length
 ·obtain⟨x,hx⟩: ∃x,t.code[k]? =some x:=⟨_,am9 hlt⟩
  have p0:=(HI.out.code.below E).cd hx;have ix:=HI.out.code.sO k hlt t.cc;have wm:=HI.out.rows x (anw hx);have hxl:=wm.is.len;have k7:=hid wm;have hl6:=HL.out k x hx;have HD:=hid (show(if nP t.af x.l=0 then kn t.af (t.code.drop (k+1))else nP t.af x.l)=dF t by rw[<-YY hx];exact HD.out);clear hx wm;go_wp2_with fail;clear p0 ix
  go_loopw [42] (fun i O6=> ∃j:Nat,j<=x.l.length/\i= .int .i64 j/\Below W1.heap.size W1 O6/\Hid (∀(m:Nat) (i:ay),m<j->x.l[m]? =some i->nI t.af i=true)) (fun i _=>x.l.length-(intOf i).toNat)
  ·exact⟨0,by omega,rfl,E,fun j x hj=>absurd hj (anC j)⟩
  clear E;obtain⟨j,hj,rfl,E,HJ⟩:=hrel
  by_cases hjt:j<x.l.length
  ·obtain⟨i,hi⟩: ∃i,x.l[j]? =some i:=⟨_,am9 hjt⟩
   obtain⟨p0,p1,p2,p3,p4,p5,p6,p7⟩:=(k7.out.is.below E).cells hi;have ix:=(k7.out.is.below E).idx j hjt x.c;have hb:=k7.out.rO i (anw hi);have CX:=hid (fun w=>aad i hb.1 w);have CI:=hid (fun w=>CQ i hb.2 w);have sr:=hid hi;clear hi hb;obtain⟨e,he⟩: ∃e:Int,(if nI t.af i=true then 0 else 91)=e:=⟨_,rfl⟩;have HE:=hid he;clear he
   go_upto_region 15 with(fail)
   have A3:=al wr (kj i);have b3:=gH.new wr i;generalize wr.alloc (kj i)=W3 at*;have E:=E.trans (A3.mono E.size);clear p0 p1 p2 p3 p4 p5 p6 p7 ix A3;obtain⟨q0,q1,q2,q3,q4,q5,q6,q7⟩:=b3.cells;have c0:=(b0.below E).cells.1;rcases ve.out with ha|ha
   focus
    have CK:=CX;rw[show dP i=e by rw[<-HE.out,ha];rfl]at CK
   rotate_left
   focus
    have CK:=CI;rw[show gA i=e by rw[<-HE.out,ha];rfl]at CK
   all_goals
    rw[ha]at c0;clear CX CI;go_wp2_with fail;refine(CK.out _).mono ?_;rintro ee w5 ⟨rfl,E5⟩;have E:=E.trans (E5.mono E.size);clear q0 q1 q2 q3 q4 q5 q6 q7 c0 E5 CK;have c0:=(b0.below E).cells.1;rw[ha]at c0
    by_cases bY:nI t.af i=true
    ·have e0:e=0:=by rw[<-HE.out,if_pos bY]
     subst e0
     have gT: ∀(m:Nat) (y:ay),m<j+1->x.l[m]? =some y->nI t.af y=true:=fun m y hm hy=>by
      rcases anv.1 hm with h|h
      ·exact HJ.out m y h hy
      subst h;rw[sr.out]at hy;cases hy;exact bY
     have gT:=hid gT;clear bY HJ sr HE ha;go_wp2_with fail
     go_roundw;exact⟨j+1,by omega,by go_num,E,gT⟩;simp[intOf];omega
    have e0:e=91:=by rw[<-HE.out,if_neg bY]
    subst e0;have HZ:=hid (show dF t=91 by rw[<-HD.out,YL sr.out (by simpa using bY),if_neg (by omega)]);clear bY HJ sr HE ha;go_wp2_with fail;go_ret;rw[HZ.out];exact⟨rfl,HA.out.trans (E.mono HA.out.size)⟩
  obtain rfl:j=x.l.length:=by omega
  have c0:=(b0.below E).cells.1;have sB:=hid (YK (fun m i hi=>HJ.out m i (anx.1 hi).1 hi));rcases ve.out with ha|ha
  ·have HD:=hid (show kn t.af (t.code.drop (k+1))=dF t by rw[<-HD.out,if_pos (by rw[sB.out,ha];rfl)])
   rw[ha]at c0;clear HJ ha sB;go_wp2_with fail
   go_roundw;exact⟨k+1,by omega,by go_num,E,HD⟩;simp[intOf];omega
  rw[ha]at c0;have Bx: ∀i∈x.l,i.label.length<=9223372036854775807:=fun i hi=>(k7.out.rO i hi).2
  have LK:=ahn x.l x.a x.c k7.out.cap Bx wr (k7.out.is.below E);obtain⟨e,he⟩:=aj ((jg x.l).2.1)
  have HD:=hid (show(if e=0 then kn t.af (t.code.drop (k+1))else e)=dF t by
   rw[<-HD.out,show nP t.af x.l=e from by rw[sB.out,if_pos ha,he]])
  have tY:=hid he;have LK:=hid LK;clear HJ he Bx sB ha;go_wp2_with fail;refine LK.out.mono ?_;rintro ee w5 ⟨a5,c5,rfl,o5,E5⟩;rw[tY.out];have E:=E.trans (E5.mono E.size);clear o5 E5 LK c0
  by_cases h0:e=0
  ·subst h0
   have HD:=hid (show kn t.af (t.code.drop (k+1))=dF t from HD.out);go_wp2_with fail
   go_roundw;exact⟨k+1,by omega,by go_num,E,HD⟩;simp[intOf];omega
  have z0:(e != 0)=true:=by simpa using h0
  have HZ:=hid (show dF t=e by rw[<-HD.out,if_neg h0]);clear h0;go_wp2_with fail;go_ret;rw[HZ.out];exact⟨rfl,HA.out.trans (E.mono HA.out.size)⟩
 obtain rfl:k=t.code.length:=by omega
 have HZ:=hid (show dF t=0 by rw[<-HD.out];exact YZ);go_wp2_with fail;go_ret;rw[HZ.out];exact⟨rfl,HA.out.trans (E.mono HA.out.size)⟩
theorem acM(t:aG)(ha:t.af=1)(w:World)(h:iT w t):Calls prog 69 #[vT t] w (aJ w (.int .i64 (dF t))):=SN t (.inl ha) w h
theorem acN(t:aG)(ha:t.af=2)(w:World)(h:iT w t):Calls prog 69 #[vT t] w (aJ w (.int .i64 (dF t))):=SN t (.inr ha) w h
open Go.Maps Go.WideMaps
theorem acJ(t:aG)(oh:t.code.length<=1000)(w:World)(h:iT w t):Calls prog 70 #[vT t] w (aJ w (.int .i64 (iV t))):=by
 have A:=al w (cq t);have b0:=fF.new w t;have HI:=hid (h.keep A);have HA:=hid A;have hil:=h.init.len
 by_cases hn:1024<t.init.length
 ·rw[QY hn]
  obtain⟨c0,c1,c2,c3,c4,c5,c6,c7,c8,c9,c10,c11⟩:=b0.cells;clear h A;go_in;go_wp2_with fail;go_ret;exact⟨rfl,HA.out⟩
 have adh:t.init.length<=1024:=by omega
 have nV:=hid hn;have BK:= @run_makeMap prog;clear hn h A;go_in
 go_upto_region 1 with(fail)
 generalize w.alloc (cq t)=W1 at*;obtain⟨c0,c1,c2,c3,c4,c5,c6,c7,c8,c9,c10,c11⟩:=b0.cells
 go_upto_region 4 with(fail)
 have hM:Seen (W1.alloc (.map #[] 0)) W1.heap.size 0 (.map []):=World.ownsMap_made _ _ _ _;have E0:=al W1 (.map #[] 0);have dV:W1.heap.size<(W1.alloc (.map #[] 0)).heap.size:=by simp
 generalize W1.alloc (.map #[] 0)=W2 at*;obtain⟨mb,hmb⟩:=aj W1.heap.size;rw[hmb]at hM⊢;clear c0 c1 c2 c3 c4 c5 c6 c7 c8 c9 c10 c11;obtain⟨c0,c1,c2,c3,c4,c5,c6,c7,c8,c9,c10,c11⟩:=(b0.below E0).cells;have HMB:=hid hmb;clear hmb dV;go_wp2_with fail;clear c0 c1 c2 c3 c4 c5 c6 c7 c8 c9 c10 c11
 go_loopw [15] (fun i wr=> ∃(k:Nat) (D:DataW Unit),k<=t.init.length/\i= .int .i64 k/\Below W1.heap.size W1 wr/\Seen wr mb k D/\Hid (xg t k/\xd t k/\vt t k D)) (fun i _=>t.init.length-(intOf i).toNat)
 ·exact⟨0,.map [],by omega,rfl,E0,hM,fun j x hj=>absurd hj (anC j),fun i j x y _ hj=>absurd hj (anC j),vt.nil⟩
 clear E0 hM;obtain⟨k,D,hk,rfl,E,hM,HK⟩:=hrel
 by_cases hlt:k<t.init.length
 ·obtain⟨x,hx⟩: ∃x,t.init[k]? =some x:=⟨_,am9 hlt⟩
  obtain⟨p0,p1,p2,p3,p4⟩:=(HI.out.init.below E).ow hx;have ix:=HI.out.init.idx pF mC k hlt t.ic;have hxl:=HI.out.rO x (anw hx);have Gc:=HI.out.wide x (anw hx);have HX:=hid hx;have sE:=hid (anY hxl Gc);have pR:=hid (Mc (gN x) Gc.1 Gc.2 hxl.1);have FS:=hid (fun w=>acO t x hxl.1 hxl.2 oh w);obtain⟨f,hf⟩:=aj (lF t.af t.code.length x);rw[hf]at FS;have HF:=hid hf;clear hx hf hxl Gc
  go_upto_region 8 with(fail)
  have A3:=al wr (kE x);have A4:=eZ A3 (l6 ⟨x.thread,x.az,x.loc⟩);have x0:aA (wr.alloc (kE x)) wr.heap.size (fN x):=aA.new _ _ _;have x0:=x0.below (al (wr.alloc (kE x)) (l6 ⟨x.thread,x.az,x.loc⟩));have y0:aA ((wr.alloc (kE x)).alloc (l6 ⟨x.thread,x.az,x.loc⟩)) (wr.alloc (kE x)).heap.size (lW ⟨x.thread,x.az,x.loc⟩):=aA.new _ _ _;rw[show(wr.alloc (kE x)).heap.size=wr.heap.size+1 by simp]at y0;generalize (wr.alloc (kE x)).alloc (l6 ⟨x.thread,x.az,x.loc⟩)=W5 at*;have E:=E.trans (A4.mono E.size);have hM:=hM.below A4;clear p0 p1 p2 p3 p4 ix A3 A4;obtain⟨c0,c1,c2,c3,c4,c5,c6,c7,c8,c9,c10,c11⟩:=(b0.below E).cells;obtain⟨i0,i1,i2,i3,i4⟩:=x0.fc;obtain⟨j0,j1,j2⟩:=y0.oa
  go_wp2_with (at_lookup;go_loud(refine wpList_lookup_own_int _ rfl _ _ 167 rfl 25 3 .i64 Mg underlying167 underlying3 (amn _) mb k D rfl hM _ _ rfl pR.out ?_))
  intro cc hat hwf;have zT:=hid hat;clear hat hwf
  by_cases hdup: ∃(i:Nat) (y:aL),i<k/\t.init[i]? =some y/\gN y=gN x
  ·have hc:0<cc:=by
    obtain⟨i,y,h1,h2,h3⟩:=hdup;obtain⟨c,hc,-, h4⟩:=(HK.out.2.2 (gN x) sE.out.2.1 sE.out.2.2 sE.out.1.1).1 i y h1 h2 h3;have h5:=zT.out;rw[h4]at h5;cases h5;exact hc
   have HZ:=hid (show iV t=130 by
    obtain⟨i,y,h1,h2,h3⟩:=hdup;exact Q0 nV.out h1 h2 HX.out h3)
   have zc:decide (0<cc)=true:=decide_eq_true hc;clear hdup;go_wp2_with fail;go_ret;rw[HZ.out];exact⟨rfl,HA.out.trans (E.mono HA.out.size)⟩
  have hc:cc=0:=by
   have h4:=(HK.out.2.2 (gN x) sE.out.2.1 sE.out.2.2 sE.out.1.1).2 (fun i y h1 h2 h3=>hdup ⟨i,y,h1,h2,h3⟩);have h5:=zT.out;rw[h4]at h5;cases h5;rfl
  subst hc;have Iy:=hid hdup;clear hdup zT;go_wp2_with fail;refine(FS.out _).mono ?_;rintro e w6 ⟨rfl,E6⟩;have E:=E.trans (E6.mono E.size);have hM:=hM.below E6;have x0:=x0.below E6;have y0:=y0.below E6;clear c0 c1 c2 c3 c4 c5 c6 c7 c8 c9 c10 c11 i0 i1 i2 i3 i4 j0 j1 j2 E6 FS;obtain⟨j0,j1,j2⟩:=y0.oa;cases f with
  | false=>
    have HZ:=hid (QX nV.out HX.out HF.out);go_wp2_with fail;go_ret;rw[HZ.out];exact⟨rfl,HA.out.trans (E.mono HA.out.size)⟩
  | true=>
    have cE:=hid (anY (HK.out.1.snoc HX.out HF.out) (anY (HK.out.2.1.snoc HX.out (fun i y h1 h2 h3=>Iy.out ⟨i,y,h1,h2,h3⟩)) (HK.out.2.2.put (World.ownsMap.isMap hM) HX.out (by omega) sE.out.2.1 sE.out.2.2 sE.out.1.1)));clear HK
    go_wp2_with (at_mapUpdate;go_loud(refine wpList_mapUpdate_own _ rfl _ _ _ 167 rfl 25 3 Mg underlying167 _ mb k D rfl hM cz _ _ _ rfl rfl pR.out _ [] (plainElem_int underlying3 (WalkArith.wf_i64 (by omega))) ?_))
    intro w7 Ko qm;have Ko:Seen w7 mb (k+1) _:=Ko;have E7:Below W1.heap.size W1 w7:=E.grown qm E.size (by intro q hq;cases hq;have:=HMB.out;omega);clear hM qm E j0 j1 j2 x0 y0;go_wp2_with fail
    go_roundw;exact⟨k+1,_,by omega,by go_num,E7,Ko,cE⟩;simp[intOf];omega
 obtain rfl:k=t.init.length:=by omega
 have HZ:=hid (QZ nV.out HK.out.1 HK.out.2.1);go_wp2_with fail;go_ret;rw[HZ.out];exact⟨rfl,HA.out.trans (E.mono HA.out.size)⟩
end Go.Proofs.YtkbbgjloifmmbaaGreatDoor
