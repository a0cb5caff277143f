/- What ReadAgainP leans on, part 13. -/
import Derived.Test.YtkbbgjloifmmbaaGreatDoorPf10
import Derived.Test.YtkbbgjloifmmbaaGreatDoorPf8
import Derived.Test.YtkbbgjloifmmbaaGreatDoorPf9
set_option linter.unusedVariables false
set_option maxRecDepth 100000
set_option maxHeartbeats 25600000
open _root_.Go.Proofs.Tryz
open _root_.Go renaming World->aAX,Calls->aA7
open _root_.Go.Lib renaming OthersKept->aBa
open _root_.Go.RowKit renaming Below->aAW
namespace Go.Proofs.YtkbbgjloifmmbaaGreatDoor
open Go.RowKit Go.Sort
variable{i x:aL}{ag:Int}{code:List aL}{j k:Nat}{nm:Tx}{w:aAX}
theorem alR:jG 1 i=(if fh i then(jP i,0)else([],91)):=by unfold jG;rw[ak rfl]
theorem alQ:jG 2 i=(if cD i then(fH i,0)else([],91)):=by unfold jG;rw[ai ah,ak rfl]
theorem alP(h1:ag≠1)(h2:ag≠2):jG ag i=([],5):=by unfold jG;rw[ai h1,ai h2]
@[reducible] def vP(p:Tx × Int):Value:=.tuple #[.string (tx p.1),.int .i64 p.2]
theorem azO(i:aL)(hl:i.aj.length<=9223372036854775807)(w:aAX)(g:Gl w):aA7 prog 207 #[vI i] w (bg w (vP (jG 1 i))):=by
 rw[alR];cases h:fh i
 ·exact azP i hl h w
 exact azQ i h w g
theorem avp(i:aL)(hl:i.av.length<=9223372036854775807)(w:aAX)(g:Gl w):aA7 prog 208 #[vI i] w (bg w (vP (jG 2 i))):=by
 rw[alQ];cases h:cD i
 ·exact atZ i hl h w
 exact at0 i h w g
theorem anW(ag:Int)(i:aL)(h1:i.aj.length<=9223372036854775807)(h2:i.av.length<=9223372036854775807)(w:aAX)(g:Gl w):
 aA7 prog 124 #[.int .i64 ag,vI i] w (bg w (vP (jG ag i))):=by
 have B:=al w (j6 i);have b0:=iU.new w i
 by_cases ha:ag=1
 ·subst ha
  have PR:=azO i h1 _ (g.below B);generalize jG 1 i=p at*;have PR:=af PR;obtain⟨c0,c1,c2,c3,c4,c5,c6,c7⟩:=b0.cells;go_in;go_wp2_with fail;refine aQ PR.oo fun w1 E=>?_
  have B:=aI B E;go_wp2;exact Oh
 by_cases hb:ag=2
 ·subst hb
  have PR:=avp i h2 _ (g.below B);generalize jG 2 i=p at*;have PR:=af PR;obtain⟨c0,c1,c2,c3,c4,c5,c6,c7⟩:=b0.cells;go_in;go_wp2_with fail;refine aQ PR.oo fun w1 E=>?_
  have B:=aI B E;go_wp2;exact Oh
 have z1:(ag==1)=false:=aS ha
 have z2:(ag==2)=false:=aS hb;rw[alP ha hb];go_in;go_wp2;go_ret2;exact⟨rfl,gD⟩
theorem YJ(lo:Nat)(c:UInt8):mw lo c=(decide (lo<=c.toNat)&&(decide (c.toNat<=126)&&decide (c.toNat≠34))):=rfl
theorem aeK(lo:Nat)(h0:1<=lo)(h1:lo<=34)(l:Tx)(hl:l.length<=9223372036854775807)(w:aAX):aA7 prog 67 #[.string (tx l),.int .u8 lo] w fun e w'=>e= .returned (.bool (rC lo l))/\w=w':=by
 obtain⟨n,hn⟩:=aF ((tx l).size);have qh:l.length=n:=by rw[<-hn,bC]
 have HN:=af qh;rw[qh]at hl;go_in;go_wp2_with fail
 go_loop [5] (fun i=> ∃k:Nat,k<=n/\i= .int .i64 k/\Hid (∀(i:Nat) (x:UInt8),i<k->l[i]? =some x->mw lo x=true)) (fun i=>n-(intOf i).toNat)
 ·exact U6
 obtain⟨k,hk,rfl,HM⟩:=hrel
 by_cases aA:k<n
 ·obtain⟨x,hx⟩: ∃x,l[k]? =some x:=⟨_,aV (by rw[HN.oo];exact aA)⟩
  have ix:=cH l k x hx;have hlt':x.toNat<256:=x.toNat_lt;obtain⟨m,hm⟩:=aF x.toNat;have HC:=af (show mw lo x=(decide (lo<=m)&&(decide (m<=126)&&decide (m≠34))) by rw[YJ,hm]);rw[hm]at ix hlt';have HF:=af (fun h=>YI (lo:=lo) (l:=l) (k:=k) (c:=x) hx h)
  have gJ:mw lo x=true->Hid (∀(i:Nat) (y:UInt8),i<k+1->l[i]? =some y->mw lo y=true):=fun hx' i y hi hy=>by
   rcases fO.1 hi with h|h
   ·exact Fo
   subst h;rw[hx]at hy;cases hy;exact hx'
  have gJ:=af gJ;have hp:m<lo\/(lo<=m/\m=34)\/(lo<=m/\m<=126/\m≠34)\/126<m:=ah;rcases hp with h|⟨h,h'⟩|⟨h,h',h''⟩|h
  all_goals
   (try(have z34:((m:Int)==34)=false:=aC))
   (try subst h')
   go_wp2_with fail
   first
   |(go_round
     case rel=>exact⟨k+1,ah,by go_num,gJ.oo (by rw[HC.oo];simp<;>omega)⟩
     case measure=>simp[intOf];omega)
   |(go_ret
     exact⟨eC ((fun h=>h.symm) (HF.oo (by rw[HC.oo];simp<;>omega))),rfl⟩)
 have HS:=af (YH (lo:=lo) (l:=l) (fun i x hi=>HM.oo i x (by
  have h1:=(bt.1 hi).1;have:=HN.oo
  omega) hi))
 go_wp2;go_ret;exact⟨eC HS.oo.symm,rfl⟩
theorem auJ(l:Tx)(hl:l.length<=9223372036854775807)(w:aAX):aA7 prog 165 #[.string (tx l)] w fun e w'=>e= .returned (.bool (ju l))/\w=w':=by
 obtain⟨n,hn⟩:=aF ((tx l).size);have qh:l.length=n:=by rw[<-hn,bC]
 have HN:=af qh;rw[qh]at hl
 by_cases hb:n<1\/1024<n
 ·have HF:=af (show ju l=false by unfold ju;rw[HN.oo];rcases hb with h|h<;>simp<;>omega)
  rcases hb with h|h
  all_goals
   exact U7
 have eW:1<=n:=ah;have eG:n<=1024:=ah;have HT:=af (show ju l=rC 33 l by unfold ju;rw[HN.oo,eU eW,eU eG];rfl);go_in;go_wp2_with fail
 go_loop [3] (fun i=> ∃k:Nat,k<=n/\i= .int .i64 k/\Hid (∀(i:Nat) (x:UInt8),i<k->l[i]? =some x->mw 33 x=true)) (fun i=>n-(intOf i).toNat)
 ·exact U6
 obtain⟨k,hk,rfl,HM⟩:=hrel
 by_cases aA:k<n
 ·obtain⟨x,hx⟩: ∃x,l[k]? =some x:=⟨_,aV (by rw[HN.oo];exact aA)⟩
  have ix:=cH l k x hx;have hlt':x.toNat<256:=x.toNat_lt;obtain⟨m,hm⟩:=aF x.toNat;have HC:=af (show mw 33 x=(decide (33<=m)&&(decide (m<=126)&&decide (m≠34))) by rw[YJ,hm]);rw[hm]at ix hlt';have HF:=af (fun h=>YI (lo:=33) (l:=l) (k:=k) (c:=x) hx h)
  have gJ:mw 33 x=true->Hid (∀(i:Nat) (y:UInt8),i<k+1->l[i]? =some y->mw 33 y=true):=fun hx' i y hi hy=>by
   rcases fO.1 hi with h|h
   ·exact Fo
   subst h;rw[hx]at hy;cases hy;exact hx'
  have gJ:=af gJ;have hp:m<33\/(33<=m/\m=34)\/(33<=m/\m<=126/\m≠34)\/126<m:=ah;rcases hp with h|⟨h,h'⟩|⟨h,h',h''⟩|h
  all_goals
   (try(have z34:((m:Int)==34)=false:=aC))
   (try subst h')
   go_wp2_with fail
   first
   |(go_round
     case rel=>exact⟨k+1,ah,by go_num,gJ.oo (by rw[HC.oo];simp<;>omega)⟩
     case measure=>simp[intOf];omega)
   |(go_ret
     exact⟨eC ((fun h=>(HT.oo.trans h).symm) (HF.oo (by rw[HC.oo];simp<;>omega))),rfl⟩)
 have HS:=af (YH (lo:=33) (l:=l) (fun i x hi=>HM.oo i x (by
  have h1:=(bt.1 hi).1;have:=HN.oo
  omega) hi))
 go_wp2;go_ret;exact⟨eC (HT.oo.trans HS.oo).symm,rfl⟩
theorem ayR(l:Tx)(hl:l.length<=9223372036854775807)(w:aAX):aA7 prog 68 #[.string (tx l),.string ⟨#[32]⟩] w (bg w (.string (tx (Lib.trimB l 32)))):=by
 refine(Any.strings_Trim_laid Tryz.agk bM (tx l) ⟨#[32]⟩ w (by rw[bC];exact hl) ay (ascii_of_all ay)).mono fun e w' hh=>⟨?_,hh.2⟩
 rw[hh.1,kW,show(⟨#[32]⟩:ByteArray).data.toList=[32]from rfl,Lib.trimS_one];rfl
theorem auS(l:Tx)(hl:l.length<=9223372036854775807)(w:aAX):aA7 prog 166 #[.string (tx l)] w fun e w'=>e= .returned (.bool (jH l))/\w=w':=by
 obtain⟨n,hn⟩:=aF ((tx l).size);have qh:l.length=n:=by rw[<-hn,bC]
 have HN:=af qh;rw[qh]at hl;clear qh
 by_cases hb:262144<n
 ·have HF:=af (show jH l=false by unfold jH;rw[HN.oo,eZ ah];rfl)
  exact U7
 have HT:=af (show jH l=(rC 32 l&&uK l) by unfold jH;rw[HN.oo,eU ah];rfl);go_in;go_wp2_with fail
 go_loop [3] (fun i=> ∃k:Nat,k<=n/\i= .int .i64 k/\Hid (∀(i:Nat) (x:UInt8),i<k->l[i]? =some x->mw 32 x=true)) (fun i=>n-(intOf i).toNat)
 ·exact U6
 obtain⟨k,hk,rfl,HM⟩:=hrel
 by_cases aA:k<n
 ·obtain⟨x,hx⟩: ∃x,l[k]? =some x:=⟨_,aV (by rw[HN.oo];exact aA)⟩
  have ix:=cH l k x hx;have hlt':x.toNat<256:=x.toNat_lt;obtain⟨m,hm⟩:=aF x.toNat;have HC:=af (show mw 32 x=(decide (32<=m)&&(decide (m<=126)&&decide (m≠34))) by rw[YJ,hm]);rw[hm]at ix hlt';have HF:=af (fun h=>YI (lo:=32) (l:=l) (k:=k) (c:=x) hx h)
  have gJ:mw 32 x=true->Hid (∀(i:Nat) (y:UInt8),i<k+1->l[i]? =some y->mw 32 y=true):=fun hx' i y hi hy=>by
   rcases fO.1 hi with h|h
   ·exact Fo
   subst h;rw[hx]at hy;cases hy;exact hx'
  have gJ:=af gJ;clear hm hx HM;have hp:m<32\/(32<=m/\m=34)\/(32<=m/\m<=126/\m≠34)\/126<m:=ah;rcases hp with h|⟨h,h'⟩|⟨h,h',h''⟩|h
  all_goals
   (try(have z34:((m:Int)==34)=false:=aC))
   (try subst h')
   go_wp2_with fail
   first
   |(go_round
     case rel=>exact⟨k+1,ah,by go_num,gJ.oo (by rw[HC.oo];simp<;>omega)⟩
     case measure=>simp[intOf];omega)
   |(go_ret
     exact⟨eC ((fun h=>(HT.oo.trans (by rw[h,Cf])).symm) (HF.oo (by rw[HC.oo];simp<;>omega))),rfl⟩)
 have HS:=af (YH (lo:=32) (l:=l) (fun i x hi=>HM.oo i x (by
  have h1:=(bt.1 hi).1;have:=HN.oo
  omega) hi))
 by_cases hz:n=0
 ·have HF:=af (show uK l=true by have:=lH (HN.oo.trans hz);rw[this];rfl)
  have HT:=af (HT.oo.trans (show(rC 32 l&&uK l)=true by rw[HS.oo,HF.oo,Tt]));subst hz;clear HM HS HF;go_wp2;go_ret;exact⟨eC HT.oo.symm,rfl⟩
 obtain⟨m,hm⟩: ∃m,n=m+1:=⟨n-1,ah⟩
 obtain⟨x,hx⟩: ∃x,l[0]? =some x:=⟨_,aV (by rw[HN.oo];omega)⟩;obtain⟨y,hy⟩: ∃y,l[m]? =some y:=⟨_,aV (by rw[HN.oo];omega)⟩;have ix:=oU l x hx;have iy:=cH l m y hy;rw[show(m:Int)=(n:Int)-1 by omega]at iy;have uR:l.head?=some x:=by rw[SJ];exact hx
 have gh:l.getLast?=some y:=by rw[Er,HN.oo,hm];exact hy
 have aN:l.isEmpty=false:=by cases l with
  |nil=>have:=HN.oo;simp at this;omega
  |cons _ _=>rfl
 obtain⟨p,hp⟩:=aF x.toNat;obtain⟨q,hq⟩:=aF y.toNat
 have afx:(some x != some (32:UInt8))=decide (p≠32):=by
  rw[jE];simp[<-hp,<-tD]
 have afy:(some y != some (32:UInt8))=decide (q≠32):=by
  rw[jE];simp[<-hq,<-tD]
 have HT:=af (show jH l=(decide (p≠32)&&decide (q≠32)) by rw[HT.oo,HS.oo];unfold uK;rw[uR,gh,afx,afy,aN];rfl);rw[hp]at ix;rw[hq]at iy;clear hx hy uR gh aN hp hq afx afy HM HS hm;have h1n:(1:Int)<=n:=ah;have z0:((n:Int)==0)=false:=aC;clear hz
 by_cases hp:p=32
 ·subst hp
  go_wp2;go_ret;exact⟨eC (by rw[HT.oo];first|rfl|simp[h1n,z0]|(simp;omega)),rfl⟩
 have zp:((p:Int) != 32)=true:=aC
 by_cases hq:q=32
 ·subst hq
  go_wp2;go_ret;exact⟨eC (by rw[HT.oo];first|rfl|(simp<;>omega)),rfl⟩
 have zq:((q:Int) != 32)=true:=aC
 go_wp2;go_ret;exact⟨eC (by rw[HT.oo];first|rfl|(simp[hp,hq]<;>omega)),rfl⟩
open Go.Maps
attribute [local go_sem high] wL jO
theorem asv(code:List aL)(k:Nat):(oN code k).length=k:=by simp[oN]
theorem asw(code:List aL)(k:Nat):oN code (k+1)=oN code k++[(iT code k).getD (-1)]:=by simp[oN,Nb]
theorem aq8(h:code.length<=256)(hc: ∀j (hj:j<code.length),cD code[j]=true)(hk:k<code.length)(h1:iT code k=none)(h2: ∀j,j<k->iT code j≠none):kQ code=([],93,(k:Int)):=
 Pz h hc hk ((DK code k).2 h1) (fun j hj e=>h2 j hj ((DK code j).1 e))
theorem aq9(h:code.length<=256)(hc: ∀j (hj:j<code.length),cD code[j]=true)(h2: ∀j,j<code.length->iT code j≠none):kQ code=(oN code code.length,0,0):=by
 have h3: ∀j,j<code.length->lE code j≠none:=fun j hj e=>h2 j hj ((DK code j).1 e)
 rw[agC h hc h3,ahx code h3]
theorem axH(hi:code[k]? =some i)(h1:i.op≠12)(h2:i.op≠11):iT code k=some (-1):=by
 unfold iT;rw[hi];simp only;rw[ai h1,ai h2]
theorem axF(hi:code[k]? =some i)(h1:i.op=12)(h: ∀j x,j<k->code[j]? =some x->dN i.av x=false):iT code k=some (-1):=by
 unfold iT;rw[hi];simp only;rw[ak h1,ai];intro ha;rw[qN]at ha;obtain⟨x,hx,hp⟩:=ha;obtain⟨j,hj,he⟩:=IU.1 hx;simp at hj;rw[M5]at he;rw[h j x ah (by rw[aV ah,he])]at hp;cases hp
theorem axJ(hi:code[k]? =some i)(h1:i.op=12)(hj:j<k)(hx:code[j]? =some x)(hp:dN i.av x=true):iT code k=none:=by
 unfold iT;rw[hi];simp only;rw[ak h1,ak];obtain⟨aA,he⟩:=bt.1 hx;refine qN.2 ⟨x,?_,hp⟩;rw[aau];exact⟨j,ah,he⟩
theorem axI(hi:code[k]? =some i)(h1:i.op=11)(hj:k<j)(hx:code[j]? =some x)(hp:dN i.av x=true)(h: ∀m y,k<m->m<j->code[m]? =some y->dN i.av y=false):iT code k=some (j:Int):=by
 unfold iT;rw[hi];simp only;rw[ai ah,ak h1];obtain⟨aA,he⟩:=bt.1 hx
 have:(code.drop (k+1)).findIdx? (dN i.av)=some (j-(k+1)):=by
  rw[Ji];refine⟨ aC,?_,fun m hm=>?_⟩
  ·rw[Jb]
   have:code[k+1+(j-(k+1))]'ah=x:=by
    have e:k+1+(j-(k+1))=j:=ah;simp only[e];exact he
   rw[this];exact hp
  rw[Jb]
  rw[h (k+1+m) _ ah ah (aV ah)];simp
 rw[this];simp only[wC]
 congr 2;omega
theorem axG(hi:code[k]? =some i)(h1:i.op=11)(h: ∀m y,k<m->code[m]? =some y->dN i.av y=false):iT code k=none:=by
 unfold iT;rw[hi];simp only;rw[ai ah,ak h1]
 have:(code.drop (k+1)).findIdx? (dN i.av)=none:=by
  rw[ML];intro x hx;obtain⟨j,hj,rfl⟩:=IU.1 hx;rw[Jb];simp at hj;exact h (k+1+j) _ ah (aV ah)
 rw[this];rfl
theorem af6(h:x.op≠12):dN nm x=false:=by
 cases hb:dN nm x with
 |false=>rfl
 |true=>exact absurd (xd.1 hb).1 h
theorem af7(h:x.av≠nm):dN nm x=false:=by
 cases hb:dN nm x with
 |false=>rfl
 |true=>exact absurd (xd.1 hb).2 h
theorem awj(code:List aL)(a:Option Addr)(c:Nat)(hl:256<code.length)(w:aAX):aA7 prog 242 #[.slice a code.length c] w (mc (kQ code) w):=by
 obtain⟨r,hr⟩:=aF (kQ code);rw[hr];have HK:=af (show r=([],2,0) by rw[<-hr,agB hl]);have hz:decide (256<(code.length:Int))=true:=aC;generalize code.length=n at*;go_in;go_wp2_with fail
 go_ret3
 exact mc.nil HK.oo rfl (bS _ _)
theorem awk(code:List aL)(a:Option Addr)(c:Nat)(hl:code.length<=256)(hL: ∀i∈code,i.av.length<=9223372036854775807)(w:aAX)(hI:Is w a code):
 aA7 prog 242 #[.slice a code.length c] w (mc (kQ code) w):=by
 obtain⟨r,hr⟩:=aF (kQ code);rw[hr];have HR:=af hr;obtain⟨n,hn⟩:=aF code.length;have HN:=af hn;have HL:=af hL;have hz:decide (256<(n:Int))=false:=aC;have Ee:=af hI;have HG:=af (fun(k:Nat) (hk:k<n)=>show ∃i,code[k]? =some i from⟨_,aV ah⟩);have yH:=hI.idx;rw[hn]at yH;have HX:=af yH;rw[hn]at hl⊢;go_in;go_wp2
 go_loopw [6] (fun i wr=> ∃k:Nat,k<=n/\i= .int .i64 k/\Hid (∀j (hj:j<code.length),j<k->cD code[j]=true)/\aAW w.heap.size w wr) (fun i _=>n-(intOf i).toNat)
 ·exact⟨0,ah,rfl,af (fun j hj h'=>absurd h' (iz j)),bS _ _⟩
 obtain⟨k,hk,rfl,HC,E⟩:=hrel;have hI:=Ee.oo.below E
 by_cases aA:k<n
 ·obtain⟨i,hi⟩:=HG.oo k aA
  have hik:code[k]'(bE HN.oo)=i:=fU ((aV (bE HN.oo)).symm.trans hi);obtain⟨p0,p1,p2,p3,p4,p5,p6,p7⟩:=hI.cells hi;have ix:=HX.oo k aA;have CK:=af (fun(w:aAX)=>Qn i (HL.oo i (by rw[<-hik];exact x8 _)) w);have HI:=af hik;cases fE:cD i
  ·have hE:=kL fE
   rw[hE]at CK
   have HF:=af (show r=([],91,(k:Int)) by
    rw[<-HR.oo];exact agA (bE HN.oo) (bE HN.oo) (by rw[HI.oo];exact fE) HC.oo)
   go_wp2_with fail;refine aQ (CK.oo _) fun w2 E2=>?_
   have E:=aI E E2;go_wp2_with fail
   go_ret3
   exact mc.nil HF.oo rfl E
  have hE:=wM fE
  rw[hE]at CK
  have H6:=af (show ∀j (hj:j<code.length),j<k+1->cD code[j]=true from fun j hj hjk=>by
   by_cases hh:j=k
   ·subst hh;rw[HI.oo];exact fE
   exact HC.oo j hj ah)
  go_wp2_with fail;refine aQ (CK.oo _) fun w2 E2=>?_
  have E:=aI E E2;go_wp2
  go_roundw;exact⟨k+1,ah,by go_num,H6,E⟩;exact ep
 obtain rfl:k=n:=ah
 have qE:=af (show ∀j (hj:j<code.length),cD code[j]=true from fun j hj=>HC.oo j hj (bE HN.oo));generalize k=n at*;go_wp2
 go_loopw [7,8] (fun o i wr=> ∃(k:Nat) (a':Option Addr) (c':Nat),k<=n/\i= .int .i64 k/\o= .slice a' k c'/\fT wr w.heap.size a' k c' (oN code k)/\Hid (∀j,j<k->iT code j≠none)/\aAW w.heap.size w wr) (fun _ i _=>n-(intOf i).toNat)
 ·exact⟨0,none,0,ah,rfl,rfl,au.nil _ _ _ _,af (fun j h'=>absurd h' (iz j)),E⟩
 obtain⟨k,a',c',hk,rfl,rfl,o,HS,E⟩:=hrel;have hI:=Ee.oo.below E
 by_cases aA:k<n
 ·obtain⟨i,hi⟩:=HG.oo k aA
  obtain⟨p0,p1,p2,p3,p4,p5,p6,p7⟩:=hI.cells hi;have ix:=HX.oo k aA;have hcl:k<code.length:=by have:=HN.oo;omega
  have Zz:=af (fun(h:iT code k=none)=>show r=([],93,(k:Int))from HR.oo.symm.trans (aq8 (bE HN.oo) qE.oo hcl h HS.oo))
  have Ro:=af (fun(t:Int) (h:iT code k=some t)=>show(∀j,j<k+1->iT code j≠none)/\oN code (k+1)=oN code k++[t]from⟨fun j hj e=>by
   by_cases hh:j=k
   ·subst hh;rw[h]at e;cases e
   exact HS.oo j ah e,by rw[asw,h];rfl⟩)
  have Bu:=af hi
  by_cases h12:i.op=12
  ·have L9:=af h12
   rw[h12]at p0;have z12:(i.op==12)=true:=aS h12;go_wp2
   go_loopw [10] (fun jv wq=> ∃m:Nat,m<=k/\jv= .int .i64 m/\QW wr wq/\Hid (∀j x,j<m->code[j]? =some x->dN i.av x=false)) (fun jv _=>k-(intOf jv).toNat)
   ·exact⟨0,ah,rfl,QW.refl _,af (fun j x h=>absurd h (iz j))⟩
   obtain⟨m,hm,rfl,⟨q,rfl⟩,HM⟩:=hrel
   by_cases hmk:m<k
   ·obtain⟨x,hx⟩:=HG.oo m ah
    obtain⟨x0,x1,x2,x3,x4,x5,x6,x7⟩:=hI.cells hx;have jx:=HX.oo m ah
    by_cases yM:x.op=12
    ·rw[yM]at x0
     by_cases hxl:x.av=i.av
     ·have HB:=af (Zz.oo (axJ Bu.oo L9.oo hmk hx (xd.2 ⟨yM,hxl⟩)))
      have zl:((tx x.av).toList==(tx i.av).toList)=true:=by rw[j9];simpa using hxl
      have zl':(x.av==i.av)=true:=aS hxl;go_wp2_with fail
      go_quiet (fail)
      go_wp2_with fail
      go_ret3
      exact mc.nil HB.oo rfl (E.trans ((QW.below ⟨_,by first|rfl|exact World.drewN_drewN _ _ _⟩).mono E.size))
     have gJ:=af (show ∀j y,j<m+1->code[j]? =some y->dN i.av y=false from fun j y hj hy=>by
      rcases fO.1 hj with h|h
      ·exact HM.oo j y h hy
      subst h;rw[hx]at hy;cases hy;exact af7 hxl)
     have zl:((tx x.av).toList==(tx i.av).toList)=false:=qA hxl;go_wp2_with fail
     go_quiet (fail)
     go_wp2
     exact aen
    have gJ:=af (show ∀j y,j<m+1->code[j]? =some y->dN i.av y=false from fun j y hj hy=>by
     rcases fO.1 hj with h|h
     ·exact HM.oo j y h hy
     subst h;rw[hx]at hy;cases hy;exact af6 yM)
    have zx:(x.op==12)=false:=aS yM;go_wp2_with fail
    go_quiet (fail)
    go_wp2
    exact aen
   obtain rfl:m=k:=ah
   have HST:=af (axF Bu.oo L9.oo HM.oo);obtain⟨hs1,hs2⟩:=Ro.oo _ HST.oo;have BD:=af hs1;have l7:=af hs2;have QB:=QW.below (w:=wr) ⟨q,rfl⟩;have E:=aI E QB;have o:=au.below o QB
   go_wp2_with (at_builtin;go_loud(refine mR vg (.tmp 110) (.tmp 112) rfl rfl rfl o rfl rfl kP E E.size ah dx ?_))
   intro a3 c3 w3 o3 g3 B3;have o4:fT w3 w.heap.size a3 (m+1) c3 (oN code (m+1)):=by rw[l7.oo];simpa[fT,ints]using o3
   go_wp2
   go_roundw;exact⟨m+1,a3,c3,ah,by go_num,rfl,o4,BD,B3⟩;exact ep
  have z12:(i.op==12)=false:=aS h12
  have L9:=af h12
  by_cases h11:i.op=11
  ·have Zv:=af h11
   rw[h11]at p0;go_wp2
   go_loopw [9,11] (fun tv jv wq=> ∃m:Nat,k<m/\m<=n/\jv= .int .i64 m/\QW wr wq/\((tv= .int .i64 (-1)/\Hid (∀j y,k<j->j<m->code[j]? =some y->dN i.av y=false))\/(∃t:Nat,tv= .int .i64 t/\Hid (iT code k=some (t:Int))))) (fun tv jv _=>n-(intOf jv).toNat)
   ·exact⟨k+1,ah,ah,by go_num,QW.refl _,.inl ⟨rfl,af (fun j y h1 h2=>by omega)⟩⟩
   obtain⟨m,hkm,hm,rfl,⟨q,rfl⟩,⟨rfl,HM⟩|⟨t,rfl,HT⟩⟩:=hrel
   ·by_cases hmn:m<n
    ·obtain⟨x,hx⟩:=HG.oo m hmn
     obtain⟨x0,x1,x2,x3,x4,x5,x6,x7⟩:=hI.cells hx;have jx:=HX.oo m hmn
     by_cases yM:x.op=12
     ·rw[yM]at x0
      by_cases hxl:x.av=i.av
      ·have HB:=af (axI Bu.oo Zv.oo hkm hx (xd.2 ⟨yM,hxl⟩) HM.oo)
       have zl:((tx x.av).toList==(tx i.av).toList)=true:=by rw[j9];simpa using hxl
       go_wp2_with fail
       go_quiet (fail)
       go_wp2
       go_roundw;exact⟨m+1,ah,ah,by go_num,oJ,.inr ⟨m,rfl,HB⟩⟩;exact ep
      have gJ:=af (show ∀j y,k<j->j<m+1->code[j]? =some y->dN i.av y=false from fun j y hkj hj hy=>by
       rcases fO.1 hj with h|h
       ·exact HM.oo j y hkj h hy
       subst h;rw[hx]at hy;cases hy;exact af7 hxl)
      have zl:((tx x.av).toList==(tx i.av).toList)=false:=qA hxl;go_wp2_with fail
      go_quiet (fail)
      go_wp2
      exact aeo
     have gJ:=af (show ∀j y,k<j->j<m+1->code[j]? =some y->dN i.av y=false from fun j y hkj hj hy=>by
      rcases fO.1 hj with h|h
      ·exact HM.oo j y hkj h hy
      subst h;rw[hx]at hy;cases hy;exact af6 yM)
     have zx:(x.op==12)=false:=aS yM;go_wp2_with fail
     go_quiet (fail)
     go_wp2
     exact aeo
    have HB:=af (Zz.oo (axG Bu.oo Zv.oo (fun j y hkj hy=>HM.oo j y hkj (by have:=(bt.1 hy).1;have:=HN.oo;omega) hy)))
    have QB:=QW.below (w:=wr) ⟨q,rfl⟩;have E:=aI E QB;go_wp2_with fail
    go_ret3
    exact mc.nil HB.oo rfl E
   obtain⟨hs1,hs2⟩:=Ro.oo _ HT.oo
   have BD:=af hs1;have l7:=af hs2;have QB:=QW.below (w:=wr) ⟨q,rfl⟩;have E:=aI E QB;have o:=au.below o QB;have ht0: ¬((t:Int)<0):=ah;have ht1:decide ((t:Int)<0)=false:=aq;rcases iA m n with ape|ape
   ·skip
    go_wp2_with (at_builtin;go_loud(refine mR vg (.tmp 110) (.tmp 112) rfl rfl rfl o rfl rfl kP E E.size ah dx ?_))
    intro a3 c3 w3 o3 g3 B3;have o4:fT w3 w.heap.size a3 (k+1) c3 (oN code (k+1)):=by rw[l7.oo];simpa[fT,ints]using o3
    go_wp2
    exact U8
   skip
   go_wp2_with (at_builtin;go_loud(refine mR vg (.tmp 110) (.tmp 112) rfl rfl rfl o rfl rfl kP E E.size ah dx ?_))
   intro a3 c3 w3 o3 g3 B3;have o4:fT w3 w.heap.size a3 (k+1) c3 (oN code (k+1)):=by rw[l7.oo];simpa[fT,ints]using o3
   go_wp2
   exact U8
  have HST:=af (axH hi L9.oo h11)
  have LW:(i.op==11)=false:=aS h11;obtain⟨hs1,hs2⟩:=Ro.oo _ HST.oo;have BD:=af hs1;have l7:=af hs2
  go_wp2_with (at_builtin;go_loud(refine mR vg (.tmp 110) (.tmp 112) rfl rfl rfl o rfl rfl kP E E.size ah dx ?_))
  intro a3 c3 w3 o3 g3 B3;have o4:fT w3 w.heap.size a3 (k+1) c3 (oN code (k+1)):=by rw[l7.oo];simpa[fT,ints]using o3
  go_wp2
  exact U8
 obtain rfl:k=n:=ah
 have HF:=af (show r=(oN code k,0,0) by rw[<-HR.oo,aq9 (bE HN.oo) qE.oo (fun j hj=>HS.oo j (bE HN.oo)),HN.oo]);go_wp2_with fail
 go_ret3
 exact mc.of HF.oo rfl (asv _ _) o E
theorem awi(code:List aL)(a:Option Addr)(c:Nat)(hL: ∀i∈code,i.av.length<=9223372036854775807)(w:aAX)(hI:Is w a code):
 aA7 prog 242 #[.slice a code.length c] w (mc (kQ code) w):=by
 by_cases hl:code.length<=256
 ·exact awk code a c hl hL w hI
 exact awj code a c ah w
theorem auU(ag:Int)(ha:ag=1\/ag=2)(i:aL)(h1:i.aj.length<=9223372036854775807)(h2:i.av.length<=9223372036854775807)(w:aAX):aA7 prog 241 #[.int .i64 ag,vI i] w (bg w (.int .i64 (if kO ag i=true then 0 else 91))):=by
 have A:=al w (j6 i);obtain⟨c0,c1,c2,c3,c4,c5,c6,c7⟩:=(iU.new w i).cells;rcases ha with rfl|rfl
 focus
  have CK:=af (fun w=>avh i h1 w);rw[show(if kO 1 i=true then(0:Int)else 91)=fI i from rfl];generalize fI i=e at*
 rotate_left
 focus
  have CK:=af (fun w=>Qn i h2 w);rw[show(if kO 2 i=true then(0:Int)else 91)=iX i from rfl];generalize iX i=e at*
 all_goals
  go_in;go_wp2_with fail;refine(CK.oo _).mono ?_;rintro ee w1 ⟨rfl,E⟩;have B:=aI A E;go_wp2;go_ret;exact⟨rfl,B⟩
theorem aiu(t:aT)(ha:t.ag=1\/t.ag=2)(w:aAX)(h:jz w t):aA7 prog 167 #[vT t] w (bg w (.int .i64 (ew t))):=by
 have A:=al w (dZ t);have b0:=kf.new w t;have HI:=af (h.keep A);have HA:=af A;have Bq:=af ha;have hcl:=h.code.len
 by_cases hn:t.code.length<1\/16<t.code.length
 ·rw[abw hn]
  obtain⟨c0,c1,c2,c3,c4,c5,c6,c7,c8,c9,c10,c11⟩:=b0.cells;rcases hn with hn|hn
  all_goals
   exact adW
 have h1:1<=t.code.length:=ah
 have FD:t.code.length<=16:=ah;have sQ:=af hn;go_in;go_upto_region 1 with(fail);generalize w.alloc (dZ t)=W1 at*;obtain⟨c0,c1,c2,c3,c4,c5,c6,c7,c8,c9,c10,c11⟩:=b0.cells;go_wp2_with fail
 go_loopw [3] (fun i wr=> ∃k:Nat,k<=t.code.length/\i= .int .i64 k/\aAW W1.heap.size W1 wr/\Hid (∀(j:Nat) (x:Cd),j<k->t.code[j]? =some x->x.l.length<=256)) (fun i _=>t.code.length-(intOf i).toNat)
 ·exact adX
 obtain⟨k,hk,rfl,E,HK⟩:=hrel;obtain⟨c0,c1,c2,c3,c4,c5,c6,c7,c8,c9,c10,c11⟩:=(b0.below E).cells
 by_cases aA:k<t.code.length
 ·obtain⟨x,hx⟩: ∃x,t.code[k]? =some x:=⟨_,aV aA⟩
  have p0:=(HI.oo.code.below E).cd hx;have ix:=HI.oo.code.uH k aA t.cc;have hxl:=(HI.oo.rows x (cV hx)).is.len;have HX:=af hx
  by_cases hl:256<x.l.length
  ·have HZ:=af (abv sQ.oo HX.oo hl)
   exact qc
  have hl':x.l.length<=256:=ah
  have fC: ∀(j:Nat) (y:Cd),j<k+1->t.code[j]? =some y->y.l.length<=256:=fun j y hj hy=>by
   rcases fO.1 hj with h|h
   ·exact HK.oo j y h hy
   subst h;rw[HX.oo]at hy;cases hy;exact hl'
  have fC:=af fC;go_wp2_with fail
  exact JO
 obtain rfl:k=t.code.length:=ah
 have HR:=af (abx sQ.oo (fun k x hx=>HK.oo k x (bt.1 hx).1 hx));have HL:=af (fun(k:Nat) (x:Cd) (hx:t.code[k]? =some x)=>HK.oo k x (bt.1 hx).1 hx);go_wp2_with fail
 go_loopw [4] (fun i wr2=> ∃k:Nat,k<=t.code.length/\i= .int .i64 k/\aAW W1.heap.size W1 wr2/\Hid (lC t.ag (t.code.drop k)=ew t)) (fun i _=>t.code.length-(intOf i).toNat)
 ·exact adY
 obtain⟨k,hk,rfl,E,HD⟩:=hrel;obtain⟨c0,c1,c2,c3,c4,c5,c6,c7,c8,c9,c10,c11⟩:=(b0.below E).cells
 by_cases aA:k<t.code.length
 ·obtain⟨x,hx⟩: ∃x,t.code[k]? =some x:=⟨_,aV aA⟩
  have ix:=HI.oo.code.uH k aA t.cc;have uZ:=HI.oo.rows x (cV hx);have hxl:=uZ.is.len;have mD:=af uZ;have HXG:=af hx;have hl6:=HL.oo k x hx;have HD:=af (show(if qu t.ag x.l=0 then lC t.ag (t.code.drop (k+1))else qu t.ag x.l)=ew t by rw[<-ajg hx];exact HD.oo);go_wp2_with fail
  go_loopw [5] (fun i Zl=> ∃j:Nat,j<=x.l.length/\i= .int .i64 j/\aAW W1.heap.size W1 Zl/\Hid (∀(m:Nat) (i:aL),m<j->x.l[m]? =some i->kO t.ag i=true)) (fun i _=>x.l.length-(intOf i).toNat)
  ·exact adZ
  obtain⟨j,hj,rfl,E,HJ⟩:=hrel;obtain⟨c0,c1,c2,c3,c4,c5,c6,c7,c8,c9,c10,c11⟩:=(b0.below E).cells;have p0:=(HI.oo.code.below E).cd HXG.oo
  by_cases eX:j<x.l.length
  ·obtain⟨i,hi⟩: ∃i,x.l[j]? =some i:=⟨_,aV eX⟩
   obtain⟨q0,q1,q2,q3,q4,q5,q6,q7⟩:=(mD.oo.is.below E).cells hi;have Kt:=(mD.oo.is.below E).idx j eX x.c;have hb:=mD.oo.vo i (cV hi);have CK:=af (fun w=>auU t.ag Bq.oo i hb.1 hb.2 w);have Mh:=af hi;obtain⟨e,he⟩: ∃e:Int,(if kO t.ag i=true then 0 else 91)=e:=⟨_,rfl⟩;rw[he]at CK;have HE:=af he;go_wp2_with fail;have cA:=fun(d:Nat) (os:Array Obj)=>Calls.regrown_of (yY (CK.oo (grow (redrawn wr d) os)))
   have q0:=cell_regrown q0;have q1:=cell_regrown q1;have q2:=cell_regrown q2;have q3:=cell_regrown q3;have q4:=cell_regrown q4;have q5:=cell_regrown q5;have q6:=cell_regrown q6;have q7:=cell_regrown q7;have c0:=cell_regrown c0;have c4:=cell_regrown c4;have p0:=cell_regrown p0;refine wp_region_quiet_below bM bM ?_
   repeat(go_big_quiet_step (exact cA _ _))
   refine mW ?_;intro _ hw';obtain⟨⟨dq,dJ⟩,hw''⟩:=hw';subst hw'';have EQ:=below_regrown wr dq dJ;generalize grow (redrawn wr dq) dJ=W5 at*;have E:=aI E EQ
   by_cases fE:kO t.ag i=true
   ·have e0:e=0:=by rw[<-HE.oo,ak fE]
    subst e0
    have mB: ∀(m:Nat) (y:aL),m<j+1->x.l[m]? =some y->kO t.ag y=true:=fun m y hm hy=>by
     rcases fO.1 hm with h|h
     ·exact HJ.oo m y h hy
     subst h;rw[Mh.oo]at hy;cases hy;exact fE
    have mB:=af mB;go_wp2_with fail
    exact JP
   have e0:e=91:=by rw[<-HE.oo,ai fE]
   exact ad1
  obtain rfl:j=x.l.length:=ah
  have Ij:=af (ai0 (fun m i hi=>HJ.oo m i (bt.1 hi).1 hi));rcases Bq.oo with ha|ha
  ·have HD:=af (show lC t.ag (t.code.drop (k+1))=ew t by rw[<-HD.oo,ak (by rw[Ij.oo,ha];rfl)])
   rw[ha]at c0;go_wp2_with fail
   exact Of
  rw[ha]at c0;have VD: ∀i∈x.l,i.av.length<=9223372036854775807:=fun i hi=>(mD.oo.vo i hi).2
  have LK:=awi x.l x.a x.c VD wr (mD.oo.is.below E);obtain⟨e,he⟩:=aF ((kQ x.l).2.1)
  have HD:=af (show(if e=0 then lC t.ag (t.code.drop (k+1))else e)=ew t by
   rw[<-HD.oo,show qu t.ag x.l=e from by rw[Ij.oo,ak ha,he]])
  have By:=af he;have LK:=af LK;go_wp2_with fail;refine LK.oo.mono ?_;rintro ee w5 ⟨a5,c5',rfl,o5,E5⟩;rw[By.oo];have E:=aI E E5
  by_cases h0:e=0
  ·subst h0
   have HD:=af (show lC t.ag (t.code.drop (k+1))=ew t from HD.oo);go_wp2_with fail
   exact Of
  have z0:(e != 0)=true:=aS h0
  exact ad2
 obtain rfl:k=t.code.length:=ah
 exact ad3
theorem auQ(t:aT)(ha:t.ag=1)(w:aAX)(h:jz w t):aA7 prog 167 #[vT t] w (bg w (.int .i64 (ew t))):=aiu t (.inl ha) w h
theorem auR(t:aT)(ha:t.ag=2)(w:aAX)(h:jz w t):aA7 prog 167 #[vT t] w (bg w (.int .i64 (ew t))):=aiu t (.inr ha) w h
theorem abZ(k:Int)(w:aAX):aA7 prog 210 #[.int .i64 k] w (zU w (.bool (weak true k))):=by
 by_cases h4:k=4
 ·subst h4
  go_in;go_wp2;go_ret;exact⟨rfl,oJ⟩
 have z4:(k==4)=false:=aS h4
 have e:weak true k=(k==5):=by unfold weak;rw[eZ h4];simp only[wm,pZ];rw[jE];simp
 exact aep
theorem anc(k:Int)(w:aAX):aA7 prog 214 #[.int .i64 k] w (zU w (.bool (weak false k))):=by
 have e:weak false k=(k==5):=by unfold weak;simp only[Cf,pZ];rw[jE];simp
 exact aep
abbrev lW:TypeId:=153
def ID(w0 w:aAX)(b:Nat)(ag:Int)(l:Tx)(e:Ending)(w':aAX):Prop:=
 e= .returned (.tuple #[])/\dR w' w0.heap.size b lW [.int .i64 ag] l/\aAW w0.heap.size w0 w'/\aBa gN (some b) w w'
def Ek(ag:Int)(x:Nd):Prop:= ∀(w0 w:aAX) (b:Nat) (l:Tx),fZ w0 x->Gl w0->aAW w0.heap.size w0 w->dR w w0.heap.size b lW [.int .i64 ag] l->l.length+100*lN x<=1000000->
 aA7 prog 126 #[.pointer (some ⟨b,0,none⟩),vN x] w (ID w0 w b ag (l++fN ag x))
theorem PY:28≠gN:=ay
theorem yV{w0:aAX}{b:Nat}{l:Tx}(s:Tx)(hB:aAW w0.heap.size w0 w)(h:dR w w0.heap.size b lW [.int .i64 ag] l)(hl:l.length+s.length<=2000000):
 aA7 prog 56 #[.pointer (some ⟨b,0,none⟩),.string (tx s)] w fun e w'=>e= .returned (.tuple #[.int .i64 s.length,.nilIface])/\dR w' w0.heap.size b lW [.int .i64 ag] (l++s)/\aAW w0.heap.size w0 w'/\aBa gN (some b) w w':=
 (Fa w0.heap.size b lW [.int .i64 ag] l s w alD h ah hB.size).mono fun e w' ⟨he,h1,h2,h3⟩=>⟨he,h1,hB.trans h2,h3⟩
theorem tX{b:Option Nat}{u v:aAX}(h:aBa gN b u v)(k:aBa gN b v w):aBa gN b u w:=h.trans k
theorem abF(ag:Int)(x:Nd)(br:Bool)(H:Ek ag x)(ho:eo ag x)(w0 w:aAX)(b:Nat)(l:Tx)(hI:fZ w0 x)(g:Gl w0)(hB:aAW w0.heap.size w0 w)(hP:dR w w0.heap.size b lW [.int .i64 ag] l)(hl:l.length+10+100*lN x<=1000000):
 aA7 prog 212 #[.pointer (some ⟨b,0,none⟩),vN x,.bool br] w (ID w0 w b ag (l++lT br (fN ag x))):=by
 have iP:=hP.base;have aN:w.heap.size≠b:=ah;have B:=al w (bY x);have hP:=hP.below B;have hB:=aI hB B;have KB:=GC (some b) B;have b0:eO (w.alloc (bY x)) w.heap.size (cN x) 28:=eO.new w _ _;have HI:=af hI;have HG:=af g;have HH:=af H;have qh:=Lo ho;cases br
 ·have HN:=HH.oo w0 (w.alloc (bY x)) b l HI.oo HG.oo hB hP ah
  have HN:=af HN;have HE:=af (show lT false (fN ag x)=fN ag x from rfl);rw[HE.oo];generalize fN ag x=s at*;go_in;go_wp2_with fail;refine HN.oo.mono ?_;rintro e w1 ⟨rfl,hP,hB,K⟩;have K:=tX KB K;go_wp2
  go_end0
  exact⟨rfl,hP,hB,K⟩
 have W1:=yV [40] hB hP aC
 have W1:=af W1;have HE:=af (show l++lT true (fN ag x)=l++[40]++fN ag x++[41] by unfold lT;rw[ak rfl];simp);rw[HE.oo];go_in;go_wp2_with fail;refine W1.oo.mono ?_;rintro e w1 ⟨rfl,hP,hB,K⟩;have b1:=b0.others K aN PY;have K1:=tX KB K;obtain⟨q0,q1,q2,q3,q4,q5⟩:w1.cell? ⟨w.heap.size,0,none⟩=some (.int .i64 x.kind)/\w1.cell? ⟨w.heap.size,1,none⟩=some (.int .i64 x.th.aO)/\w1.cell? ⟨w.heap.size,2,none⟩=some (.int .i64 x.th.aR)/\w1.cell? ⟨w.heap.size,3,none⟩=some (.string (tx x.th.aj))/\w1.cell? ⟨w.heap.size,4,none⟩=some (.int .i64 x.val)/\w1.cell? ⟨w.heap.size,5,none⟩=some (.slice x.a x.aP.length x.c):=⟨b1.get 0 _ rfl,b1.get 1 _ rfl,b1.get 2 _ rfl,b1.get 3 _ rfl,b1.get 4 _ rfl,b1.get 5 _ rfl⟩;have HN:=af (HH.oo w0 w1 b (l++[40]) HI.oo HG.oo hB hP aC);go_wp2_with fail;refine HN.oo.mono ?_;rintro e w2 ⟨rfl,hP,hB,K⟩;have K1:=tX K1 K;have W2:=af (yV [41] hB hP aC);go_wp2_with fail;refine W2.oo.mono ?_;rintro e w3 ⟨rfl,hP,hB,K⟩;have K1:=tX K1 K;go_wp2
 go_end0
 exact⟨rfl,hP,hB,K1⟩
theorem abG(F:Nat)(and:Bool)(sep:Tx)(hF:F=210\/F=214)(WK0: ∀(k:Int) (w:aAX),aA7 prog F #[.int .i64 k] w (zU w (.bool (weak and k))))(uY:sep.length=4)(ag:Int)(a:Option Addr)(c:Nat)(ks:List Nd)(ho: ∀y∈ks,eo ag y)(H: ∀y∈ks,Ek ag y)(w0 w:aAX)(b:Nat)(l:Tx)(hE:cQ cN w0 a ks)(hI: ∀y∈ks,fZ w0 y)(g:Gl w0)(hB:aAW w0.heap.size w0 w)(hP:dR w w0.heap.size b lW [.int .i64 ag] l)(hl:l.length+100*gb ks<=999900):
 aA7 prog 213 #[.pointer (some ⟨b,0,none⟩),.slice a ks.length c,.string (tx sep),.func (.func F) #[] #[]] w (ID w0 w b ag (l++kE ag and sep ks)):=by
 obtain⟨n,hn⟩:=aF ks.length;have HN:=af hn;have gF:=hE.len;rw[hn]at gF⊢;have HO:=af ho;have HH:=af H;have HI:=af hI;have HG:=af g;have HE:=af hE;have WK:=af WK0;have K0:=Ta gN (some b) w;clear ho H hI g hE hn WK0;rcases hF with rfl|rfl
 all_goals
  go_in;go_wp2_with fail
  go_loopw [12] (fun i wr=> ∃(k:Nat) (t:Tx),k<=n/\i= .int .i64 k/\dR wr w0.heap.size b lW [.int .i64 ag] (l++t)/\aAW w0.heap.size w0 wr/\aBa gN (some b) w wr/\Hid (t=kE ag and sep (ks.take k))) (fun i _=>n-(intOf i).toNat)
  ·exact⟨0,[],dW _,rfl,by rw[jD];exact hP,hB,K0,af (by rw[x9,Ln])⟩
  obtain⟨k,t,hk,rfl,hP,hB,K,HT⟩:=hrel
  by_cases hlk:k<n
  ·obtain⟨y,hy⟩: ∃y,ks[k]? =some y:=⟨_,aV (by rw[HN.oo];exact hlk)⟩
   have lS:=cV hy;have Vv:=HE.oo.below hB;obtain⟨p0,p1,p2,p3,p4,p5⟩:=Vv.nd hy;have ix:=Vv.idx qo nN k (by rw[HN.oo];exact hlk) c;rw[HN.oo]at ix;have htk:=ax7 (ag:=ag) (and:=and) (sep:=sep) hy;have hlen:=ax5 (ag:=ag) (and:=and) (sep:=sep) ah (l:=ks.take k) (fun z hz=>HO.oo z (Eu hz))
   have Ki:gb (ks.take k)+lN y<=gb ks:=by
    have h1:=yu (ks.take (k+1)) (ks.drop (k+1));rw[qL]at h1
    have h2:ks.take (k+1)=ks.take k++[y]:=by
     exact N9
    rw[h2,yu,qT,yw]at h1;omega
   rw[<-HT.oo]at hlen htk;have hA:aAW wr.heap.size wr (wr.alloc (bY y)):=al wr (bY y);have wT:=hP.below hA;have qf:=aI hB hA;have KA:=tX K (GC (some b) hA);have bA:eO (wr.alloc (bY y)) wr.heap.size (cN y) 28:=eO.new wr _ _;have aN:wr.heap.size≠b:=by have:=hP.base;omega
   have KD:=af (fun(w1:aAX) (l1:Tx) (hB:aAW w0.heap.size w0 w1) (hP:dR w1 w0.heap.size b lW [.int .i64 ag] l1) (h:l1.length+10+100*lN y<=1000000)=>abF ag y (weak and y.kind) (HH.oo y lS) (HO.oo y lS) w0 w1 b l1 (HI.oo y lS) HG.oo hB hP h);have WK:=af (WK.oo y.kind);obtain⟨wk,hwk⟩:=aF (weak and y.kind);rw[hwk]at KD WK htk;obtain⟨s1,hs1⟩:=aF (lT wk (fN ag y));rw[hs1]at KD htk;obtain⟨T,hT⟩:=aF (t++(if k=0 then[]else sep));rw[hT]at htk;have ig:=af htk.symm
   have hTl:T.length<=t.length+4:=by
    rw[<-hT,bu];split
    ·simp
    omega
   clear hwk hs1 Vv lS hy hP hB K hA htk
   by_cases h0:k=0
   focus
    rw[ak h0,jD]at hT;subst h0;obtain rfl:T=t:=hT.symm;simp only[td,gK,Int.ofNat_zero]at p0 p1 p2 p3 p4 p5 ix;have ig:Hid (T++s1=kE ag and sep (ks.take 1)):=ig;clear HT hk;go_upto_region 5 with(fail);generalize wr.alloc (bY y)=W1 at*
   rotate_left
   focus
    have zk:(0:Int)<k:=ah;rw[ai h0]at hT;have h0':0<k:=ah;clear HT h0;go_upto_region 4 with(fail);generalize wr.alloc (bY y)=W0 at*;have W4:=af (yV sep qf wT (by rw[bu];omega));clear wT qf p0 p1 p2 p3 p4 p5 ix;go_wp2_with fail;refine W4.oo.mono ?_;rintro e W1 ⟨rfl,wT,qf,K4⟩;have KA:=tX KA K4;have bA:=bA.others K4 aN PY;rw[dA,hT]at wT;clear W4 K4 hT;go_wp2_with fail
   all_goals
    have u0:=bA.get 0 _ rfl;have u1:=bA.get 1 _ rfl;have u2:=bA.get 2 _ rfl;have u3:=bA.get 3 _ rfl;have u4:=bA.get 4 _ rfl;have u5:=bA.get 5 _ rfl;obtain⟨W2,J6⟩: ∃W2:aAX,W2=W1.drew:=⟨_,rfl⟩;have dB:=below_drewN W1 1;have wT:dR W2 w0.heap.size b lW [.int .i64 ag] (l++T):=by rw[J6];exact wT.below dB
    have qf:aAW w0.heap.size w0 W2:=by rw[J6];exact aI qf dB
    have KA:aBa gN (some b) w W2:=by rw[J6];exact tX KA (GC (some b) dB)
    have bA:eO W2 wr.heap.size (cN y) 28:=by rw[J6];exact bA.below dB
    subst J6
    go_region_held3 (fun w'=>w'.cell? ⟨wr.heap.size,0,none⟩=some (.int .i64 y.kind)/\w'.cell? ⟨wr.heap.size,1,none⟩=some (.int .i64 y.th.aO)/\w'.cell? ⟨wr.heap.size,2,none⟩=some (.int .i64 y.th.aR)/\w'.cell? ⟨wr.heap.size,3,none⟩=some (.string (tx y.th.aj))/\w'.cell? ⟨wr.heap.size,4,none⟩=some (.int .i64 y.val)/\w'.cell? ⟨wr.heap.size,5,none⟩=some (.slice y.a y.aP.length y.c)) (first|exact⟨by assumption,by assumption,by assumption,by assumption,by assumption,by assumption⟩|go_keep)
     (first
      |((first|go_at_call 210|go_at_call 214);refine(WK.oo _).mono ?_;rintro e w5 ⟨rfl,Q⟩;have Q:=Q.below;have u0:=(Q.cell (k8 u0)).trans u0;have u1:=(Q.cell (k8 u1)).trans u1;have u2:=(Q.cell (k8 u2)).trans u2;have u3:=(Q.cell (k8 u3)).trans u3;have u4:=(Q.cell (k8 u4)).trans u4;have u5:=(Q.cell (k8 u5)).trans u5;have bA:=bA.below Q;have wT:=wT.below Q;have KA:=tX KA (GC (some b) Q);have qf:=aI qf Q;clear Q)
      |(go_at_call 212;refine(KD.oo _ _ qf wT (by simp only[bu];omega)).mono ?_;rintro e w6 ⟨rfl,wT,qf,K6⟩;have KA:=tX KA K6;have bA:=bA.others K6 aN PY;clear K6;have u0:=bA.get 0 _ rfl;have u1:=bA.get 1 _ rfl;have u2:=bA.get 2 _ rfl;have u3:=bA.get 3 _ rfl;have u4:=bA.get 4 _ rfl;have u5:=bA.get 5 _ rfl))
    clear u0 u1 u2 u3 u4 u5 bA;go_wp2_with fail
    go_roundw;exact⟨_,T++s1,ah,by go_num,by rw[<-dA];assumption,by assumption,by assumption,ig⟩;exact ep
  obtain rfl:k=n:=ah
  have ig:=af (show kE ag and sep ks=t by rw[HT.oo,<-HN.oo,jC]);clear HT;go_wp2_with fail
  go_end0
  exact⟨rfl,by rw[ig.oo];exact hP,hB,K⟩
theorem amv(ag:Int)(a:Option Addr)(c:Nat)(ks:List Nd)(ho: ∀y∈ks,eo ag y)(H: ∀y∈ks,Ek ag y)(w0 w:aAX)(b:Nat)(l:Tx)(hE:cQ cN w0 a ks)(hI: ∀y∈ks,fZ w0 y)(g:Gl w0)(hB:aAW w0.heap.size w0 w)(hP:dR w w0.heap.size b lW [.int .i64 ag] l)(hl:l.length+100*gb ks<=999900):
 aA7 prog 213 #[.pointer (some ⟨b,0,none⟩),.slice a ks.length c,.string ⟨#[32,47,92,32]⟩,.func (.func 210) #[] #[]] w (ID w0 w b ag (l++kE ag true rA ks)):=
 abG _ true rA ay abZ rfl ag a c ks ho H w0 w b l hE hI g hB hP hl
theorem amw(ag:Int)(a:Option Addr)(c:Nat)(ks:List Nd)(ho: ∀y∈ks,eo ag y)(H: ∀y∈ks,Ek ag y)(w0 w:aAX)(b:Nat)(l:Tx)(hE:cQ cN w0 a ks)(hI: ∀y∈ks,fZ w0 y)(g:Gl w0)(hB:aAW w0.heap.size w0 w)(hP:dR w w0.heap.size b lW [.int .i64 ag] l)(hl:l.length+100*gb ks<=999900):
 aA7 prog 213 #[.pointer (some ⟨b,0,none⟩),.slice a ks.length c,.string ⟨#[32,92,47,32]⟩,.func (.func 214) #[] #[]] w (ID w0 w b ag (l++kE ag false rB ks)):=
 abG _ false rB ay anc rfl ag a c ks ho H w0 w b l hE hI g hB hP hl
structure qG(w0 w wx:aAX)(b:Nat)(ag:Int)(x:Nd)(l:Tx):Prop where
 uF:dR wx w0.heap.size b lW [.int .i64 ag] l
 cF:aAW w0.heap.size w0 wx
 yU:aBa gN (some b) w wx
 blk:eO wx w.heap.size (cN x) 28
 g:Gl wx
section
variable {w0 w wx wy:aAX} {b:Nat} {ag:Int} {x:Nd} {l l2:Tx}
theorem qG.new(x:Nd)(g:Gl w0)(hB:aAW w0.heap.size w0 w)(hP:dR w w0.heap.size b lW [.int .i64 ag] l):qG w0 w (w.alloc (bY x)) b ag x l:=
 have B:=al w (bY x)
 ⟨hP.below B,aI hB B,GC (some b) B,eO.new w _ _,g.below (aI hB B)⟩
theorem qG.below(h:qG w0 w wx b ag x l)(Q:aAW wx.heap.size wx wy):qG w0 w wy b ag x l:=
 ⟨h.uF.below Q,aI h.cF Q,tX h.yU (GC (some b) Q),h.blk.below Q,h.g.below Q⟩
theorem qG.drew(h:qG w0 w wx b ag x l):qG w0 w wx.drew b ag x l:=h.below (below_drewN wx 1)
theorem qG.wrote(h:qG w0 w wx b ag x l)(g:Gl w0)(aN:w.heap.size≠b)(hP:dR wy w0.heap.size b lW [.int .i64 ag] l2)(hB:aAW w0.heap.size w0 wy)(K:aBa gN (some b) wx wy):qG w0 w wy b ag x l2:=
 ⟨hP,hB,tX h.yU K,h.blk.others K aN PY,g.below hB⟩
theorem qG.all(h:qG w0 w wx b ag x l):wx.cell? ⟨w.heap.size,0,none⟩=some (.int .i64 x.kind)/\wx.cell? ⟨w.heap.size,1,none⟩=some (.int .i64 x.th.aO)/\wx.cell? ⟨w.heap.size,2,none⟩=some (.int .i64 x.th.aR)/\wx.cell? ⟨w.heap.size,3,none⟩=some (.string (tx x.th.aj))/\wx.cell? ⟨w.heap.size,4,none⟩=some (.int .i64 x.val)/\wx.cell? ⟨w.heap.size,5,none⟩=some (.slice x.a x.aP.length x.c)/\wx.cell? ⟨b,2,none⟩=some (.int .i64 ag):=
 ⟨h.blk.get 0 _ rfl,h.blk.get 1 _ rfl,h.blk.get 2 _ rfl,h.blk.get 3 _ rfl,h.blk.get 4 _ rfl,h.blk.get 5 _ rfl,by have v:=h.uF.rest 0 _ rfl;simpa only[jT]using v⟩
end
theorem asz(ag:Int): ∀(x:Nd),eo ag x->Ek ag x:=by
 intro x
 induction x using Nd.ind with
 | h x ih=>
   intro ho w0 w b l hI g hB hP hl;have OX: ∀y∈x.aP,Ek ag y:=fun y hy=>ih y hy (ho.gZ y hy)
   have hcn:=Cr x;have aN:w.heap.size≠b:=by have:=hP.base;omega
   have V:=af (qG.new x g hB hP);have HG:=af g;rcases yS ho.may with⟨h1,h2⟩|⟨h1,h2,h3,h4⟩|⟨h1,h2⟩|⟨h1,h2⟩|⟨h1,h2⟩
   focus
    have z1:(x.kind==1)=true:=by rw[h1];rfl
    have E:=af (show fN ag x=[116,114,117,101] by rw[sL,ak h1]);clear h1 h2
   rotate_left
   have z1:(x.kind==1)=false:=by rw[h1];rfl
   have z2:(x.kind==2)=true:=by rw[h1];rfl
   have Gd:=Ds h3;have l2:=Ks h3;obtain⟨s2,hs2⟩:=aF (Lib.itoa x.val);have IT:=af (show ∀(w:aAX),Gl w->aA7 prog 57 #[.int .i64 x.val] w (bg w (.string (tx s2)))from fun w g=>hs2▸tU x.val ah ah w g);rw[hs2]at l2
   have ll:x.th.aj.length<=32:=by
    rcases Lp h2 with⟨a1,a2,a3⟩|⟨i,k,a1,a2,a3⟩
    ·exact(pM a3).2
    rw[a1];simp
   obtain⟨t1,t2,Pe,gh,c1,c2⟩:=Ug (vb:=⟨#[61]⟩) x.th.aj [61] s2 rfl rfl rfl sB;simp only[cy,je]at gh;rcases Lp h2 with⟨a1,a2,a3⟩|⟨i,k,a1,a2,a3⟩
   focus
    have zt:decide (0<=x.th.aO)=false:=eZ ah;have zt2: ¬0<=x.th.aO:=ah;have E:=af (show fN ag x=t2 by rw[sL,ai ah,ak h1];unfold wF;rw[ayk a1,hs2,Pe]);have HL:=af (show l.length+t2.length<=2000000 by omega);clear h1 h2 h3 h4 a1 a2 a3 Gd hs2 Pe gh l2 ll
   rotate_left
   focus
    have e1:x.th.aO=i:=by rw[a1]
    have e2:x.th.aR=k:=by rw[a1]
    have zt:decide (0<=x.th.aO)=true:=eU ah;have zt2:0<=x.th.aO:=ah;have l3:=Lib.itoa_length_le x.th.aO ah ah;have l4:=aiI (ag:=ag) (k:=k) a3;obtain⟨s3,hs3⟩:=aF (Lib.itoa x.th.aO);obtain⟨s4,FV⟩:=aF (dy ag k);have IH:=af (show ∀(w:aAX),Gl w->aA7 prog 57 #[.int .i64 x.th.aO] w (bg w (.string (tx s3)))from fun w g=>hs3▸tU x.th.aO ah ah w g);have RG:=af (show ∀(w:aAX),aA7 prog 211 #[.int .i64 ag,.int .i64 x.th.aR] w (bg w (.string (tx s4)))from fun w=>FV▸e2▸abR ag k a3 w);rw[hs3]at l3;rw[FV]at l4;obtain⟨t3,t4,ht4,hl4,c3,c4⟩:=Ug (vb:=⟨#[58]⟩) s3 [58] s4 rfl rfl rfl sB;simp only[cy,je]at hl4
    have E:=af (show l++fN ag x=l++t4++t2 by
     rw[sL,ai ah,ak h1,<-Pe,<-ht4,<-hs2,<-hs3,<-FV,e1];unfold wF;rw[a1,ayl];simp)
    have HL7:=af (show l.length+t4.length<=2000000 by omega);have HL:=af (show(l++t4).length+t2.length<=2000000 by rw[bu];omega);clear h1 h2 h3 h4 a1 a2 a3 Gd hs2 Pe gh l2 ll e1 e2 l3 l4 hs3 FV ht4 hl4
   rotate_left
   focus
    obtain⟨y,hy⟩: ∃y,x.aP=[y]:=SK.1 h2;have lS:y∈x.aP:=by rw[hy];simp
    have z1:(x.kind==1)=false:=by rw[h1];rfl
    have z2:(x.kind==2)=false:=by rw[h1];rfl
    have z3:(x.kind==3)=true:=by rw[h1];rfl
    have E:=af (show fN ag x=[126]++lT (weak true y.kind) (fN ag y) by rw[sL,ai ah,ai ah,ak h1,hy,y9,rE,jD];rfl);have wU:gb x.aP=lN y:=by rw[hy,qT,yw];rfl
    have HX:=af (show x.aP[0]? =some y/\0<x.aP.length by rw[hy];simp);have KD:=af (fun(w1:aAX) (l1:Tx) (hB:aAW w0.heap.size w0 w1) (hP:dR w1 w0.heap.size b lW [.int .i64 ag] l1) (h:l1.length+10+100*lN y<=1000000)=>abF ag y (weak true y.kind) (OX y lS) (ho.gZ y lS) w0 w1 b l1 (hI.gZ y lS) g hB hP h);have WK:=af (abZ y.kind);have HI:=af hI;clear h1 h2 hy lS
   rotate_left
   focus
    have z1:(x.kind==1)=false:=by rw[h1];rfl
    have z2:(x.kind==2)=false:=by rw[h1];rfl
    have z3:(x.kind==3)=false:=by rw[h1];rfl
    have z4:(x.kind==4)=true:=by rw[h1];rfl
    have E:=af (show fN ag x=kE ag true rA x.aP by rw[sL,ai ah,ai ah,ai ah,ak h1]);have KD:=af (amv ag x.a x.c x.aP ho.gZ OX w0 (w.alloc (bY x)) b l hI.els hI.gZ g V.oo.cF V.oo.uF ah);clear h1 h2
   rotate_left
   focus
    have z1:(x.kind==1)=false:=by rw[h1];rfl
    have z2:(x.kind==2)=false:=by rw[h1];rfl
    have z3:(x.kind==3)=false:=by rw[h1];rfl
    have z4:(x.kind==4)=false:=by rw[h1];rfl
    have z5:(x.kind==5)=true:=by rw[h1];rfl
    have E:=af (show fN ag x=kE ag false rB x.aP by rw[sL,ai ah,ai ah,ai ah,ai ah]);have KD:=af (amw ag x.a x.c x.aP ho.gZ OX w0 (w.alloc (bY x)) b l hI.els hI.gZ g V.oo.cF V.oo.uF ah);clear h1 h2
   rotate_left
   all_goals
    clear ho OX ih hI g hB hP;go_in;go_upto_region 1 with(fail);generalize w.alloc (bY x)=W1 at*;obtain⟨u0,u1,u2,u3,u4,u5,v2⟩:=V.oo.all
   ·have W4:=af (yV [116,114,117,101] V.oo.cF V.oo.uF aC)
    go_wp2_with fail;refine W4.oo.mono ?_;rintro e w2 ⟨rfl,hP,hB,K⟩;have V:=af (V.oo.wrote HG.oo aN hP hB K);go_wp2_with fail
    go_end0
    exact aeq
   rotate_left 2
   ·have W4:=af (yV [126] V.oo.cF V.oo.uF aC)
    go_wp2_with fail;refine W4.oo.mono ?_;rintro e w2 ⟨rfl,hP,hB,K⟩;have V:=af (V.oo.wrote HG.oo aN hP hB K).drew;clear u0 u1 u2 u3 u4 u5 v2 W4 hP hB K;go_wp2_with fail;have gY:=HI.oo.keep V.oo.cF;obtain⟨p0,p1,p2,p3,p4,p5⟩:=gY.els.nd HX.oo.1;have ix:=gY.els.idx qo nN 0 HX.oo.2 x.c;simp only[td,gK,Int.ofNat_zero]at p0 p1 p2 p3 p4 p5 ix;obtain⟨-, -, -, -, -, u5, -⟩:=V.oo.all;clear gY;obtain⟨wk,hwk⟩:=aF (weak true y.kind);rw[hwk]at KD WK E;clear hwk
    go_region_held3 (fun w'=>w'.cell? ⟨w.heap.size,5,none⟩=some (.slice x.a x.aP.length x.c)/\w'.cell? ⟨bk x.a,fo x.a,none⟩=some (.int .i64 y.kind)/\w'.cell? ⟨bk x.a,fo x.a+1,none⟩=some (.int .i64 y.th.aO)/\w'.cell? ⟨bk x.a,fo x.a+2,none⟩=some (.int .i64 y.th.aR)/\w'.cell? ⟨bk x.a,fo x.a+3,none⟩=some (.string (tx y.th.aj))/\w'.cell? ⟨bk x.a,fo x.a+4,none⟩=some (.int .i64 y.val)/\w'.cell? ⟨bk x.a,fo x.a+5,none⟩=some (.slice y.a y.aP.length y.c)) (first|exact⟨by assumption,by assumption,by assumption,by assumption,by assumption,by assumption,by assumption⟩|go_keep)
     (first
      |(go_at_call 210;refine(WK.oo _).mono ?_;rintro e w5 ⟨rfl,Q⟩;have Q:=Q.below;have V:=af (V.oo.below Q);obtain⟨-, -, -, -, -, u5, -⟩:=V.oo.all;have p0:=(Q.cell (k8 p0)).trans p0;have p1:=(Q.cell (k8 p1)).trans p1;have p2:=(Q.cell (k8 p2)).trans p2;have p3:=(Q.cell (k8 p3)).trans p3;have p4:=(Q.cell (k8 p4)).trans p4;have p5:=(Q.cell (k8 p5)).trans p5;clear Q)
      |(go_at_call 212;refine(KD.oo _ _ V.oo.cF V.oo.uF (by simp only[bu,yj];omega)).mono ?_;rintro e w6 ⟨rfl,hP,mm,K6⟩;have V:=af (V.oo.wrote HG.oo aN hP mm K6);obtain⟨-, -, -, -, -, u5, -⟩:=V.oo.all;have gY:=HI.oo.keep mm;obtain⟨p0,p1,p2,p3,p4,p5⟩:=gY.els.nd HX.oo.1;simp only[td,gK]at p0 p1 p2 p3 p4 p5;clear gY))
    clear u5 p0 p1 p2 p3 p4 p5 ix;go_wp2_with fail
    go_end0
    exact⟨rfl,by rw[E.oo,<-dA];exact V.oo.uF,V.oo.cF,V.oo.yU⟩
   iterate 2
    focus
     go_wp2_with fail;refine KD.oo.mono ?_;rintro e w2 ⟨rfl,hP,hB,K⟩;go_wp2_with fail
     go_end0
     exact⟨rfl,by rw[E.oo];exact hP,hB,tX V.oo.yU K⟩
   rotate_left
   focus
    go_wp2_with fail;have V:=af V.oo.drew;obtain⟨u0,u1,u2,u3,u4,u5,v2⟩:=V.oo.all
    go_region_held3 (fun w'=>w'.cell? ⟨w.heap.size,1,none⟩=some (.int .i64 x.th.aO)/\w'.cell? ⟨w.heap.size,2,none⟩=some (.int .i64 x.th.aR)/\w'.cell? ⟨b,2,none⟩=some (.int .i64 ag)) (first|exact⟨by assumption,by assumption,by assumption⟩|go_keep)
     (first
      |(go_at_call 57;refine(IH.oo _ V.oo.g).mono ?_;rintro e w5 ⟨rfl,Q⟩;have V:=af (V.oo.below Q);obtain⟨u0,u1,u2,u3,u4,u5,v2⟩:=V.oo.all;clear Q)
      |(go_at_call 211;refine(RG.oo _).mono ?_;rintro e w5 ⟨rfl,Q⟩;have V:=af (V.oo.below Q);obtain⟨u0,u1,u2,u3,u4,u5,v2⟩:=V.oo.all;clear Q)
      |(go_at_call 56;refine(yV t4 V.oo.cF V.oo.uF HL7.oo).mono ?_;rintro e w6 ⟨rfl,hP,mm,K6⟩;have V:=af (V.oo.wrote HG.oo aN hP mm K6);clear K6 mm hP;obtain⟨u0,u1,u2,u3,u4,u5,v2⟩:=V.oo.all))
   all_goals
    go_wp2_with fail;have V:=af V.oo.drew;obtain⟨u0,u1,u2,u3,u4,u5,v2⟩:=V.oo.all
    go_region_held3 (fun w'=>w'.cell? ⟨w.heap.size,3,none⟩=some (.string (tx x.th.aj))/\w'.cell? ⟨w.heap.size,4,none⟩=some (.int .i64 x.val)) (first|exact⟨by assumption,by assumption⟩|go_keep)
     (first
      |(go_at_call 57;refine(IT.oo _ V.oo.g).mono ?_;rintro e w5 ⟨rfl,Q⟩;have V:=af (V.oo.below Q);obtain⟨u0,u1,u2,u3,u4,u5,v2⟩:=V.oo.all;clear Q)
      |(go_at_call 56;refine(yV t2 V.oo.cF V.oo.uF HL.oo).mono ?_;rintro e w6 ⟨rfl,hP,mm,K6⟩;have V:=af (V.oo.wrote HG.oo aN hP mm K6);clear K6 mm hP;obtain⟨u0,u1,u2,u3,u4,u5,v2⟩:=V.oo.all))
    go_wp2_with fail
    go_end0
    exact aeq
theorem amS(ag q:Int)(x:Nd)(w:aAX)(hI:fZ w x)(he:dh ag q x=0)(g:Gl w):
 aA7 prog 60 #[.int .i64 ag,vC q x] w (bg w (.tuple #[.string (tx (kD ag q x)),.int .i64 0])):=by
 obtain⟨-, hq1,qX,ho,hn⟩:=Ap he;have B:=al w (kR q x);have b0:eO (w.alloc (kR q x)) w.heap.size (cC q x) 30:=eO.new w _ _;have CH:=NH ag q x (w.alloc (kR q x)) (hI.keep B);rw[he]at CH;have CH:=af CH;have HI:=af (hI.keep B);have HG:=af (g.below B);have HO:=af ho;have qh:=Lo ho;clear hI g he ho;go_in;go_wp2_with fail;refine CH.oo.mono ?_;rintro e1 w1 ⟨rfl,E1⟩;have b1:=b0.below E1;have hI:=HI.oo.keep E1;have g:=HG.oo.below E1;have B:=aI B E1;have ZA:=af B;have hbw:w.heap.size<w1.heap.size:=b1.lt;have aN:w.heap.size≠w1.heap.size:=ah;clear HI HG CH b0 E1;have A:=al w1 (.cells #[.pointer none,.slice none 0 0,.int .i64 ag] lW);have hP:dR (w1.alloc (.cells #[.pointer none,.slice none 0 0,.int .i64 ag] lW)) w1.heap.size w1.heap.size lW [.int .i64 ag] []:=dR.new w1 lW [.int .i64 ag];have bA:=b1.below A;have QQ:=af (And.intro A (And.intro hP bA));clear A hP bA b1;go_wp2_with fail;obtain⟨hB,hP,bA⟩:=QQ.oo;clear QQ;generalize w1.alloc (.cells #[.pointer none,.slice none 0 0,.int .i64 ag] lW)=W1 at*;have u9:=bA.get 0 _ rfl;have dB:=below_drewN W1 1;have hP:=hP.below dB;have hB:=aI hB dB;have bA:=bA.below dB;have hP:dR W1.drew w1.heap.size w1.heap.size lW [.int .i64 ag] []:=hP;have hB:aAW w1.heap.size w1 W1.drew:=hB;have bA:eO W1.drew w.heap.size (cC q x) 30:=bA;have aB:=al W1.drew (.cells #[.string ⟨#[]⟩,.string ⟨#[101,120,105,115,116,115,32,40]⟩,.string ⟨#[126,101,120,105,115,116,115,32,40]⟩,.string ⟨#[102,111,114,97,108,108,32,40]⟩] 9)
 have hP:=hP.below aB;have hB:=aI hB aB;have HA:=af (bA.below aB);have u0:=bA.get 0 _ rfl;have aA:w.heap.size<W1.heap.size:=bA.lt;have hh:(pK q).length<=9:=by unfold pK;split<;>(try split)<;>simp
 have W4:=af (yV (pK q) hB hP aC);have E:=af (show kD ag q x=pK q++fN ag x++[41]from rfl);clear hB hP bA aB dB;have hq:q=1\/q=2\/q=3:=ah;have HQ:=af hq;clear hq hq1 qX hh;have HD:=af (show ∀z,q=z->w1.heap.size=w1.heap.size/\pK q=pK z from fun z hz=>⟨rfl,by rw[hz]⟩);rcases HQ.oo with rfl|rfl|rfl
 all_goals
  clear HQ HD
  go_region_with (go_at_call 56;refine W4.oo.mono ?_;rintro e2 w2 ⟨rfl,hP,hB,K⟩)
  all_goals
   have bA:=HA.oo.others K aN ay;have u1:=bA.get 1 _ rfl;have u2:=bA.get 2 _ rfl;have u3:=bA.get 3 _ rfl;have u4:=bA.get 4 _ rfl;have u5:=bA.get 5 _ rfl;have u6:=bA.get 6 _ rfl;have ND:=af (asz ag x HO.oo w1 w2 w1.heap.size _ hI g hB hP (by simp only[eE,pK];simp;omega));clear bA K hP hB;go_wp2_with fail;refine ND.oo.mono ?_;rintro e3 w3 ⟨rfl,hP,hB,K⟩;have W5:=af (yV [41] hB hP (by simp only[eE,pK];simp;omega));clear K hP hB u1 u2 u3 u4 u5 u6;go_wp2_with fail;refine W5.oo.mono ?_;rintro e4 w4 ⟨rfl,hP,hB,K⟩;have ST:=af (TZ _ _ _ _ _ w4 hP aq);clear K hP;go_wp2_with fail;refine ST.oo.mono ?_;rintro e5 w5 ⟨rfl,E5⟩;have BZ:=ZA.oo.trans ((hB.trans E5).mono ZA.oo.size);go_wp2_with fail;go_ret2;exact⟨Yy (by rw[E.oo,dA]) rfl,BZ⟩
end Go.Proofs.YtkbbgjloifmmbaaGreatDoor
