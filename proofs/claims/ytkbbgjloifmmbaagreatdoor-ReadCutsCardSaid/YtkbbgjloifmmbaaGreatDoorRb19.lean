/- What ReadBackP leans on, part 19. -/
import Derived.Test.YtkbbgjloifmmbaaGreatDoorRb18
set_option linter.unusedVariables false
set_option maxRecDepth 100000
set_option maxHeartbeats 6400000
namespace Go.Proofs.YtkbbgjloifmmbaaGreatDoor
open _root_.Go.Proofs.Tryz
open _root_.Option renaming some->aos
open _root_.Nat renaming le_refl->amS
open _root_.List renaming length_append->aoE,length_drop->aoJ,dropWhile_suffix->aoI
open Go.RowKit Go.Sort
theorem Bx(p:Value)(er k:Int)(w:World):Calls prog 76 #[p,.int .i64 er,.int .i64 k] w (fun e w'=>e= .panicked [{ v:=.iface 65 (.agg #[.int .i64 er,.int .i64 k]),recovered:=false }]/\Below w.heap.size w w'):=by
 go_in;go_wp2_with fail;exact⟨rfl,rfl,aN⟩
theorem US(l:Tx)(hl:l.length<=262144)(w:World):Calls prog 75 #[.string (tx l)] w fun e w'=> ∃a,e= .returned (.slice a (bM [] l).length (bM [] l).length)/\cP w' a (bM [] l)/\w.heap.size<=bk a/\Below w.heap.size w w':=by
 have hfl:=abA l
 have F: ∀w,Calls prog 147 #[.string (tx l),.func (.func 148) #[] #[]] w fun e w'=> ∃a,e= .returned (.slice a (bM [] l).length (bM [] l).length)/\cP w' a (bM [] l)/\w.heap.size<=bk a/\Below w.heap.size w w':=fun w=>by
  refine(Any.strings_FieldsFunc_grows Tryz.ad0 148 #[] (enters_of func148 (by kernel_rfl) rfl) lX (tx l) w (by rw[aP];omega) (fun W x hx _=>aie x hx W) (by kernel_rfl) (by kernel_rfl)).mono ?_;rintro e w' ⟨A,rfl,hA,hO,hB⟩;rw[aa7]at hO⊢;simp only[List.length_map]at hO⊢;refine⟨_,rfl,⟨?_,by omega⟩,(Own.lt (show Own w' w.heap.size _ 1 (aos ⟨A,0,none⟩) _ _ _ from hO) (by simp)).1,hB⟩;have:=Own.row (show Own w' w.heap.size _ 1 (aos ⟨A,0,none⟩) _ _ _ from hO);rw[List.map_map]at this;exact this
 have F:=hid F;obtain⟨L,hL⟩: ∃L,bM [] l=L:=⟨_,rfl⟩;rw[hL]at F⊢;clear hfl hL hl;go_in;go_wp2_with fail;refine(F.out _).mono ?_;rintro e w1 ⟨a,rfl,T,hab,E⟩;go_wp2_with fail;go_ret;exact⟨a,rfl,T,hab,E⟩
def MH(p:EP (Int × Tx × Tx))(w1 w:World)(s:Tx)(t:ak)(e:Ending)(w':World):Prop:=Below w1.heap.size w1 w'/\((∃er k,p= .error (er,k)/\e=oM er k)\/(∃a n r1 k',p= .ok (a,n,r1)/\s.drop k'=r1/\e= .returned (.tuple #[])/\St w w' w1.heap.size/\bQ w1 w' s k' { t with af:=a,name:=n }))
theorem ab4{N:Nat}{r:Tx}(h:sG (aI (aq r))=none):gE N r= .error (140,bO N (aq r)):=by
 unfold gE;dsimp only;rw[h]
theorem ab2{N:Nat}{r x y:Tx}(h:sG (aI (aq r))=some (x,y))(h2:xu x=none):gE N r= .error (5,bO N (aq r)):=by
 unfold gE;dsimp only;rw[h];dsimp only;rw[h2]
theorem ab5{N:Nat}{r x y:Tx}{a:Int}(h:sG (aI (aq r))=some (x,y))(h2:xu x=some a):gE N r= .ok (a,y,aZ (aq r)):=by
 unfold gE;dsimp only;rw[h];dsimp only;rw[h2]
theorem Up(N:Nat):bO N []=N:=rfl
theorem DA{s u:Tx}{k:Nat}(h:u <:+ s.drop k):s.drop (s.length-u.length)=u:=by
 have h2:u <:+ s:=h.trans (List.drop_suffix k s);exact(List.suffix_iff_eq_drop.1 h2).symm
theorem pJ(r:Tx):aq r <:+ r:=aoI _
theorem BB(r:Tx):aZ r <:+ r:=(List.drop_suffix 1 _).trans (aoI _)
theorem ah5{w1 w:World}{s:Tx}{k:Nat}{t:ak}(R:bQ w1 w s k t):Calls prog 27 #[.pointer (some ⟨w1.heap.size,0,none⟩)] w (MH (gE s.length (s.drop k)) w1 w s t):=by
 have c0:=R.bx.get 0 _ rfl;have c1:=R.bx.get 1 _ rfl;have hl:=R.sl;have PK:=hid (By s w1.heap.size k R.le R.sl w c0 c1);have FL:=hid (fun p er k w=>Bx p er k w);have HR:=hid R;obtain⟨u,hu⟩: ∃u,aq (s.drop k)=u:=⟨_,rfl⟩;have P1:=hid (fun h=>ab4 (N:=s.length) (r:=s.drop k) h);have P2:=hid (fun x y h h2=>ab2 (N:=s.length) (r:=s.drop k) (x:=x) (y:=y) h h2);have P3:=hid (fun x y a h h2=>ab5 (N:=s.length) (r:=s.drop k) (x:=x) (y:=y) (a:=a) h h2);rw[hu]at P1 P2 P3;generalize gE s.length (s.drop k)=hp at*;clear c0 c1;go_in;go_wp2_with fail;refine PK.out.mono ?_;rintro e w2 ⟨hv,E2⟩;unfold sU at hv;rw[hu]at hv;rcases hv with⟨h0,rfl⟩|⟨b,h0,hb,h10,kM,rfl⟩
 ·have WD:=hid (US [] (by simp))
  have P1:=hid (P1.out (by rw[h0];rfl));rw[h0,Up]at P1;have E2:=hid E2;clear hu h0;go_wp2_with fail;refine(WD.out _).mono ?_;rintro e w3 ⟨a,rfl,T,hab,E3⟩;have E:=hid (ay E2.out E3);simp only[show(bM [] []).length=0 from rfl];clear T E3;go_wp2_with fail;refine(FL.out _ _ _ _).mono ?_;rintro e w4 ⟨rfl,E4⟩;have E:=hid (ay E.out E4);clear E4;go_wp2_with fail;exact⟨rfl,(HR.out.below E.out).bG,.inl ⟨_,_,P1.out,rfl⟩⟩
 ·obtain⟨c,hc⟩: ∃c,u.head?=some c:=by
   cases u with
   |nil=>exact absurd rfl h0
   |cons c r=>exact⟨c,rfl⟩
  have hcb:aj c=false:=js (l:=s.drop k) (p:=aj) (by rw[show(s.drop k).dropWhile aj=u from hu];exact hc);obtain⟨q1,q2,q3⟩:=JS hc hcb hb;have ez:u.length<=s.length:=by rw[<-hu];have:=(pJ (s.drop k)).length_le;have:=aoJ (i:=k) (l:=s);omega
  have hin:b.length+u.length<=s.length:=by unfold bO at kM;omega
  have hlen:(b++u.takeWhile (· != 10)).length<=262144:=by have:=oq (· != 10) u;rw[aoE];omega
  have WD:=hid (US (b++u.takeWhile (· != 10)) hlen);have T2:=ak1 q2;rw[<-q1,abC,q1]at T2;have pz:s.drop (s.length-(aZ u).length)=aZ u:=DA (k:=k) ((BB u).trans (by rw[<-hu];exact pJ _));have hle:s.length-(aZ u).length<=s.length:=by omega
  generalize b++u.takeWhile (· != 10)=ln at*;obtain⟨L,hL⟩: ∃L,bM [] ln=L:=⟨_,rfl⟩;rw[hL]at WD T2;have E2:=hid E2;have HT:=hid T2;have wZ:=hid pz;clear hu hc q1 q2 q3 hL T2 pz ez hin hlen kM;go_wp2_with fail;refine(WD.out _).mono ?_;rintro e w3 ⟨a,rfl,T,hab,E3⟩;have E:=hid (ay E2.out E3);clear E3
  by_cases h2:L.length=2
  ·match L,h2 with
   |[x,y],_=>
   have P2:=hid (fun h=>P2.out x y HT.out h);have P3:=hid (fun a h=>P3.out x y a HT.out h);have i0: ∀w',(Instr.indexAt 42 (.slice a 2 2) (.int .i64 0)).run prog w'=_:=T.idx 0 (by simp) 2;have i1: ∀w',(Instr.indexAt 42 (.slice a 2 2) (.int .i64 1)).run prog w'=_:=T.idx 1 (by simp) 2;have x0:w3.cell? ⟨bk a,fo a+0,none⟩=some (.string (tx x)):=T.cell 0 (by simp);have x1:w3.cell? ⟨bk a,fo a+1,none⟩=some (.string (tx y)):=T.cell 1 (by simp);simp only[Nat.add_zero]at i0 x0;have R3:=HR.out.below E.out;have hf:=fun j=>R3.gh j
   have IK:=hf 1;have rY:=hf 2;have hf3:=hf 3;have q1:=R3.bx.get 1 _ rfl;have q2:=R3.bx.get 2 _ rfl;have q3:=R3.bx.get 3 _ rfl;have hrb:=R3.lt;have hne:bk a≠w1.heap.size:=by have:=E2.out.size;have:=HR.out.lt;omega
   have I7:=hne.symm
   by_cases hx1:x=[88,56,54]
   ·subst hx1
    have zx:((tx [88,56,54]).toList==[88,56,54])=true:=by rw[aW];rfl
    have P3:=hid (P3.out 1 rfl);generalize tx [88,56,54]=ux at*;have R4:=(R3.put 2 (.int .i64 1) (t':={ t with af:=1 }) rfl R3.le).1;have R5:=(R4.put 3 (.string (tx y)) (t':={ t with af:=1,name:=y }) rfl R4.le).1;have R6:=(R5.put 1 (.int .i64 (s.length-(aZ u).length:Nat)) (k':=s.length-(aZ u).length) (t':={ t with af:=1,name:=y }) rfl hle).1;have ST:=((R3.put 2 (.int .i64 1) (t':={ t with af:=1 }) rfl R3.le).2.trans (R4.put 3 (.string (tx y)) (t':={ t with af:=1,name:=y }) rfl R4.le).2).trans (R5.put 1 (.int .i64 (s.length-(aZ u).length:Nat)) (k':=s.length-(aZ u).length) (t':={ t with af:=1,name:=y }) rfl hle).2;replace ST:=hid ((aX E.out).trans ST);replace R6:=hid R6;clear R3 R4 R5 T P1 P2;go_wp2_with fail
    go_end0
    exact⟨R6.out.bG,.inr ⟨_,_,_,_,P3.out,wZ.out,rfl,ST.out,R6.out⟩⟩
   ·have zx:=jm _ _ hx1
    by_cases hx2:x=[82,73,83,67,86]
    ·subst hx2
     have zx2:((tx [82,73,83,67,86]).toList==[82,73,83,67,86])=true:=by rw[aW];rfl
     have P3:=hid (P3.out 2 rfl);generalize tx [82,73,83,67,86]=ux at*;have R4:=(R3.put 2 (.int .i64 2) (t':={ t with af:=2 }) rfl R3.le).1;have R5:=(R4.put 3 (.string (tx y)) (t':={ t with af:=2,name:=y }) rfl R4.le).1;have R6:=(R5.put 1 (.int .i64 (s.length-(aZ u).length:Nat)) (k':=s.length-(aZ u).length) (t':={ t with af:=2,name:=y }) rfl hle).1;have ST:=((R3.put 2 (.int .i64 2) (t':={ t with af:=2 }) rfl R3.le).2.trans (R4.put 3 (.string (tx y)) (t':={ t with af:=2,name:=y }) rfl R4.le).2).trans (R5.put 1 (.int .i64 (s.length-(aZ u).length:Nat)) (k':=s.length-(aZ u).length) (t':={ t with af:=2,name:=y }) rfl hle).2;replace ST:=hid ((aX E.out).trans ST);replace R6:=hid R6;clear R3 R4 R5 T P1 P2 hx1;go_wp2_with fail
     go_end0
     exact⟨R6.out.bG,.inr ⟨_,_,_,_,P3.out,wZ.out,rfl,ST.out,R6.out⟩⟩
    ·have zx2:=jm _ _ hx2
     have P2:=hid (P2.out (by unfold xu;rw[if_neg hx1,if_neg hx2]));clear R3 hx1 hx2 T P1 P3;go_wp2_with fail;refine(FL.out _ _ _ _).mono ?_;rintro e w4 ⟨rfl,E4⟩;have E:=hid (ay E.out E4);clear E4;go_wp2_with fail;exact⟨rfl,(HR.out.below E.out).bG,.inl ⟨_,_,P2.out,rfl⟩⟩
  ·have P1:=hid (P1.out (by
    rw[HT.out]
    match L,h2 with
    |[],_=>rfl
    |[_],_=>rfl
    |[_,_],h2=>exact absurd rfl h2
    |_::_::_::_,_=>rfl))
   have z2:((L.length:Int) != 2)=true:=by simp;omega
   clear T h2 HT;generalize L.length=m at*;go_wp2_with fail;refine(FL.out _ _ _ _).mono ?_;rintro e w4 ⟨rfl,E4⟩;have E:=hid (ay E.out E4);clear E4;go_wp2_with fail;exact⟨rfl,(HR.out.below E.out).bG,.inl ⟨_,_,P1.out,rfl⟩⟩
def MF(p:EP (Tx × Tx))(w1 w:World)(s:Tx)(t:ak)(e:Ending)(w':World):Prop:=Below w1.heap.size w1 w'/\((∃er k,p= .error (er,k)/\e=oM er k)\/(∃c r1 k',p= .ok (c,r1)/\s.drop k'=r1/\e= .returned (.tuple #[])/\St w w' w1.heap.size/\bQ w1 w' s k' { t with aC:=c }))
theorem aaT{N:Nat}{r:Tx}(h:(aI (aq r)).head?≠some 34):eP N r= .ok ([],r):=by
 unfold eP;dsimp only;rw[if_pos h]
theorem aaS{N:Nat}{r:Tx}(h0:(aI (aq r)).head?=some 34)(h:(aI (aq r)).length<2\/(aI (aq r)).getLast?≠some 34\/(aI (aq r)).count 34≠2):eP N r= .error (140,bO N (aq r)):=by
 unfold eP;dsimp only;rw[if_neg (by rw[h0];simp),if_pos h]
theorem aaU{N:Nat}{r:Tx}(h0:(aI (aq r)).head?=some 34)(h: ¬((aI (aq r)).length<2\/(aI (aq r)).getLast?≠some 34\/(aI (aq r)).count 34≠2)):eP N r= .ok (ah ((aI (aq r)).drop 1).dropLast,aZ (aq r)):=by
 unfold eP;dsimp only;rw[if_neg (by rw[h0];simp),if_neg h]
theorem aeZ{t:ak}(h:t.aC=[]):{ t with aC:=[] }=t:=by
 obtain⟨af,name,aC,ia,ic,init,ca,cc,code,q,node⟩:=t;simp only at h;subst h;rfl
theorem ah4{w1 w:World}{s:Tx}{k:Nat}{t:ak}(R:bQ w1 w s k t)(rS:t.aC=[]):Calls prog 28 #[.pointer (some ⟨w1.heap.size,0,none⟩)] w (MF (eP s.length (s.drop k)) w1 w s t):=by
 have c0:=R.bx.get 0 _ rfl;have c1:=R.bx.get 1 _ rfl;have hl:=R.sl;have PK:=hid (By s w1.heap.size k R.le R.sl w c0 c1);have FL:=hid (fun p er k w=>Bx p er k w);have HR:=hid R;have Mc:=hid (aeZ rS);obtain⟨u,hu⟩: ∃u,aq (s.drop k)=u:=⟨_,rfl⟩;have P1:=hid (fun h=>aaT (N:=s.length) (r:=s.drop k) h);have P2:=hid (fun h0 h=>aaS (N:=s.length) (r:=s.drop k) h0 h);have P3:=hid (fun h0 h=>aaU (N:=s.length) (r:=s.drop k) h0 h);rw[hu]at P1 P2 P3;generalize eP s.length (s.drop k)=hp at*;clear c0 c1 rS;go_in;go_wp2_with fail;refine PK.out.mono ?_;rintro e w2 ⟨hv,E2⟩;unfold sU at hv;rw[hu]at hv;rcases hv with⟨h0,rfl⟩|⟨b,h0,hb,h10,kM,rfl⟩
 ·have TR:=hid (fun w=>og [] (by simp) w)
  have P1:=hid (P1.out (by rw[h0];decide));have E2:=hid E2;clear hu h0;go_wp2_with fail;refine(TR.out _).mono ?_;rintro e w3 ⟨rfl,E3⟩;have E:=hid (ay E2.out E3);clear E3;go_wp2_with fail;exact bodyPost_ret (by simp[results,results28,go_sem]) rfl ⟨(HR.out.below E.out).bG,.inr ⟨_,_,k,P1.out,rfl,rfl,aX E.out,by rw[Mc.out];exact HR.out.below E.out⟩⟩
 ·obtain⟨c,hc⟩: ∃c,u.head?=some c:=by
   cases u with
   |nil=>exact absurd rfl h0
   |cons c r=>exact⟨c,rfl⟩
  have hcb:aj c=false:=js (l:=s.drop k) (p:=aj) (by rw[show(s.drop k).dropWhile aj=u from hu];exact hc);obtain⟨q1,q2,q3⟩:=JS hc hcb hb;have ez:u.length<=s.length:=by rw[<-hu];have:=(pJ (s.drop k)).length_le;have:=aoJ (i:=k) (l:=s);omega
  have hin:b.length+u.length<=s.length:=by unfold bO at kM;omega
  have hlen:(b++u.takeWhile (· != 10)).length<=262144:=by have:=oq (· != 10) u;rw[aoE];omega
  have TR:=hid (fun w=>og (b++u.takeWhile (· != 10)) (by omega) w);have cV:=j3 (b++u.takeWhile (· != 10));rw[q1]at TR cV;have pz:s.drop (s.length-(aZ u).length)=aZ u:=DA (k:=k) ((BB u).trans (by rw[<-hu];exact pJ _));have hle:s.length-(aZ u).length<=s.length:=by omega
  have hlm:(aI u).length<=262144:=by omega
  generalize b++u.takeWhile (· != 10)=ln at*;generalize aI u=l at*;have E2:=hid E2;have wZ:=hid pz;clear hu hc q1 q2 pz ez hin hlen kM cV;go_wp2_with fail;refine(TR.out _).mono ?_;rintro e w3 ⟨rfl,E3⟩;have E:=hid (ay E2.out E3);clear E3
  obtain⟨r0,rfl⟩: ∃r0,l=c::r0:=by
   cases l with
   |nil=>cases q3
   |cons d r0=>exact⟨r0,by rw[show d=c from Option.some.inj q3]⟩
  have i0:=mJ (c::r0) c rfl
  by_cases DV:c=34
  ·subst DV
   have y0:(((34:UInt8).toNat:Int) != 34)=false:=by decide
   have hsz:=aP (34::r0);obtain⟨n,hn⟩: ∃n,(tx (34::r0)).size=n:=⟨_,rfl⟩;have fC:n=r0.length+1:=by rw[<-hn,hsz];simp
   have nT:n<=262144:=by have:(34::r0).length=r0.length+1:=rfl;omega
   have CN:=hid (fun w=>aaL (34::r0) 34 w);rcases List.eq_nil_or_concat r0 with h1|⟨m,z,h1⟩
   ·have z1:decide ((n:Int)<2)=true:=by rw[fC,h1];decide
    have P2:=hid (P2.out rfl (.inl (by rw[h1];decide)));clear hsz fC P1 P3 h1;go_wp2_with fail;refine(FL.out _ _ _ _).mono ?_;rintro e w4 ⟨rfl,E4⟩;have E:=hid (ay E.out E4);clear E4;go_wp2_with fail;exact⟨rfl,(HR.out.below E.out).bG,.inl ⟨_,_,P2.out,rfl⟩⟩
   ·rw[List.concat_eq_append]at h1
    have z1:decide ((n:Int)<2)=false:=by rw[fC,h1];simp;omega
    have hm2:n=m.length+2:=by rw[fC,h1];simp
    have gl:(34::r0).getLast?=some z:=by rw[h1];exact Em _ _ _
    have i1:=iV (34::r0) (m.length+1) z (by rw[h1];simp);rw[show((m.length+1:Nat):Int)=(n:Int)-1 by omega]at i1
    by_cases hz:z=34
    ·subst hz
     have y1:(((34:UInt8).toNat:Int) != 34)=false:=by decide
     obtain⟨cn,hcn⟩: ∃cn,(34::r0).count 34=cn:=⟨_,rfl⟩;rw[hcn]at CN
     by_cases AI:cn=2
     ·subst AI
      have P3:=hid (P3.out rfl (by
       rintro(h|h|h)
       ·rw[h1]at h;simp only[List.length_cons,aoE,List.length_nil]at h;omega
       ·exact h gl
       ·exact h hcn))
      have ed:(List.drop 1 (34::r0)).dropLast=m:=by rw[h1];simp
      rw[ed]at P3;have sl:=wC (34::r0) 1 (m.length+1) (by omega) (by rw[h1];simp);have e2:((34::r0).take (m.length+1)).drop 1=m:=by rw[h1];simp
      rw[e2,show((m.length+1:Nat):Int)=(n:Int)-1 by omega,show((1:Nat):Int)=1 by rfl]at sl;have TM:=hid (fun w=>og m (by omega) w);have R3:=HR.out.below E.out;generalize ah m=tm at*;have R5:=R3.put 4 (.string (tx tm)) (t':={ t with aC:=tm }) rfl R3.le;clear hsz fC hm2 P1 P2 h1 ed e2 gl hcn R3 R5
      go_wp2_with (first|(go_at_call 77;refine(CN.out _).mono ?_;rintro e w' ⟨rfl,rfl⟩)|fail)
      refine(TM.out _).mono ?_;rintro e w4 ⟨rfl,E4⟩;have E:=hid (ay E.out E4);clear E4;have R3:=HR.out.below E.out;have q1:=R3.bx.get 1 _ rfl;have q4:=R3.bx.get 4 _ rfl;have IK:=R3.gh 1;have hf4:=R3.gh 4;have hrb:=R3.lt;have R5:=R3.put 4 (.string (tx tm)) (t':={ t with aC:=tm }) rfl R3.le;have R6:=R5.1.put 1 (.int .i64 (s.length-(aZ u).length:Nat)) (k':=s.length-(aZ u).length) (t':={ t with aC:=tm }) rfl hle;have ST:=hid ((aX E.out).trans (R5.2.trans R6.2));replace R6:=hid R6.1;clear R3 R5;go_wp2_with fail
      go_end0
      exact⟨R6.out.bG,.inr ⟨_,_,_,P3.out,wZ.out,rfl,ST.out,R6.out⟩⟩
     ·have P2:=hid (P2.out rfl (.inr (.inr (by rw[hcn];exact AI))))
      have z2:((cn:Int) != 2)=true:=by simp;omega
      clear hsz fC hm2 P1 P3 h1 gl hcn AI
      go_wp2_with (first|(go_at_call 77;refine(CN.out _).mono ?_;rintro e w' ⟨rfl,rfl⟩)|fail)
      refine(FL.out _ _ _ _).mono ?_;rintro e w4 ⟨rfl,E4⟩;have E:=hid (ay E.out E4);clear E4;go_wp2_with fail;exact⟨rfl,(HR.out.below E.out).bG,.inl ⟨_,_,P2.out,rfl⟩⟩
    ·have P2:=hid (P2.out rfl (.inr (.inl (by rw[gl];simpa using hz))))
     have y1:((z.toNat:Int) != 34)=true:=uy z 34 hz;clear hsz fC hm2 P1 P3 h1 gl hz;go_wp2_with fail;refine(FL.out _ _ _ _).mono ?_;rintro e w4 ⟨rfl,E4⟩;have E:=hid (ay E.out E4);clear E4;go_wp2_with fail;exact⟨rfl,(HR.out.below E.out).bG,.inl ⟨_,_,P2.out,rfl⟩⟩
  ·have P1:=hid (P1.out (by simpa using DV))
   have y0:((c.toNat:Int) != 34)=true:=uy c 34 DV;clear P2 P3 DV;go_wp2_with fail;exact bodyPost_ret (by simp[results,results28,go_sem]) rfl ⟨(HR.out.below E.out).bG,.inr ⟨_,_,k,P1.out,rfl,rfl,aX E.out,by rw[Mc.out];exact HR.out.below E.out⟩⟩
end Go.Proofs.YtkbbgjloifmmbaaGreatDoor
namespace Go.Proofs.YtkbbgjloifmmbaaGreatDoor
open _root_.Go.Proofs.Tryz
open _root_.Option renaming some->aos
open _root_.Nat renaming le_refl->amS
open _root_.List renaming length_append->aoE,length_drop->aoJ,dropWhile_suffix->aoI
def yt:Tx->Nat
 |[]=>0
 |c::r=>if cG c then 1 else if aR c||(c==45&&decide (0<r.length))then 2 else 3
def su(N:Nat):List Tok->Nat
 |[]=>N
 |t::_=>t.2+t.1.length
def Lx(S:Tx)(l:List Tok):Prop:= ∃i,i<=S.length/\lex i (S.drop i)=l
theorem JM(S:Tx): ∀(n i:Nat),S.length-i<=n->i<=S.length-> ∀t r,lex i (S.drop i)=t::r->i<=t.2/\1<=t.1.length/\t.2+t.1.length<=S.length/\t.1=(S.take (t.2+t.1.length)).drop t.2/\lex (t.2+t.1.length) (S.drop (t.2+t.1.length))=r
 | n,i,h,hi,t,r,e=>by
   rcases Nat.lt_or_ge i S.length with hlt|hge
   ·have hs:=Si (List.getElem?_eq_getElem hlt)
    rw[e]at hs;cases hb:aj S[i]with
    | true=>
      rw[hb]at hs;cases n with
      |zero=>omega
      | succ n=>
        have:=JM S n (i+1) (by omega) (by omega) t r hs.symm;exact⟨by omega,this.2⟩
    | false=>
      rw[hb]at hs;simp only[Bool.false_eq_true,if_false]at hs
      injection hs with h1 h2
      have hd:S.drop i=S[i]::S.drop (i+1):=List.drop_eq_getElem_cons hlt;have l1:1<=bS (S.drop i):=by rw[hd];exact mB _ _
      have l2:bS (S.drop i)<=S.length-i:=by
       have:=tZ S[i] (S.drop (i+1));rw[hd];rw[aoJ]at this;omega
      have hl:t.1.length=bS (S.drop i):=by rw[h1];simp;omega
      have PY:t.2=i:=by rw[h1]
      have h3:t.1=(S.take (t.2+t.1.length)).drop t.2:=by
       rw[PY,hl,h1,List.take_add,List.drop_append_of_le_length (by simp;omega)];simp
      exact⟨by omega,by omega,by omega,h3,by rw[PY,hl];exact h2.symm⟩
   ·have:S.drop i=[]:=List.drop_eq_nil_of_le hge
    rw[this,lex_nil]at e;cases e
section
variable {S:Tx} {l:List Tok}
theorem Lx.start(S:Tx):Lx S (lex 0 S):=⟨0,Nat.zero_le _,rfl⟩
theorem Lx.at(S:Tx){i:Nat}(h:i<=S.length):Lx S (lex i (S.drop i)):=⟨i,h,rfl⟩
theorem Lx.head{t:Tok}{r:List Tok}(h:Lx S (t::r)):1<=t.1.length/\t.2+t.1.length<=S.length:=by
 obtain⟨i,hi,e⟩:=h;obtain⟨-, a,b, -⟩:=JM _ _ i (amS _) hi t r e;exact⟨a,b⟩
theorem Lx.next(h:Lx S l):su S.length l<=S.length/\lex (su S.length l) (S.drop (su S.length l))=l.tail:=by
 cases l with
 |nil=>exact⟨amS _,by show lex S.length (S.drop S.length)=[];rw[List.drop_length,lex_nil]⟩
 | cons t r=>
   obtain⟨i,hi,e⟩:=h;obtain⟨-, a,b,-, c⟩:=JM _ _ i (amS _) hi t r e;exact⟨b,c⟩
theorem Lx.tail(h:Lx S l):Lx S l.tail:=⟨_,h.next.1,h.next.2⟩
theorem Lx.aA(h:Lx S l):(Go.Proofs.YtkbbgjloifmmbaaGreatDoor.aA l).length<=S.length:=by
 cases l with
 |nil=>exact Nat.zero_le _
 |cons t r=>have:=h.head;show t.1.length<=_;omega
theorem Lx.len(h:Lx S l):l.length<=S.length:=by
 obtain⟨i,hi,rfl⟩:=h;have:=Bg _ i (S.drop i) (amS _);simp at this;omega
end
end Go.Proofs.YtkbbgjloifmmbaaGreatDoor
namespace Go.Proofs.YtkbbgjloifmmbaaGreatDoor
open _root_.Go.Proofs.Tryz
open _root_.Option renaming some->aos
open _root_.Nat renaming le_refl->amS
open _root_.List renaming length_append->aoE,length_drop->aoJ,dropWhile_suffix->aoI
open Go.RowKit
theorem LH(x:UInt8): ∀(l:Tx) (a:Nat),uz a (l++[x])=if aR x then 10*uz a l+(x.toNat-48)else uz a l
 |[],a=>rfl
 |c::r,a=>LH x r _
def oO(s:Tx)(k V:Nat):Prop:=V=uz 0 (s.take k)
theorem oO.small{s:Tx}{k V:Nat}(h:oO s k V)(hk:k<=11):V<100000000000:=by
 have:=LI 11 (s.take k) 0 (by simp;omega);unfold oO at h;omega
theorem oO.step{s:Tx}{k V:Nat}{x:UInt8}(h:oO s k V)(hx:s[k]? =some x)(hd:aR x=true):oO s (k+1) (10*V+(x.toNat-48)):=by
 unfold oO at *; rw[jY hx,LH,if_pos hd,h]
theorem oO.skip{s:Tx}{k V:Nat}{x:UInt8}(h:oO s k V)(hx:s[k]? =some x)(hd:aR x=false):oO s (k+1) V:=by
 unfold oO at *; rw[jY hx,LH,if_neg (by rw[hd];decide),h]
def Da(s:Tx)(w:World)(e:Ending)(w':World):Prop:=w=w'/\match wg s with
 |none=>e= .returned (.tuple #[.int .i64 0,.bool false])
 |some v=>if aY v=true then e= .returned (.tuple #[.int .i64 v,.bool true])else e= .returned (.tuple #[.int .i64 0,.bool false])
theorem Da.no{s:Tx}(w:World)(h:wg s=none):Da s w (.returned (.tuple #[.int .i64 0,.bool false])) w:=⟨rfl,by rw[h]⟩
theorem Da.yes{s:Tx}(w:World){v:Int}(h:wg s=some v)(hq:aY v=true):Da s w (.returned (.tuple #[.int .i64 v,.bool true])) w:=⟨rfl,by rw[h];simp[hq]⟩
end Go.Proofs.YtkbbgjloifmmbaaGreatDoor
namespace Go.Proofs.YtkbbgjloifmmbaaGreatDoor
open _root_.Go.Proofs.Tryz
open _root_.Option renaming some->aos
open _root_.Nat renaming le_refl->amS
open _root_.List renaming length_append->aoE,length_drop->aoJ,dropWhile_suffix->aoI
open Go.RowKit Go.Sort
abbrev rdD(af:Int)(S:Tx)(l:List Tok)(b:Int):List Value:=[.int .i64 af,.string (tx S),.int .i64 (yt (aA l)),.string (tx (aA l)),.int .i64 (iX S.length l),.int .i64 (su S.length l),.int .i64 b]
structure jr(w:World)(B rb:Nat)(af:Int)(S:Tx)(l:List Tok)(b:Int):Prop where
 own:Own w B 189 7 (aos ⟨rb,0,none⟩) 1 1 (rdD af S l b)
 lx:Lx S l
 sl:S.length<=262144
section
variable {w w1:World} {B rb:Nat} {af:Int} {S:Tx} {l:List Tok} {b:Int}
structure X8(w:World)(rb:Nat)(af:Int)(S:Tx)(l:List Tok)(b:Int):Prop where
 c0:w.cell? ⟨rb,0,none⟩=aos (.int .i64 af)
 c1:w.cell? ⟨rb,1,none⟩=aos (.string (tx S))
 c2:w.cell? ⟨rb,2,none⟩=aos (.int .i64 (yt (aA l)))
 c3:w.cell? ⟨rb,3,none⟩=aos (.string (tx (aA l)))
 c4:w.cell? ⟨rb,4,none⟩=aos (.int .i64 (iX S.length l))
 c5:w.cell? ⟨rb,5,none⟩=aos (.int .i64 (su S.length l))
 c6:w.cell? ⟨rb,6,none⟩=aos (.int .i64 b)
 fz: ∀j,w.frozen? ⟨rb,j,none⟩=false
 lt:rb<w.heap.size
 ge:B<=rb
theorem jr.cells(h:jr w B rb af S l b): @X8 B w rb af S l b:=by
 have f:=fun j=>Own.frozen h.own (by simp) j
 have c0:=(Own.row h.own).cell 0 (by simp);have c1:=(Own.row h.own).cell 1 (by simp);have c2:=(Own.row h.own).cell 2 (by simp);have c3:=(Own.row h.own).cell 3 (by simp);have c4:=(Own.row h.own).cell 4 (by simp);have c5:=(Own.row h.own).cell 5 (by simp);have c6:=(Own.row h.own).cell 6 (by simp);have lt:=Own.lt h.own (by simp);simp only[fk,gb,Nat.zero_add]at f c0 c1 c2 c3 c4 c5 c6 lt;exact⟨c0,c1,c2,c3,c4,c5,c6,f,lt.2,lt.1⟩
theorem jr.below(h:jr w B rb af S l b)(hb:Below w.heap.size w w1):jr w1 B rb af S l b:=⟨Own.below h.own hb,h.lx,h.sl⟩
theorem jr.qd(h:jr w B rb af S l b){c:Nat}(hg:w.grownBy w1 (aos c))(hc:c≠rb):jr w1 B rb af S l b:=
 ⟨Own.kept h.own hg (.inr (by simp;exact fun e=>hc e.symm)),h.lx,h.sl⟩
theorem jr.four(h:jr w B rb af S l b){l':List Tok}(hx:Lx S l'):jr ((((w.setCell ⟨rb,2,none⟩ (.int .i64 (yt (aA l')))).setCell ⟨rb,3,none⟩ (.string (tx (aA l')))).setCell ⟨rb,4,none⟩ (.int .i64 (iX S.length l'))).setCell ⟨rb,5,none⟩ (.int .i64 (su S.length l'))) B rb af S l' b/\
 St w ((((w.setCell ⟨rb,2,none⟩ (.int .i64 (yt (aA l')))).setCell ⟨rb,3,none⟩ (.string (tx (aA l')))).setCell ⟨rb,4,none⟩ (.int .i64 (iX S.length l'))).setCell ⟨rb,5,none⟩ (.int .i64 (su S.length l'))) rb:=by
 obtain⟨o1,s1⟩:=Own.set h.own (by simp) 2 (.int .i64 (yt (aA l')));obtain⟨o2,s2⟩:=Own.set o1 (by simp) 3 (.string (tx (aA l')));obtain⟨o3,s3⟩:=Own.set o2 (by simp) 4 (.int .i64 (iX S.length l'));obtain⟨o4,s4⟩:=Own.set o3 (by simp) 5 (.int .i64 (su S.length l'));simp only[fk,gb,Nat.zero_add]at o4 s1 s2 s3 s4;exact⟨⟨o4,hx,h.sl⟩,((s1.trans s2).trans s3).trans s4⟩
def xm{α:Type}(w:World)(B rb:Nat)(af:Int)(S:Tx)(p:PR α)(V:α->Ending->World->Prop)(J:Ending->Prop)(e:Ending)(w':World):Prop:=
 St w w' rb/\((∃l l',p= .error l/\J e/\jr w' B rb af S l' (iX S.length l))\/(∃x r,p= .ok (x,r)/\V x e w'/\jr w' B rb af S r (-1)))
theorem xm.fP{α:Type}{p:PR α}{V:α->Ending->World->Prop}{J:Ending->Prop}{e:Ending}(h:xm w B rb af S p V J e w1){x:α}{r:List Tok}(hp:p= .ok (x,r)):V x e w1/\jr w1 B rb af S r (-1)/\St w w1 rb:=by
 obtain⟨h1,⟨l,l',h2,h3⟩|⟨y,k,h2,h3,h4⟩⟩:=h
 ·rw[hp]at h2;cases h2
 ·rw[hp]at h2;cases h2;exact⟨h3,h4,h1⟩
theorem xm.err{α:Type}{p:PR α}{V:α->Ending->World->Prop}{J:Ending->Prop}{e:Ending}(h:xm w B rb af S p V J e w1){l:List Tok}(hp:p= .error l):J e/\St w w1 rb/\ ∃l',jr w1 B rb af S l' (iX S.length l):=by
 obtain⟨h1,⟨l,l',h2,h3,h4⟩|⟨y,k,h2,h3,h4⟩⟩:=h
 ·rw[hp]at h2;cases h2;exact⟨h3,h1,l',h4⟩
 ·rw[hp]at h2;cases h2
end
theorem lF{w w':World}{b:Nat}(h:w.grownBy w' (aos b))(j:Nat)(v:Value):w.grownBy (w'.setCell ⟨b,j,none⟩ v) (aos b):=
 ⟨h.os,h.tape,h.output,by simpa using h.size,fun k hk hne=>by rw[Below.heap_setCell _ _ _ _ (by simp;exact fun e=>hne (by rw[e]))];exact h.block k hk hne⟩
theorem lG(w:World)(b:Nat):w.grownBy w (aos b):=⟨rfl,rfl,rfl,amS _,fun k hk hne=>rfl⟩
theorem At{w w1:World}{b:Nat}(hs:Below w.heap.size w w1)(hb:b<w.heap.size)(k:Nat):w1.frozen? ⟨b,k,none⟩=w.frozen? ⟨b,k,none⟩:=by
 unfold World.frozen?;rw[hs.block b hb]
def JT(e:Ending):Prop:= ∃t:Th,e= .returned (iu t)/\t.loc.length<=262144
structure jL(w wx:World)(B rb:Nat)(af:Int)(S:Tx)(l:List Tok)(b:Int):Prop where
 rd:jr wx B rb af S l b
 st:St ((w.alloc fI).alloc fI) wx rb
 hr:rb<w.heap.size
section
variable {w wx wy:World} {B rb:Nat} {af:Int} {S:Tx} {l l':List Tok} {b b':Int}
theorem jL.new(R:jr w B rb af S l b):jL w ((w.alloc fI).alloc fI) B rb af S l b:=
 ⟨(R.below (al _ _)).below (al _ _),St.refl _ _,R.cells.lt⟩
theorem jL.step(h:jL w wx B rb af S l b)(hs:St wx wy rb)(hr:jr wy B rb af S l' b'):jL w wy B rb af S l' b':=⟨hr,h.st.trans hs,h.hr⟩
theorem jL.below(h:jL w wx B rb af S l b)(hb:Below wx.heap.size wx wy):jL w wy B rb af S l b:=⟨h.rd.below hb,h.st.trans (aX hb),h.hr⟩
structure Yl(w wx:World):Prop where
 p0:wx.cell? ⟨w.heap.size,0,none⟩=aos (.int .i64 0)
 p1:wx.cell? ⟨w.heap.size,1,none⟩=aos (.int .i64 0)
 p2:wx.cell? ⟨w.heap.size,2,none⟩=aos (.string ⟨#[]⟩)
 q0:wx.cell? ⟨w.heap.size+1,0,none⟩=aos (.int .i64 0)
 q1:wx.cell? ⟨w.heap.size+1,1,none⟩=aos (.int .i64 0)
 q2:wx.cell? ⟨w.heap.size+1,2,none⟩=aos (.string ⟨#[]⟩)
 f1: ∀j,wx.frozen? ⟨w.heap.size,j,none⟩=false
 f2: ∀j,wx.frozen? ⟨w.heap.size+1,j,none⟩=false
 sz:w.heap.size+2<=wx.heap.size
theorem jL.vars(h:jL w wx B rb af S l b):Yl w wx:=by
 have hr:=h.hr;have e1:(w.alloc fI).heap.size=w.heap.size+1:=by simp
 have a:=(((aG.new w #[.int .i64 0,.int .i64 0,.string ⟨#[]⟩] 25).below (al _ fI)).step h.st (by omega));have c:=((aG.new (w.alloc fI) #[.int .i64 0,.int .i64 0,.string ⟨#[]⟩] 25).step h.st (by omega));rw[e1]at c;have hz:=h.st.grown.size;refine⟨a.get 0 _ rfl,a.get 1 _ rfl,a.get 2 _ rfl,c.get 0 _ rfl,c.get 1 _ rfl,c.get 2 _ rfl,fun j=>?_,fun j=>?_,by simp at hz;omega⟩
 ·rw[iO h.st (by simp;omega) (by omega) j]
  rw[At (w:=w.alloc fI) (al _ _) (by simp) j];exact ew w _ _ j
 ·rw[iO h.st (by simp) (by omega) j,<-e1];exact ew (w.alloc fI) _ _ j
theorem jL.fin(h:jL w wx B rb af S l b)(hg:wx.grownBy wy (aos w.heap.size)):St w wy rb/\jr wy B rb af S l b:=by
 have hr:=h.hr;refine⟨⟨⟨?_,?_,?_,?_,fun k hk hne=>?_⟩,.inl rfl⟩,h.rd.qd hg (by omega)⟩
 all_goals have h1:=((St.new (St.new (St.refl w rb) fI) fI).trans h.st).grown
 ·exact hg.os.trans h1.os
 ·exact hg.tape.trans h1.tape
 ·exact hg.output.trans h1.output
 ·exact Nat.le_trans h1.size hg.size
 ·rw[hg.block k (Nat.lt_of_lt_of_le hk h1.size) (by simp;omega)];exact h1.block k hk hne
theorem jL.all(h:jL w wx B rb af S l b):wx.cell? ⟨w.heap.size,0,none⟩=aos (.int .i64 0)/\wx.cell? ⟨w.heap.size,1,none⟩=aos (.int .i64 0)/\wx.cell? ⟨w.heap.size,2,none⟩=aos (.string ⟨#[]⟩)/\wx.cell? ⟨w.heap.size+1,0,none⟩=aos (.int .i64 0)/\wx.cell? ⟨w.heap.size+1,1,none⟩=aos (.int .i64 0)/\wx.cell? ⟨w.heap.size+1,2,none⟩=aos (.string ⟨#[]⟩)/\(∀j,wx.frozen? ⟨w.heap.size,j,none⟩=false)/\(∀j,wx.frozen? ⟨w.heap.size+1,j,none⟩=false)/\
 wx.cell? ⟨rb,0,none⟩=aos (.int .i64 af)/\wx.cell? ⟨rb,1,none⟩=aos (.string (tx S))/\wx.cell? ⟨rb,2,none⟩=aos (.int .i64 (yt (aA l)))/\wx.cell? ⟨rb,3,none⟩=aos (.string (tx (aA l)))/\wx.cell? ⟨rb,4,none⟩=aos (.int .i64 (iX S.length l))/\wx.cell? ⟨rb,5,none⟩=aos (.int .i64 (su S.length l))/\wx.cell? ⟨rb,6,none⟩=aos (.int .i64 b)/\(∀j,wx.frozen? ⟨rb,j,none⟩=false)/\rb<wx.heap.size/\rb<w.heap.size/\w.heap.size≠rb/\w.heap.size<wx.heap.size/\w.heap.size+1<wx.heap.size:=by
 have v:=h.vars;have r:=h.rd.cells;have hr:=h.hr;have sz:=v.sz;exact⟨v.p0,v.p1,v.p2,v.q0,v.q1,v.q2,v.f1,v.f2,r.c0,r.c1,r.c2,r.c3,r.c4,r.c5,r.c6,r.fz,r.lt,hr,by omega,by omega,by omega⟩
theorem jL.err{l0:List Tok}{p:PR Th}{e:Ending}(h:jL w wx B rb af S l (iX S.length l0))(hp:p= .error l0)(hg:wx.grownBy wy (aos w.heap.size))(hj:JT e):xm w B rb af S p VT JT e wy:=
 ⟨(h.fin hg).1,.inl ⟨_,_,hp,hj,(h.fin hg).2⟩⟩
theorem jL.fP{e:Ending}{p:PR Th}{t:Th}(h:jL w wx B rb af S l (-1))(hp:p= .ok (t,l))(hg:wx.grownBy wy (aos w.heap.size))(he:e= .returned (iu t))(ht:t.loc.length<=262144):xm w B rb af S p VT JT e wy:=
 ⟨(h.fin hg).1,.inr ⟨_,_,hp,⟨he,ht⟩,(h.fin hg).2⟩⟩
end
end Go.Proofs.YtkbbgjloifmmbaaGreatDoor
