/- What ReadBackP leans on, part 42. -/
import Derived.Test.YtkbbgjloifmmbaaGreatDoorRb31
set_option linter.unusedVariables false
set_option maxRecDepth 100000
set_option maxHeartbeats 25600000
namespace Go.Proofs.YtkbbgjloifmmbaaGreatDoor
open _root_.Go.Proofs.Tryz
open _root_.Go.Lib renaming OthersKept->apH
open _root_.List renaming length_append->aoE,append_assoc->anF,length_cons->ans,length_nil->anX,append_nil->anz,nil_append->anJ
open _root_.Nat renaming zero_mul->apg,add_zero->aod
open _root_.Bool renaming eq_iff_iff->anW
open Go.RowKit Go.Sort
theorem OM(k:Int)(w:World):Calls prog 210 #[.int .i64 k] w (sY w (.bool (weak true k))):=by
 by_cases h4:k=4
 ·subst h4
  go_in
  go_wp2
  go_ret;exact⟨rfl,(by repeat(first|exact QW.refl _|refine QW.d ?_ _))⟩
 ·have z4:(k==4)=false:=by simpa using h4
  have e:weak true k=(k==5):=by unfold weak;rw[decide_eq_false h4];simp only[Bool.and_false,Bool.false_or];rw[anW];simp
  have E:=hid e;clear e h4;go_in
  go_wp2
  go_ret;exact⟨aJ E.out.symm,(by repeat(first|exact QW.refl _|refine QW.d ?_ _))⟩
theorem aaF(k:Int)(w:World):Calls prog 214 #[.int .i64 k] w (sY w (.bool (weak false k))):=by
 have e:weak false k=(k==5):=by unfold weak;simp only[Bool.false_and,Bool.false_or];rw[anW];simp
 have E:=hid e;clear e;go_in
 go_wp2
 go_ret;exact⟨aJ E.out.symm,(by repeat(first|exact QW.refl _|refine QW.d ?_ _))⟩
abbrev iE:TypeId:=153
def zR(w0 w:World)(b:Nat)(af:Int)(l:Tx)(e:Ending)(w':World):Prop:=
 e= .returned (.tuple #[])/\bY w' w0.heap.size b iE [.int .i64 af] l/\Below w0.heap.size w0 w'/\apH dR (some b) w w'
def xj(af:Int)(x:Nd):Prop:= ∀(w0 w:World) (b:Nat) (l:Tx),cH w0 x->Gl w0->Below w0.heap.size w0 w->bY w w0.heap.size b iE [.int .i64 af] l->l.length+100*fq x<=1000000->
 Calls prog 126 #[.pointer (some ⟨b,0,none⟩),vN x] w (zR w0 w b af (l++bD af x))
theorem Ex:28≠dR:=by decide
theorem sx{w0 w:World}{b:Nat}{af:Int}{l:Tx}(s:Tx)(hB:Below w0.heap.size w0 w)(h:bY w w0.heap.size b iE [.int .i64 af] l)(hl:l.length+s.length<=2000000):
 Calls prog 56 #[.pointer (some ⟨b,0,none⟩),.string (tx s)] w fun e w'=>e= .returned (.tuple #[.int .i64 s.length,.nilIface])/\bY w' w0.heap.size b iE [.int .i64 af] (l++s)/\Below w0.heap.size w0 w'/\apH dR (some b) w w':=
 (xA w0.heap.size b iE [.int .i64 af] l s w YU h (by omega) hB.size).mono fun e w' ⟨he,h1,h2,h3⟩=>⟨he,h1,hB.trans h2,h3⟩
theorem n9{b:Option Nat}{u v w:World}(h:apH dR b u v)(k:apH dR b v w):apH dR b u w:=h.trans k
theorem Ov(af:Int)(x:Nd)(br:Bool)(H:xj af x)(ho:bK af x)(w0 w:World)(b:Nat)(l:Tx)(hI:cH w0 x)(g:Gl w0)(hB:Below w0.heap.size w0 w)(hP:bY w w0.heap.size b iE [.int .i64 af] l)(hl:l.length+10+100*fq x<=1000000):
 Calls prog 212 #[.pointer (some ⟨b,0,none⟩),vN x,.bool br] w (zR w0 w b af (l++dY br (bD af x))):=by
 have eJ:=hP.base;have hne:w.heap.size≠b:=by omega
 have B:=al w (aS x);have hP:=hP.below B;have hB:=hB.trans (B.mono hB.size);have KB:=yE (some b) B;have b0:cO (w.alloc (aS x)) w.heap.size (cN x) 28:=cO.new w _ _;have HI:=hid hI;have HG:=hid g;have HH:=hid H;have lH:=uq ho;clear H hI g ho B;cases br
 ·have HN:=HH.out w0 (w.alloc (aS x)) b l HI.out HG.out hB hP (by omega)
  have HN:=hid HN;have HE:=hid (show dY false (bD af x)=bD af x from rfl);clear hB hP b0;rw[HE.out];generalize bD af x=s at*;go_in;go_wp2_with fail;refine HN.out.mono ?_;rintro e w1 ⟨rfl,hP,hB,K⟩;have K:=n9 KB K;go_wp2_with fail
  go_end0
  exact⟨rfl,hP,hB,K⟩
 ·have W1:=sx [40] hB hP (by simp;omega)
  have W1:=hid W1;have HE:=hid (show l++dY true (bD af x)=l++[40]++bD af x++[41] by unfold dY;rw[if_pos rfl];simp);clear hB hP;rw[HE.out];go_in;go_wp2_with fail;refine W1.out.mono ?_;rintro e w1 ⟨rfl,hP,hB,K⟩;have b1:=b0.others K hne Ex;have K1:=n9 KB K;obtain⟨q0,q1,q2,q3,q4,q5⟩:w1.cell? ⟨w.heap.size,0,none⟩=some (.int .i64 x.kind)/\w1.cell? ⟨w.heap.size,1,none⟩=some (.int .i64 x.th.thread)/\w1.cell? ⟨w.heap.size,2,none⟩=some (.int .i64 x.th.au)/\w1.cell? ⟨w.heap.size,3,none⟩=some (.string (tx x.th.loc))/\w1.cell? ⟨w.heap.size,4,none⟩=some (.int .i64 x.val)/\w1.cell? ⟨w.heap.size,5,none⟩=some (.slice x.a x.kids.length x.c):=⟨b1.get 0 _ rfl,b1.get 1 _ rfl,b1.get 2 _ rfl,b1.get 3 _ rfl,b1.get 4 _ rfl,b1.get 5 _ rfl⟩;have HN:=hid (HH.out w0 w1 b (l++[40]) HI.out HG.out hB hP (by simp;omega));clear hB hP K b0 b1;go_wp2_with fail;refine HN.out.mono ?_;rintro e w2 ⟨rfl,hP,hB,K⟩;have K1:=n9 K1 K;have W2:=hid (sx [41] hB hP (by simp;omega));clear hB hP K q0 q1 q2 q3 q4 q5;go_wp2_with fail;refine W2.out.mono ?_;rintro e w3 ⟨rfl,hP,hB,K⟩;have K1:=n9 K1 K;go_wp2_with fail
  go_end0
  exact⟨rfl,hP,hB,K1⟩
theorem Ow(F:Nat)(and:Bool)(sep:Tx)(hF:F=210\/F=214)(MR: ∀(k:Int) (w:World),Calls prog F #[.int .i64 k] w (sY w (.bool (weak and k))))(nV:sep.length=4)(af:Int)(a:Option Addr)(c:Nat)(ks:List Nd)(ho: ∀y∈ks,bK af y)(H: ∀y∈ks,xj af y)(w0 w:World)(b:Nat)(l:Tx)(hE:bf cN w0 a ks)(hI: ∀y∈ks,cH w0 y)(g:Gl w0)(hB:Below w0.heap.size w0 w)(hP:bY w w0.heap.size b iE [.int .i64 af] l)(hl:l.length+100*dh ks<=999900):
 Calls prog 213 #[.pointer (some ⟨b,0,none⟩),.slice a ks.length c,.string (tx sep),.func (.func F) #[] #[]] w (zR w0 w b af (l++fG af and sep ks)):=by
 obtain⟨n,hn⟩: ∃n,ks.length=n:=⟨_,rfl⟩;have HN:=hid hn;have fC:=hE.len;rw[hn]at fC⊢;have HO:=hid ho;have HH:=hid H;have HI:=hid hI;have HG:=hid g;have HE:=hid hE;have WK:=hid MR;have K0:=Lib.OthersKept.refl dR (some b) w;clear ho H hI g hE hn MR;rcases hF with rfl|rfl
 all_goals
  go_in;go_wp2_with fail
  go_loopw [12] (fun i wr=> ∃(k:Nat) (t:Tx),k<=n/\i= .int .i64 k/\bY wr w0.heap.size b iE [.int .i64 af] (l++t)/\Below w0.heap.size w0 wr/\apH dR (some b) w wr/\Hid (t=fG af and sep (ks.take k))) (fun i _=>n-(intOf i).toNat)
  case atStart=>exact⟨0,[],Nat.zero_le _,rfl,by rw[anz];exact hP,hB,K0,hid (by rw[List.take_zero,yU])⟩
  case round=>
   obtain⟨k,t,hk,rfl,hP,hB,K,HT⟩:=hrel
   by_cases hlk:k<n
   ·obtain⟨y,hy⟩: ∃y,ks[k]? =some y:=⟨_,List.getElem?_eq_getElem (by rw[HN.out];exact hlk)⟩
    have dP:=List.mem_of_getElem? hy;have Io:=HE.out.below hB;obtain⟨p0,p1,p2,p3,p4,p5⟩:=Io.nd hy;have ix:=Io.idx nk ja k (by rw[HN.out];exact hlk) c;rw[HN.out]at ix;have htk:=V0 (af:=af) (and:=and) (sep:=sep) hy;have hlen:=VZ (af:=af) (and:=and) (sep:=sep) (by omega) (l:=ks.take k) (fun z hz=>HO.out z (List.mem_of_mem_take hz))
    have yc:dh (ks.take k)+fq y<=dh ks:=by
     have h1:=pY (ks.take (k+1)) (ks.drop (k+1));rw[List.take_append_drop]at h1
     have h2:ks.take (k+1)=ks.take k++[y]:=by
      obtain⟨hlt,rfl⟩:=List.getElem?_eq_some_iff.1 hy;exact List.take_succ_eq_append_getElem hlt
     rw[h2,pY,j9,rI]at h1;omega
    rw[<-HT.out]at hlen htk;have hA:Below wr.heap.size wr (wr.alloc (aS y)):=al wr (aS y);have qf:=hP.below hA;have ki:=hB.trans (hA.mono hB.size);have KA:=n9 K (yE (some b) hA);have bA:cO (wr.alloc (aS y)) wr.heap.size (cN y) 28:=cO.new wr _ _;have hne:wr.heap.size≠b:=by have:=hP.base;omega
    have KD:=hid (fun(w1:World) (l1:Tx) (hB:Below w0.heap.size w0 w1) (hP:bY w1 w0.heap.size b iE [.int .i64 af] l1) (h:l1.length+10+100*fq y<=1000000)=>Ov af y (weak and y.kind) (HH.out y dP) (HO.out y dP) w0 w1 b l1 (HI.out y dP) HG.out hB hP h);have WK:=hid (WK.out y.kind);obtain⟨wk,hwk⟩: ∃wk,weak and y.kind=wk:=⟨_,rfl⟩;rw[hwk]at KD WK htk;obtain⟨s1,hs1⟩: ∃s1,dY wk (bD af y)=s1:=⟨_,rfl⟩;rw[hs1]at KD htk;obtain⟨T,hT⟩: ∃T,t++(if k=0 then[]else sep)=T:=⟨_,rfl⟩;rw[hT]at htk;have en:=hid htk.symm
    have Qf:T.length<=t.length+4:=by
     rw[<-hT,aoE];split
     ·simp
     ·omega
    clear hwk hs1 Io dP hy hP hB K hA htk
    by_cases h0:k=0
    focus
     rw[if_pos h0,anz]at hT;subst h0;obtain rfl:T=t:=hT.symm;simp only[apg,aod,Int.ofNat_zero]at p0 p1 p2 p3 p4 p5 ix;have en:Hid (T++s1=fG af and sep (ks.take 1)):=en;clear HT hk
     go_upto_region 5 with(fail)
     generalize wr.alloc (aS y)=W1 at*
    rotate_left
    focus
     have zk:(0:Int)<k:=by omega
     rw[if_neg h0]at hT;have h0':0<k:=by omega
     clear HT h0
     go_upto_region 4 with(fail)
     generalize wr.alloc (aS y)=W0 at*;have W4:=hid (sx sep ki qf (by rw[aoE];omega));clear qf ki p0 p1 p2 p3 p4 p5 ix;go_wp2_with fail;refine W4.out.mono ?_;rintro e W1 ⟨rfl,qf,ki,K4⟩;have KA:=n9 KA K4;have bA:=bA.others K4 hne Ex;rw[anF,hT]at qf;clear W4 K4 hT;go_wp2_with fail
    all_goals
     have u0:=bA.get 0 _ rfl;have u1:=bA.get 1 _ rfl;have u2:=bA.get 2 _ rfl;have u3:=bA.get 3 _ rfl;have u4:=bA.get 4 _ rfl;have u5:=bA.get 5 _ rfl;obtain⟨W2,AD⟩: ∃W2:World,W2=W1.drew:=⟨_,rfl⟩;have dB:=below_drewN W1 1;have qf:bY W2 w0.heap.size b iE [.int .i64 af] (l++T):=by rw[AD];exact qf.below dB
     have ki:Below w0.heap.size w0 W2:=by rw[AD];exact ki.trans (dB.mono ki.size)
     have KA:apH dR (some b) w W2:=by rw[AD];exact n9 KA (yE (some b) dB)
     have bA:cO W2 wr.heap.size (cN y) 28:=by rw[AD];exact bA.below dB
     subst AD
     go_region_held3 (fun w'=>w'.cell? ⟨wr.heap.size,0,none⟩=some (.int .i64 y.kind)/\w'.cell? ⟨wr.heap.size,1,none⟩=some (.int .i64 y.th.thread)/\w'.cell? ⟨wr.heap.size,2,none⟩=some (.int .i64 y.th.au)/\w'.cell? ⟨wr.heap.size,3,none⟩=some (.string (tx y.th.loc))/\w'.cell? ⟨wr.heap.size,4,none⟩=some (.int .i64 y.val)/\w'.cell? ⟨wr.heap.size,5,none⟩=some (.slice y.a y.kids.length y.c)) (first|exact⟨by assumption,by assumption,by assumption,by assumption,by assumption,by assumption⟩|go_keep)
      (first
       |((first|go_at_call 210|go_at_call 214);refine(WK.out _).mono ?_;rintro e w5 ⟨rfl,Q⟩;have Q:=Q.below;have u0:=(Q.cell (gR u0)).trans u0;have u1:=(Q.cell (gR u1)).trans u1;have u2:=(Q.cell (gR u2)).trans u2;have u3:=(Q.cell (gR u3)).trans u3;have u4:=(Q.cell (gR u4)).trans u4;have u5:=(Q.cell (gR u5)).trans u5;have bA:=bA.below Q;have qf:=qf.below Q;have KA:=n9 KA (yE (some b) Q);have ki:=ki.trans (Q.mono ki.size);clear Q)
       |(go_at_call 212;refine(KD.out _ _ ki qf (by simp only[aoE];omega)).mono ?_;rintro e w6 ⟨rfl,qf,ki,K6⟩;have KA:=n9 KA K6;have bA:=bA.others K6 hne Ex;clear K6;have u0:=bA.get 0 _ rfl;have u1:=bA.get 1 _ rfl;have u2:=bA.get 2 _ rfl;have u3:=bA.get 3 _ rfl;have u4:=bA.get 4 _ rfl;have u5:=bA.get 5 _ rfl))
     clear u0 u1 u2 u3 u4 u5 bA;go_wp2_with fail
     go_roundw
     case rel=>exact⟨_,T++s1,by omega,by go_num,by rw[<-anF];assumption,by assumption,by assumption,en⟩
     case measure=>simp[intOf];omega
   ·obtain rfl:k=n:=by omega
    have en:=hid (show fG af and sep ks=t by rw[HT.out,<-HN.out,List.take_length]);clear HT;go_wp2_with fail
    go_end0
    exact⟨rfl,by rw[en.out];exact hP,hB,K⟩
theorem ZQ(af:Int)(a:Option Addr)(c:Nat)(ks:List Nd)(ho: ∀y∈ks,bK af y)(H: ∀y∈ks,xj af y)(w0 w:World)(b:Nat)(l:Tx)(hE:bf cN w0 a ks)(hI: ∀y∈ks,cH w0 y)(g:Gl w0)(hB:Below w0.heap.size w0 w)(hP:bY w w0.heap.size b iE [.int .i64 af] l)(hl:l.length+100*dh ks<=999900):
 Calls prog 213 #[.pointer (some ⟨b,0,none⟩),.slice a ks.length c,.string ⟨#[32,47,92,32]⟩,.func (.func 210) #[] #[]] w (zR w0 w b af (l++fG af true kV ks)):=
 Ow _ true kV (by decide) OM rfl af a c ks ho H w0 w b l hE hI g hB hP hl
theorem ZR(af:Int)(a:Option Addr)(c:Nat)(ks:List Nd)(ho: ∀y∈ks,bK af y)(H: ∀y∈ks,xj af y)(w0 w:World)(b:Nat)(l:Tx)(hE:bf cN w0 a ks)(hI: ∀y∈ks,cH w0 y)(g:Gl w0)(hB:Below w0.heap.size w0 w)(hP:bY w w0.heap.size b iE [.int .i64 af] l)(hl:l.length+100*dh ks<=999900):
 Calls prog 213 #[.pointer (some ⟨b,0,none⟩),.slice a ks.length c,.string ⟨#[32,92,47,32]⟩,.func (.func 214) #[] #[]] w (zR w0 w b af (l++fG af false kW ks)):=
 Ow _ false kW (by decide) aaF rfl af a c ks ho H w0 w b l hE hI g hB hP hl
structure mh(w0 w wx:World)(b:Nat)(af:Int)(x:Nd)(l:Tx):Prop where
 nI:bY wx w0.heap.size b iE [.int .i64 af] l
 bG:Below w0.heap.size w0 wx
 qx:apH dR (some b) w wx
 blk:cO wx w.heap.size (cN x) 28
 g:Gl wx
section
variable {w0 w wx wy:World} {b:Nat} {af:Int} {x:Nd} {l l2:Tx}
theorem mh.new(x:Nd)(g:Gl w0)(hB:Below w0.heap.size w0 w)(hP:bY w w0.heap.size b iE [.int .i64 af] l):mh w0 w (w.alloc (aS x)) b af x l:=
 have B:=al w (aS x)
 ⟨hP.below B,hB.trans (B.mono hB.size),yE (some b) B,cO.new w _ _,g.below (hB.trans (B.mono hB.size))⟩
theorem mh.below(h:mh w0 w wx b af x l)(Q:Below wx.heap.size wx wy):mh w0 w wy b af x l:=
 ⟨h.nI.below Q,h.bG.trans (Q.mono h.bG.size),n9 h.qx (yE (some b) Q),h.blk.below Q,h.g.below Q⟩
theorem mh.drew(h:mh w0 w wx b af x l):mh w0 w wx.drew b af x l:=h.below (below_drewN wx 1)
theorem mh.wrote(h:mh w0 w wx b af x l)(g:Gl w0)(hne:w.heap.size≠b)(hP:bY wy w0.heap.size b iE [.int .i64 af] l2)(hB:Below w0.heap.size w0 wy)(K:apH dR (some b) wx wy):mh w0 w wy b af x l2:=
 ⟨hP,hB,n9 h.qx K,h.blk.others K hne Ex,g.below hB⟩
theorem mh.all(h:mh w0 w wx b af x l):wx.cell? ⟨w.heap.size,0,none⟩=some (.int .i64 x.kind)/\wx.cell? ⟨w.heap.size,1,none⟩=some (.int .i64 x.th.thread)/\wx.cell? ⟨w.heap.size,2,none⟩=some (.int .i64 x.th.au)/\wx.cell? ⟨w.heap.size,3,none⟩=some (.string (tx x.th.loc))/\wx.cell? ⟨w.heap.size,4,none⟩=some (.int .i64 x.val)/\wx.cell? ⟨w.heap.size,5,none⟩=some (.slice x.a x.kids.length x.c)/\wx.cell? ⟨b,2,none⟩=some (.int .i64 af):=
 ⟨h.blk.get 0 _ rfl,h.blk.get 1 _ rfl,h.blk.get 2 _ rfl,h.blk.get 3 _ rfl,h.blk.get 4 _ rfl,h.blk.get 5 _ rfl,by have v:=h.nI.rest 0 _ rfl;simpa only[Nat.zero_add]using v⟩
end
theorem afo(af:Int): ∀(x:Nd),bK af x->xj af x:=by
 intro x
 induction x using Nd.ind with
 | h x ih=>
   intro ho w0 w b l hI g hB hP hl;have tO: ∀y∈x.kids,xj af y:=fun y hy=>ih y hy (ho.dm y hy)
   have hcn:=rJ x;have hne:w.heap.size≠b:=by have:=hP.base;omega
   have V:=hid (mh.new x g hB hP);have HG:=hid g;rcases qp ho.may with⟨h1,h2⟩|⟨h1,h2,h3,h4⟩|⟨h1,h2⟩|⟨h1,h2⟩|⟨h1,h2⟩
   focus
    have z1:(x.kind==1)=true:=by rw[h1];rfl
    have E:=hid (show bD af x=[116,114,117,101] by rw[jZ,if_pos h1]);clear h1 h2
   rotate_left
   have z1:(x.kind==1)=false:=by rw[h1];rfl
   have z2:(x.kind==2)=true:=by rw[h1];rfl
   have tR:=nZ h3;have l2:=qm h3;obtain⟨s2,hs2⟩: ∃s2,Lib.itoa x.val=s2:=⟨_,rfl⟩;have IT:=hid (show ∀(w:World),Gl w->Calls prog 57 #[.int .i64 x.val] w (ax w (.string (tx s2)))from fun w g=>hs2▸jV x.val (by omega) (by omega) w g);rw[hs2]at l2
   have ll:x.th.loc.length<=32:=by
    rcases yX h2 with⟨a1,a2,a3⟩|⟨i,k,a1,a2,a3⟩
    ·exact(iU a3).2
    ·rw[a1];simp
   obtain⟨t1,t2,fN,bN,c1,c2⟩:=GU (vb:=⟨#[61]⟩) x.th.loc [61] s2 rfl rfl rfl (by simp only[ans,anX];omega);simp only[ans,anX]at bN;rcases yX h2 with⟨a1,a2,a3⟩|⟨i,k,a1,a2,a3⟩
   focus
    have zt:decide (0<=x.th.thread)=false:=decide_eq_false (by omega);have zt2: ¬0<=x.th.thread:=by omega
    have E:=hid (show bD af x=t2 by rw[jZ,if_neg (by omega),if_pos h1];unfold oP;rw[ako a1,hs2,fN]);have HL:=hid (show l.length+t2.length<=2000000 by omega);clear h1 h2 h3 h4 a1 a2 a3 tR hs2 fN bN l2 ll
   rotate_left
   focus
    have e1:x.th.thread=i:=by rw[a1]
    have e2:x.th.au=k:=by rw[a1]
    have zt:decide (0<=x.th.thread)=true:=decide_eq_true (by omega);have zt2:0<=x.th.thread:=by omega
    have l3:=Lib.itoa_length_le x.th.thread (by omega) (by omega);have l4:=KE (af:=af) (k:=k) a3;obtain⟨s3,hs3⟩: ∃s3,Lib.itoa x.th.thread=s3:=⟨_,rfl⟩;obtain⟨s4,nU⟩: ∃s4,cz af k=s4:=⟨_,rfl⟩;have IH:=hid (show ∀(w:World),Gl w->Calls prog 57 #[.int .i64 x.th.thread] w (ax w (.string (tx s3)))from fun w g=>hs3▸jV x.th.thread (by omega) (by omega) w g);have RG:=hid (show ∀(w:World),Calls prog 211 #[.int .i64 af,.int .i64 x.th.au] w (ax w (.string (tx s4)))from fun w=>nU▸e2▸OJ af k a3 w);rw[hs3]at l3;rw[nU]at l4;obtain⟨t3,t4,QM,Qy,c3,c4⟩:=GU (vb:=⟨#[58]⟩) s3 [58] s4 rfl rfl rfl (by simp only[ans,anX];omega);simp only[ans,anX]at Qy
    have E:=hid (show l++bD af x=l++t4++t2 by
     rw[jZ,if_neg (by omega),if_pos h1,<-fN,<-QM,<-hs2,<-hs3,<-nU,e1];unfold oP;rw[a1,V7];simp[anF])
    have Xo:=hid (show l.length+t4.length<=2000000 by omega);have HL:=hid (show(l++t4).length+t2.length<=2000000 by rw[aoE];omega);clear h1 h2 h3 h4 a1 a2 a3 tR hs2 fN bN l2 ll e1 e2 l3 l4 hs3 nU QM Qy
   rotate_left
   focus
    obtain⟨y,hy⟩: ∃y,x.kids=[y]:=List.length_eq_one_iff.1 h2;have dP:y∈x.kids:=by rw[hy];simp
    have z1:(x.kind==1)=false:=by rw[h1];rfl
    have z2:(x.kind==2)=false:=by rw[h1];rfl
    have z3:(x.kind==3)=true:=by rw[h1];rfl
    have E:=hid (show bD af x=[126]++dY (weak true y.kind) (bD af y) by rw[jZ,if_neg (by omega),if_neg (by omega),if_pos h1,hy,pK,lZ,anz];rfl);have rS:dh x.kids=fq y:=by rw[hy,j9,rI];rfl
    have HX:=hid (show x.kids[0]? =some y/\0<x.kids.length by rw[hy];simp);have KD:=hid (fun(w1:World) (l1:Tx) (hB:Below w0.heap.size w0 w1) (hP:bY w1 w0.heap.size b iE [.int .i64 af] l1) (h:l1.length+10+100*fq y<=1000000)=>Ov af y (weak true y.kind) (tO y dP) (ho.dm y dP) w0 w1 b l1 (hI.dm y dP) g hB hP h);have WK:=hid (OM y.kind);have HI:=hid hI;clear h1 h2 hy dP
   rotate_left
   focus
    have z1:(x.kind==1)=false:=by rw[h1];rfl
    have z2:(x.kind==2)=false:=by rw[h1];rfl
    have z3:(x.kind==3)=false:=by rw[h1];rfl
    have z4:(x.kind==4)=true:=by rw[h1];rfl
    have E:=hid (show bD af x=fG af true kV x.kids by rw[jZ,if_neg (by omega),if_neg (by omega),if_neg (by omega),if_pos h1]);have KD:=hid (ZQ af x.a x.c x.kids ho.dm tO w0 (w.alloc (aS x)) b l hI.els hI.dm g V.out.bG V.out.nI (by omega));clear h1 h2
   rotate_left
   focus
    have z1:(x.kind==1)=false:=by rw[h1];rfl
    have z2:(x.kind==2)=false:=by rw[h1];rfl
    have z3:(x.kind==3)=false:=by rw[h1];rfl
    have z4:(x.kind==4)=false:=by rw[h1];rfl
    have z5:(x.kind==5)=true:=by rw[h1];rfl
    have E:=hid (show bD af x=fG af false kW x.kids by rw[jZ,if_neg (by omega),if_neg (by omega),if_neg (by omega),if_neg (by omega)]);have KD:=hid (ZR af x.a x.c x.kids ho.dm tO w0 (w.alloc (aS x)) b l hI.els hI.dm g V.out.bG V.out.nI (by omega));clear h1 h2
   rotate_left
   all_goals
    clear ho tO ih hI g hB hP;go_in
    go_upto_region 1 with(fail)
    generalize w.alloc (aS x)=W1 at*;obtain⟨u0,u1,u2,u3,u4,u5,v2⟩:=V.out.all
   ·have W4:=hid (sx [116,114,117,101] V.out.bG V.out.nI (by simp;omega))
    go_wp2_with fail;refine W4.out.mono ?_;rintro e w2 ⟨rfl,hP,hB,K⟩;have V:=hid (V.out.wrote HG.out hne hP hB K);go_wp2_with fail
    go_end0
    exact⟨rfl,by rw[E.out];exact V.out.nI,V.out.bG,V.out.qx⟩
   rotate_left 2
   ·have W4:=hid (sx [126] V.out.bG V.out.nI (by simp;omega))
    go_wp2_with fail;refine W4.out.mono ?_;rintro e w2 ⟨rfl,hP,hB,K⟩;have V:=hid (V.out.wrote HG.out hne hP hB K).drew;clear u0 u1 u2 u3 u4 u5 v2 W4 hP hB K;go_wp2_with fail;have di:=HI.out.keep V.out.bG;obtain⟨p0,p1,p2,p3,p4,p5⟩:=di.els.nd HX.out.1;have ix:=di.els.idx nk ja 0 HX.out.2 x.c;simp only[apg,aod,Int.ofNat_zero]at p0 p1 p2 p3 p4 p5 ix;obtain⟨-, -, -, -, -, u5, -⟩:=V.out.all;clear di;obtain⟨wk,hwk⟩: ∃wk,weak true y.kind=wk:=⟨_,rfl⟩;rw[hwk]at KD WK E;clear hwk
    go_region_held3 (fun w'=>w'.cell? ⟨w.heap.size,5,none⟩=some (.slice x.a x.kids.length x.c)/\w'.cell? ⟨bk x.a,fo x.a,none⟩=some (.int .i64 y.kind)/\w'.cell? ⟨bk x.a,fo x.a+1,none⟩=some (.int .i64 y.th.thread)/\w'.cell? ⟨bk x.a,fo x.a+2,none⟩=some (.int .i64 y.th.au)/\w'.cell? ⟨bk x.a,fo x.a+3,none⟩=some (.string (tx y.th.loc))/\w'.cell? ⟨bk x.a,fo x.a+4,none⟩=some (.int .i64 y.val)/\w'.cell? ⟨bk x.a,fo x.a+5,none⟩=some (.slice y.a y.kids.length y.c)) (first|exact⟨by assumption,by assumption,by assumption,by assumption,by assumption,by assumption,by assumption⟩|go_keep)
     (first
      |(go_at_call 210;refine(WK.out _).mono ?_;rintro e w5 ⟨rfl,Q⟩;have Q:=Q.below;have V:=hid (V.out.below Q);obtain⟨-, -, -, -, -, u5, -⟩:=V.out.all;have p0:=(Q.cell (gR p0)).trans p0;have p1:=(Q.cell (gR p1)).trans p1;have p2:=(Q.cell (gR p2)).trans p2;have p3:=(Q.cell (gR p3)).trans p3;have p4:=(Q.cell (gR p4)).trans p4;have p5:=(Q.cell (gR p5)).trans p5;clear Q)
      |(go_at_call 212;refine(KD.out _ _ V.out.bG V.out.nI (by simp only[aoE,List.length_singleton];omega)).mono ?_;rintro e w6 ⟨rfl,hP,nQ,K6⟩;have V:=hid (V.out.wrote HG.out hne hP nQ K6);obtain⟨-, -, -, -, -, u5, -⟩:=V.out.all;have di:=HI.out.keep nQ;obtain⟨p0,p1,p2,p3,p4,p5⟩:=di.els.nd HX.out.1;simp only[apg,aod]at p0 p1 p2 p3 p4 p5;clear di))
    clear u5 p0 p1 p2 p3 p4 p5 ix;go_wp2_with fail
    go_end0
    exact⟨rfl,by rw[E.out,<-anF];exact V.out.nI,V.out.bG,V.out.qx⟩
   iterate 2
    focus
     go_wp2_with fail;refine KD.out.mono ?_;rintro e w2 ⟨rfl,hP,hB,K⟩;go_wp2_with fail
     go_end0
     exact⟨rfl,by rw[E.out];exact hP,hB,n9 V.out.qx K⟩
   rotate_left
   focus
    go_wp2_with fail;have V:=hid V.out.drew;obtain⟨u0,u1,u2,u3,u4,u5,v2⟩:=V.out.all
    go_region_held3 (fun w'=>w'.cell? ⟨w.heap.size,1,none⟩=some (.int .i64 x.th.thread)/\w'.cell? ⟨w.heap.size,2,none⟩=some (.int .i64 x.th.au)/\w'.cell? ⟨b,2,none⟩=some (.int .i64 af)) (first|exact⟨by assumption,by assumption,by assumption⟩|go_keep)
     (first
      |(go_at_call 57;refine(IH.out _ V.out.g).mono ?_;rintro e w5 ⟨rfl,Q⟩;have V:=hid (V.out.below Q);obtain⟨u0,u1,u2,u3,u4,u5,v2⟩:=V.out.all;clear Q)
      |(go_at_call 211;refine(RG.out _).mono ?_;rintro e w5 ⟨rfl,Q⟩;have V:=hid (V.out.below Q);obtain⟨u0,u1,u2,u3,u4,u5,v2⟩:=V.out.all;clear Q)
      |(go_at_call 56;refine(sx t4 V.out.bG V.out.nI Xo.out).mono ?_;rintro e w6 ⟨rfl,hP,nQ,K6⟩;have V:=hid (V.out.wrote HG.out hne hP nQ K6);clear K6 nQ hP;obtain⟨u0,u1,u2,u3,u4,u5,v2⟩:=V.out.all))
   all_goals
    go_wp2_with fail;have V:=hid V.out.drew;obtain⟨u0,u1,u2,u3,u4,u5,v2⟩:=V.out.all
    go_region_held3 (fun w'=>w'.cell? ⟨w.heap.size,3,none⟩=some (.string (tx x.th.loc))/\w'.cell? ⟨w.heap.size,4,none⟩=some (.int .i64 x.val)) (first|exact⟨by assumption,by assumption⟩|go_keep)
     (first
      |(go_at_call 57;refine(IT.out _ V.out.g).mono ?_;rintro e w5 ⟨rfl,Q⟩;have V:=hid (V.out.below Q);obtain⟨u0,u1,u2,u3,u4,u5,v2⟩:=V.out.all;clear Q)
      |(go_at_call 56;refine(sx t2 V.out.bG V.out.nI HL.out).mono ?_;rintro e w6 ⟨rfl,hP,nQ,K6⟩;have V:=hid (V.out.wrote HG.out hne hP nQ K6);clear K6 nQ hP;obtain⟨u0,u1,u2,u3,u4,u5,v2⟩:=V.out.all))
    go_wp2_with fail
    go_end0
    exact⟨rfl,by rw[E.out];exact V.out.nI,V.out.bG,V.out.qx⟩
theorem aai(af q:Int)(x:Nd)(w:World)(hI:cH w x)(he:bF af q x=0)(g:Gl w):
 Calls prog 60 #[.int .i64 af,vC q x] w (ax w (.tuple #[.string (tx (eF af q x)),.int .i64 0])):=by
 obtain⟨-, hq1,sg,ho,hn⟩:=rL he;have B:=al w (gX q x);have b0:cO (w.alloc (gX q x)) w.heap.size (cC q x) 30:=cO.new w _ _;have CH:=Ah af q x (w.alloc (gX q x)) (hI.keep B);rw[he]at CH;have CH:=hid CH;have HI:=hid (hI.keep B);have HG:=hid (g.below B);have HO:=hid ho;have lH:=uq ho;clear hI g he ho;go_in;go_wp2_with fail;refine CH.out.mono ?_;rintro e1 w1 ⟨rfl,E1⟩;have b1:=b0.below E1;have hI:=HI.out.keep E1;have g:=HG.out.below E1;have B:=B.trans (E1.mono B.size);have Mb:=hid B;have hbw:w.heap.size<w1.heap.size:=b1.lt;have hne:w.heap.size≠w1.heap.size:=by omega
 clear HI HG CH b0 E1;have A:=al w1 (.cells #[.pointer none,.slice none 0 0,.int .i64 af] iE);have hP:bY (w1.alloc (.cells #[.pointer none,.slice none 0 0,.int .i64 af] iE)) w1.heap.size w1.heap.size iE [.int .i64 af] []:=bY.new w1 iE [.int .i64 af];have bA:=b1.below A;have QQ:=hid (And.intro A (And.intro hP bA));clear A hP bA b1;go_wp2_with fail;obtain⟨hB,hP,bA⟩:=QQ.out;clear QQ;generalize w1.alloc (.cells #[.pointer none,.slice none 0 0,.int .i64 af] iE)=W1 at*;have u9:=bA.get 0 _ rfl;have dB:=below_drewN W1 1;have hP:=hP.below dB;have hB:=hB.trans (dB.mono hB.size);have bA:=bA.below dB;have hP:bY W1.drew w1.heap.size w1.heap.size iE [.int .i64 af] []:=hP;have hB:Below w1.heap.size w1 W1.drew:=hB;have bA:cO W1.drew w.heap.size (cC q x) 30:=bA;have aB:=al W1.drew (.cells #[.string ⟨#[]⟩,.string ⟨#[101,120,105,115,116,115,32,40]⟩,.string ⟨#[126,101,120,105,115,116,115,32,40]⟩,.string ⟨#[102,111,114,97,108,108,32,40]⟩] 9);have hP:=hP.below aB;have hB:=hB.trans (aB.mono hB.size);have HA:=hid (bA.below aB);have u0:=bA.get 0 _ rfl;have hlt:w.heap.size<W1.heap.size:=bA.lt;have hh:(iQ q).length<=9:=by unfold iQ;split<;>(try split)<;>simp
 have W4:=hid (sx (iQ q) hB hP (by simp;omega));have E:=hid (show eF af q x=iQ q++bD af x++[41]from rfl);clear hB hP bA aB dB;have hq:q=1\/q=2\/q=3:=by omega
 have HQ:=hid hq;clear hq hq1 sg hh;have HD:=hid (show ∀z,q=z->w1.heap.size=w1.heap.size/\iQ q=iQ z from fun z hz=>⟨rfl,by rw[hz]⟩);rcases HQ.out with rfl|rfl|rfl
 all_goals
  clear HQ HD
  go_region_with (go_at_call 56;refine W4.out.mono ?_;rintro e2 w2 ⟨rfl,hP,hB,K⟩)
  all_goals
   have bA:=HA.out.others K hne (by decide);have u1:=bA.get 1 _ rfl;have u2:=bA.get 2 _ rfl;have u3:=bA.get 3 _ rfl;have u4:=bA.get 4 _ rfl;have u5:=bA.get 5 _ rfl;have u6:=bA.get 6 _ rfl;have ND:=hid (afo af x HO.out w1 w2 w1.heap.size _ hI g hB hP (by simp only[anJ,iQ];simp;omega));clear bA K hP hB;go_wp2_with fail;refine ND.out.mono ?_;rintro e3 w3 ⟨rfl,hP,hB,K⟩;have W5:=hid (sx [41] hB hP (by simp only[anJ,iQ];simp;omega));clear K hP hB u1 u2 u3 u4 u5 u6;go_wp2_with fail;refine W5.out.mono ?_;rintro e4 w4 ⟨rfl,hP,hB,K⟩;have ST:=hid (GK _ _ _ _ _ w4 hP (by simp));clear K hP;go_wp2_with fail;refine ST.out.mono ?_;rintro e5 w5 ⟨rfl,E5⟩;have BZ:=Mb.out.trans ((hB.trans E5).mono Mb.out.size);go_wp2_with fail
   go_ret2
   exact⟨yQ (by rw[E.out,anF]) rfl,BZ⟩
end Go.Proofs.YtkbbgjloifmmbaaGreatDoor
