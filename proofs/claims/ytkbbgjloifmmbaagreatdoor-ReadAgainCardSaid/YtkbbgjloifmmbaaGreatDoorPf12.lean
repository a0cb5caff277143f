/- What ReadAgainP leans on, part 12. -/
import Derived.Test.YtkbbgjloifmmbaaGreatDoorPf10
import Derived.Test.YtkbbgjloifmmbaaGreatDoorPf8
import Derived.Sort.OwnSorted
set_option linter.unusedVariables false
set_option maxRecDepth 100000
set_option maxHeartbeats 6400000
open _root_.Go.Proofs.Tryz
open _root_.Go renaming World->aAX,Addr->aAZ,Calls->aA7
open _root_.And renaming intro->aA6
open _root_.Go.RowKit renaming Below->aAW
open _root_.List renaming replicate->aBg
namespace Go.Proofs.YtkbbgjloifmmbaaGreatDoor
open Go.RowKit Go.Sort
variable{l:List Th}{B c k n:Nat}{a:Option aAZ}{t y:Th}{w:aAX}
theorem abq{α β:Type}[DecidableEq α][DecidableEq β](f:α->β)(hf: ∀a b,f a=f b->a=b): ∀l:List α,eu (l.map f)=(eu l).map f
 |[]=>rfl
 |[x]=>rfl
 | x::y::r=>by
   have ih:=abq f hf (y::r);simp only[ox]at ih⊢;rw[wH,wH,ih]
   by_cases h:x=y
   ·rw[ak h,ak (by rw[h])]
   rw[ai h,ai (fun e=>h (hf _ _ e))];rfl
theorem aeP(d:List jA):flat eV d=flat oD (d.map (·.1)):=by
 unfold flat;rw[List.flatMap_map]
theorem au.ara(w:aAX)(E size:Nat):au (w.alloc (.cells #[] E)) w.heap.size E size (Option.some ⟨w.heap.size,0,none⟩) 0 0 []:=
 Ab w #[] 0 (aX _) dx aq
def MD(w:aAX)(l:List Th)(e:Ending)(w':aAX):Prop:=
 ∃a c,e= .returned (.slice a l.length c)/\fJ w' w.heap.size a l.length c l/\aAW w.heap.size w w'
theorem al7(l:List Th)(a:Option aAZ)(c:Nat)(w:aAX)(h:cQ oD w a l)(hl:l.length<=1000000):
 aA7 prog 228 #[.slice a l.length c] w (MD w l):=by
 obtain⟨n,hn⟩:=aF l.length;have HN:=af hn;rw[hn]at hl;unfold MD;rw[hn];cases a with
 | none=>
   have hl0:l=[]:=by
    by_cases e:l=[]
    ·exact e
    have:=h.row.head (by intro e2;have:=congrArg List.length e2;rw[kC fM]at this;simp only[je]at this;exact e (lH ah))
    cases this
   subst hl0;have hn0:n=0:=hn.symm;subst hn0;have ze: ∀w,(binOp .eql 112 (.slice none 0 c) (.slice none 0 0)).run prog w= .ok (.bool true) w:=fun w=>rfl
   go_in;go_wp2;go_ret;exact⟨none,0,rfl,au.nil _ _ _ _,bS _ _⟩
 | some p=>
   have ze: ∀w,(binOp .eql 112 (.slice (some p) n c) (.slice none 0 0)).run prog w= .ok (.bool false) w:=fun w=>rfl
   have A:=al w (.cells #[] 25);have o0:=au.ara w 25 3;have hA:=h.below A;have hrl:(flat oD l).length=n*3:=by rw[kC fM,hn]
   go_in
   go_wp2_with (at_builtin;go_loud(refine Zk lY (.tmp 5) (.tmp 6) rfl rfl rfl o0 rfl hA.row hrl (aom Uf l) A A.size ah dx ?_))
   intro a1 c1 w1 o1 g1 E1;have o2:fJ w1 w.heap.size a1 n c1 l:=by simpa[fJ]using o1
   have HO:=af (aA6 o2 E1);go_wp2;go_ret;exact⟨a1,c1,rfl,HO.oo.1,HO.oo.2⟩
theorem ana(x:Nd)(w:aAX)(hI:fZ w x)(ho:eo 2 x)(hc:lN x<=1024):
 aA7 prog 229 #[vN x] w (MD w (qz x)):=by
 have A:=al w (bY x);have b0:=rJ.new w x;have L:=al (w.alloc (bY x)) (.cells #[.slice none 0 0] 112)
 have hLB:LB ((w.alloc (bY x)).alloc (.cells #[.slice none 0 0] 112)) (w.alloc (bY x)).heap.size (w.alloc (bY x)).heap.size []:=
  ⟨none,0,eO.new _ _ _,au.nil _ _ _ _,aX _⟩
 have CA:=amm x (w.alloc (bY x)) _ (w.alloc (bY x)).heap.size [] (hI.keep A) L hLB aC;rw[eE]at CA;have hsz:(w.alloc (bY x)).heap.size=w.heap.size+1:=aq;have HV:=TL ho;have hal:=TJ x;have hval:=Lr (oz x) HV;have hst:=axz ho (fun x y=> !ltOf Ff y x) (fun a b=>by rw[Gt]);obtain⟨d,hd⟩:=aF (Bj (oz x) HV);rw[hd]at hval hst;have qV:(oz x).length=d.length:=by rw[<-hval,eT]
 have HQ:=af (aA6 hval (aA6 hst qV));have CA:=af CA;rw[hsz]at CA;go_in;go_wp2_with fail;refine CA.oo.mono ?_;rintro e w1 ⟨rfl,hL,hB,K⟩;obtain⟨a,c,bL,oL,hle⟩:=hL;have c0:=bL.get 0 _ rfl;obtain⟨hval,hst, -⟩:=HQ.oo;rw[qV]at c0 oL;have oL:au w1 (w.alloc (bY x)).heap.size 25 3 a d.length c (flat eV d):=by rw[aeP,hval];exact oL
 have ST:=af (axx d w1 _ a c oL ah);have ZN:=af oL;have Md:=af bL;have HB:=af hB;go_wp2_with fail;refine ST.oo.mono ?_;rintro e w2 ⟨rfl,oS,sS⟩;have hka:=KO ZN.oo
 have bL2:eO w2 (w.heap.size+1) [.slice a (oz x).length c] 112:=by
  have h1:=Md.oo;have hl:=h1.lt;unfold eO at h1⊢
  rw[sS.grown.block _ hl (fun e=>by
   obtain⟨cs,fz,hh⟩:=hka _ e.symm;rw[h1]at hh;simp at hh)]
  exact h1
 have c2:=bL2.get 0 _ rfl;rw[qV]at c2;have hlen:((xC d).map (·.1)).length=d.length:=by rw[eT];exact MT d
 rw[aeP]at oS;have B2:=sS.below ZN.oo HB.oo HB.oo.size;have CT:=ami ((xC d).map (·.1)) w2 _ a c (by rw[hlen];exact oS) B2.size (by rw[hlen];omega);rw[abq _ (fun a b h=>Tz h),hst,hlen]at CT;have CT:=af CT;have HOS:=af oS;have By:=af hlen;have Ec:=af B2;go_wp2_with fail;refine CT.oo.mono ?_;rintro e w3 ⟨rfl,o3,s3⟩;have B3:=s3.below HOS.oo Ec.oo Ec.oo.size;have BZ:aAW w.heap.size w w3:=(al w (bY x)).trans (B3.mono (al w (bY x)).size);have oZ:fJ w3 w.heap.size a (qz x).length c (qz x):=au.mono o3 aq;have HZ:=af (aA6 oZ BZ);go_wp2;go_ret;exact⟨a,c,rfl,HZ.oo.1,HZ.oo.2⟩
attribute [local go_sem high] Fw Du
def IE(w:aAX)(l:List Th)(r:Int)(e:Ending)(w':aAX):Prop:=
 ∃a c,e= .returned (.tuple #[.slice a l.length c,.int .i64 r])/\fJ w' w.heap.size a l.length c l/\aAW w.heap.size w w'
theorem IE.none{w':aAX}{r:Int}{e:Ending}(hl:l=[])(he:e= .returned (.tuple #[.slice Option.none 0 0,.int .i64 r]))(hb:aAW w.heap.size w w'):IE w l r e w':=by
 subst hl;exact⟨Option.none,0,he,au.nil _ _ _ _,hb⟩
theorem anb(q:Int)(x:Nd)(w:aAX)(hI:fZ w x):aA7 prog 144 #[vC q x] w (IE w (nD q x) (dh 2 q x)):=by
 have B:=al w (kR q x);have b0:aW (w.alloc (kR q x)) w.heap.size (cC q x):=aW.new w _ _;have CH:=NH 2 q x (w.alloc (kR q x)) (hI.keep B);obtain⟨r,hr⟩:=aF (dh 2 q x);rw[hr]at CH⊢
 by_cases h0:r=0
 ·subst h0
  obtain⟨-, hq1,qX,ho,hn⟩:=Ap hr;have hT:=af (show nD q x=qz x by unfold nD;rw[ak hr]);have CH:=af CH;have HI:=af (hI.keep B);have HO:=af ho;obtain⟨-, -, -, htl⟩:=YW ho;go_in;go_wp2_with fail;refine CH.oo.mono ?_;rintro e1 w1 ⟨rfl,E1⟩;obtain⟨q0,q1,q2,q3,q4,q5,q6⟩:=(b0.below E1).cC;have hI:=HI.oo.keep E1;have B:=aI B E1;have TH:=af (ana x w1 hI HO.oo hn);go_wp2_with fail;refine TH.oo.mono ?_;rintro e2 w2 ⟨a,c,rfl,o2,E2⟩;have els:=(au.els o2 fM ah ah).1;have CL:=af (al7 _ a c w2 els ah);have B2:=aI B E2;go_wp2_with fail;refine CL.oo.mono ?_;rintro e3 w3 ⟨a3,c3,rfl,o3,E3⟩;have B3:=aI B2 E3;have HZ:=af (aA6 (au.mono o3 B2.size) B3);go_wp2;go_ret2;rw[hT.oo];exact⟨a3,c3,rfl,HZ.oo.1,HZ.oo.2⟩
 have hT:=af (show nD q x=[] by unfold nD;rw[ai (by rw[hr];exact h0)])
 exact aef
theorem Nv: ∀a b:Tx,Op.bytesLess a b=cX a b
 |[],[]=>rfl
 |[],_::_=>rfl
 |_::_,[]=>rfl
 | a::x,b::y=>by
   unfold Op.bytesLess cX
   by_cases h:a<b
   ·rw[ak h,eU h];rfl
   rw[ai h,eZ h,pZ]
   by_cases h2:b<a
   ·rw[ak h2]
    have:(a==b)=false:=by
     rw[Ah];intro e;subst e;exact h h2
    rw[this];rfl
   rw[ai h2,LH h h2,Tk,yc];exact Nv x y
theorem axb(a b:Tx): ∀w,(Op.stringOp .lss (tx a) (tx b)).run prog w= .ok (.bool (cX a b)) w:=fun w=>by
 simp[Op.stringOp,bU,Nv]
theorem auh(x y:jA)(w:aAX):aA7 prog 334 #[mz x.1,mz y.1] w (bg w (.bool (eJ x.1 y.1))):=by
 have hx:=qC x;have hy:=qC y;obtain⟨⟨t1,r1,l1⟩,p1⟩:=x;obtain⟨⟨t2,r2,l2⟩,p2⟩:=y;simp only at hx hy⊢;have B:=gU (al w (oK ⟨t1,r1,l1⟩)) (oK ⟨t2,r2,l2⟩);have Wd:=axb l1 l2
 have hc:(t1= -1/\t2= -1/\r1=r2/\eJ ⟨t1,r1,l1⟩ ⟨t2,r2,l2⟩=cX l1 l2)\/(t1= -1/\0<=t2/\eJ ⟨t1,r1,l1⟩ ⟨t2,r2,l2⟩=false)\/(0<=t1/\t2= -1/\eJ ⟨t1,r1,l1⟩ ⟨t2,r2,l2⟩=true)\/(0<=t1/\0<=t2/\t1≠t2/\eJ ⟨t1,r1,l1⟩ ⟨t2,r2,l2⟩=decide (t1<t2))\/(0<=t1/\0<=t2/\t1=t2/\r1≠r2/\eJ ⟨t1,r1,l1⟩ ⟨t2,r2,l2⟩=decide (r1<r2))\/(0<=t1/\0<=t2/\t1=t2/\r1=r2/\eJ ⟨t1,r1,l1⟩ ⟨t2,r2,l2⟩=cX l1 l2):=by
  unfold eJ;simp only
  by_cases a1:t1= -1
  ·by_cases b1:t2= -1
   ·left;refine⟨a1,b1,ah,?_⟩
    rw[ai (by simp[a1,b1]),ai (by simp[a1,b1]),ai ah]
   right;left;refine⟨a1,ah,?_⟩
   rw[ak (by simp[a1,b1])];simpa using b1
  by_cases b1:t2= -1
  ·right;right;left;refine⟨ ah,b1,?_⟩
   rw[ak (by simp[a1,b1])];simpa using b1
  right;right;right
  have n1: ¬((t1= -1)≠(t2= -1)):=by simp[a1,b1]
  rw[ai (c:=(t1= -1)≠(t2= -1)) n1]
  by_cases h:t1=t2
  ·by_cases h2:r1=r2
   ·right;right;refine⟨ ah,ah,h,h2,?_⟩;rw[ai ah,ai ah]
   right;left;refine⟨ ah,ah,h,h2,?_⟩;rw[ai ah,ak h2]
  left;refine⟨ ah,ah,h,?_⟩;rw[ak h]
 rcases hc with⟨a1,b1,h,e⟩|⟨a1,b1,e⟩|⟨a1,b1,e⟩|⟨a1,b1,h,e⟩|⟨a1,b1,h,h2,e⟩|⟨a1,b1,h,h2,e⟩
 ·rw[e]
  subst a1 b1 h;exact aeg
 ·rw[e]
  subst a1;have z2:(t2== -1)=false:=aC;exact Og
 ·rw[e]
  subst b1;have z2:(t1== -1)=false:=aC;exact Og
 ·rw[e]
  have z1:(t1== -1)=false:=aC;have z2:(t2== -1)=false:=aC;have z3:(t1 != t2)=true:=aS h;exact Og
 ·rw[e]
  subst h;have z1:(t1== -1)=false:=aC;have z3:(t1 != t1)=false:=aq;have z4:(r1 != r2)=true:=aS h2;exact Og
 rw[e]
 subst h h2;have z1:(t1== -1)=false:=aC;have z3:(t1 != t1)=false:=aq;have z4:(r1 != r1)=false:=aq;exact aeg
abbrev sV(l:List Tx):List Value:=l.map fun x=>Value.string (tx x)
abbrev dz(w:aAX)(B:Nat)(a:Option aAZ)(n c:Nat)(l:List Tx):Prop:=au w B 9 1 a n c (sV l)
theorem G9(l r:List Tx):sV (l++r)=sV l++sV r:=pG
theorem dz.lF{l:List Tx}(h:dz w B a n c l)(hl:l.length<=1000000000000000000):cO w a l:=⟨h.row,hl⟩
theorem cO.at{l:List Tx}(h:cO w a l){y:Tx}(hy:l[k]? =some y):w.cell? ⟨bk a,fo a+k,none⟩=some (.string (tx y)):=by
 obtain⟨aA,rfl⟩:=bt.1 hy;exact h.cell k aA
def aah(B:Nat)(w:aAX)(l:List Tx)(e:Ending)(w':aAX):Prop:=
 ∃a c,e= .returned (.slice a l.length c)/\dz w' B a l.length c l/\aAW w.heap.size w w'
theorem Qi(s:Tx)(aD:List Tx)(a:Option aAZ)(c:Nat)(B:Nat)(w:aAX)(hB:B<=w.heap.size)
 (h:dz w B a aD.length c aD) (hl:aD.length<=10000):
 aA7 prog 245 #[.slice a aD.length c,.string (tx s)] w (aah B w (jQ aD s)):=by
 by_cases hs:s=[]
 ·subst hs
  have z:((tx []).toList==([]:List UInt8))=true:=by rw[bU];rfl
  have HZ:=af (show jQ aD []=aD by unfold jQ;rw[ak rfl]);have H:=af h;go_in;go_wp2;go_ret;rw[HZ.oo];exact⟨a,c,rfl,H.oo,bS _ _⟩
 have z5:((tx s).toList==([]:List UInt8))=false:=by rw[bU];simpa using hs
 have z6:(tx s).toList.isEmpty=false:=by rw[bU];cases s<;>simp at*
 obtain⟨n,hn⟩:=aF aD.length;have HN:=af hn;rw[hn]at h hl⊢;have H1:=af h;have HB:=af hB;have HS:=af hs;go_in;go_wp2_with fail
 go_loopw [5,6,7] (fun out put i wr=> ∃(k:Nat) (ao:Option aAZ) (co:Nat),k<=n/\i= .int .i64 k/\put= .bool ((aD.take k).any (cX s))/\out= .slice ao (kV s (aD.take k)).length co/\aAW w.heap.size w wr/\dz wr w.heap.size ao (kV s (aD.take k)).length co (kV s (aD.take k))/\Hid (s∉aD.take k)) (fun _ _ i _=>n-(intOf i).toNat)
 ·exact aeh
 obtain⟨k,ao,co,hk,rfl,rfl,rfl,E1,oo,Bz⟩:=hrel;have hol:=asr s (aD.take k);obtain⟨L,hL⟩:=aF (kV s (aD.take k));obtain⟨f,hf⟩:=aF ((aD.take k).any (cX s));obtain⟨m,hm⟩:=aF L.length;have l6:=af (aA6 hL hf);have HM:=af hm;rw[hL]at oo hol⊢;rw[hf];rw[hm]at oo hol⊢;rw[lI]at hol
 by_cases aA:k<n
 ·obtain⟨y,hy⟩: ∃y,aD[k]? =some y:=⟨_,aV (by rw[HN.oo];exact aA)⟩
  have HY:=af hy;have tt:=dz.lF (au.below H1.oo E1) (bE HN.oo);have p0:=tt.at hy;have ix:=tt.idx k (by rw[HN.oo];exact aA) c;rw[HN.oo]at ix;obtain⟨d,hd⟩:=aF ((tx y).toList==(tx s).toList);obtain⟨g,hg⟩:=aF (Op.bytesLess (tx s).toList (tx y).toList);have HD:=af (show decide (y=s)=d by rw[<-hd,j9,jE];simp);have HG:=af (show cX s y=g by rw[<-hg,bU,bU,Nv]);cases d with
  | true=>
    have HZ:=af (show jQ aD s=aD/\aD.length=n from⟨by
     unfold jQ;rw[ai HS.oo,ak (by rw[<-wB HD.oo];exact cV HY.oo)],HN.oo⟩)
    go_wp2_with fail
    (try go_simp)
    go_ret;refine⟨a,c,?_,?_,E1⟩
    ·rw[HZ.oo.1,HZ.oo.2];first|done|rfl
    rw[HZ.oo.1,HZ.oo.2];exact au.below H1.oo E1
  | false=>
    have TK:=af (show aD.take (k+1)=aD.take k++[y] by
     obtain⟨aA,rfl⟩:=bt.1 HY.oo;exact pn aA)
    have NM:=af (show s∉aD.take k++[y] by
     intro hm;rcases fc.1 hm with h1|h1
     ·exact Bz.oo h1
     simp at h1;have:=Ex HD.oo;exact this h1.symm)
    cases f with
    | true=>
      have HT:=af (show kV s (aD.take (k+1))=L++[y]/\(aD.take (k+1)).any (cX s)=true from⟨by rw[TK.oo,asu l6.oo.2,l6.oo.1],by rw[TK.oo];simp[l6.oo.2]⟩)
      go_wp2_with (at_builtin;go_loud(refine pQ jR (.tmp 38) (.tmp 43) rfl rfl rfl rfl oo rfl rfl kP E1 E1.size ah dx ?_))
      intro a5 c5 w5 o5 g5 B5;have o5:dz w5 w.heap.size a5 (m+1) c5 (L++[y]):=by unfold dz;rw[G9];exact o5
      have E1:=B5;go_wp2
      go_roundw
      case rel=>
       have hz:(kV s (aD.take (k+1))).length=m+1:=by rw[HT.oo.1,bu,HM.oo];rfl
       refine⟨k+1,a5,c5,ah,by go_num,?_,?_,E1,?_,?_⟩
       ·rw[HT.oo.2]
       ·rw[hz]
       ·exact Fs
       exact Ft
      case measure=>simp[intOf];omega
    | false=>
      cases g with
      | true=>
        have HT:=af (show kV s (aD.take (k+1))=L++[s]++[y]/\(aD.take (k+1)).any (cX s)=true from⟨by rw[TK.oo,ast l6.oo.2 HG.oo,l6.oo.1],by rw[TK.oo];simp[HG.oo]⟩)
        go_wp2_with (at_builtin;go_loud(refine pQ jR (.tmp 34) (.tmp 36) rfl rfl rfl rfl oo rfl rfl kP E1 E1.size ah dx ?_))
        intro a3 c3 w3 o3 g3 B3;have o3:dz w3 w.heap.size a3 (m+1) c3 (L++[s]):=by unfold dz;rw[G9];exact o3
        have E1:=B3;have oo:=o3;have tt:=dz.lF (au.below H1.oo E1) (bE HN.oo);have p0:=tt.at HY.oo;have ix:=tt.idx k (by rw[HN.oo];exact aA) c;rw[HN.oo]at ix
        go_wp2_with (at_builtin;go_loud(refine pQ jR (.tmp 38) (.tmp 43) rfl rfl rfl rfl oo rfl rfl kP E1 E1.size ah dx ?_))
        intro a5 c5 w5 o5 g5 B5;have o5:dz w5 w.heap.size a5 (m+1+1) c5 (L++[s]++[y]):=by simpa[dz,sV]using o5
        have E1:=B5;go_wp2
        go_roundw
        case rel=>
         have hz:(kV s (aD.take (k+1))).length=m+1+1:=by rw[HT.oo.1,bu,bu,HM.oo];rfl
         refine⟨k+1,a5,c5,ah,by go_num,?_,?_,E1,?_,?_⟩
         ·rw[HT.oo.2]
         ·rw[hz]
         ·exact Fs
         exact Ft
        case measure=>simp[intOf];omega
      | false=>
        have HT:=af (show kV s (aD.take (k+1))=L++[y]/\(aD.take (k+1)).any (cX s)=false from⟨by rw[TK.oo,ass l6.oo.2 HG.oo,l6.oo.1],by rw[TK.oo];simp only[List.any_append,l6.oo.2,EN,HG.oo,List.any_nil,Bool.or_false]⟩)
        go_wp2_with (at_builtin;go_loud(refine pQ jR (.tmp 38) (.tmp 43) rfl rfl rfl rfl oo rfl rfl kP E1 E1.size ah dx ?_))
        intro a5 c5 w5 o5 g5 B5;have o5:dz w5 w.heap.size a5 (m+1) c5 (L++[y]):=by unfold dz;rw[G9];exact o5
        have E1:=B5;go_wp2
        go_roundw
        case rel=>
         have hz:(kV s (aD.take (k+1))).length=m+1:=by rw[HT.oo.1,bu,HM.oo];rfl
         refine⟨k+1,a5,c5,ah,by go_num,?_,?_,E1,?_,?_⟩
         ·rw[HT.oo.2]
         ·rw[hz]
         ·exact Fs
         exact Ft
        case measure=>simp[intOf];omega
 obtain rfl:k=n:=ah
 have hk':aD.take k=aD:=by rw[<-HN.oo,jC]
 have HQ:=af (show jQ aD s=if f then L else L++[s] by
  unfold jQ;rw[ai HS.oo,ai (by have:=Bz.oo;rwa[hk']at this),apY];have h1:=l6.oo.1;have h2:=l6.oo.2;rw[hk']at h1 h2;rw[h1,h2])
 cases f with
 | true=>
   go_wp2_with fail
   (try go_simp)
   go_ret;have uo:=HQ.oo;rw[ak trivial]at uo;rw[uo];refine⟨ao,co,?_,?_,E1⟩
   ·rw[HM.oo];first|done|rfl
   rw[HM.oo];exact au.mono oo HB.oo
 | false=>
   go_wp2_with (at_builtin;go_loud(refine pQ jR (.tmp 47) (.tmp 49) rfl rfl rfl rfl oo rfl rfl kP E1 E1.size ah dx ?_))
   intro a5 c5 w5 o5 g5 B5;have o5:dz w5 w.heap.size a5 (m+1) c5 (L++[s]):=by unfold dz;rw[G9];exact o5
   have E1:=B5;go_wp2_with fail
   (try go_simp)
   go_ret;have uo:=HQ.oo;rw[ai aq]at uo;rw[uo];refine⟨a5,c5,?_,?_,E1⟩
   ·rw[bu,HM.oo];first|done|rfl
   rw[bu,HM.oo];exact au.mono o5 HB.oo
attribute [local go_sem high] Fw Du
theorem WM(t y:Th): ∀l:List Th,lp t (l++[y])=if l.any (eJ t)then lp t l++[y]else if eJ t y then l++[t,y]else l++[y,t]
 |[]=>by simp[lp]
 | z::r=>by
   rw[cY,lp,WM t y r];cases h:eJ t z
   ·simp only[EN,h,pZ,lp,kn,ow]
    by_cases h2:r.any (eJ t)=true
    ·simp[h2]
    by_cases h3:eJ t y=true
    ·simp[h2,h3]
    simp[h2,h3]
   simp[h,lp]
def kU(t:Th)(l:List Th):List Th:=if l.any (eJ t)then lp t l else l
theorem afW{t:Th}: ∀{l:List Th},¬l.any (eJ t)=true->lp t l=l++[t]
 |[],_=>rfl
 | z::r,h=>by
   simp only[EN,uD,tf]at h;rw[lp,ai h.1,afW h.2];rfl
theorem afV(t:Th)(l:List Th):lp t l=if l.any (eJ t)then kU t l else kU t l++[t]:=by
 unfold kU
 by_cases h:l.any (eJ t)=true
 ·rw[ak h,ak h]
 rw[ai h,ai h];exact afW h
theorem asq(h:l.any (eJ t)=true):kU t (l++[y])=kU t l++[y]:=by
 unfold kU;rw[ak (by simp[h]),ak h,WM,ak h]
theorem asp(h:l.any (eJ t)=false)(h2:eJ t y=true):kU t (l++[y])=kU t l++[t]++[y]:=by
 unfold kU;rw[ak (by simp[h2]),ai (by simp[h]),WM,ai (by simp[h]),ak h2];simp
theorem aso(h:l.any (eJ t)=false)(h2:eJ t y=false):kU t (l++[y])=kU t l++[y]:=by
 unfold kU;rw[ai (by simp[h,h2]),ai (by simp[h])]
theorem asn(t:Th)(l:List Th):(kU t l).length<=l.length+1:=by
 have h:(lp t l).length<=l.length+1:=by
  induction l with
  |nil=>simp[lp]
  |cons z r ih=>unfold lp;split<;>simp only[cy]<;>omega
 unfold kU;split<;>omega
def aad(B:Nat)(w:aAX)(l:List Th)(e:Ending)(w':aAX):Prop:=
 ∃a c,e= .returned (.slice a l.length c)/\fJ w' B a l.length c l/\aAW w.heap.size w w'
theorem auj(x:Nd)(hk:x.kind=2)(ho:dF 2 x.th=true)(aD:List Th)(a:Option aAZ)(c:Nat)(B:Nat)(w:aAX)(hB:B<=w.heap.size)
 (h:fJ w B a aD.length c aD) (hv: ∀t∈aD,dF 2 t=true) (hl:aD.length<=10000):
 aA7 prog 304 #[vN x,.slice a aD.length c] w (aad B w (sE x.th aD)):=by
 have A:=al w (bY x);have b0:=rJ.new w x;have h1:=au.below h A;have zk:(x.kind==2)=true:=aS hk;obtain⟨n,hn⟩:=aF aD.length;have HN:=af hn;rw[hn]at h1 hl⊢;have H1:=af h1;have HB:=af hB;have HV:=af hv;have HO:=af ho;have HA:=af A;have Mc:=af b0;have HF:=af (fun(hf: ¬x.th∈aD)=>afV x.th aD);clear hk hB h h1 hv ho hn HF A;go_in;go_upto_region 1 with(fail);generalize w.alloc (bY x)=W1 at*;obtain⟨q0, -⟩:=b0.cells;go_wp2_with fail;clear q0
 go_loopw [5,6,7] (fun out put i wr=> ∃(k:Nat) (ao:Option aAZ) (co:Nat),k<=n/\i= .int .i64 k/\put= .bool ((aD.take k).any (eJ x.th))/\out= .slice ao (kU x.th (aD.take k)).length co/\aAW W1.heap.size W1 wr/\fJ wr W1.heap.size ao (kU x.th (aD.take k)).length co (kU x.th (aD.take k))/\Hid (x.th∉aD.take k)) (fun _ _ i _=>n-(intOf i).toNat)
 ·exact aeh
 obtain⟨k,ao,co,hk,rfl,rfl,rfl,E1,oo,Bz⟩:=hrel;have b0:=b0.below E1;have hol:=asn x.th (aD.take k);obtain⟨L,hL⟩:=aF (kU x.th (aD.take k));obtain⟨f,hf⟩:=aF ((aD.take k).any (eJ x.th));obtain⟨m,hm⟩:=aF L.length;have l6:=af (aA6 hL hf);have HM:=af hm;rw[hL]at oo hol⊢;rw[hf];rw[hm]at oo hol⊢;rw[lI]at hol;clear hL hf hm;have hacc:=au.below H1.oo E1
 by_cases aA:k<n
 ·obtain⟨y,hy⟩: ∃y,aD[k]? =some y:=⟨_,aV (by rw[HN.oo];exact aA)⟩
  have HY:=af hy;have els:=(au.els hacc fM ah (bE HN.oo)).1;obtain⟨p0,p1,p2⟩:=els.th hy;have ix:=els.idx lY fM k (by rw[HN.oo];exact aA) c;rw[HN.oo]at ix;obtain⟨q0,q1,q2,q3,q4,q5⟩:=b0.cells;obtain⟨d,hd⟩:=aF (decide (y=x.th));have HD:=af hd;have BF:=af (show ∀w,aA7 prog 334 #[mz x.th,mz y] w (bg w (.bool (eJ x.th y)))from fun w=>auh ⟨x.th,HO.oo⟩ ⟨y,HV.oo y (cV HY.oo)⟩ w);have hsz:W1.heap.size<=wr.heap.size:=E1.size;clear hy els hd hacc;go_wp2_with fail;have p0:=cell_regrown p0;have p1:=cell_regrown p1;have p2:=cell_regrown p2;have q0:=cell_regrown q0;have q1:=cell_regrown q1;have q2:=cell_regrown q2;have q3:=cell_regrown q3;refine wp_region_quiet_below bM bM ?_
  repeat(go_big_quiet_step (fail))
  refine mW ?_;intro _ hw';obtain⟨⟨dq,dJ⟩,hw''⟩:=hw';subst hw'';have EQ:=below_regrown wr dq dJ;generalize grow (redrawn wr dq) dJ=W7 at*;have b0:=b0.below EQ;have oo:=au.below oo EQ;have E1:=aI E1 EQ;clear EQ p0 p1 p2 q0 q1 q2 q3 q4 q5 ix hsz;have els:=(au.els (au.below H1.oo E1) fM ah (bE HN.oo)).1;obtain⟨p0,p1,p2⟩:=els.th HY.oo;have ix:=els.idx lY fM k (by rw[HN.oo];exact aA) c;rw[HN.oo]at ix;obtain⟨q0,q1,q2,q3,q4,q5⟩:=b0.cells;clear els;cases d with
  | true=>
    have HZ:=af (show sE x.th aD=aD/\aD.length=n from⟨by
     unfold sE;rw[ak (by rw[<-wB HD.oo];exact cV HY.oo)],HN.oo⟩)
    rw[HD.oo];go_wp2_with fail
    (try go_simp)
    go_ret;have E:=aI HA.oo E1;refine⟨a,c,?_,?_,E⟩
    ·rw[HZ.oo.1,HZ.oo.2];first|done|rfl
    rw[HZ.oo.1,HZ.oo.2];exact au.below H1.oo E1
  | false=>
    have TK:=af (show aD.take (k+1)=aD.take k++[y] by
     obtain⟨aA,rfl⟩:=bt.1 HY.oo;exact pn aA)
    have NM:=af (show x.th∉aD.take k++[y] by
     intro hm;rcases fc.1 hm with h1|h1
     ·exact Bz.oo h1
     simp at h1;have:=Ex HD.oo;exact this h1.symm)
    clear Bz;rw[HD.oo];cases f with
    | true=>
      have HT:=af (show kU x.th (aD.take (k+1))=L++[y]/\(aD.take (k+1)).any (eJ x.th)=true from⟨by rw[TK.oo,asq l6.oo.2,l6.oo.1],by rw[TK.oo];simp[l6.oo.2]⟩);go_wp2_with fail;have p0:=cell_regrown p0;have p1:=cell_regrown p1;have p2:=cell_regrown p2;have q0:=cell_regrown q0;have q1:=cell_regrown q1;have q2:=cell_regrown q2;have q3:=cell_regrown q3;refine wp_region_quiet_below bM bM ?_
      repeat(go_big_quiet_step (fail))
      refine mW ?_;intro _ hw';obtain⟨⟨dq,dJ⟩,hw''⟩:=hw';subst hw'';have EQ:=below_regrown W7 dq dJ;generalize grow (redrawn W7 dq) dJ=W9 at*;have b0:=b0.below EQ;have oo:=au.below oo EQ;have E1:=aI E1 EQ;clear EQ p0 p1 p2 q0 q1 q2 q3 q4 q5 ix;obtain⟨p0,p1,p2⟩:=(au.els (au.below H1.oo E1) fM ah (bE HN.oo)).1.th HY.oo;have ix:=(au.els (au.below H1.oo E1) fM ah (bE HN.oo)).1.idx lY fM k (by rw[HN.oo];exact aA) c;rw[HN.oo]at ix;obtain⟨q0,q1,q2,q3,q4,q5⟩:=b0.cells
      go_wp2_with (at_builtin;go_loud(refine pQ lY (.tmp 42) (.tmp 47) rfl rfl rfl rfl oo rfl rfl (by intro u hu;simp at hu;rcases hu with rfl|rfl|rfl<;>rfl) E1 E1.size ah dx ?_))
      intro a5 c5 w5 o5 g5 B5;have o5:fJ w5 W1.heap.size a5 (m+1) c5 (L++[y]):=by unfold fJ;rw[qU,uJ];exact o5
      have E1:=B5;have b0:=Mc.oo.below E1;clear g5 B5 p0 p1 p2 q0 q1 q2 q3 q4 q5 ix oo;go_wp2_with fail
      go_roundw
      case rel=>
       have hz:(kU x.th (aD.take (k+1))).length=m+1:=by rw[HT.oo.1,bu,HM.oo];rfl
       refine⟨k+1,a5,c5,ah,by go_num,?_,?_,E1,?_,?_⟩
       ·rw[HT.oo.2]
       ·rw[hz]
       ·exact Fs
       exact Ft
      case measure=>simp[intOf];omega
    | false=>
      obtain⟨g,hg⟩:=aF (eJ x.th y);rw[hg]at BF;go_wp2_with fail;have p0:=cell_regrown p0;have p1:=cell_regrown p1;have p2:=cell_regrown p2;have q0:=cell_regrown q0;have q1:=cell_regrown q1;have q2:=cell_regrown q2;have q3:=cell_regrown q3;have cA:=fun(d:Nat) (os:Array Obj)=>Calls.regrown_of (yY (BF.oo (grow (redrawn W7 d) os)))
      refine wp_region_quiet_below bM bM ?_
      repeat(go_big_quiet_step (exact cA _ _))
      refine mW ?_;intro _ hw';obtain⟨⟨dq,dJ⟩,hw''⟩:=hw';subst hw'';have EQ:=below_regrown W7 dq dJ;generalize grow (redrawn W7 dq) dJ=W9 at*;have b0:=b0.below EQ;have oo:=au.below oo EQ;have E1:=aI E1 EQ;clear EQ p0 p1 p2 q0 q1 q2 q3 q4 q5 ix;obtain⟨p0,p1,p2⟩:=(au.els (au.below H1.oo E1) fM ah (bE HN.oo)).1.th HY.oo;have ix:=(au.els (au.below H1.oo E1) fM ah (bE HN.oo)).1.idx lY fM k (by rw[HN.oo];exact aA) c;rw[HN.oo]at ix;obtain⟨q0,q1,q2,q3,q4,q5⟩:=b0.cells;clear cA;cases g with
      | true=>
        have HT:=af (show kU x.th (aD.take (k+1))=L++[x.th]++[y]/\(aD.take (k+1)).any (eJ x.th)=true from⟨by rw[TK.oo,asp l6.oo.2 hg,l6.oo.1],by rw[TK.oo];simp[hg]⟩);clear hg
        go_wp2_with (at_builtin;go_loud(refine pQ lY (.tmp 37) (.tmp 40) rfl rfl rfl rfl oo rfl rfl (by intro u hu;simp at hu;rcases hu with rfl|rfl|rfl<;>rfl) E1 E1.size ah dx ?_))
        intro a3 c3 w3 o3 g3 B3;have o3:fJ w3 W1.heap.size a3 (m+1) c3 (L++[x.th]):=by unfold fJ;rw[qU,uJ];exact o3
        have E1:=B3;have b0:=Mc.oo.below E1;have oo:=o3;clear o3 g3 B3 p0 p1 p2 q0 q1 q2 q3 q4 q5 ix;obtain⟨p0,p1,p2⟩:=(au.els (au.below H1.oo E1) fM ah (bE HN.oo)).1.th HY.oo;have ix:=(au.els (au.below H1.oo E1) fM ah (bE HN.oo)).1.idx lY fM k (by rw[HN.oo];exact aA) c;rw[HN.oo]at ix;obtain⟨q0,q1,q2,q3,q4,q5⟩:=b0.cells
        go_wp2_with (at_builtin;go_loud(refine pQ lY (.tmp 42) (.tmp 47) rfl rfl rfl rfl oo rfl rfl (by intro u hu;simp at hu;rcases hu with rfl|rfl|rfl<;>rfl) E1 E1.size ah dx ?_))
        intro a5 c5 w5 o5 g5 B5;have o5:fJ w5 W1.heap.size a5 (m+1+1) c5 (L++[x.th]++[y]):=by unfold fJ;rw[qU,uJ];exact o5
        have E1:=B5;have b0:=Mc.oo.below E1;clear g5 B5 p0 p1 p2 q0 q1 q2 q3 q4 q5 ix oo;go_wp2_with fail
        go_roundw
        case rel=>
         have hz:(kU x.th (aD.take (k+1))).length=m+1+1:=by rw[HT.oo.1,bu,bu,HM.oo];rfl
         refine⟨k+1,a5,c5,ah,by go_num,?_,?_,E1,?_,?_⟩
         ·rw[HT.oo.2]
         ·rw[hz]
         ·exact Fs
         exact Ft
        case measure=>simp[intOf];omega
      | false=>
        have HT:=af (show kU x.th (aD.take (k+1))=L++[y]/\(aD.take (k+1)).any (eJ x.th)=false from⟨by rw[TK.oo,aso l6.oo.2 hg,l6.oo.1],by rw[TK.oo];simp only[List.any_append,l6.oo.2,EN,hg,List.any_nil,Bool.or_false]⟩);clear hg
        go_wp2_with (at_builtin;go_loud(refine pQ lY (.tmp 42) (.tmp 47) rfl rfl rfl rfl oo rfl rfl (by intro u hu;simp at hu;rcases hu with rfl|rfl|rfl<;>rfl) E1 E1.size ah dx ?_))
        intro a5 c5 w5 o5 g5 B5;have o5:fJ w5 W1.heap.size a5 (m+1) c5 (L++[y]):=by unfold fJ;rw[qU,uJ];exact o5
        have E1:=B5;have b0:=Mc.oo.below E1;clear g5 B5 p0 p1 p2 q0 q1 q2 q3 q4 q5 ix oo;go_wp2_with fail
        go_roundw
        case rel=>
         have hz:(kU x.th (aD.take (k+1))).length=m+1:=by rw[HT.oo.1,bu,HM.oo];rfl
         refine⟨k+1,a5,c5,ah,by go_num,?_,?_,E1,?_,?_⟩
         ·rw[HT.oo.2]
         ·rw[hz]
         ·exact Fs
         exact Ft
        case measure=>simp[intOf];omega
 obtain rfl:k=n:=ah
 have hk':aD.take k=aD:=by rw[<-HN.oo,jC]
 have HQ:=af (show sE x.th aD=if f then L else L++[x.th] by
  unfold sE;rw[ai (by have:=Bz.oo;rwa[hk']at this),afV];have h1:=l6.oo.1;have h2:=l6.oo.2;rw[hk']at h1 h2;rw[h1,h2])
 obtain⟨q0,q1,q2,q3,q4,q5⟩:=b0.cells;clear hacc hk' Bz;cases f with
 | true=>
   go_wp2_with fail
   (try go_simp)
   go_ret;have E:=aI HA.oo E1;have uo:=HQ.oo;rw[ak trivial]at uo;rw[uo];refine⟨ao,co,?_,?_,E⟩
   ·rw[HM.oo];first|done|rfl
   rw[HM.oo];exact au.mono oo (by have:=HA.oo.size;have:=HB.oo;omega)
 | false=>
   go_wp2_with (at_builtin;go_loud(refine pQ lY (.tmp 51) (.tmp 54) rfl rfl rfl rfl oo rfl rfl (by intro u hu;simp at hu;rcases hu with rfl|rfl|rfl<;>rfl) E1 E1.size ah dx ?_))
   intro a5 c5 w5 o5 g5 B5;have o5:fJ w5 W1.heap.size a5 (m+1) c5 (L++[x.th]):=by unfold fJ;rw[qU,uJ];exact o5
   have E1:=B5;clear g5 B5 q0 q1 q2 q3 q4 q5 oo;go_wp2_with fail
   (try go_simp)
   go_ret;have E:=aI HA.oo E1;have uo:=HQ.oo;rw[ai aq]at uo;rw[uo];refine⟨a5,c5,?_,?_,E⟩
   ·rw[bu,HM.oo];first|done|rfl
   rw[bu,HM.oo];exact au.mono o5 (by have:=HA.oo.size;have:=HB.oo;omega)
theorem aui: ∀(x:Nd) (aD:List Th) (a:Option aAZ) (c:Nat) (B:Nat) (w:aAX),eo 2 x->fZ w x->B<=w.heap.size->
 fJ w B a aD.length c aD->(∀t∈aD,dF 2 t=true)->qH aD->aD.length+lN x<=10000->
 aA7 prog 304 #[vN x,.slice a aD.length c] w (aad B w (oG x aD)):=by
 intro x
 induction x using Nd.ind with
 |h x ih=>
 intro aD a c B w ho hI hB h hv hr hl
 by_cases hk:x.kind=2
 ·rw[Vr,ak hk]
  exact auj x hk (ho.YV hk).1 aD a c B w hB h hv ah
 rw[Vr,ai hk]
 have hc:=Cr x;have A:=al w (bY x);have b0:=rJ.new w x;have h1:=au.below h A;have zk:(x.kind==2)=false:=aS hk;have HI:=af (hI.keep A);have HA:=af A;have vS:=af ih;have HO:=af ho;have J1:B<=(w.alloc (bY x)).heap.size:=dY hB A.size;have HVR:=af (aA6 hv hr);go_in;go_upto_region 1 with(fail);generalize w.alloc (bY x)=W1 at*;obtain⟨q0,q1,q2,q3,q4,q5⟩:=b0.cells;go_wp2_with fail
 go_loopw [1,8] (fun ls i wr=> ∃(k:Nat) (a1:Option aAZ) (c1:Nat),k<=x.aP.length/\i= .int .i64 k/\ls= .slice a1 (iO (x.aP.take k) aD).length c1/\aAW W1.heap.size W1 wr/\fJ wr B a1 (iO (x.aP.take k) aD).length c1 (iO (x.aP.take k) aD)/\Hid ((∀z∈iO (x.aP.take k) aD,dF 2 z=true)/\qH (iO (x.aP.take k) aD))/\(iO (x.aP.take k) aD).length<=aD.length+gb (x.aP.take k)) (fun _ i _=>x.aP.length-(intOf i).toNat)
 ·exact⟨0,a,c,dW _,rfl,by rw[x9,CG],bS _ _,by rw[x9,CG];exact h1,by rw[x9,CG];exact HVR,by rw[x9,CG];omega⟩
 obtain⟨k,a1,c1,hk,rfl,rfl,E,oo,HK,hlen⟩:=hrel;have b0:=b0.below E;obtain⟨q0,q1,q2,q3,q4,q5⟩:=b0.cells;obtain⟨l,uR⟩:=aF (iO (x.aP.take k) aD);have ZG:=af uR;rw[uR]at oo HK hlen⊢
 by_cases aA:k<x.aP.length
 ·obtain⟨y,hy⟩: ∃y,x.aP[k]? =some y:=⟨_,aV aA⟩
  have lS:=cV hy;have gY:=HI.oo.keep E;obtain⟨p0,p1,p2,p3,p4,p5⟩:=gY.els.nd hy;have ix:=gY.els.idx qo nN k aA x.c;have hle:=gY.els.len
  have hT:x.aP.take (k+1)=x.aP.take k++[y]:=by
   exact N9
  have hc1:gb (x.aP.take (k+1))=gb (x.aP.take k)+lN y:=by rw[hT,yu,qT,yw];rfl
  have hc2:gb x.aP=gb (x.aP.take (k+1))+gb (x.aP.drop (k+1)):=by rw[<-yu,qL]
  have GN:=aeZ (HO.oo.gZ y lS) HK.oo.1 HK.oo.2;have A:=al wr (bY y);have CY:=af (vS.oo y lS l a1 c1 B wr (HO.oo.gZ y lS) (gY.gZ y lS) (dY J1 E.size) oo HK.oo.1 HK.oo.2 ah);have HT:=af (show iO (x.aP.take (k+1)) aD=oG y l by rw[aov hy,ZG.oo]);have HG:=af (aA6 (aA6 GN.1 GN.2.1) (show(oG y l).length<=aD.length+gb (x.aP.take (k+1)) by have:=GN.2.2.2;omega));go_wp2_with fail;refine CY.oo.mono ?_;rintro e w2 ⟨a2,c2,rfl,o2,E2⟩;have E2:=aI E E2;go_wp2_with fail
  go_roundw
  case rel=>
   refine⟨k+1,a2,c2,ah,by go_num,?_,E2,?_,?_,?_⟩
   ·rw[HT.oo]
   ·rw[HT.oo];exact o2
   ·rw[HT.oo];exact HG.oo.1
   rw[HT.oo];exact HG.oo.2
  case measure=>simp[intOf];omega
 obtain rfl:k=x.aP.length:=ah
 have HE:=af (show iO x.aP aD=l by rw[<-ZG.oo,jC]);go_wp2_with fail
 (try go_simp)
 go_ret;rw[HE.oo];exact⟨a1,c1,rfl,oo,aI HA.oo E⟩
theorem aiq(q:Int)(x:Nd)(w:aAX)(hI:fZ w x):aA7 prog 244 #[vC q x] w (IE w (nD q x) (dh 2 q x)):=by
 have B:=al w (kR q x);have b0:aW (w.alloc (kR q x)) w.heap.size (cC q x):=aW.new w _ _;have CH:=Yb 2 q x (w.alloc (kR q x)) (hI.keep B);obtain⟨r,hr⟩:=aF (dh 2 q x);rw[hr]at CH⊢
 by_cases h0:r=0
 ·subst h0
  obtain⟨-, hq1,qX,ho,hn⟩:=Ap hr;have hT:=af (show nD q x=qz x by unfold nD;rw[ak hr]);have CH:=af CH;have HI:=af (hI.keep B);have HO:=af ho;go_in;go_wp2_with fail;refine CH.oo.mono ?_;rintro e1 w1 ⟨rfl,E1⟩;obtain⟨q0,q1,q2,q3,q4,q5,q6⟩:=(b0.below E1).cC;have hI:=HI.oo.keep E1;have B:=aI B E1;have TH:=af (aui x [] none 0 w.heap.size w1 HO.oo hI B.size (au.nil _ _ _ _) aq List.Pairwise.nil aC);go_wp2_with fail;refine TH.oo.mono ?_;rintro e2 w2 ⟨a,c,rfl,o2,E2⟩;have B2:=aI B E2;have HZ:=af (aA6 o2 B2);go_wp2;go_ret2;rw[hT.oo];exact⟨a,c,rfl,HZ.oo.1,HZ.oo.2⟩
 have hT:=af (show nD q x=[] by unfold nD;rw[ai (by rw[hr];exact h0)])
 exact aef
theorem QO(q:Int)(x:Nd):(nD q x).length<=1024:=by
 unfold nD;split
 ·rename_i h
  obtain⟨-, -, -, ho,hn⟩:=Ap h;have:=(YW ho).2.2.2;omega
 simp
theorem auX(t:aT)(hi:t.init.length<=1024)(hc:t.code.length<=16)(hr: ∀x∈t.code,x.l.length<=256)(w:aAX)(h:jz w t):
 aA7 prog 170 #[vT t] w (aah w.heap.size w (kS t)):=by
 have A:=al w (dZ t);have b0:=kf.new w t;have HI:=af (h.keep A);have HA:=af A;have HR:=af hr;go_in;go_upto_region 1 with(fail);generalize w.alloc (dZ t)=W1 at*;go_wp2_with fail
 go_loopw [3,4] (fun o i wr=> ∃(k:Nat) (a:Option aAZ) (c:Nat) (L:List Tx),k<=t.init.length/\i= .int .i64 k/\o= .slice a L.length c/\aAW W1.heap.size W1 wr/\dz wr W1.heap.size a L.length c L/\L.length<=2*k/\Hid (L=iD [] (sG (t.init.take k)))) (fun _ i _=>t.init.length-(intOf i).toNat)
 ·exact aei
 obtain⟨k,a,c,L,hk,rfl,rfl,E,o,hl,HL⟩:=hrel;obtain⟨c0,c1,c2,c3,c4,c5,c6,c7,c8,c9,c10,c11⟩:=(b0.below E).cells
 by_cases aA:k<t.init.length
 ·obtain⟨x,hx⟩: ∃x,t.init[k]? =some x:=⟨_,aV aA⟩
  obtain⟨p0,p1,p2,p3,p4⟩:=(HI.oo.init.below E).yN hx;have ix:=HI.oo.init.idx wY rR k aA t.ic;have P1:=af (Qi x.aj L a c W1.heap.size wr E.size o ah);have gh:=Qe L x.aj;have hl3:=Qe (jQ L x.aj) x.bH;have HT:=af (show jQ (jQ L x.aj) x.bH=iD [] (sG (t.init.take (k+1))) by rw[avt hx,<-HL.oo]);have HX:=af hx;go_wp2_with fail;refine P1.oo.mono ?_;rintro e w2 ⟨a2,oC,rfl,o2,E2⟩;have E:=aI E E2;obtain⟨c0,c1,c2,c3,c4,c5,c6,c7,c8,c9,c10,c11⟩:=(b0.below E).cells;obtain⟨p0,p1,p2,p3,p4⟩:=(HI.oo.init.below E).yN HX.oo;have P1:=af (Qi x.bH (jQ L x.aj) a2 oC W1.heap.size w2 E.size o2 ah);go_wp2_with fail;refine P1.oo.mono ?_;rintro e w3 ⟨a3,c3',rfl,o3,E3⟩;have E:=aI E E3;go_wp2_with fail
  go_roundw;exact⟨k+1,a3,c3',_,ah,by go_num,rfl,E,o3,ah,HT⟩;exact ep
 obtain rfl:k=t.init.length:=ah
 have HL:=af (show L=iD [] (sG t.init) by rw[HL.oo,jC]);have hl:L.length<=2048:=ah;go_wp2_with fail
 go_loopw [3,5] (fun o i wr=> ∃(k:Nat) (a:Option aAZ) (c:Nat) (M:List Tx),k<=t.code.length/\i= .int .i64 k/\o= .slice a M.length c/\aAW W1.heap.size W1 wr/\dz wr W1.heap.size a M.length c M/\M.length<=2048+256*k/\Hid (M=iD L (pN (t.code.take k)))) (fun _ i _=>t.code.length-(intOf i).toNat)
 ·exact⟨0,a,c,L,ah,rfl,rfl,E,o,ah,rfl⟩
 obtain⟨k,a,c,M,hk,rfl,rfl,E,o,hm,HM⟩:=hrel;obtain⟨c0,c1,c2,c3,c4,c5,c6,c7,c8,c9,c10,c11⟩:=(b0.below E).cells
 by_cases aA:k<t.code.length
 ·obtain⟨x,hx⟩: ∃x,t.code[k]? =some x:=⟨_,aV aA⟩
  have iy:=HI.oo.code.uH k aA t.cc;have mD:=af (HI.oo.rows x (cV hx));have apx:=HR.oo x (cV hx);have HX:=af hx;have HT:=af (show iD M (x.l.map (·.aj))=iD L (pN (t.code.take (k+1))) by rw[avr hx,<-HM.oo]);go_wp2_with fail
  go_loopw [3,6] (fun o i wr=> ∃(j:Nat) (a:Option aAZ) (c:Nat) (N:List Tx),j<=x.l.length/\i= .int .i64 j/\o= .slice a N.length c/\aAW W1.heap.size W1 wr/\dz wr W1.heap.size a N.length c N/\N.length<=M.length+j/\Hid (N=iD M ((x.l.take j).map (·.aj)))) (fun _ i _=>x.l.length-(intOf i).toNat)
  ·exact⟨0,a,c,M,ah,rfl,rfl,E,o,ah,rfl⟩
  obtain⟨j,a,c,N,hj,rfl,rfl,E,o,gF,HN⟩:=hrel;obtain⟨c0,c1,c2,c3,c4,c5,c6,c7,c8,c9,c10,c11⟩:=(b0.below E).cells;have p0:=(HI.oo.code.below E).cd HX.oo
  by_cases eX:j<x.l.length
  ·obtain⟨i,hi⟩: ∃i,x.l[j]? =some i:=⟨_,aV eX⟩
   obtain⟨q0,q1,q2,q3,q4,q5,q6,q7⟩:=(mD.oo.is.below E).cells hi;have ix:=(mD.oo.is.below E).idx j eX x.c;have P1:=af (Qi i.aj N a c W1.heap.size wr E.size o ah);have gh:=Qe N i.aj;have ig:=af (show jQ N i.aj=iD M ((x.l.take (j+1)).map (·.aj)) by rw[agO (·.aj) hi,<-HN.oo]);go_wp2_with fail;refine P1.oo.mono ?_;rintro e w2 ⟨a2,oC,rfl,o2,E2⟩;have E:=aI E E2;go_wp2_with fail
   go_roundw;exact⟨j+1,a2,oC,_,ah,by go_num,rfl,E,o2,ah,ig⟩;exact ep
  obtain rfl:j=x.l.length:=ah
  have ig:=af (show N=iD L (pN (t.code.take (k+1))) by rw[<-HT.oo,HN.oo,jC]);go_wp2_with fail
  exact aej
 obtain rfl:k=t.code.length:=ah
 have HM:=af (show M=iD L (pN t.code) by rw[HM.oo,jC]);have hm:M.length<=6144:=ah;have TH:=af (aiq t.q t.node wr (HI.oo.node.keep E));have htl:=QO t.q t.node;obtain⟨T,hT⟩:=aF (nD t.q t.node);rw[hT]at TH htl;have RS:=af hT;go_wp2_with fail;refine TH.oo.mono ?_;rintro e w2 ⟨a2,oC,rfl,o2,E2⟩;have els:=(au.els o2 fM ah ah).1;have HEL:=af els;have o:=au.below o E2;have ZJ:=af E2.size;have E:=aI E E2;have E3:=af E;go_wp2_with fail;obtain⟨W3,hW3⟩:=aF w2
 go_loopw [3,9] (fun o i wr=> ∃(j:Nat) (a:Option aAZ) (c:Nat) (N:List Tx),j<=T.length/\i= .int .i64 j/\o= .slice a N.length c/\aAW W1.heap.size W1 wr/\cQ oD wr a2 T/\dz wr W1.heap.size a N.length c N/\N.length<=M.length+j/\Hid (N=iD M ((T.take j).map (·.aj)))) (fun _ i _=>T.length-(intOf i).toNat)
 ·exact⟨0,a,c,M,ah,rfl,rfl,E,HEL.oo,o,ah,rfl⟩
 obtain⟨j,a,c,N,hj,rfl,rfl,E,els,o,gF,HN⟩:=hrel
 by_cases eX:j<T.length
 ·obtain⟨x,hx⟩: ∃x,T[j]? =some x:=⟨_,aV eX⟩
  obtain⟨q0,q1,q2⟩:=els.th hx;have ix:=els.idx lY fM j eX oC;have P1:=af (Qi x.aj N a c W1.heap.size wr E.size o ah);have gh:=Qe N x.aj;have ig:=af (show jQ N x.aj=iD M ((T.take (j+1)).map (·.aj)) by rw[agO (·.aj) hx,<-HN.oo]);go_wp2_with fail;refine P1.oo.mono ?_;rintro e w4 ⟨a4,c4',rfl,o4,E4⟩;have E:=aI E E4;have els:=els.below E4;go_wp2_with fail
  go_roundw;exact⟨j+1,a4,c4',_,ah,by go_num,rfl,E,els,o4,ah,ig⟩;exact ep
 obtain rfl:j=T.length:=ah
 have HZ:=af (show N=kS t by
  rw[ar1,<-HL.oo,<-HM.oo,HN.oo,jC];unfold nL;rw[RS.oo])
 go_wp2_with fail
 (try go_simp)
 go_ret;rw[<-HZ.oo];exact⟨a,c,rfl,au.mono o HA.oo.size,aI HA.oo E⟩
def lK(t:aT):Int:=if dh t.ag t.q t.node≠0 then dh t.ag t.q t.node else if(nL t).any fun x=>decide ((t.code.length:Int)<=x.aO)then 80 else 0
theorem auN(t:aT)(hn:t.code.length<=1000)(w:aAX)(h:jz w t):aA7 prog 169 #[vT t] w (bg w (.int .i64 (lK t))):=by
 have A:=al w (dZ t);have b0:=kf.new w t;have HI:=af (h.keep A);have HA:=af A;have CH:=Yb t.ag t.q t.node _ (h.keep A).node;obtain⟨r,hr⟩:=aF (dh t.ag t.q t.node);rw[hr]at CH;have CH:=af CH;have qD:=af (show lK t=if r≠0 then r else if(nL t).any fun x=>decide ((t.code.length:Int)<=x.aO)then 80 else 0 by unfold lK;rw[hr]);go_in;go_upto_region 1 with(fail);generalize w.alloc (dZ t)=W1 at*;obtain⟨c0,c1,c2,c3,c4,c5,c6,c7,c8,c9,c10,c11⟩:=b0.cells;go_wp2_with fail;refine aQ CH.oo fun w2 E=>?_
 by_cases h0:r=0
 ·subst h0
  have qD:=af (show lK t=if(nL t).any fun x=>decide ((t.code.length:Int)<=x.aO)then 80 else 0 by rw[qD.oo,ai ah]);obtain⟨c0,c1,c2,c3,c4,c5,c6,c7,c8,c9,c10,c11⟩:=(b0.below E).cells;have TH:=af (aiq t.q t.node w2 (HI.oo.node.keep E));have htl:(nD t.q t.node).length<=1024:=QO t.q t.node;obtain⟨T,hT⟩:=aF (nD t.q t.node);rw[hT]at TH htl;have qD:=af (show lK t=if T.any fun x=>decide ((t.code.length:Int)<=x.aO)then 80 else 0 by rw[qD.oo];unfold nL;rw[hT]);go_wp2_with fail;refine TH.oo.mono ?_;rintro e w3 ⟨a2,oC,rfl,o2,E2⟩;have els:=(au.els o2 fM ah ah).1;have E:=aI E E2;go_wp2_with fail
  go_loopw [6] (fun i wr=> ∃j:Nat,j<=T.length/\i= .int .i64 j/\aAW W1.heap.size W1 wr/\cQ oD wr a2 T/\Hid (∀(m:Nat) (x:Th),m<j->T[m]? =some x->x.aO<t.code.length)) (fun i _=>T.length-(intOf i).toNat)
  ·exact aek
  obtain⟨j,hj,rfl,E,els,HJ⟩:=hrel
  by_cases eX:j<T.length
  ·obtain⟨x,hx⟩: ∃x,T[j]? =some x:=⟨_,aV eX⟩
   obtain⟨q0,q1,q2⟩:=els.th hx;have ix:=els.idx lY fM j eX oC;obtain⟨c0,c1,c2,c3,c4,c5,c6,c7,c8,c9,c10,c11⟩:=(b0.below E).cells;have HX:=af hx;go_wp2_with fail;have q0:=cell_regrown q0;have c4:=cell_regrown c4;refine wp_region_quiet_below bM bM ?_
   repeat(go_big_quiet_step (fail))
   refine mW ?_;intro _ hw';obtain⟨⟨dq,dJ⟩,hw''⟩:=hw';subst hw'';have EQ:=below_regrown wr dq dJ;generalize grow (redrawn wr dq) dJ=W5 at*;have E:=aI E EQ;have els:=els.below EQ
   by_cases tS:(t.code.length:Int)<=x.aO
   ·have HZ:=af (show lK t=80 by rw[qD.oo,ak];rw[qN];exact⟨x,cV HX.oo,by simpa using tS⟩)
    exact qc
   have Wr:x.aO<t.code.length:=ah
   have mB: ∀(m:Nat) (y:Th),m<j+1->T[m]? =some y->y.aO<t.code.length:=fun m y hm hy=>by
    rcases fO.1 hm with h|h
    ·exact HJ.oo m y h hy
    subst h;rw[HX.oo]at hy;cases hy;exact Wr
   have mB:=af mB;go_wp2_with fail
   exact ael
  obtain rfl:j=T.length:=ah
  have HZ:=af (show lK t=0 by
   rw[qD.oo,ai];rw[qN];rintro⟨x,hx,h2⟩;obtain⟨k,hk⟩:=pE.1 hx;have:=HJ.oo k x (bt.1 hk).1 hk;simp at h2;omega)
  exact qc
 have z:(r != 0)=true:=aS h0
 have HZ:=af (show lK t=r by rw[qD.oo,ak h0]);exact qc
theorem ajF{g:Nat}{os:Array Obj}(d:Array (List UInt8)):Step w (grow (putRow encStr (Sort.ahead w n) g 0 d) os) (some ⟨g,0,none⟩) (some ⟨g,0,none⟩):=
 ⟨grownBy_sorted d,.inl rfl⟩
theorem axw(l:List Tx)(w:aAX)(B:Nat)(a:Option aAZ)(c:Nat)(h:dz w B a l.length c l)(hl:l.length<=1000000):
 aA7 prog 145 #[.slice a l.length c] w fun e w'=>e= .returned (.tuple #[])/\dz w' B a (rD l).length c (rD l)/\Step w w' a a:=by
 have hlen:(rD l).length=l.length:=MT l;rcases h.2 with⟨h2,h0⟩|⟨g,cap,cur,hv,hg,hh,hn,hc,hs,hx⟩
 ·simp only[EF]at h2
  obtain⟨rfl,-, rfl⟩:=h2;have hz:l=[]:=lH h0;subst hz;refine(Any.slices_Sort_string_none Tryz.agl none 0 w).mono fun e w' ⟨he,hw⟩=>?_
  subst hw;exact⟨he,by rw[show rD []=[]from lH hlen];exact h,Step.refl _ _⟩
 cases hv
 have hH:Holds encStr w g 0 l.toArray:=holds_of_block hh (by rw[ER]at hx;exact hx);refine(Any.slices_Sort_string Tryz.agl g 0 c l w hH (yh.1 hh).1 ah).mono fun e w' ⟨he,n,os,hw⟩=>?_
 subst hw;refine⟨he,?_,ajF _⟩;have:=ownsRow_sorted (n:=n) (os:=os) (ss:=l) (ts:=rD l) hlen hg hh hn hc hs;rw[hlen];exact this
theorem amh(l:List Tx)(w:aAX)(B:Nat)(a:Option aAZ)(c:Nat)(h:dz w B a l.length c l)(hl:l.length<=1000000):
 aA7 prog 146 #[.slice a l.length c] w fun e w'=>e= .returned (.slice a (eu l).length c)/\dz w' B a (eu l).length c (eu l)/\Step w w' a a:=by
 rcases h.2 with⟨h2,h0⟩|⟨g,cap,cur,hv,hg,hh,hn,hc,hs,hx⟩
 ·simp only[EF]at h2
  obtain⟨rfl,-, rfl⟩:=h2;have hz:l=[]:=lH h0;subst hz;refine(Any.slices_Compact_string_empty Tryz.agm none 0 w).mono fun e w' ⟨he,hw⟩=>?_
  subst hw;exact⟨he,h,Step.refl _ _⟩
 cases hv
 have hH:Holds encStr w g 0 l.toArray:=holds_of_block hh (by rw[ER]at hx;exact hx);refine(Any.slices_Compact_string Tryz.agm g 0 c l w hH ah hn).mono fun e w' ⟨he,n,hw⟩=>?_
 rw[amj]at he hw;have hle:=abp l;have e1:(eu l++aBg (l.length-(eu l).length) []).length=l.length:=aC;have o:=ownsRow_sorted (n:=n) (os:=#[]) (ss:=l) (ts:=eu l++aBg (l.length-(eu l).length) []) e1 hg hh hn hc hs;have st:=ajF (w:=w) (g:=g) (n:=n) (os:=#[]) (eu l++aBg (l.length-(eu l).length) []).toArray;rw[grow_empty]at o st;rw[<-hw]at o st;refine⟨he,?_,st⟩;rw[pG]at o;obtain⟨m,hm⟩: ∃m,l.length=(eu l).length+m:=⟨l.length-(eu l).length,ah⟩;rw[hm]at o;exact au.front o aq
theorem aeH(t:aT)(w:aAX)(h:fZ w t.node):aA7 prog 72 #[vT t] w (MD w (nL t)):=by
 have A:=al w (dZ t);have b0:=kf.new w t;obtain⟨c0,c1,c2,c3,c4,c5,c6,c7,c8,c9,c10,c11⟩:=b0.cells;have TH:=af (anb t.q t.node _ (h.keep A));have HA:=af A;go_in;go_wp2_with fail;refine TH.oo.mono ?_;rintro e w1 ⟨a,c,rfl,o,E⟩;have HO:=af (aA6 o E);go_wp2_with fail
 (try go_simp)
 go_ret;exact⟨a,c,rfl,au.mono HO.oo.1 HA.oo.size,aI HA.oo HO.oo.2⟩
def akM(w:aAX)(l:List Tx)(e:Ending)(w':aAX):Prop:=
 ∃a c,e= .returned (.slice a l.length c)/\cO w' a l/\aAW w.heap.size w w'
theorem aw0(w:aAX)(us:List Value)(T:TypeId):Row (w.alloc (.cells us.toArray T)) (some ⟨w.heap.size,0,none⟩) us:=by
 have h:=aW.new w us.toArray T;exact⟨fun _=>rfl,fun i hi=>by simp only[jW,kM,jT];exact h.2 i hi⟩
theorem avq{l:List Cd}{x:Cd}(h:l[k]? =some x):pN (l.take (k+1))=pN (l.take k)++x.l.map (·.aj):=by
 rw[oV h];unfold pN;rw[zZ];simp
theorem avs{l:List bF}{x:bF}(h:l[k]? =some x):sG (l.take (k+1))=sG (l.take k)++[x.aj,x.bH]:=by
 rw[oV h];unfold sG;rw[zZ];simp
theorem sD{B' E E' m m' n' c':Nat}{r:Option aAZ}{xs ys:List Value}(h:au w B E m a n c xs)(h':au w B' E' m' r n' c' ys)(aN:E≠E'):r=none\/some (bk r)≠a.map (·.block):=by
 cases r with
 |none=>exact .inl rfl
 | some p=>
   right
   intro e;obtain⟨cs,fz,h1⟩:=KO h' p.block rfl;obtain⟨cs',fz',h2⟩:=KO h p.block e.symm;rw[h1]at h2;exact aem
theorem azc{y:Tx}{r:List Tx}(h:cO w a (y::r)):cO w (Option.map (fun x:aAZ=>⟨x.block,x.off+1,none⟩) a) r:=by
 have hh:=h.row.head aq
 have hm:Option.map (fun x:aAZ=>(⟨x.block,x.off+1,none⟩:aAZ)) a=some ⟨bk a,fo a+1,none⟩:=by
  conv=>lhs;rw[hh]
  rfl
 rw[hm];refine⟨⟨fun _=>rfl,fun i hi=>?_⟩,by have:=h.len;simp at this;omega⟩;have:=h.row.cell (i+1) (aS hi);simp only[jW,kM];rw[show fo a+1+i=fo a+(i+1) by omega,this];rfl
theorem azb:cO w a []:=⟨Row.nil _ _,aq⟩
theorem fileNames(t:aT)(hi:t.init.length<=1024)(hc:t.code.length<=16)(hr: ∀x∈t.code,x.l.length<=256)(w:aAX)(h:jz w t):
 aA7 prog 73 #[vT t] w (akM w (kS t)):=by
 have A:=al w (dZ t);have b0:=kf.new w t;have HI:=af (h.keep A);have HA:=af A;have HR:=af hr;clear h A hr;go_in;go_upto_region 2 with(fail);generalize w.alloc (dZ t)=W1 at*;obtain⟨c0,c1,c2,c3,c4,c5,c6,c7,c8,c9,c10,c11⟩:=b0.cells;go_wp2_with fail;clear c0 c1 c2 c3 c4 c5 c6 c7 c8 c9 c10 c11
 go_loopw [3,15] (fun o i wr=> ∃(k:Nat) (a:Option aAZ) (c:Nat) (L:List Tx),k<=t.init.length/\i= .int .i64 k/\o= .slice a L.length c/\aAW W1.heap.size W1 wr/\dz wr W1.heap.size a L.length c L/\L.length<=2*k/\Hid (L=sG (t.init.take k))) (fun _ i _=>t.init.length-(intOf i).toNat)
 ·exact aei
 obtain⟨k,a,c,L,hk,rfl,rfl,E,o,hl,HL⟩:=hrel
 by_cases aA:k<t.init.length
 ·obtain⟨x,hx⟩: ∃x,t.init[k]? =some x:=⟨_,aV aA⟩
  obtain⟨p0,p1,p2,p3,p4⟩:=(HI.oo.init.below E).yN hx;have ix:=HI.oo.init.idx wY rR k aA t.ic;have HT:=af (show L++[x.aj,x.bH]=sG (t.init.take (k+1)) by rw[avs hx,<-HL.oo]);clear hx;go_upto_region 5 with(fail);have A3:=al wr (lA x);have x0:aW (wr.alloc (lA x)) wr.heap.size (lM x):=aW.new _ _ _;generalize wr.alloc (lA x)=W3 at*;have E:=aI E A3;have o:=au.below o A3;obtain⟨-, -, i2,i3⟩:=x0.Jt;clear p0 p1 p2 p3 p4 ix A3;have A5:=al W3 (.cells #[.string (tx x.aj),.string (tx x.bH)] 9);have o5:=au.below o A5;have E5:=aI E A5;have R5:Row (W3.alloc (.cells #[.string (tx x.aj),.string (tx x.bH)] 9)) (some ⟨W3.heap.size,0,none⟩) [.string (tx x.aj),.string (tx x.bH)]:=aw0 W3 [.string (tx x.aj),.string (tx x.bH)] 9
  go_wp2_with (at_builtin;go_loud(refine Zk jR (.tmp 19) (.tmp 25) rfl rfl rfl o5 rfl R5 rfl (by intro u hu;simp at hu;rcases hu with rfl|rfl<;>rfl) E5 E5.size ah dx ?_))
  intro a6 c6 w6 o6 g6 E6
  have o6:dz w6 W1.heap.size a6 (L++[x.aj,x.bH]).length c6 (L++[x.aj,x.bH]):=by
   exact U5
  clear o o5 E5 R5 A5 g6 i2 i3 x0 E;go_wp2_with fail
  go_roundw;exact⟨k+1,a6,c6,_,ah,by go_num,by rw[bu];rfl,E6,o6,by rw[bu];simp;omega,HT⟩;exact ep
 obtain rfl:k=t.init.length:=ah
 have HL:=af (show L=sG t.init by rw[HL.oo,jC]);have hl:L.length<=2048:=ah;obtain⟨c0,c1,c2,c3,c4,c5,c6,c7,c8,c9,c10,c11⟩:=(b0.below E).cells;clear aA hk;go_wp2_with fail;clear c0 c1 c2 c3 c4 c5 c6 c7 c8 c9 c10 c11
 go_loopw [3,31] (fun o i wr=> ∃(k:Nat) (a:Option aAZ) (c:Nat) (M:List Tx),k<=t.code.length/\i= .int .i64 k/\o= .slice a M.length c/\aAW W1.heap.size W1 wr/\dz wr W1.heap.size a M.length c M/\M.length<=2048+256*k/\Hid (M=L++pN (t.code.take k))) (fun _ i _=>t.code.length-(intOf i).toNat)
 ·exact⟨0,a,c,L,ah,rfl,rfl,E,o,ah,by simp[pN,Hid]⟩
 clear E o;obtain⟨k,a,c,M,hk,rfl,rfl,E,o,hm,HM⟩:=hrel
 by_cases aA:k<t.code.length
 ·obtain⟨x,hx⟩: ∃x,t.code[k]? =some x:=⟨_,aV aA⟩
  have p0:=(HI.oo.code.below E).cd hx;have iy:=HI.oo.code.uH k aA t.cc;have mD:=af (HI.oo.rows x (cV hx));have apx:=HR.oo x (cV hx);have HT:=af (show M++x.l.map (·.aj)=L++pN (t.code.take (k+1)) by rw[avq hx,HM.oo,dA]);clear hx;go_wp2_with fail;clear p0 iy
  go_loopw [3,37] (fun o i wr=> ∃(j:Nat) (a:Option aAZ) (c:Nat) (N:List Tx),j<=x.l.length/\i= .int .i64 j/\o= .slice a N.length c/\aAW W1.heap.size W1 wr/\dz wr W1.heap.size a N.length c N/\N.length<=M.length+j/\Hid (N=M++(x.l.take j).map (·.aj))) (fun _ i _=>x.l.length-(intOf i).toNat)
  ·exact⟨0,a,c,M,ah,rfl,rfl,E,o,ah,by simp[Hid]⟩
  clear E o;obtain⟨j,a,c,N,hj,rfl,rfl,E,o,gF,HN⟩:=hrel
  by_cases eX:j<x.l.length
  ·obtain⟨i,hi⟩: ∃i,x.l[j]? =some i:=⟨_,aV eX⟩
   obtain⟨q0,q1,q2,q3,q4,q5,q6,q7⟩:=(mD.oo.is.below E).cells hi;have ix:=(mD.oo.is.below E).idx j eX x.c;have ig:=af (show N++[i.aj]=M++(x.l.take (j+1)).map (·.aj) by rw[oV hi,pG,HN.oo,dA];rfl);clear hi;go_upto_region 13 with(fail);have A3:=al wr (j6 i);have x0:=iU.new wr i;generalize wr.alloc (j6 i)=W3 at*;have E:=aI E A3;have o:=au.below o A3;obtain⟨i0,i1,i2,i3,i4,i5,i6,i7⟩:=x0.cells;clear q0 q1 q2 q3 q4 q5 q6 q7 ix A3
   go_wp2_with (at_builtin;go_loud(refine pQ jR (.tmp 41) (.tmp 44) rfl rfl rfl rfl o rfl rfl kP E E.size ah dx ?_))
   intro a6 c6 w6 o6 g6 E6
   have o6:dz w6 W1.heap.size a6 (N++[i.aj]).length c6 (N++[i.aj]):=by
    exact U5
   clear o g6 i0 i1 i2 i3 i4 i5 i6 i7 x0 E;go_wp2_with fail
   go_roundw;exact⟨j+1,a6,c6,_,ah,by go_num,by rw[bu];rfl,E6,o6,by rw[bu];simp;omega,ig⟩;exact ep
  obtain rfl:j=x.l.length:=ah
  have ig:=af (show N=L++pN (t.code.take (k+1)) by rw[<-HT.oo,HN.oo,jC]);go_wp2_with fail
  exact aej
 obtain rfl:k=t.code.length:=ah
 have HM:=af (show M=L++pN t.code by rw[HM.oo,jC]);have hm:M.length<=6144:=ah;obtain⟨c0,c1,c2,c3,c4,c5,c6,c7,c8,c9,c10,c11⟩:=(b0.below E).cells;have TH:=af (aeH t wr (HI.oo.node.keep E));have htl:(nL t).length<=1024:=QO t.q t.node;clear aA hk;obtain⟨T,hT⟩:=aF (nL t);rw[hT]at TH htl;have RS:=af hT;clear hT;go_wp2_with fail;refine TH.oo.mono ?_;rintro e w2 ⟨a2,oC,rfl,o2,E2⟩;have o:=au.below o E2;have o2:fJ w2 W1.heap.size a2 T.length oC T:=au.mono o2 E.size;have E:=aI E E2;clear c0 c1 c2 c3 c4 c5 c6 c7 c8 c9 c10 c11 E2 TH;go_wp2_with fail
 go_loopw [3,51] (fun o i wr=> ∃(j:Nat) (a:Option aAZ) (c:Nat) (N:List Tx),j<=T.length/\i= .int .i64 j/\o= .slice a N.length c/\aAW W1.heap.size W1 wr/\fJ wr W1.heap.size a2 T.length oC T/\dz wr W1.heap.size a N.length c N/\N.length<=M.length+j/\Hid (N=M++(T.take j).map (·.aj))) (fun _ i _=>T.length-(intOf i).toNat)
 ·exact⟨0,a,c,M,ah,rfl,rfl,E,o2,o,ah,by simp[Hid]⟩
 clear E o o2;obtain⟨j,a,c,N,hj,rfl,rfl,E,o2,o,gF,HN⟩:=hrel
 by_cases eX:j<T.length
 ·obtain⟨x,hx⟩: ∃x,T[j]? =some x:=⟨_,aV eX⟩
  have els:=(au.els o2 fM ah ah).1;obtain⟨q0,q1,q2⟩:=els.th hx;have ix:=els.idx lY fM j eX oC;have ig:=af (show N++[x.aj]=M++(T.take (j+1)).map (·.aj) by rw[oV hx,pG,HN.oo,dA];rfl);clear hx;go_upto_region 19 with(fail);have A3:=al wr (oK x);have x0:aW (wr.alloc (oK x)) wr.heap.size (oD x):=aW.new _ _ _;generalize wr.alloc (oK x)=W3 at*;have E:=aI E A3;have o:=au.below o A3;have o2:=au.below o2 A3;have i2:=x0.get 2 _ rfl;clear q0 q1 q2 ix A3 els
  go_wp2_with (at_builtin;go_loud(refine pQ jR (.tmp 55) (.tmp 58) rfl rfl rfl rfl o rfl rfl kP E E.size ah dx ?_))
  intro a6 c6 w6 o6 g6 E6
  have o6:dz w6 W1.heap.size a6 (N++[x.aj]).length c6 (N++[x.aj]):=by
   exact U5
  have o2:fJ w6 W1.heap.size a2 T.length oC T:=au.kept o2 g6.step.grown (sD o o2 ay);clear o g6 i2 x0 E;go_wp2_with fail
  go_roundw;exact⟨j+1,a6,c6,_,ah,by go_num,by rw[bu];rfl,E6,o2,o6,by rw[bu];simp;omega,ig⟩;exact ep
 obtain rfl:j=T.length:=ah
 have HZ:=af (show N=A8 t by
  unfold A8;rw[RS.oo,HN.oo,HM.oo,HL.oo,jC,dA];rfl)
 have ST:=af (axw N wr W1.heap.size a c o ah);have HO:=af o;have HE:=af E;clear o2 o E;go_wp2_with fail;refine ST.oo.mono ?_;rintro e w3 ⟨rfl,o3,s3⟩;have E3:=s3.below HO.oo HE.oo HE.oo.size;have qh:(rD N).length=N.length:=MT N;have CT:=af (qh▸amh (rD N) w3 W1.heap.size a c o3 ah);have BB:=af o3;have Ia:=af E3;clear o3 s3 E3 ST;go_wp2_with fail;refine CT.oo.mono ?_;rintro e w4 ⟨rfl,o4,s4⟩;have E4:=s4.below BB.oo Ia.oo Ia.oo.size;have hle:=abp (rD N);have iV:=af (show kS t=Fj (eu (rD N)) by rw[HZ.oo,axy,kS];rfl);have TT:=dz.lF o4 ah;have hqc:(eu (rD N)).length<=c:=o4.cap.1;clear o4 s4 CT BB HO;obtain⟨P,hP⟩:=aF (eu (rD N));rw[hP]at iV TT hle hqc⊢;clear hP;have Im:=af TT;have Mo:=af E4;clear TT E4;cases P with
 | nil=>
   have HF:=af (show kS t=[]from iV.oo);go_wp2_with fail
   (try go_simp)
   go_ret;rw[HF.oo];exact⟨a,c,rfl,Im.oo,aI HA.oo Mo.oo⟩
 | cons y r=>
   have p0:=Im.oo.cell 0 aq;rw[gK]at p0;simp only[IL]at p0;have ix0: ∀w',(Instr.indexAt 42 (.slice a (y::r).length c) (.int .i64 0)).run prog w'= .ok (.pointer (some ⟨bk a,fo a,none⟩)) w':=Im.oo.idx 0 aq c;obtain⟨q,hq⟩:=aF ((y::r).length);have hq1:1<=q:=by rw[<-hq];simp
   have HQ:=af hq;rw[hq]at ix0 hle hqc⊢;clear hq
   by_cases hy:y=[]
   ·have z5:((tx y).toList==([]:List UInt8))=true:=by rw[hy,bU];rfl
    have z6:(tx y).toList.isEmpty=true:=by rw[hy,bU];rfl
    have HF:=af (show kS t=r by rw[iV.oo,hy];rfl);clear hy;go_wp2_with fail
    rotate_left
    ·(try go_simp)
     go_ret;rw[HF.oo];exact⟨_,c-1,by rw[show r.length=q-1 by have:=HQ.oo;simp at this;omega];rfl,azc Im.oo,aI HA.oo Mo.oo⟩
    (try go_simp)
    go_ret;have fk:r=[]:=lH (aqT HQ.oo);rw[HF.oo];exact⟨a,0,by rw[show r.length=q-1 by have:=HQ.oo;simp at this;omega];rfl,by rw[fk];exact azb,aI HA.oo Mo.oo⟩
   have z5:((tx y).toList==([]:List UInt8))=false:=by rw[bU];simpa using hy
   have z6:(tx y).toList.isEmpty=false:=by rw[bU];cases y<;>simp at*
   have HF:=af (show kS t=y::r by rw[iV.oo];unfold Fj;rw[ai (aS hy)]);clear hy;go_wp2_with fail
   (try go_simp)
   go_ret;rw[HF.oo];exact⟨a,c,by rw[HQ.oo];rfl,Im.oo,aI HA.oo Mo.oo⟩
end Go.Proofs.YtkbbgjloifmmbaaGreatDoor
