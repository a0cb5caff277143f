/- What ReadPiecesP leans on, part 30. -/
import Derived.Test.YtkbbgjloifmmbaaGreatDoorRp29
set_option linter.unusedVariables false
set_option maxRecDepth 100000
set_option maxHeartbeats 32000000
namespace Go.Proofs.YtkbbgjloifmmbaaGreatDoor
open Go.RowKit Go.Sort
abbrev thT:TypeId:=25
theorem Blk.othersE{w w':World}{b b':Nat}{l:List Value}{T e:TypeId}(h:Blk w b l T)(hk:Lib.OthersKept e (some b') w w')(hne:b≠b')(hT:T≠e):Blk w' b l T:=
 hk b _ h (by simpa using hne) (fun c fz e'=>by cases e';exact hT rfl)
theorem others_belowE{w w':World}(e:TypeId)(b:Option Nat)(h:Below w.heap.size w w'):Lib.OthersKept e b w w':=
 fun k o hk _ _=>by rw[h.block k (Array.getElem?_eq_some_iff.1 hk).1];exact hk
def LB(w:World)(B lb:Nat)(ts:List Th):Prop:= ∃a c,Blk w lb [.slice a ts.length c] 112/\OwnT w B a ts.length c ts/\B<=lb
theorem LB.below{w w':World}{B lb:Nat}{ts:List Th}(h:LB w B lb ts)(hb:Below w.heap.size w w'):LB w' B lb ts:=by
 obtain⟨a,c,h1,h2,h3⟩:=h;exact⟨a,c,h1.below hb,Own.below h2 hb,h3⟩
theorem own_kind{w:World}{B E size n c:Nat}{a:Option Addr}{xs:List Value}(h:Own w B E size a n c xs): ∀g,a.map (·.block)=some g-> ∃cs fz,w.heap[g]? =some (.cells cs E fz):=by
 intro g hg;rcases h.2 with⟨h2,h0⟩|⟨g',cap,cur,hv,hbg,hh,r⟩
 ·simp only[Value.slice.injEq]at h2
  rw[h2.1]at hg;cases hg
 ·cases hv
  simp only[Option.map_some,Option.some.injEq]at hg;subst hg;exact⟨cur,_,hh⟩
def RetA(w0 w:World)(lb:Nat)(ts:List Th)(e:Ending)(w':World):Prop:=
 e= .returned (.tuple #[])/\LB w' w0.heap.size lb ts/\Below w0.heap.size w0 w'/\Lib.OthersKept thT (some lb) w w'
theorem condAsk(x:Nd)(w0 w:World)(lb:Nat)(ts:List Th)(hB:Below w0.heap.size w0 w)(h:LB w w0.heap.size lb ts)(hl:ts.length<=100000):
 Calls Tryz.prog 281 #[vN x,.pointer (some ⟨lb,0,none⟩)] w (RetA w0 w lb (ts++[x.th])):=by
 obtain⟨a,c,h1,h2,h3⟩:=h;have A:=al w (mkN x);have b0:Blk (w.alloc (mkN x)) w.heap.size (cN x) 28:=Blk.new w _ _;have h1:=h1.below A;have h2:=Own.below h2 A;have hB1:=hB.trans (A.mono hB.size);have K0:=others_belowE thT (some lb) A;have c1:=h1.get 0 _ rfl;have hlt:=h1.lt;have hsz:=hB1.size;obtain⟨n,hn⟩: ∃n,ts.length=n:=⟨_,rfl⟩;rw[hn]at c1 h1 h2 hl;have HN:=hid hn;have H1:=hid h1;have HB1:=hid hB1;have hlb:lb<w.heap.size+1:=by simpa using hlt
 have hN1:(w.alloc (mkN x)).heap.size=w.heap.size+1:=by simp
 clear hB A hn h1 hlt;go_enter Tryz.func281,Tryz.ntmps281
 go_wp2_with (at_builtin;go_loud(refine wpList_app1n thl (.tmp 3) (.tmp 6) rfl rfl hN1 rfl h2 rfl rfl (by intro u hu;simp at hu;rcases hu with rfl|rfl|rfl<;>rfl) hB1 hsz (by omega) (by unfold maxLen;omega) ?_))
 intro a3 c3 w3 o3 g3 B3;have hka:=own_kind h2
 have hne: ∀g,a.map (·.block)=some g->g≠lb:=by
  intro g hg e;subst e;obtain⟨cs,fz,hh⟩:=hka _ hg;have:=H1.out;unfold Blk at this;rw[this]at hh;simp at hh
 have K3:Lib.OthersKept thT (some lb) w w3:=K0.grown (g3.step.grown) hka
 have L3:Blk w3 lb [.slice a n c] 112:=by
  unfold Blk;rw[g3.step.grown.block lb (by simp;omega) (fun e=>hne lb e.symm rfl)];exact H1.out
 have d1:=L3.get 0 _ rfl;have f1:=L3.frozen 0
 have oF:OwnT w3 w0.heap.size a3 (n+1) c3 (ts++[x.th]):=by
  unfold OwnT;rw[flat_app,flat_one];exact o3
 have s0:Step w3 (w3.setCell ⟨lb,0,none⟩ (.slice a3 (n+1) c3)) (some ⟨lb,0,none⟩) (some ⟨lb,0,none⟩):=
  ⟨⟨rfl,rfl,rfl,by simp[World.setCell],fun k _ hk=>Below.heap_setCell _ _ _ _ (fun e=>hk (by simp[e]))⟩,.inl rfl⟩
 have hne3: ∀g,a3.map (·.block)=some g->g≠lb:=by
  intro g hg e;subst e;obtain⟨cs,fz,hh⟩:=own_kind oF _ hg;have:=L3;unfold Blk at this;rw[this]at hh;simp at hh
 have oZ:OwnT (w3.setCell ⟨lb,0,none⟩ (.slice a3 (n+1) c3)) w0.heap.size a3 (n+1) c3 (ts++[x.th]):=by
  refine Own.kept oF s0.grown ?_;cases a3 with
  |none=>exact .inl rfl
  |some q=>right;have:=hne3 q.block rfl;simp[bk];exact this
 have bZ:Blk (w3.setCell ⟨lb,0,none⟩ (.slice a3 (n+1) c3)) lb [.slice a3 (n+1) c3] 112:=by
  have:=L3;unfold Blk at this⊢;simp[World.setCell,Array.getElem?_modify,this]
 have KZ:=K3.setCell ⟨lb,0,none⟩ rfl (.slice a3 (n+1) c3);have BZ:=B3.setCell (p:=⟨lb,0,none⟩) h3 (.slice a3 (n+1) c3)
 have hfin:LB (w3.setCell ⟨lb,0,none⟩ (.slice a3 (n+1) c3)) w0.heap.size lb (ts++[x.th]):=by
  refine⟨a3,c3,?_,?_,h3⟩
  ·rw[List.length_append,HN.out];exact bZ
  ·rw[List.length_append,HN.out];exact oZ
 have HF:=hid (And.intro hfin (And.intro BZ KZ));clear hfin BZ KZ bZ oZ hne3 s0 oF L3 K3 hne hka o3 g3 B3 K0 h2 hB1 c1 b0;go_wp2_with fail
 go_end0
 exact⟨rfl,HF.out.1,HF.out.2.1,HF.out.2.2⟩
theorem condAtoms: ∀(x:Nd) (w0 w:World) (lb:Nat) (ts:List Th),NdIn w0 x->Below w0.heap.size w0 w->LB w w0.heap.size lb ts->ts.length+cntN x<=10000->
 Calls Tryz.prog 280 #[vN x,.func (.func 281) #[] #[.pointer (some ⟨lb,0,none⟩)]] w (RetA w0 w lb (ts++atomsN x)):=by
 intro x
 induction x using Nd.ind with
 |h x ih=>
 intro w0 w lb ts hI hB hL hl;have hc:=cntN_eq x;have hlb:lb<w.heap.size:=by obtain⟨a,c,h1,h2,h3⟩:=hL;exact h1.lt
 have hne:w.heap.size≠lb:=by omega
 have A:=al w (mkN x);have b0:Blk (w.alloc (mkN x)) w.heap.size (cN x) 28:=Blk.new w _ _;have hL:=hL.below A;have hB:=hB.trans (A.mono hB.size);have K:=others_belowE thT (some lb) A;have HI:=hid hI;have HIH:=hid ih;obtain⟨ts1,hts⟩: ∃ts1,ts++(if x.kind=2 then[x.th]else[])=ts1:=⟨_,rfl⟩;have E:=hid (show ts++atomsN x=ts1++atomsL x.kids by rw[atomsN_eq,<-List.append_assoc,hts]);have hl1:ts1.length+cntL x.kids<=10000:=by rw[<-hts];split<;>simp<;>omega
 clear ih hI A
 by_cases hk:x.kind=2
 ·rw[if_pos hk]at hts
  have zk:(x.kind==2)=true:=by simpa using hk
  have AK:=hid (condAsk x w0 (w.alloc (mkN x)) lb ts hB hL (by omega));rw[hts]at AK;clear hB hL hk hts;go_enter Tryz.func280,Tryz.ntmps280;go_wp2_with fail;refine AK.out.mono ?_;rintro e w1 ⟨rfl,hL,hB,K1⟩;have K:=K.trans K1;have b0:=b0.othersE K1 hne (by decide);clear K1 AK;have q5:=b0.get 5 _ rfl;go_wp2_with fail;clear q5;have ndne:28≠thT:=by decide
  go_loopw [15] (fun i wr=> ∃k:Nat,k<=x.kids.length/\i= .int .i64 k/\Below w0.heap.size w0 wr/\LB wr w0.heap.size lb (ts1++atomsL (x.kids.take k))/\Lib.OthersKept thT (some lb) w wr/\Blk wr w.heap.size (cN x) 28) (fun i _=>x.kids.length-(intOf i).toNat)
  case atStart=>exact⟨0,Nat.zero_le _,rfl,hB,by rw[List.take_zero,atomsL_nil,List.append_nil];exact hL,K,b0⟩
  case round=>
   clear hB hL K b0;obtain⟨k,hk,rfl,hB,hL,K,b0⟩:=hrel
   by_cases hlk:k<x.kids.length
   ·obtain⟨y,hy⟩: ∃y,x.kids[k]? =some y:=⟨_,List.getElem?_eq_getElem hlk⟩
    have hym:=List.mem_of_getElem? hy;have hIr:=HI.out.keep hB;obtain⟨p0,p1,p2,p3,p4,p5⟩:=hIr.els.nd hy;have ix:=hIr.els.idx ndl cN_len k hlk x.c;have hkl:=hIr.els.len
    have hlk2:(atomsL (x.kids.take k)).length+cntN y<=cntL x.kids:=by
     have h1:=cntL_app (x.kids.take (k+1)) (x.kids.drop (k+1));rw[List.take_append_drop]at h1
     have h2:x.kids.take (k+1)=x.kids.take k++[y]:=by
      obtain⟨hlt,rfl⟩:=List.getElem?_eq_some_iff.1 hy;exact List.take_succ_eq_append_getElem hlt
     rw[h2,cntL_app,cntL_cons,cntL_nil]at h1
     have h3: ∀l:List Nd,(atomsL l).length<=cntL l:=by
      intro l
      induction l with
      |nil=>rw[atomsL_nil];simp
      |cons z r ih=>rw[atomsL_cons,cntL_cons,List.length_append];have:=atomsN_len z;omega
     have:=h3 (x.kids.take k);omega
    have A:=al wr (mkN y);have hLA:=hL.below A;have hBA:=hB.trans (A.mono hB.size);have KA:=K.trans (others_belowE thT (some lb) A);have b0A:=b0.below A;have CY:=hid (HIH.out y hym w0 (wr.alloc (mkN y)) lb (ts1++atomsL (x.kids.take k)) (HI.out.kid y hym) hBA hLA (by rw[List.length_append];omega));have HT:=hid (atomsL_take hy);clear hy hym hIr hB hL K b0 A hLA hBA hlk2;go_wp2_with fail;refine CY.out.mono ?_;rintro e w2 ⟨rfl,hL,hB,K2⟩;have K:=KA.trans K2;have b0:=b0A.othersE K2 hne ndne;rw[List.append_assoc,<-HT.out]at hL;clear K2 p0 p1 p2 p3 p4 p5 ix KA b0A CY;go_wp2_with fail
    go_roundw
    case rel=>exact⟨k+1,by omega,by go_num,hB,hL,K,b0⟩
    case measure=>simp[intOf];omega
   ·obtain rfl:k=x.kids.length:=by omega
    rw[List.take_length,<-E.out]at hL;go_wp2_with fail
    go_end0
    exact⟨rfl,hL,hB,K⟩
 ·rw[if_neg hk,List.append_nil]at hts
  have zk:(x.kind==2)=false:=by simpa using hk
  have h9:=hts.symm;clear hts;subst h9;clear hk;go_enter Tryz.func280,Tryz.ntmps280
  go_upto_region 1 with(fail)
  generalize w.alloc (mkN x)=W1 at*;have q0:=b0.get 0 _ rfl;have q5:=b0.get 5 _ rfl;go_wp2_with fail;clear q5;have ndne:28≠thT:=by decide
  go_loopw [15] (fun i wr=> ∃k:Nat,k<=x.kids.length/\i= .int .i64 k/\Below w0.heap.size w0 wr/\LB wr w0.heap.size lb (ts1++atomsL (x.kids.take k))/\Lib.OthersKept thT (some lb) w wr/\Blk wr w.heap.size (cN x) 28) (fun i _=>x.kids.length-(intOf i).toNat)
  case atStart=>exact⟨0,Nat.zero_le _,rfl,hB,by rw[List.take_zero,atomsL_nil,List.append_nil];exact hL,K,b0⟩
  case round=>
   clear hB hL K b0;obtain⟨k,hk,rfl,hB,hL,K,b0⟩:=hrel
   by_cases hlk:k<x.kids.length
   ·obtain⟨y,hy⟩: ∃y,x.kids[k]? =some y:=⟨_,List.getElem?_eq_getElem hlk⟩
    have hym:=List.mem_of_getElem? hy;have hIr:=HI.out.keep hB;obtain⟨p0,p1,p2,p3,p4,p5⟩:=hIr.els.nd hy;have ix:=hIr.els.idx ndl cN_len k hlk x.c;have hkl:=hIr.els.len
    have hlk2:(atomsL (x.kids.take k)).length+cntN y<=cntL x.kids:=by
     have h1:=cntL_app (x.kids.take (k+1)) (x.kids.drop (k+1));rw[List.take_append_drop]at h1
     have h2:x.kids.take (k+1)=x.kids.take k++[y]:=by
      obtain⟨hlt,rfl⟩:=List.getElem?_eq_some_iff.1 hy;exact List.take_succ_eq_append_getElem hlt
     rw[h2,cntL_app,cntL_cons,cntL_nil]at h1
     have h3: ∀l:List Nd,(atomsL l).length<=cntL l:=by
      intro l
      induction l with
      |nil=>rw[atomsL_nil];simp
      |cons z r ih=>rw[atomsL_cons,cntL_cons,List.length_append];have:=atomsN_len z;omega
     have:=h3 (x.kids.take k);omega
    have A:=al wr (mkN y);have hLA:=hL.below A;have hBA:=hB.trans (A.mono hB.size);have KA:=K.trans (others_belowE thT (some lb) A);have b0A:=b0.below A;have CY:=hid (HIH.out y hym w0 (wr.alloc (mkN y)) lb (ts1++atomsL (x.kids.take k)) (HI.out.kid y hym) hBA hLA (by rw[List.length_append];omega));have HT:=hid (atomsL_take hy);clear hy hym hIr hB hL K b0 A hLA hBA hlk2;go_wp2_with fail;refine CY.out.mono ?_;rintro e w2 ⟨rfl,hL,hB,K2⟩;have K:=KA.trans K2;have b0:=b0A.othersE K2 hne ndne;rw[List.append_assoc,<-HT.out]at hL;clear K2 p0 p1 p2 p3 p4 p5 ix KA b0A CY;go_wp2_with fail
    go_roundw
    case rel=>exact⟨k+1,by omega,by go_num,hB,hL,K,b0⟩
    case measure=>simp[intOf];omega
   ·obtain rfl:k=x.kids.length:=by omega
    rw[List.take_length,<-E.out]at hL;go_wp2_with fail
    go_end0
    exact⟨rfl,hL,hB,K⟩
abbrev cC(q:Int)(x:Nd):List Value:=[.int .i64 q,.int .i64 x.kind,.int .i64 x.th.thread,.int .i64 x.th.reg,.string (tx x.th.loc),.int .i64 x.val,.slice x.a x.kids.length x.c]
theorem BxL.cC{w:World}{b:Nat}{q:Int}{x:Nd}(h:BxL w b (cC q x)):w.cell? ⟨b,0,none⟩=some (.int .i64 q)/\w.cell? ⟨b,1,none⟩=some (.int .i64 x.kind)/\w.cell? ⟨b,2,none⟩=some (.int .i64 x.th.thread)/\w.cell? ⟨b,3,none⟩=some (.int .i64 x.th.reg)/\w.cell? ⟨b,4,none⟩=some (.string (tx x.th.loc))/\w.cell? ⟨b,5,none⟩=some (.int .i64 x.val)/\w.cell? ⟨b,6,none⟩=some (.slice x.a x.kids.length x.c):=
 ⟨h.get 0 _ rfl,h.get 1 _ rfl,h.get 2 _ rfl,h.get 3 _ rfl,h.get 4 _ rfl,h.get 5 _ rfl,h.get 6 _ rfl⟩
theorem cmpct_map{α β:Type}[DecidableEq α][DecidableEq β](f:α->β)(hf: ∀a b,f a=f b->a=b): ∀l:List α,cmpct (l.map f)=(cmpct l).map f
 |[]=>rfl
 |[x]=>rfl
 | x::y::r=>by
   have ih:=cmpct_map f hf (y::r);simp only[List.map_cons]at ih⊢;rw[cmpct_cons,cmpct_cons,ih]
   by_cases h:x=y
   ·rw[if_pos h,if_pos (by rw[h])]
   ·rw[if_neg h,if_neg (fun e=>h (hf _ _ e))];rfl
theorem flat_eV(d:List VTh):flat eV d=flat cTh (d.map (·.1)):=by
 unfold flat;rw[List.flatMap_map]
theorem Own.lit0'(w:World)(E size:Nat):Own (w.alloc (.cells #[] E)) w.heap.size E size (Option.some ⟨w.heap.size,0,none⟩) 0 0 []:=
 World.ownsRow_lit w #[] 0 (Nat.le_refl _) (by unfold maxLen;omega) (by simp)
def RetTh(w:World)(l:List Th)(e:Ending)(w':World):Prop:=
 ∃a c,e= .returned (.slice a l.length c)/\OwnT w' w.heap.size a l.length c l/\Below w.heap.size w w'
theorem cloneTh(l:List Th)(a:Option Addr)(c:Nat)(w:World)(h:Els cTh w a l)(hl:l.length<=1000000):
 Calls Tryz.prog 228 #[.slice a l.length c] w (RetTh w l):=by
 obtain⟨n,hn⟩: ∃n,l.length=n:=⟨_,rfl⟩;have HN:=hid hn;rw[hn]at hl;unfold RetTh;rw[hn];cases a with
 | none=>
   have hl0:l=[]:=by
    by_cases e:l=[]
    ·exact e
    ·have:=h.row.head (by intro e2;have:=congrArg List.length e2;rw[flat_length cTh_len]at this;simp only[List.length_nil]at this;exact e (List.eq_nil_of_length_eq_zero (by omega)))
     cases this
   subst hl0;have hn0:n=0:=hn.symm;subst hn0;have ze: ∀w,(binOp .eql 112 (.slice none 0 c) (.slice none 0 0)).run Tryz.prog w= .ok (.bool true) w:=fun w=>rfl
   clear hn h;go_enter Tryz.func228,Tryz.ntmps228;go_wp2_with fail;go_ret;exact⟨none,0,rfl,Own.nil _ _ _ _,Below.refl _ _⟩
 | some p=>
   have ze: ∀w,(binOp .eql 112 (.slice (some p) n c) (.slice none 0 0)).run Tryz.prog w= .ok (.bool false) w:=fun w=>rfl
   have A:=al w (.cells #[] 25);have o0:=Own.lit0' w 25 3;have hA:=h.below A;have hrl:(flat cTh l).length=n*3:=by rw[flat_length cTh_len,hn]
   clear hn h;go_enter Tryz.func228,Tryz.ntmps228
   go_wp2_with (at_builtin;go_loud(refine wpList_app thl (.tmp 5) (.tmp 6) rfl rfl rfl o0 rfl hA.row hrl (flat_oneCell cTh_one l) A A.size (by omega) (by unfold maxLen;omega) ?_))
   intro a1 c1 w1 o1 g1 E1;have o2:OwnT w1 w.heap.size a1 n c1 l:=by simpa[OwnT]using o1
   have HO:=hid (And.intro o2 E1);clear o0 A hA o1 g1 E1 o2;go_wp2_with fail;go_ret;exact⟨a1,c1,rfl,HO.out.1,HO.out.2⟩
theorem condThings(x:Nd)(w:World)(hI:NdIn w x)(ho:OkN 2 x)(hc:cntN x<=1024):
 Calls Tryz.prog 229 #[vN x] w (RetTh w (thingsN x)):=by
 have A:=al w (mkN x);have b0:=BxN.new w x;have L:=al (w.alloc (mkN x)) (.cells #[.slice none 0 0] 112)
 have hLB:LB ((w.alloc (mkN x)).alloc (.cells #[.slice none 0 0] 112)) (w.alloc (mkN x)).heap.size (w.alloc (mkN x)).heap.size []:=
  ⟨none,0,Blk.new _ _ _,Own.nil _ _ _ _,Nat.le_refl _⟩
 have CA:=condAtoms x (w.alloc (mkN x)) _ (w.alloc (mkN x)).heap.size [] (hI.keep A) L hLB (by simp;omega);rw[List.nil_append]at CA;have hsz:(w.alloc (mkN x)).heap.size=w.heap.size+1:=by simp
 have HV:=atoms_ok ho;have hal:=atomsN_len x;have hval:=toV_val (atomsN x) HV;have hst:=sorted_things ho (fun x y=> !ltOf cfV y x) (fun a b=>by rw[ltOf_bef]);obtain⟨d,hd⟩: ∃d,toV (atomsN x) HV=d:=⟨_,rfl⟩;rw[hd]at hval hst;have hdl:(atomsN x).length=d.length:=by rw[<-hval,List.length_map]
 have HQ:=hid (And.intro hval (And.intro hst hdl));have CA:=hid CA;rw[hsz]at CA;clear hI hd hLB L A hsz hval hst;go_enter Tryz.func229,Tryz.ntmps229;go_wp2_with fail;refine CA.out.mono ?_;rintro e w1 ⟨rfl,hL,hB,K⟩;obtain⟨a,c,bL,oL,hle⟩:=hL;have c0:=bL.get 0 _ rfl;obtain⟨hval,hst, -⟩:=HQ.out;rw[hdl]at c0 oL;have oL:Own w1 (w.alloc (mkN x)).heap.size 25 3 a d.length c (flat eV d):=by rw[flat_eV,hval];exact oL
 have ST:=hid (sortTh d w1 _ a c oL (by omega));have HOL:=hid oL;have HBL:=hid bL;have HB:=hid hB;clear oL bL hB K hle CA HQ hval;go_wp2_with fail;refine ST.out.mono ?_;rintro e w2 ⟨rfl,oS,sS⟩;have hka:=own_kind HOL.out
 have bL2:Blk w2 (w.heap.size+1) [.slice a (atomsN x).length c] 112:=by
  have h1:=HBL.out;have hl:=h1.lt;unfold Blk at h1⊢
  rw[sS.grown.block _ hl (fun e=>by
   obtain⟨cs,fz,hh⟩:=hka _ e.symm;rw[h1]at hh;simp at hh)]
  exact h1
 have c2:=bL2.get 0 _ rfl;rw[hdl]at c2;have hlen:((sortV d).map (·.1)).length=d.length:=by rw[List.length_map];exact List.length_mergeSort d
 rw[flat_eV]at oS;have B2:=sS.below HOL.out HB.out HB.out.size;have CT:=compactTh ((sortV d).map (·.1)) w2 _ a c (by rw[hlen];exact oS) B2.size (by rw[hlen];omega);rw[cmpct_map _ (fun a b h=>Subtype.ext h),hst,hlen]at CT;have CT:=hid CT;have HOS:=hid oS;have HLE:=hid hlen;have HB2:=hid B2;clear c0 oS sS hka bL2 HBL ST hst hlen B2;go_wp2_with fail;refine CT.out.mono ?_;rintro e w3 ⟨rfl,o3,s3⟩;have B3:=s3.below HOS.out HB2.out HB2.out.size;have BZ:Below w.heap.size w w3:=(al w (mkN x)).trans (B3.mono (al w (mkN x)).size);have oZ:OwnT w3 w.heap.size a (thingsN x).length c (thingsN x):=Own.mono o3 (by simp);have HZ:=hid (And.intro oZ BZ);clear o3 s3 B3 BZ oZ c2 CT HOS;go_wp2_with fail;go_ret;exact⟨a,c,rfl,HZ.out.1,HZ.out.2⟩
attribute [local go_sem high] eqTh neqTh
def RetThE(w:World)(l:List Th)(r:Int)(e:Ending)(w':World):Prop:=
 ∃a c,e= .returned (.tuple #[.slice a l.length c,.int .i64 r])/\OwnT w' w.heap.size a l.length c l/\Below w.heap.size w w'
theorem RetThE.none{w w':World}{l:List Th}{r:Int}{e:Ending}(hl:l=[])(he:e= .returned (.tuple #[.slice Option.none 0 0,.int .i64 r]))(hb:Below w.heap.size w w'):RetThE w l r e w':=by
 subst hl;exact⟨Option.none,0,he,Own.nil _ _ _ _,hb⟩
theorem condThingsC(q:Int)(x:Nd)(w:World)(hI:NdIn w x):Calls Tryz.prog 144 #[vC q x] w (RetThE w (thingsC q x) (condE 2 q x)):=by
 have B:=al w (mkC q x);have b0:BxL (w.alloc (mkC q x)) w.heap.size (cC q x):=BxL.new w _ _;have CH:=condCheck 2 q x (w.alloc (mkC q x)) (hI.keep B);obtain⟨r,hr⟩: ∃r,condE 2 q x=r:=⟨_,rfl⟩;rw[hr]at CH⊢
 by_cases h0:r=0
 ·subst h0
  obtain⟨-, hq1,hq2,ho,hn⟩:=cond_ok hr;have hT:=hid (show thingsC q x=thingsN x by unfold thingsC;rw[if_pos hr]);have CH:=hid CH;have HI:=hid (hI.keep B);have HO:=hid ho;obtain⟨-, -, -, htl⟩:=things_ok ho;clear hr hI ho;go_enter Tryz.func144,Tryz.ntmps144;go_wp2_with fail;refine CH.out.mono ?_;rintro e1 w1 ⟨rfl,E1⟩;obtain⟨q0,q1,q2,q3,q4,q5,q6⟩:=(b0.below E1).cC;have hI:=HI.out.keep E1;have B:=B.trans (E1.mono B.size);have TH:=hid (condThings x w1 hI HO.out hn);clear E1 CH HI hI;go_wp2_with fail;refine TH.out.mono ?_;rintro e2 w2 ⟨a,c,rfl,o2,E2⟩;have els:=(Own.els o2 cTh_len (by omega) (by omega)).1;have CL:=hid (cloneTh _ a c w2 els (by omega));have B2:=B.trans (E2.mono B.size);clear q0 q1 q2 q3 q4 q5 q6 o2 els TH E2;go_wp2_with fail;refine CL.out.mono ?_;rintro e3 w3 ⟨a3,c3,rfl,o3,E3⟩;have B3:=B2.trans (E3.mono B2.size);have HZ:=hid (And.intro (Own.mono o3 B2.size) B3);clear o3 E3 B3 CL;go_wp2_with fail
  go_ret2
  rw[hT.out];exact⟨a3,c3,rfl,HZ.out.1,HZ.out.2⟩
 ·have hT:=hid (show thingsC q x=[] by unfold thingsC;rw[if_neg (by rw[hr];exact h0)])
  have z:(r != 0)=true:=by simpa using h0
  have CH:=hid CH;clear hr hI h0;go_enter Tryz.func144,Tryz.ntmps144;go_wp2_with fail;refine CH.out.mono ?_;rintro e1 w1 ⟨rfl,E1⟩;have B:=B.trans (E1.mono B.size);go_wp2_with fail
  go_ret2
  exact RetThE.none hT.out rfl B
abbrev sV(l:List Tx):List Value:=l.map fun x=>Value.string (tx x)
abbrev OwnS(w:World)(B:Nat)(a:Option Addr)(n c:Nat)(l:List Tx):Prop:=Own w B 9 1 a n c (sV l)
theorem sV_app(l r:List Tx):sV (l++r)=sV l++sV r:=List.map_append
theorem OwnS.txs{w:World}{B n c:Nat}{a:Option Addr}{l:List Tx}(h:OwnS w B a n c l)(hl:l.length<=1000000000000000000):Txs w a l:=⟨h.row,hl⟩
theorem Txs.at{w:World}{a:Option Addr}{l:List Tx}(h:Txs w a l){k:Nat}{y:Tx}(hy:l[k]? =some y):w.cell? ⟨bk a,fo a+k,none⟩=some (.string (tx y)):=by
 obtain⟨hlt,rfl⟩:=List.getElem?_eq_some_iff.1 hy;exact h.cell k hlt
theorem thingsC_len(q:Int)(x:Nd):(thingsC q x).length<=1024:=by
 unfold thingsC;split
 ·rename_i h
  obtain⟨-, -, -, ho,hn⟩:=cond_ok h;have:=(things_ok ho).2.2.2;omega
 ·simp
def askE(t:Tst):Int:=if condE t.arch t.q t.node≠0 then condE t.arch t.q t.node else if(askT t).any fun x=>decide ((t.code.length:Int)<=x.thread)then 80 else 0
end Go.Proofs.YtkbbgjloifmmbaaGreatDoor
namespace Go.Proofs.YtkbbgjloifmmbaaGreatDoor
open Go.RowKit
theorem fiveI{i:Ins}{o q x y z:Bool}(hc:checkI i=(o&&q&&x&&y&&z))(ho:o=true):(q=false/\errI i=91)\/(q=true/\x=false/\errI i=91)\/(q=true/\x=true/\y=false/\errI i=91)\/(q=true/\x=true/\y=true/\z=false/\errI i=91)\/(q=true/\x=true/\y=true/\z=true/\errI i=0):=by
 subst ho;cases q
 ·exact .inl ⟨rfl,errI_no hc⟩
 cases x
 ·exact .inr (.inl ⟨rfl,rfl,errI_no hc⟩)
 cases y
 ·exact .inr (.inr (.inl ⟨rfl,rfl,rfl,errI_no hc⟩))
 cases z
 ·exact .inr (.inr (.inr (.inl ⟨rfl,rfl,rfl,rfl,errI_no hc⟩)))
 ·exact .inr (.inr (.inr (.inr ⟨rfl,rfl,rfl,rfl,errI_yes hc⟩)))
section
variable (op d a b imm:Int) (loc label:Tx) (fence:Int) (w:World)
theorem refCheck_lw(hl:label.length<=9223372036854775807):Calls Tryz.prog 107 #[vI ⟨6,d,a,b,imm,loc,label,fence⟩] w (Ret w (.int .i64 (errI ⟨6,d,a,b,imm,loc,label,fence⟩))):=by
 obtain⟨n,hn⟩: ∃n,n= !decide ((⟨6,d,a,b,imm,loc,label,fence⟩:Ins)=⟨6,d,a,0,0,[],[],0⟩):=⟨_,rfl⟩;have hNE: ∀w,(binOp .neq 50 (.agg #[.int .i64 6,.int .i64 d,.int .i64 a,.int .i64 b,.int .i64 imm,.string (tx loc),.string (tx label),.int .i64 fence]) (.agg #[.int .i64 6,.int .i64 d,.int .i64 a,.int .i64 0,.int .i64 0,.string ⟨#[]⟩,.string ⟨#[]⟩,.int .i64 0])).run Tryz.prog w= .ok (.bool n) w:=fun w=>by rw[hn];exact neqI ⟨6,d,a,b,imm,loc,label,fence⟩ ⟨6,d,a,0,0,[],[],0⟩ w
 rcases fiveI (i:=⟨6,d,a,b,imm,loc,label,fence⟩) (o:=okI ⟨6,d,a,b,imm,loc,label,fence⟩) (q:=decide ((⟨6,d,a,b,imm,loc,label,fence⟩:Ins)=⟨6,d,a,0,0,[],[],0⟩)) (x:=regB d) (y:=regB a) (z:=regB b) rfl rfl with⟨hq,h⟩|⟨hq,h1,h⟩|⟨hq,h1,h2,h⟩|⟨hq,h1,h2,h3,h⟩|⟨hq,h1,h2,h3,h⟩
 all_goals
  rw[hq]at hn;simp only[Bool.not_true,Bool.not_false]at hn;subst hn;have HE:=hid h
  (try have H1:=hid h1);(try have H2:=hid h2);(try have H3:=hid h3)
  clear h hq;(try clear h1);(try clear h2);(try clear h3);go_enter Tryz.func107,Tryz.ntmps107
  go_wp2_with (first|(go_at_call 191;refine(refIsReg _ _).mono ?_;rintro e w' ⟨rfl,rfl⟩;(try rw[H1.out]);(try rw[H2.out]);(try rw[H3.out]))|(go_at_call 190;refine(refIsName label hl _).mono ?_;rintro e w' ⟨rfl,rfl⟩;rw[HM.out]))
  go_ret;exact⟨ret_int HE.out.symm,blA⟩
theorem refCheck_sw(hl:label.length<=9223372036854775807):Calls Tryz.prog 107 #[vI ⟨7,d,a,b,imm,loc,label,fence⟩] w (Ret w (.int .i64 (errI ⟨7,d,a,b,imm,loc,label,fence⟩))):=by
 obtain⟨n,hn⟩: ∃n,n= !decide ((⟨7,d,a,b,imm,loc,label,fence⟩:Ins)=⟨7,0,a,b,0,[],[],0⟩):=⟨_,rfl⟩;have hNE: ∀w,(binOp .neq 50 (.agg #[.int .i64 7,.int .i64 d,.int .i64 a,.int .i64 b,.int .i64 imm,.string (tx loc),.string (tx label),.int .i64 fence]) (.agg #[.int .i64 7,.int .i64 0,.int .i64 a,.int .i64 b,.int .i64 0,.string ⟨#[]⟩,.string ⟨#[]⟩,.int .i64 0])).run Tryz.prog w= .ok (.bool n) w:=fun w=>by rw[hn];exact neqI ⟨7,d,a,b,imm,loc,label,fence⟩ ⟨7,0,a,b,0,[],[],0⟩ w
 rcases fiveI (i:=⟨7,d,a,b,imm,loc,label,fence⟩) (o:=okI ⟨7,d,a,b,imm,loc,label,fence⟩) (q:=decide ((⟨7,d,a,b,imm,loc,label,fence⟩:Ins)=⟨7,0,a,b,0,[],[],0⟩)) (x:=regB d) (y:=regB a) (z:=regB b) rfl rfl with⟨hq,h⟩|⟨hq,h1,h⟩|⟨hq,h1,h2,h⟩|⟨hq,h1,h2,h3,h⟩|⟨hq,h1,h2,h3,h⟩
 all_goals
  rw[hq]at hn;simp only[Bool.not_true,Bool.not_false]at hn;subst hn;have HE:=hid h
  (try have H1:=hid h1);(try have H2:=hid h2);(try have H3:=hid h3)
  clear h hq;(try clear h1);(try clear h2);(try clear h3);go_enter Tryz.func107,Tryz.ntmps107
  go_wp2_with (first|(go_at_call 191;refine(refIsReg _ _).mono ?_;rintro e w' ⟨rfl,rfl⟩;(try rw[H1.out]);(try rw[H2.out]);(try rw[H3.out]))|(go_at_call 190;refine(refIsName label hl _).mono ?_;rintro e w' ⟨rfl,rfl⟩;rw[HM.out]))
  go_ret;exact⟨ret_int HE.out.symm,blA⟩
theorem refCheck_xor(hl:label.length<=9223372036854775807):Calls Tryz.prog 107 #[vI ⟨9,d,a,b,imm,loc,label,fence⟩] w (Ret w (.int .i64 (errI ⟨9,d,a,b,imm,loc,label,fence⟩))):=by
 obtain⟨n,hn⟩: ∃n,n= !decide ((⟨9,d,a,b,imm,loc,label,fence⟩:Ins)=⟨9,d,a,b,0,[],[],0⟩):=⟨_,rfl⟩;have hNE: ∀w,(binOp .neq 50 (.agg #[.int .i64 9,.int .i64 d,.int .i64 a,.int .i64 b,.int .i64 imm,.string (tx loc),.string (tx label),.int .i64 fence]) (.agg #[.int .i64 9,.int .i64 d,.int .i64 a,.int .i64 b,.int .i64 0,.string ⟨#[]⟩,.string ⟨#[]⟩,.int .i64 0])).run Tryz.prog w= .ok (.bool n) w:=fun w=>by rw[hn];exact neqI ⟨9,d,a,b,imm,loc,label,fence⟩ ⟨9,d,a,b,0,[],[],0⟩ w
 rcases fiveI (i:=⟨9,d,a,b,imm,loc,label,fence⟩) (o:=okI ⟨9,d,a,b,imm,loc,label,fence⟩) (q:=decide ((⟨9,d,a,b,imm,loc,label,fence⟩:Ins)=⟨9,d,a,b,0,[],[],0⟩)) (x:=regB d) (y:=regB a) (z:=regB b) rfl rfl with⟨hq,h⟩|⟨hq,h1,h⟩|⟨hq,h1,h2,h⟩|⟨hq,h1,h2,h3,h⟩|⟨hq,h1,h2,h3,h⟩
 all_goals
  rw[hq]at hn;simp only[Bool.not_true,Bool.not_false]at hn;subst hn;have HE:=hid h
  (try have H1:=hid h1);(try have H2:=hid h2);(try have H3:=hid h3)
  clear h hq;(try clear h1);(try clear h2);(try clear h3);go_enter Tryz.func107,Tryz.ntmps107
  go_wp2_with (first|(go_at_call 191;refine(refIsReg _ _).mono ?_;rintro e w' ⟨rfl,rfl⟩;(try rw[H1.out]);(try rw[H2.out]);(try rw[H3.out]))|(go_at_call 190;refine(refIsName label hl _).mono ?_;rintro e w' ⟨rfl,rfl⟩;rw[HM.out]))
  go_ret;exact⟨ret_int HE.out.symm,blA⟩
theorem refCheck_add(hl:label.length<=9223372036854775807):Calls Tryz.prog 107 #[vI ⟨10,d,a,b,imm,loc,label,fence⟩] w (Ret w (.int .i64 (errI ⟨10,d,a,b,imm,loc,label,fence⟩))):=by
 obtain⟨n,hn⟩: ∃n,n= !decide ((⟨10,d,a,b,imm,loc,label,fence⟩:Ins)=⟨10,d,a,b,0,[],[],0⟩):=⟨_,rfl⟩;have hNE: ∀w,(binOp .neq 50 (.agg #[.int .i64 10,.int .i64 d,.int .i64 a,.int .i64 b,.int .i64 imm,.string (tx loc),.string (tx label),.int .i64 fence]) (.agg #[.int .i64 10,.int .i64 d,.int .i64 a,.int .i64 b,.int .i64 0,.string ⟨#[]⟩,.string ⟨#[]⟩,.int .i64 0])).run Tryz.prog w= .ok (.bool n) w:=fun w=>by rw[hn];exact neqI ⟨10,d,a,b,imm,loc,label,fence⟩ ⟨10,d,a,b,0,[],[],0⟩ w
 rcases fiveI (i:=⟨10,d,a,b,imm,loc,label,fence⟩) (o:=okI ⟨10,d,a,b,imm,loc,label,fence⟩) (q:=decide ((⟨10,d,a,b,imm,loc,label,fence⟩:Ins)=⟨10,d,a,b,0,[],[],0⟩)) (x:=regB d) (y:=regB a) (z:=regB b) rfl rfl with⟨hq,h⟩|⟨hq,h1,h⟩|⟨hq,h1,h2,h⟩|⟨hq,h1,h2,h3,h⟩|⟨hq,h1,h2,h3,h⟩
 all_goals
  rw[hq]at hn;simp only[Bool.not_true,Bool.not_false]at hn;subst hn;have HE:=hid h
  (try have H1:=hid h1);(try have H2:=hid h2);(try have H3:=hid h3)
  clear h hq;(try clear h1);(try clear h2);(try clear h3);go_enter Tryz.func107,Tryz.ntmps107
  go_wp2_with (first|(go_at_call 191;refine(refIsReg _ _).mono ?_;rintro e w' ⟨rfl,rfl⟩;(try rw[H1.out]);(try rw[H2.out]);(try rw[H3.out]))|(go_at_call 190;refine(refIsName label hl _).mono ?_;rintro e w' ⟨rfl,rfl⟩;rw[HM.out]))
  go_ret;exact⟨ret_int HE.out.symm,blA⟩
theorem refCheck_ori_lo(hl:label.length<=9223372036854775807)(h:imm< -2048):Calls Tryz.prog 107 #[vI ⟨8,d,a,b,imm,loc,label,fence⟩] w (Ret w (.int .i64 (errI ⟨8,d,a,b,imm,loc,label,fence⟩))):=by
 have z1:decide (-2048<=imm)=false:=by simp;omega
 have HE:=hid (errI_no (i:=⟨8,d,a,b,imm,loc,label,fence⟩) (show checkI ⟨8,d,a,b,imm,loc,label,fence⟩=false by unfold checkI;rw[show okI ⟨8,d,a,b,imm,loc,label,fence⟩=false from(by show(decide (-2048<=imm)&&decide (imm<=2047))=false;simp;omega)];rfl));go_enter Tryz.func107,Tryz.ntmps107
 go_wp2_with (first|(go_at_call 191;refine(refIsReg _ _).mono ?_;rintro e w' ⟨rfl,rfl⟩;(try rw[H1.out]);(try rw[H2.out]);(try rw[H3.out]))|(go_at_call 190;refine(refIsName label hl _).mono ?_;rintro e w' ⟨rfl,rfl⟩;rw[HM.out]))
 go_ret;exact⟨ret_int HE.out.symm,blA⟩
theorem refCheck_ori_hi(hl:label.length<=9223372036854775807)(h:2047<imm):Calls Tryz.prog 107 #[vI ⟨8,d,a,b,imm,loc,label,fence⟩] w (Ret w (.int .i64 (errI ⟨8,d,a,b,imm,loc,label,fence⟩))):=by
 have z1:decide (-2048<=imm)=true:=by simp;omega
 have z2:decide (imm<=2047)=false:=by simp;omega
 have HE:=hid (errI_no (i:=⟨8,d,a,b,imm,loc,label,fence⟩) (show checkI ⟨8,d,a,b,imm,loc,label,fence⟩=false by unfold checkI;rw[show okI ⟨8,d,a,b,imm,loc,label,fence⟩=false from(by show(decide (-2048<=imm)&&decide (imm<=2047))=false;simp;omega)];rfl));go_enter Tryz.func107,Tryz.ntmps107
 go_wp2_with (first|(go_at_call 191;refine(refIsReg _ _).mono ?_;rintro e w' ⟨rfl,rfl⟩;(try rw[H1.out]);(try rw[H2.out]);(try rw[H3.out]))|(go_at_call 190;refine(refIsName label hl _).mono ?_;rintro e w' ⟨rfl,rfl⟩;rw[HM.out]))
 go_ret;exact⟨ret_int HE.out.symm,blA⟩
theorem refCheck_ori_in(hl:label.length<=9223372036854775807)(g1: -2048<=imm)(g2:imm<=2047):Calls Tryz.prog 107 #[vI ⟨8,d,a,b,imm,loc,label,fence⟩] w (Ret w (.int .i64 (errI ⟨8,d,a,b,imm,loc,label,fence⟩))):=by
 have z1:decide (-2048<=imm)=true:=by simp;omega
 have z2:decide (imm<=2047)=true:=by simp;omega
 obtain⟨n,hn⟩: ∃n,n= !decide ((⟨8,d,a,b,imm,loc,label,fence⟩:Ins)=⟨8,d,a,0,imm,[],[],0⟩):=⟨_,rfl⟩;have hNE: ∀w,(binOp .neq 50 (.agg #[.int .i64 8,.int .i64 d,.int .i64 a,.int .i64 b,.int .i64 imm,.string (tx loc),.string (tx label),.int .i64 fence]) (.agg #[.int .i64 8,.int .i64 d,.int .i64 a,.int .i64 0,.int .i64 imm,.string ⟨#[]⟩,.string ⟨#[]⟩,.int .i64 0])).run Tryz.prog w= .ok (.bool n) w:=fun w=>by rw[hn];exact neqI ⟨8,d,a,b,imm,loc,label,fence⟩ ⟨8,d,a,0,imm,[],[],0⟩ w
 rcases fiveI (i:=⟨8,d,a,b,imm,loc,label,fence⟩) (o:=okI ⟨8,d,a,b,imm,loc,label,fence⟩) (q:=decide ((⟨8,d,a,b,imm,loc,label,fence⟩:Ins)=⟨8,d,a,0,imm,[],[],0⟩)) (x:=regB d) (y:=regB a) (z:=regB b) rfl (by show(decide (-2048<=imm)&&decide (imm<=2047))=true;simp;omega)with⟨hq,h⟩|⟨hq,h1,h⟩|⟨hq,h1,h2,h⟩|⟨hq,h1,h2,h3,h⟩|⟨hq,h1,h2,h3,h⟩
 all_goals
  rw[hq]at hn;simp only[Bool.not_true,Bool.not_false]at hn;subst hn;have HE:=hid h
  (try have H1:=hid h1);(try have H2:=hid h2);(try have H3:=hid h3)
  clear h hq;(try clear h1);(try clear h2);(try clear h3);go_enter Tryz.func107,Tryz.ntmps107
  go_wp2_with (first|(go_at_call 191;refine(refIsReg _ _).mono ?_;rintro e w' ⟨rfl,rfl⟩;(try rw[H1.out]);(try rw[H2.out]);(try rw[H3.out]))|(go_at_call 190;refine(refIsName label hl _).mono ?_;rintro e w' ⟨rfl,rfl⟩;rw[HM.out]))
  go_ret;exact⟨ret_int HE.out.symm,blA⟩
theorem refCheck_fence_lo(hl:label.length<=9223372036854775807)(h:fence<2):Calls Tryz.prog 107 #[vI ⟨13,d,a,b,imm,loc,label,fence⟩] w (Ret w (.int .i64 (errI ⟨13,d,a,b,imm,loc,label,fence⟩))):=by
 have z1:decide (2<=fence)=false:=by simp;omega
 have HE:=hid (errI_no (i:=⟨13,d,a,b,imm,loc,label,fence⟩) (show checkI ⟨13,d,a,b,imm,loc,label,fence⟩=false by unfold checkI;rw[show okI ⟨13,d,a,b,imm,loc,label,fence⟩=false from(by show(decide (2<=fence)&&decide (fence<=11))=false;simp;omega)];rfl));go_enter Tryz.func107,Tryz.ntmps107
 go_wp2_with (first|(go_at_call 191;refine(refIsReg _ _).mono ?_;rintro e w' ⟨rfl,rfl⟩;(try rw[H1.out]);(try rw[H2.out]);(try rw[H3.out]))|(go_at_call 190;refine(refIsName label hl _).mono ?_;rintro e w' ⟨rfl,rfl⟩;rw[HM.out]))
 go_ret;exact⟨ret_int HE.out.symm,blA⟩
theorem refCheck_fence_hi(hl:label.length<=9223372036854775807)(h:11<fence):Calls Tryz.prog 107 #[vI ⟨13,d,a,b,imm,loc,label,fence⟩] w (Ret w (.int .i64 (errI ⟨13,d,a,b,imm,loc,label,fence⟩))):=by
 have z1:decide (2<=fence)=true:=by simp;omega
 have z2:decide (fence<=11)=false:=by simp;omega
 have HE:=hid (errI_no (i:=⟨13,d,a,b,imm,loc,label,fence⟩) (show checkI ⟨13,d,a,b,imm,loc,label,fence⟩=false by unfold checkI;rw[show okI ⟨13,d,a,b,imm,loc,label,fence⟩=false from(by show(decide (2<=fence)&&decide (fence<=11))=false;simp;omega)];rfl));go_enter Tryz.func107,Tryz.ntmps107
 go_wp2_with (first|(go_at_call 191;refine(refIsReg _ _).mono ?_;rintro e w' ⟨rfl,rfl⟩;(try rw[H1.out]);(try rw[H2.out]);(try rw[H3.out]))|(go_at_call 190;refine(refIsName label hl _).mono ?_;rintro e w' ⟨rfl,rfl⟩;rw[HM.out]))
 go_ret;exact⟨ret_int HE.out.symm,blA⟩
theorem refCheck_fence_in(hl:label.length<=9223372036854775807)(g1:2<=fence)(g2:fence<=11):Calls Tryz.prog 107 #[vI ⟨13,d,a,b,imm,loc,label,fence⟩] w (Ret w (.int .i64 (errI ⟨13,d,a,b,imm,loc,label,fence⟩))):=by
 have z1:decide (2<=fence)=true:=by simp;omega
 have z2:decide (fence<=11)=true:=by simp;omega
 obtain⟨n,hn⟩: ∃n,n= !decide ((⟨13,d,a,b,imm,loc,label,fence⟩:Ins)=⟨13,0,0,0,0,[],[],fence⟩):=⟨_,rfl⟩;have hNE: ∀w,(binOp .neq 50 (.agg #[.int .i64 13,.int .i64 d,.int .i64 a,.int .i64 b,.int .i64 imm,.string (tx loc),.string (tx label),.int .i64 fence]) (.agg #[.int .i64 13,.int .i64 0,.int .i64 0,.int .i64 0,.int .i64 0,.string ⟨#[]⟩,.string ⟨#[]⟩,.int .i64 fence])).run Tryz.prog w= .ok (.bool n) w:=fun w=>by rw[hn];exact neqI ⟨13,d,a,b,imm,loc,label,fence⟩ ⟨13,0,0,0,0,[],[],fence⟩ w
 rcases fiveI (i:=⟨13,d,a,b,imm,loc,label,fence⟩) (o:=okI ⟨13,d,a,b,imm,loc,label,fence⟩) (q:=decide ((⟨13,d,a,b,imm,loc,label,fence⟩:Ins)=⟨13,0,0,0,0,[],[],fence⟩)) (x:=regB d) (y:=regB a) (z:=regB b) rfl (by show(decide (2<=fence)&&decide (fence<=11))=true;simp;omega)with⟨hq,h⟩|⟨hq,h1,h⟩|⟨hq,h1,h2,h⟩|⟨hq,h1,h2,h3,h⟩|⟨hq,h1,h2,h3,h⟩
 all_goals
  rw[hq]at hn;simp only[Bool.not_true,Bool.not_false]at hn;subst hn;have HE:=hid h
  (try have H1:=hid h1);(try have H2:=hid h2);(try have H3:=hid h3)
  clear h hq;(try clear h1);(try clear h2);(try clear h3);go_enter Tryz.func107,Tryz.ntmps107
  go_wp2_with (first|(go_at_call 191;refine(refIsReg _ _).mono ?_;rintro e w' ⟨rfl,rfl⟩;(try rw[H1.out]);(try rw[H2.out]);(try rw[H3.out]))|(go_at_call 190;refine(refIsName label hl _).mono ?_;rintro e w' ⟨rfl,rfl⟩;rw[HM.out]))
  go_ret;exact⟨ret_int HE.out.symm,blA⟩
theorem refCheck_no(hl:label.length<=9223372036854775807)(h:op<6\/13<op):Calls Tryz.prog 107 #[vI ⟨op,d,a,b,imm,loc,label,fence⟩] w (Ret w (.int .i64 (errI ⟨op,d,a,b,imm,loc,label,fence⟩))):=by
 have z6:(op==6)=false:=by simp;omega
 have z7:(op==7)=false:=by simp;omega
 have z8:(op==8)=false:=by simp;omega
 have z9:(op==9)=false:=by simp;omega
 have z10:(op==10)=false:=by simp;omega
 have z11:(op==11)=false:=by simp;omega
 have z12:(op==12)=false:=by simp;omega
 have z13:(op==13)=false:=by simp;omega
 have HE:=hid (errI_no (i:=⟨op,d,a,b,imm,loc,label,fence⟩) (show checkI ⟨op,d,a,b,imm,loc,label,fence⟩=false by unfold checkI;rw[show okI ⟨op,d,a,b,imm,loc,label,fence⟩=false from(by unfold okI;simp only;rw[if_neg (by omega),if_neg (by omega),if_neg (by omega)];simp;omega)];rfl));go_enter Tryz.func107,Tryz.ntmps107
 go_wp2_with (first|(go_at_call 191;refine(refIsReg _ _).mono ?_;rintro e w' ⟨rfl,rfl⟩;(try rw[H1.out]);(try rw[H2.out]);(try rw[H3.out]))|(go_at_call 190;refine(refIsName label hl _).mono ?_;rintro e w' ⟨rfl,rfl⟩;rw[HM.out]))
 go_ret;exact⟨ret_int HE.out.symm,blA⟩
theorem refCheck_bne(hl:label.length<=9223372036854775807)(hm:nameB label=true):Calls Tryz.prog 107 #[vI ⟨11,d,a,b,imm,loc,label,fence⟩] w (Ret w (.int .i64 (errI ⟨11,d,a,b,imm,loc,label,fence⟩))):=by
 have HM:=hid hm;obtain⟨n,hn⟩: ∃n,n= !decide ((⟨11,d,a,b,imm,loc,label,fence⟩:Ins)=⟨11,0,a,b,0,[],label,0⟩):=⟨_,rfl⟩;have hNE: ∀w,(binOp .neq 50 (.agg #[.int .i64 11,.int .i64 d,.int .i64 a,.int .i64 b,.int .i64 imm,.string (tx loc),.string (tx label),.int .i64 fence]) (.agg #[.int .i64 11,.int .i64 0,.int .i64 a,.int .i64 b,.int .i64 0,.string ⟨#[]⟩,.string (tx label),.int .i64 0])).run Tryz.prog w= .ok (.bool n) w:=fun w=>by rw[hn];exact neqI ⟨11,d,a,b,imm,loc,label,fence⟩ ⟨11,0,a,b,0,[],label,0⟩ w
 rcases fiveI (i:=⟨11,d,a,b,imm,loc,label,fence⟩) (o:=okI ⟨11,d,a,b,imm,loc,label,fence⟩) (q:=decide ((⟨11,d,a,b,imm,loc,label,fence⟩:Ins)=⟨11,0,a,b,0,[],label,0⟩)) (x:=regB d) (y:=regB a) (z:=regB b) rfl hm with⟨hq,h⟩|⟨hq,h1,h⟩|⟨hq,h1,h2,h⟩|⟨hq,h1,h2,h3,h⟩|⟨hq,h1,h2,h3,h⟩
 all_goals
  rw[hq]at hn;simp only[Bool.not_true,Bool.not_false]at hn;subst hn;have HE:=hid h
  (try have H1:=hid h1);(try have H2:=hid h2);(try have H3:=hid h3)
  clear h hq;(try clear h1);(try clear h2);(try clear h3);clear hm;go_enter Tryz.func107,Tryz.ntmps107
  go_wp2_with (first|(go_at_call 191;refine(refIsReg _ _).mono ?_;rintro e w' ⟨rfl,rfl⟩;(try rw[H1.out]);(try rw[H2.out]);(try rw[H3.out]))|(go_at_call 190;refine(refIsName label hl _).mono ?_;rintro e w' ⟨rfl,rfl⟩;rw[HM.out]))
  go_ret;exact⟨ret_int HE.out.symm,blA⟩
theorem refCheck_bne_no(hl:label.length<=9223372036854775807)(hm:nameB label=false):Calls Tryz.prog 107 #[vI ⟨11,d,a,b,imm,loc,label,fence⟩] w (Ret w (.int .i64 (errI ⟨11,d,a,b,imm,loc,label,fence⟩))):=by
 have HE:=hid (errI_no (i:=⟨11,d,a,b,imm,loc,label,fence⟩) (show checkI ⟨11,d,a,b,imm,loc,label,fence⟩=false by unfold checkI;rw[show okI ⟨11,d,a,b,imm,loc,label,fence⟩=false from hm];rfl));have HM:=hid hm;go_enter Tryz.func107,Tryz.ntmps107
 go_wp2_with (first|(go_at_call 191;refine(refIsReg _ _).mono ?_;rintro e w' ⟨rfl,rfl⟩;(try rw[H1.out]);(try rw[H2.out]);(try rw[H3.out]))|(go_at_call 190;refine(refIsName label hl _).mono ?_;rintro e w' ⟨rfl,rfl⟩;rw[HM.out]))
 go_ret;exact⟨ret_int HE.out.symm,blA⟩
theorem refCheck_label(hl:label.length<=9223372036854775807)(hm:nameB label=true):Calls Tryz.prog 107 #[vI ⟨12,d,a,b,imm,loc,label,fence⟩] w (Ret w (.int .i64 (errI ⟨12,d,a,b,imm,loc,label,fence⟩))):=by
 have HM:=hid hm;obtain⟨n,hn⟩: ∃n,n= !decide ((⟨12,d,a,b,imm,loc,label,fence⟩:Ins)=⟨12,0,0,0,0,[],label,0⟩):=⟨_,rfl⟩;have hNE: ∀w,(binOp .neq 50 (.agg #[.int .i64 12,.int .i64 d,.int .i64 a,.int .i64 b,.int .i64 imm,.string (tx loc),.string (tx label),.int .i64 fence]) (.agg #[.int .i64 12,.int .i64 0,.int .i64 0,.int .i64 0,.int .i64 0,.string ⟨#[]⟩,.string (tx label),.int .i64 0])).run Tryz.prog w= .ok (.bool n) w:=fun w=>by rw[hn];exact neqI ⟨12,d,a,b,imm,loc,label,fence⟩ ⟨12,0,0,0,0,[],label,0⟩ w
 rcases fiveI (i:=⟨12,d,a,b,imm,loc,label,fence⟩) (o:=okI ⟨12,d,a,b,imm,loc,label,fence⟩) (q:=decide ((⟨12,d,a,b,imm,loc,label,fence⟩:Ins)=⟨12,0,0,0,0,[],label,0⟩)) (x:=regB d) (y:=regB a) (z:=regB b) rfl hm with⟨hq,h⟩|⟨hq,h1,h⟩|⟨hq,h1,h2,h⟩|⟨hq,h1,h2,h3,h⟩|⟨hq,h1,h2,h3,h⟩
 all_goals
  rw[hq]at hn;simp only[Bool.not_true,Bool.not_false]at hn;subst hn;have HE:=hid h
  (try have H1:=hid h1);(try have H2:=hid h2);(try have H3:=hid h3)
  clear h hq;(try clear h1);(try clear h2);(try clear h3);clear hm;go_enter Tryz.func107,Tryz.ntmps107
  go_wp2_with (first|(go_at_call 191;refine(refIsReg _ _).mono ?_;rintro e w' ⟨rfl,rfl⟩;(try rw[H1.out]);(try rw[H2.out]);(try rw[H3.out]))|(go_at_call 190;refine(refIsName label hl _).mono ?_;rintro e w' ⟨rfl,rfl⟩;rw[HM.out]))
  go_ret;exact⟨ret_int HE.out.symm,blA⟩
theorem refCheck_label_no(hl:label.length<=9223372036854775807)(hm:nameB label=false):Calls Tryz.prog 107 #[vI ⟨12,d,a,b,imm,loc,label,fence⟩] w (Ret w (.int .i64 (errI ⟨12,d,a,b,imm,loc,label,fence⟩))):=by
 have HE:=hid (errI_no (i:=⟨12,d,a,b,imm,loc,label,fence⟩) (show checkI ⟨12,d,a,b,imm,loc,label,fence⟩=false by unfold checkI;rw[show okI ⟨12,d,a,b,imm,loc,label,fence⟩=false from hm];rfl));have HM:=hid hm;go_enter Tryz.func107,Tryz.ntmps107
 go_wp2_with (first|(go_at_call 191;refine(refIsReg _ _).mono ?_;rintro e w' ⟨rfl,rfl⟩;(try rw[H1.out]);(try rw[H2.out]);(try rw[H3.out]))|(go_at_call 190;refine(refIsName label hl _).mono ?_;rintro e w' ⟨rfl,rfl⟩;rw[HM.out]))
 go_ret;exact⟨ret_int HE.out.symm,blA⟩
end
theorem refCheck(i:Ins)(hl:i.label.length<=9223372036854775807)(w:World):Calls Tryz.prog 107 #[vI i] w (Ret w (.int .i64 (errI i))):=by
 obtain⟨op,d,a,b,imm,loc,label,fence⟩:=i
 by_cases h6:op=6
 ·subst h6;apply refCheck_lw _ _ _ _ _ _ _ _ hl
 by_cases h7:op=7
 ·subst h7;apply refCheck_sw _ _ _ _ _ _ _ _ hl
 by_cases h8:op=8
 ·subst h8
  by_cases h1:imm< -2048
  ·apply refCheck_ori_lo _ _ _ _ _ _ _ _ hl;omega
  ·by_cases h2:imm<=2047
   ·apply refCheck_ori_in _ _ _ _ _ _ _ _ hl<;>omega
   ·apply refCheck_ori_hi _ _ _ _ _ _ _ _ hl;omega
 by_cases h9:op=9
 ·subst h9;apply refCheck_xor _ _ _ _ _ _ _ _ hl
 by_cases h10:op=10
 ·subst h10;apply refCheck_add _ _ _ _ _ _ _ _ hl
 by_cases h11:op=11
 ·subst h11
  cases hm:nameB label
  ·apply refCheck_bne_no _ _ _ _ _ _ _ _ hl;exact hm
  ·apply refCheck_bne _ _ _ _ _ _ _ _ hl;exact hm
 by_cases h12:op=12
 ·subst h12
  cases hm:nameB label
  ·apply refCheck_label_no _ _ _ _ _ _ _ _ hl;exact hm
  ·apply refCheck_label _ _ _ _ _ _ _ _ hl;exact hm
 by_cases h13:op=13
 ·subst h13
  by_cases h1:fence<2
  ·apply refCheck_fence_lo _ _ _ _ _ _ _ _ hl;omega
  ·by_cases h2:fence<=11
   ·apply refCheck_fence_in _ _ _ _ _ _ _ _ hl<;>omega
   ·apply refCheck_fence_hi _ _ _ _ _ _ _ _ hl;omega
 apply refCheck_no _ _ _ _ _ _ _ _ _ hl;omega
end Go.Proofs.YtkbbgjloifmmbaaGreatDoor
