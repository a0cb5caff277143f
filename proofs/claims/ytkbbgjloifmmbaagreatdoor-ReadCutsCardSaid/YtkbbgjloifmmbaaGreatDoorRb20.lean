/- What ReadBackP leans on, part 20. -/
import Derived.Test.YtkbbgjloifmmbaaGreatDoorRb19
set_option linter.unusedVariables false
set_option maxRecDepth 100000
set_option maxHeartbeats 12800000
namespace Go.Proofs.YtkbbgjloifmmbaaGreatDoor
open _root_.Go.Proofs.Tryz
open _root_.List renaming dropWhile_suffix->aoI
open Go.RowKit Go.Sort
theorem aiL(s:Tx):dQ 1 s=cU s:=by
 unfold dQ cU cE cz;simp
theorem aiM(s:Tx):dQ 2 s=bP s:=by
 unfold dQ bP cE cz;simp
def Yd(o:Option Nat)(w:World)(e:Ending)(w':World):Prop:= ∃(k:Nat) (ok:Bool),e= .returned (.tuple #[.int .i64 k,.bool ok])/\dr o k ok/\w=w'
theorem M1{af:Int}(h:aH af=true):af=1\/af=2:=by
 unfold aH at h;simpa using h
theorem aia(af:Int)(ha:aH af=true)(s:Tx)(w:World)(g:Gl w):Calls prog 112 #[.int .i64 af,.string (tx s)] w (Yd (dQ af s) w):=by
 rcases M1 ha with rfl|rfl
 ·rw[aiL]
  have RO:=hid (Jz s w g);clear ha g;cases hr:cU s with
  | none=>
    rw[hr]at RO;have RO:=hid (show Calls prog _ _ w (fun e w'=>e= .returned (.tuple #[.int .i64 0,.int .i64 90])/\w=w')from RO.out);clear hr;go_in
    go_wp2_with (go_at_call 176;refine RO.out.mono ?_;rintro e w' ⟨rfl,rfl⟩)
    go_ret2
    exact⟨0,false,rfl,rfl,rfl⟩
  | some k=>
    rw[hr]at RO;have RO:=hid (show Calls prog _ _ w (fun e w'=>e= .returned (.tuple #[.int .i64 k,.int .i64 0])/\w=w')from RO.out);clear hr;go_in
    go_wp2_with (go_at_call 176;refine RO.out.mono ?_;rintro e w' ⟨rfl,rfl⟩)
    go_ret2
    exact⟨k,true,rfl,rfl,rfl⟩
 ·rw[aiM]
  have RO:=hid (UA s w);clear ha g;unfold uf ue at RO;cases hr:bP s with
  | none=>
    rw[hr]at RO;have RO:=hid (show Calls prog _ _ w (fun e w'=>e= .returned (.tuple #[.int .i64 0,.int .i64 90])/\w=w')from RO.out);clear hr;go_in
    go_wp2_with (go_at_call 197;refine RO.out.mono ?_;rintro e w' ⟨rfl,rfl⟩)
    go_ret2
    exact⟨0,false,rfl,rfl,rfl⟩
  | some k=>
    rw[hr]at RO;have RO:=hid (show Calls prog _ _ w (fun e w'=>e= .returned (.tuple #[.int .i64 k,.int .i64 0])/\w=w')from RO.out);clear hr;go_in
    go_wp2_with (go_at_call 197;refine RO.out.mono ?_;rintro e w' ⟨rfl,rfl⟩)
    go_ret2
    exact⟨k,true,rfl,rfl,rfl⟩
abbrev Ck:Obj:=.cells #[.int .i64 0,.int .i64 0,.string ⟨#[]⟩,.string ⟨#[]⟩,.int .i64 0] 56
theorem mm{w w1:World}(E:Below (w.alloc Ck).heap.size (w.alloc Ck) w1):(w1.cell? ⟨w.heap.size,0,none⟩=some (.int .i64 0)/\w1.cell? ⟨w.heap.size,1,none⟩=some (.int .i64 0)/\w1.cell? ⟨w.heap.size,2,none⟩=some (.string ⟨#[]⟩)/\w1.cell? ⟨w.heap.size,3,none⟩=some (.string ⟨#[]⟩)/\w1.cell? ⟨w.heap.size,4,none⟩=some (.int .i64 0))/\(∀j,w1.frozen? ⟨w.heap.size,j,none⟩=false)/\w.heap.size<w1.heap.size/\Below w.heap.size w w1:=by
 have b0:=(aG.new w #[.int .i64 0,.int .i64 0,.string ⟨#[]⟩,.string ⟨#[]⟩,.int .i64 0] 56).below E;refine⟨⟨b0.get 0 _ rfl,b0.get 1 _ rfl,b0.get 2 _ rfl,b0.get 3 _ rfl,b0.get 4 _ rfl⟩,fun j=>(At E (b:=w.heap.size) (by simp) j).trans (ew w _ _ j),?_,(al w Ck).trans (E.mono (by simp))⟩;have:=E.size;simp at this;omega
theorem lR{w w1 w2:World}(E:Below w.heap.size w w1)(hg:w1.grownBy w2 (Option.some w.heap.size)):Below w.heap.size w w2:=E.grown hg E.size (fun r hr=>by simp at hr;omega)
def X9(o:Option aF)(w:World)(e:Ending)(w':World):Prop:= ∃(x:aF) (ok:Bool),e= .returned (.tuple #[k8 x,.bool ok])/\dr o x ok/\Below w.heap.size w w'
theorem akC{af:Int}{s m:Tx}(e:s=91::(m++[93])):dr (jl af s) ⟨-1,0,ah m,[],0⟩ (az (ah m)):=by
 have e2:(s.drop 1).dropLast=m:=by rw[e];simp
 unfold dr jl;rw[e2,if_pos ⟨by rw[e];rfl,by rw[e];exact Em _ _ _,by rw[e];simp⟩]
theorem akA{af:Int}{s:Tx}(h: ¬(s.head?=some 91/\s.getLast?=some 93))(h2:(58:UInt8)∉s):dr (jl af s) ⟨-1,0,s,[],0⟩ (az s):=by
 unfold dr jl;rw[if_neg (fun hh=>h ⟨hh.1,hh.2.1⟩),if_neg h2]
theorem akB{af:Int}{s:Tx}{n:Int}{k:Nat}{b1 b2:Bool}(h: ¬(s.head?=some 91/\s.getLast?=some 93))(h2:(58:UInt8)∈s)(h3:dr (cD (ah (s.takeWhile (· != 58)))) n b1)(h4:dr (dQ af (ah ((s.dropWhile (· != 58)).drop 1))) k b2):
 dr (jl af s) ⟨n,k,[],[],0⟩ (b1&&(b2&&(decide (0<=n)&&decide (n<16)))):=by
 unfold dr at*;unfold jl;rw[if_neg (fun hh=>h ⟨hh.1,hh.2.1⟩),if_pos h2,h3,h4];cases b1<;>cases b2<;>simp
theorem aid(af:Int)(ha:aH af=true)(s:Tx)(hl:s.length<=262144)(w:World)(g:Gl w):Calls prog 49 #[.int .i64 af,.string (tx s)] w (X9 (jl af s) w):=by
 have hsz:=aP s;have P1:=hid (fun w=>qE s [91] w);rw[Ur]at P1;have P2:=hid (fun w=>BK s 93 (by omega) w);have g0:=g.below (al w Ck)
 by_cases h1:s.head?=some 91/\s.getLast?=some 93
 ·obtain⟨m,e⟩: ∃m,s=91::(m++[93]):=by
   cases s with
   |nil=>cases h1.1
   | cons c r=>
     obtain rfl:c=91:=by simpa using h1.1
     cases r with
     |nil=>exact absurd h1.2 (by decide)
     | cons d r=>
       have h2:(d::r).getLast?=some 93:=by simpa using h1.2
       obtain⟨m,hm⟩:=tV.1 h2;exact⟨m,by rw[hm]⟩
  subst e;obtain⟨n,hn⟩: ∃n,(tx (91::(m++[93]))).size=n:=⟨_,rfl⟩;have fC:n=m.length+2:=by rw[<-hn,hsz];simp
  have hml:m.length<=262144:=by simp at hl;omega
  have sl:=wC (91::(m++[93])) 1 (m.length+1) (by omega) (by simp);have e2:((91::(m++[93])).take (m.length+1)).drop 1=m:=by simp
  rw[e2,show((m.length+1:Nat):Int)=(n:Int)-1 by omega,show((1:Nat):Int)=1 by rfl]at sl;have HO:=hid (akC (af:=af) (s:=91::(m++[93])) rfl);have TR:=hid (fun w=>og m (by omega) w);have htl:=j3 m;have NM:=hid (fun w=>Kw (ah m) (by omega) w);rw[show((91::(m++[93])).head?==some 91)=true by rfl]at P1;rw[show((91::(m++[93])).getLast?==some 93)=true by rw[h1.2];rfl]at P2;generalize jl af (91::(m++[93]))=o at*;generalize ah m=t at*;generalize az t=b at*;have yf:n<=1000000:=by omega
  have hn4:2<=n:=by omega
  clear hl hsz fC e2 g g0 h1 htl hml;go_in;go_wp2_with fail;refine(P1.out _).mono ?_;rintro e w1 ⟨rfl,E⟩
  go_wp2_with (first|(go_at_call 99;refine(P2.out _).mono ?_;rintro e w' ⟨rfl,rfl⟩)|fail)
  refine(TR.out _).mono ?_;rintro e w2 ⟨rfl,E2⟩;have E:=ay E E2;obtain⟨⟨d0,d1,d2,d3,d4⟩,hf,hlt,B⟩:=mm E;clear E
  go_wp2_with (go_at_call 52;refine(NM.out _).mono ?_;rintro e w' ⟨rfl,rfl⟩)
  exact bodyPost_ret (by simp[results,results49,go_sem,d0,d1,d2,d3,d4,iq]<;>rfl) rfl ⟨⟨-1,0,t,[],0⟩,b,rfl,HO.out,lR B (by(repeat refine lF ?_ _ _);exact lG _ _)⟩
 ·have hno:=hid h1
  have HG:=hid g0;have CU:=hid (fun w (g:Gl w)=>Hs s 58 (by omega) w);rw[Dw]at CU
  have hb:((s.head?==some 91)=false)\/((s.head?==some 91)=true/\(s.getLast?==some 93)=false):=by
   cases h:s.head?==some 91 with
   |false=>exact .inl rfl
   | true=>
     refine .inr ⟨rfl,?_⟩;cases h':s.getLast?==some 93 with
     |false=>rfl
     |true=>exact absurd ⟨by simpa using h,by simpa using h'⟩ h1
  generalize (s.head?==some 91)=b1 at*;generalize (s.getLast?==some 93)=b2 at*
  by_cases oV:(58:UInt8)∈s
  ·rw[if_pos oV]at CU
   simp only at CU;obtain⟨x,hx⟩: ∃x,s.takeWhile (· != 58)=x:=⟨_,rfl⟩;obtain⟨y,hy⟩: ∃y,(s.dropWhile (· != 58)).drop 1=y:=⟨_,rfl⟩;have hxl:x.length<=262144:=by rw[<-hx];have:=oq (· != 58) s;omega
   have yo:y.length<=262144:=by rw[<-hy];have:=(aoI (fun x=>x != 58) (l:=s)).length_le;simp;omega
   have HK:=hid (fun(n:Int) (k:Nat) (b1 b2:Bool) h3 h4=>akB (af:=af) (s:=s) (n:=n) (k:=k) (b1:=b1) (b2:=b2) hno.out oV h3 h4);rw[hx,hy]at CU HK;have TX:=hid (fun w=>og x (by omega) w);have TY:=hid (fun w=>og y (by omega) w);have NX:=hid (fun w g=>UQ (ah x) (by have:=j3 x;omega) w g);have RY:=hid (fun w g=>aia af ha (ah y) w g);generalize ah x=Fz at*;generalize ah y=wK at*;generalize jl af s=o at*;generalize cD Fz=on at*;generalize dQ af wK=ok0 at*;clear hl hsz h1 g g0 hno oV hx hy hxl yo;rcases hb with rfl|⟨rfl,rfl⟩
   ·go_in
    go_wp2_with fail;refine(P1.out _).mono ?_;rintro e w1 ⟨rfl,E⟩;have g1:=HG.out.below E;go_wp2_with fail;refine(CU.out _ g1).mono ?_;rintro e w2 ⟨rfl,E2⟩;have E:=ay E E2;clear g1 E2;go_wp2_with fail;refine(TX.out _).mono ?_;rintro e w3 ⟨rfl,E3⟩;have E:=ay E E3;have g1:=HG.out.below E;go_wp2_with fail;refine(NX.out _ g1).mono ?_;rintro e w4 ⟨n,bn,rfl,HN,E4⟩;have E:=ay E E4;clear g1 E3 E4;go_wp2_with fail;refine(TY.out _).mono ?_;rintro e w5 ⟨rfl,E5⟩;have E:=ay E E5;have g1:=HG.out.below E;go_wp2_with fail;refine(RY.out _ g1).mono ?_;rintro e w6 ⟨k,zV,rfl,HR,rfl⟩;have HO:=hid (HK.out n k bn zV HN HR);clear g1 E5 HN HR;cases bn
    ·skip
     obtain⟨⟨d0,d1,d2,d3,d4⟩,hf,hlt,B⟩:=mm E;clear E;go_wp2_with fail;exact bodyPost_ret (by simp[results,results49,go_sem,d0,d1,d2,d3,d4,iq]<;>rfl) rfl ⟨⟨n,k,[],[],0⟩,false,rfl,HO.out,lR B (by(repeat refine lF ?_ _ _);exact lG _ _)⟩
    cases zV
    ·skip
     obtain⟨⟨d0,d1,d2,d3,d4⟩,hf,hlt,B⟩:=mm E;clear E;go_wp2_with fail;exact bodyPost_ret (by simp[results,results49,go_sem,d0,d1,d2,d3,d4,iq]<;>rfl) rfl ⟨⟨n,k,[],[],0⟩,false,rfl,HO.out,lR B (by(repeat refine lF ?_ _ _);exact lG _ _)⟩
    simp only[Bool.true_and]at HO
    by_cases h0:0<=n
    ·have z0:decide (0<=n)=true:=by simpa using h0
     have HO:=hid HO.out;rw[z0]at HO;clear h0;obtain⟨⟨d0,d1,d2,d3,d4⟩,hf,hlt,B⟩:=mm E;clear E;go_wp2_with fail;exact bodyPost_ret (by simp[results,results49,go_sem,d0,d1,d2,d3,d4,iq]<;>rfl) rfl ⟨⟨n,k,[],[],0⟩,(decide (n<16)),rfl,HO.out,lR B (by(repeat refine lF ?_ _ _);exact lG _ _)⟩
    ·have z0:decide (0<=n)=false:=by simpa using h0
     have HO:=hid HO.out;rw[z0]at HO;clear h0;obtain⟨⟨d0,d1,d2,d3,d4⟩,hf,hlt,B⟩:=mm E;clear E;go_wp2_with fail;exact bodyPost_ret (by simp[results,results49,go_sem,d0,d1,d2,d3,d4,iq]<;>rfl) rfl ⟨⟨n,k,[],[],0⟩,false,rfl,HO.out,lR B (by(repeat refine lF ?_ _ _);exact lG _ _)⟩
   ·go_in
    go_wp2_with fail;refine(P1.out _).mono ?_;rintro e w1 ⟨rfl,E⟩;have g1:=HG.out.below E
    go_wp2_with (first|(go_at_call 99;refine(P2.out _).mono ?_;rintro e w' ⟨rfl,rfl⟩)|fail)
    refine(CU.out _ g1).mono ?_;rintro e w2 ⟨rfl,E2⟩;have E:=ay E E2;clear g1 E2;go_wp2_with fail;refine(TX.out _).mono ?_;rintro e w3 ⟨rfl,E3⟩;have E:=ay E E3;have g1:=HG.out.below E;go_wp2_with fail;refine(NX.out _ g1).mono ?_;rintro e w4 ⟨n,bn,rfl,HN,E4⟩;have E:=ay E E4;clear g1 E3 E4;go_wp2_with fail;refine(TY.out _).mono ?_;rintro e w5 ⟨rfl,E5⟩;have E:=ay E E5;have g1:=HG.out.below E;go_wp2_with fail;refine(RY.out _ g1).mono ?_;rintro e w6 ⟨k,zV,rfl,HR,rfl⟩;have HO:=hid (HK.out n k bn zV HN HR);clear g1 E5 HN HR;cases bn
    ·skip
     obtain⟨⟨d0,d1,d2,d3,d4⟩,hf,hlt,B⟩:=mm E;clear E;go_wp2_with fail;exact bodyPost_ret (by simp[results,results49,go_sem,d0,d1,d2,d3,d4,iq]<;>rfl) rfl ⟨⟨n,k,[],[],0⟩,false,rfl,HO.out,lR B (by(repeat refine lF ?_ _ _);exact lG _ _)⟩
    cases zV
    ·skip
     obtain⟨⟨d0,d1,d2,d3,d4⟩,hf,hlt,B⟩:=mm E;clear E;go_wp2_with fail;exact bodyPost_ret (by simp[results,results49,go_sem,d0,d1,d2,d3,d4,iq]<;>rfl) rfl ⟨⟨n,k,[],[],0⟩,false,rfl,HO.out,lR B (by(repeat refine lF ?_ _ _);exact lG _ _)⟩
    simp only[Bool.true_and]at HO
    by_cases h0:0<=n
    ·have z0:decide (0<=n)=true:=by simpa using h0
     have HO:=hid HO.out;rw[z0]at HO;clear h0;obtain⟨⟨d0,d1,d2,d3,d4⟩,hf,hlt,B⟩:=mm E;clear E;go_wp2_with fail;exact bodyPost_ret (by simp[results,results49,go_sem,d0,d1,d2,d3,d4,iq]<;>rfl) rfl ⟨⟨n,k,[],[],0⟩,(decide (n<16)),rfl,HO.out,lR B (by(repeat refine lF ?_ _ _);exact lG _ _)⟩
    ·have z0:decide (0<=n)=false:=by simpa using h0
     have HO:=hid HO.out;rw[z0]at HO;clear h0;obtain⟨⟨d0,d1,d2,d3,d4⟩,hf,hlt,B⟩:=mm E;clear E;go_wp2_with fail;exact bodyPost_ret (by simp[results,results49,go_sem,d0,d1,d2,d3,d4,iq]<;>rfl) rfl ⟨⟨n,k,[],[],0⟩,false,rfl,HO.out,lR B (by(repeat refine lF ?_ _ _);exact lG _ _)⟩
  ·rw[if_neg oV]at CU
   simp only at CU;have HO:=hid (akA (af:=af) hno.out oV);have NM:=hid (fun w=>Kw s (by omega) w);generalize jl af s=o at*;generalize az s=b at*;clear hl hsz h1 g g0 hno oV;rcases hb with rfl|⟨rfl,rfl⟩
   ·go_in
    go_wp2_with fail;refine(P1.out _).mono ?_;rintro e w1 ⟨rfl,E⟩;have g1:=HG.out.below E;go_wp2_with fail;refine(CU.out _ g1).mono ?_;rintro e w2 ⟨rfl,E2⟩;have E:=ay E E2;clear g1 E2;obtain⟨⟨d0,d1,d2,d3,d4⟩,hf,hlt,B⟩:=mm E;clear E
    go_wp2_with (go_at_call 52;refine(NM.out _).mono ?_;rintro e w' ⟨rfl,rfl⟩)
    exact bodyPost_ret (by simp[results,results49,go_sem,d0,d1,d2,d3,d4,iq]<;>rfl) rfl ⟨⟨-1,0,s,[],0⟩,b,rfl,HO.out,lR B (by(repeat refine lF ?_ _ _);exact lG _ _)⟩
   ·go_in
    go_wp2_with fail;refine(P1.out _).mono ?_;rintro e w1 ⟨rfl,E⟩;have g1:=HG.out.below E
    go_wp2_with (first|(go_at_call 99;refine(P2.out _).mono ?_;rintro e w' ⟨rfl,rfl⟩)|fail)
    refine(CU.out _ g1).mono ?_;rintro e w2 ⟨rfl,E2⟩;have E:=ay E E2;clear g1 E2;obtain⟨⟨d0,d1,d2,d3,d4⟩,hf,hlt,B⟩:=mm E;clear E
    go_wp2_with (go_at_call 52;refine(NM.out _).mono ?_;rintro e w' ⟨rfl,rfl⟩)
    exact bodyPost_ret (by simp[results,results49,go_sem,d0,d1,d2,d3,d4,iq]<;>rfl) rfl ⟨⟨-1,0,s,[],0⟩,b,rfl,HO.out,lR B (by(repeat refine lF ?_ _ _);exact lG _ _)⟩
def pU(o:Option aF)(w:World)(e:Ending)(w':World):Prop:=Below w.heap.size w w'/\match o with
 |some x=>e= .returned (.tuple #[k8 x,.int .i64 0])
 |none=>e= .returned (.tuple #[k8 ⟨0,0,[],[],0⟩,.int .i64 140])
theorem pU.no{o:Option aF}{w w':World}{e:Ending}(ho:o=none)(h:e= .returned (.tuple #[k8 ⟨0,0,[],[],0⟩,.int .i64 140]))(hb:Below w.heap.size w w'):pU o w e w':=by subst ho;exact⟨hb,h⟩
theorem pU.yes{o:Option aF}{w w':World}{e:Ending}{x:aF}(ho:o=some x)(h:e= .returned (.tuple #[k8 x,.int .i64 0]))(hb:Below w.heap.size w w'):pU o w e w':=by subst ho;exact⟨hb,h⟩
theorem akr{af:Int}{s:Tx}{x:aF}(h:jl af s=some x):x.aE=[]/\x.n=0:=by
 unfold jl at h
 split at h
 ·split at h
  ·cases h;exact⟨rfl,rfl⟩
  ·cases h
 ·split at h
  ·split at h
   ·split at h
    ·cases h;exact⟨rfl,rfl⟩
    ·cases h
   ·cases h
  ·split at h
   ·cases h;exact⟨rfl,rfl⟩
   ·cases h
theorem Fl{n b:Nat}{w w':World}(h:Below n w w')(hb:n<=b)(j:Nat)(v:Value):Below n w (w'.setCell ⟨b,j,none⟩ v):=h.setCell hb _
theorem acY{af:Int}{s:Tx}(h: ¬262144<s.length)(h2:(61:UInt8)∈s):kO af s=mZ (jl af (ah (s.takeWhile (· != 61)))) (fH (ah ((s.dropWhile (· != 61)).drop 1))):=by
 unfold kO;rw[if_neg (by rintro(a|a);exact h a;exact a h2)]
theorem alb{v:Tx}{n:Int}(h:dr (cD v) n true):fH v=some ([],n):=by unfold fH;rw[h.yes]
theorem alc{v:Tx}{n:Int}(h:dr (cD v) n false)(h2:az v=true):fH v=some (v,0):=by unfold fH;rw[h.no];exact if_pos h2
theorem ald{v:Tx}{n:Int}(h:dr (cD v) n false)(h2:az v=false):fH v=none:=by unfold fH;rw[h.no];exact if_neg (by rw[h2];decide)
theorem Q8{x:aF}{o:Option aF}{l:Tx}{n:Int}(h:o=some x):mZ o (some (l,n))=some ⟨x.thread,x.au,x.loc,l,n⟩:=by subst h;rfl
theorem ah6(af:Int)(ha:aH af=true)(s:Tx)(hl:s.length<=9223372036854775807)(w:World)(g:Gl w):Calls prog 21 #[.int .i64 af,.string (tx s)] w (pU (kO af s) w):=by
 have hsz:=aP s;have KN:=hid (fun w=>UP af w);have HA:=hid ha;have HG:=hid (g.below (al w Ck));have CU:=hid (fun w (g:Gl w)=>Hs s 61 hl w);rw[Dw]at CU;obtain⟨n,hn⟩: ∃n,(tx s).size=n:=⟨_,rfl⟩
 by_cases hb:262144<s.length\/(61:UInt8)∉s
 ·have HP:=hid (show kO af s=none by unfold kO;rw[if_pos hb])
  have z:decide ((262144:Int)<(n:Int))=true\/decide ((262144:Int)<(n:Int))=false/\(if(61:UInt8)∈s then(s.takeWhile (· != 61),(s.dropWhile (· != 61)).drop 1,true)else(s,[],false)).2.2=false:=by
   by_cases h3:262144<s.length
   ·exact .inl (by simp;omega)
   ·exact .inr ⟨by simp;omega,by rw[if_neg (by rcases hb with h|h;exact absurd h h3;exact h)]⟩
  generalize (if(61:UInt8)∈s then(s.takeWhile (· != 61),(s.dropWhile (· != 61)).drop 1,true)else(s,[],false))=cu at*;obtain⟨c1,c2,c3⟩:=cu;simp only at CU z;generalize kO af s=o at*;clear hl hsz hb g ha;rcases z with z|⟨z,rfl⟩
  all_goals
   go_in
   go_wp2_with (first|(go_at_call 42;refine(KN.out _).mono ?_;rintro e w' ⟨rfl,rfl⟩;rw[HA.out])|fail)
   refine(CU.out _ HG.out).mono ?_;rintro e w1 ⟨rfl,E⟩;obtain⟨⟨d0,d1,d2,d3,d4⟩,hf,hlt,B⟩:=mm E;clear E;go_wp2_with fail;exact bodyPost_ret (by simp[results,results21,go_sem,d0,d1,d2,d3,d4,iq]<;>rfl) rfl (pU.no HP.out rfl (lR B (by(repeat refine lF ?_ _ _);exact lG _ _)))
 have h3: ¬262144<s.length:=fun h=>hb (.inl h)
 have tH:(61:UInt8)∈s:=Classical.byContradiction fun h=>hb (.inr h)
 rw[if_pos tH]at CU;simp only at CU;obtain⟨x,hx⟩: ∃x,s.takeWhile (· != 61)=x:=⟨_,rfl⟩;obtain⟨y,hy⟩: ∃y,(s.dropWhile (· != 61)).drop 1=y:=⟨_,rfl⟩;have hxl:x.length<=s.length:=by rw[<-hx];exact oq (· != 61) s
 have yo:y.length<=s.length:=by rw[<-hy];have:=(aoI (fun x=>x != 61) (l:=s)).length_le;simp;omega
 have HI:=hid (acY (af:=af) h3 tH);rw[hx,hy]at CU HI;have z:decide ((262144:Int)<(n:Int))=false:=by simp;omega
 have TX:=hid (fun w=>og x (by omega) w);have TH:=hid (fun w g=>aid af ha (ah x) (by have:=j3 x;omega) w g);have TP:=hid (fun o=>akr (af:=af) (s:=ah x) (x:=o));have TY:=hid (fun w=>og y (by omega) w);have NY:=hid (fun w g=>UQ (ah y) (by have:=j3 y;omega) w g);have MY:=hid (fun w=>Kw (ah y) (by have:=j3 y;omega) w);have V1:=hid (fun n=>alb (v:=ah y) (n:=n));have V2:=hid (fun n=>alc (v:=ah y) (n:=n));have V3:=hid (fun n=>ald (v:=ah y) (n:=n));generalize ah x=Fz at*;generalize ah y=wK at*;generalize kO af s=o at*;generalize jl af Fz=ot at*;generalize fH wK=ov at*;generalize cD wK=on at*;clear hl hsz hb tH hx hy hxl yo h3 g ha;go_in
 go_wp2_with (first|(go_at_call 42;refine(KN.out _).mono ?_;rintro e w' ⟨rfl,rfl⟩;rw[HA.out])|fail)
 refine(CU.out _ HG.out).mono ?_;rintro e w1 ⟨rfl,E⟩;go_wp2_with fail;refine(TX.out _).mono ?_;rintro e w2 ⟨rfl,E2⟩;have E:=ay E E2;have g1:=HG.out.below E;go_wp2_with fail;refine(TH.out _ g1).mono ?_;rintro e w3 ⟨⟨th,rg,lc,vl,vn⟩,ok,rfl,HT,E3⟩;have E:=ay E E3;clear g1 E2 E3;cases ok
 ·have HP:=hid (show o=none by rw[HI.out,HT.no];exact yq _)
  clear HT;obtain⟨⟨d0,d1,d2,d3,d4⟩,hf,hlt,B⟩:=mm E;clear E;go_wp2_with fail;exact bodyPost_ret (by simp[results,results21,go_sem,d0,d1,d2,d3,d4,hlt,iq]) rfl (pU.no HP.out rfl aK)
 ·have HT:=hid HT.yes
  obtain⟨e1,e2⟩:=TP.out _ HT.out;simp only at e1 e2;subst e1;subst e2;have hw3:=E.size;have E:=hid E;go_wp2_with fail;refine(TY.out _).mono ?_;rintro e w4 ⟨rfl,E4⟩;have XB:=(aG.new w3 #[.int .i64 th,.int .i64 rg,.string (tx lc),.string ⟨#[]⟩,.int .i64 0] 56).below E4;have XF:=fun j=>(At E4 (b:=w3.heap.size) (by simp) j).trans (ew w3 _ _ j)
  have EE:=hid (ay E.out ((al w3 _).trans (E4.mono (by simp))));have g1:=HG.out.below EE.out;have XL:w3.heap.size<w4.heap.size:=XB.1;clear E4;have XB:=hid XB;have XF:=hid XF;go_wp2_with fail;refine(NY.out _ g1).mono ?_;rintro e w5 ⟨v,bn,rfl,HN,E5⟩;have XB:=XB.out.below E5;have XF:=fun j=>(At E5 XL j).trans (XF.out j)
  have E:=ay EE.out E5;have XL:w3.heap.size<w5.heap.size:=XB.1;obtain⟨⟨d0,d1,d2,d3,d4⟩,hf,hlt,B⟩:=mm E;have hne:w.heap.size≠w3.heap.size:=by simp at hw3;omega
  have I7:=hne.symm;have q0:=XB.get 0 _ rfl;have q1:=XB.get 1 _ rfl;have q2:=XB.get 2 _ rfl;have q3:=XB.get 3 _ rfl;have q4:=XB.get 4 _ rfl;have BW:w.heap.size<=w3.heap.size:=by simp at hw3;omega
  clear g1 E XB hw3;cases bn
  ·obtain⟨b,hb⟩: ∃b,az wK=b:=⟨_,rfl⟩
   have Mu:=hid (fun h=>V2.out _ HN h);have Mv:=hid (fun h=>V3.out _ HN h);rw[hb]at MY Mu Mv;clear HN hb;cases b
   ·have HP:=hid (show o=none by rw[HI.out,Mv.out rfl];exact tS _)
    go_wp2_with (go_at_call 52;refine(MY.out _).mono ?_;rintro e w' ⟨rfl,rfl⟩)
    exact bodyPost_ret (by simp[results,results21,go_sem,d0,d1,d2,d3,d4,iq]<;>rfl) rfl (pU.no HP.out rfl (lR B (by(repeat refine lF ?_ _ _);exact lG _ _)))
   ·have HP:=hid (show o=some ⟨th,rg,lc,wK,0⟩ by rw[HI.out,Mu.out rfl,Q8 HT.out])
    go_wp2_with (go_at_call 52;refine(MY.out _).mono ?_;rintro e w' ⟨rfl,rfl⟩)
    exact bodyPost_ret (by simp[results,results21,go_sem,d0,d1,d2,d3,d4]) rfl (pU.yes HP.out rfl (by
     (repeat first|with_reducible refine Fl ?_ (Nat.le_refl _) _ _|with_reducible refine Fl ?_ BW _ _)
     exact B))
  ·have HP:=hid (show o=some ⟨th,rg,lc,[],v⟩ by rw[HI.out,V1.out _ HN,Q8 HT.out])
   clear HN;go_wp2_with fail
   exact bodyPost_ret (by simp[results,results21,go_sem,d0,d1,d2,d3,d4,iq]) rfl (pU.yes HP.out rfl (by
    (repeat first|with_reducible refine Fl ?_ (Nat.le_refl _) _ _|with_reducible refine Fl ?_ BW _ _)
    exact B))
abbrev FN:Obj:=.cells #[.int .i64 0,.int .i64 0,.int .i64 0,.int .i64 0,.int .i64 0,.string ⟨#[]⟩,.string ⟨#[]⟩,.int .i64 0] 50
theorem Pz{w w1:World}(E:Below (w.alloc FN).heap.size (w.alloc FN) w1):(w1.cell? ⟨w.heap.size,0,none⟩=some (.int .i64 0)/\w1.cell? ⟨w.heap.size,1,none⟩=some (.int .i64 0)/\w1.cell? ⟨w.heap.size,2,none⟩=some (.int .i64 0)/\w1.cell? ⟨w.heap.size,3,none⟩=some (.int .i64 0)/\w1.cell? ⟨w.heap.size,4,none⟩=some (.int .i64 0)/\w1.cell? ⟨w.heap.size,5,none⟩=some (.string ⟨#[]⟩)/\w1.cell? ⟨w.heap.size,6,none⟩=some (.string ⟨#[]⟩)/\w1.cell? ⟨w.heap.size,7,none⟩=some (.int .i64 0))/\(∀j,w1.frozen? ⟨w.heap.size,j,none⟩=false)/\w.heap.size<w1.heap.size/\Below w.heap.size w w1:=by
 have b0:=(aG.new w #[.int .i64 0,.int .i64 0,.int .i64 0,.int .i64 0,.int .i64 0,.string ⟨#[]⟩,.string ⟨#[]⟩,.int .i64 0] 50).below E;refine⟨⟨b0.get 0 _ rfl,b0.get 1 _ rfl,b0.get 2 _ rfl,b0.get 3 _ rfl,b0.get 4 _ rfl,b0.get 5 _ rfl,b0.get 6 _ rfl,b0.get 7 _ rfl⟩,fun j=>(At E (b:=w.heap.size) (by simp) j).trans (ew w _ _ j),?_,(al w FN).trans (E.mono (by simp))⟩;have:=E.size;simp at this;omega
theorem ah8(af:Int)(ha:aH af=true)(s:Tx)(w:World)(g:Gl w):Calls prog 19 #[.int .i64 af,.string (tx s)] w (cZ (pE af s) w):=by
 have KN:=hid (fun w=>UP af w);have HA:=hid ha;have g0:=g.below (al w FN);unfold pE;rcases M1 ha with rfl|rfl
 ·rw[if_pos rfl]
  have PX:=hid (adm s _ g0);generalize eL s=r at*;unfold cZ at*;generalize Hz r=er at*;generalize Jt r=I at*;obtain⟨op,d,a,b,ag,loc,label,ai⟩:=I;clear g g0 ha;go_in
  go_wp2_with (first|(go_at_call 42;refine(KN.out _).mono ?_;rintro e w' ⟨rfl,rfl⟩;rw[HA.out])|fail)
  refine PX.out.mono ?_;rintro e w1 ⟨rfl,E⟩;obtain⟨⟨d0,d1,d2,d3,d4,d5,d6,d7⟩,hf,hlt,B⟩:=Pz E;clear E PX;go_wp2_with fail;exact bodyPost_ret (by simp[results,results19,go_sem,d0,d1,d2,d3,d4,d5,d6,d7]) rfl ⟨rfl,lR B (by(repeat refine lF ?_ _ _);exact lG _ _)⟩
 ·rw[if_neg (by decide)]
  have PX:=hid (agF s _ g0);generalize eD s=r at*;unfold cZ at*;generalize Hz r=er at*;generalize Jt r=I at*;obtain⟨op,d,a,b,ag,loc,label,ai⟩:=I;clear g g0 ha;go_in
  go_wp2_with (first|(go_at_call 42;refine(KN.out _).mono ?_;rintro e w' ⟨rfl,rfl⟩;rw[HA.out])|fail)
  refine PX.out.mono ?_;rintro e w1 ⟨rfl,E⟩;obtain⟨⟨d0,d1,d2,d3,d4,d5,d6,d7⟩,hf,hlt,B⟩:=Pz E;clear E PX;go_wp2_with fail;exact bodyPost_ret (by simp[results,results19,go_sem,d0,d1,d2,d3,d4,d5,d6,d7]) rfl ⟨rfl,lR B (by(repeat refine lF ?_ _ _);exact lG _ _)⟩
end Go.Proofs.YtkbbgjloifmmbaaGreatDoor
