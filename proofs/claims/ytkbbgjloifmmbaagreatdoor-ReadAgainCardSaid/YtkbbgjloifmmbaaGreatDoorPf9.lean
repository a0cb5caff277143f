/- What ReadAgainP leans on, part 9. -/
import Derived.Test.YtkbbgjloifmmbaaGreatDoorPf6
import Derived.Test.YtkbbgjloifmmbaaGreatDoorPf5
import Derived.Test.YtkbbgjloifmmbaaGreatDoorPf7
set_option linter.unusedVariables false
set_option maxRecDepth 100000
set_option maxHeartbeats 32000000
open _root_.Go.Proofs.Tryz
open _root_.Go renaming Calls->aA7,World->aAX
open _root_.Go.Instr renaming index->aBx
namespace Go.Proofs.YtkbbgjloifmmbaaGreatDoor
variable{i:aL}{a:Nat}{s:Tx}
def gP(s:Tx):Prop:= ∃p c,s=p++[c]/\c≠32
theorem gP.app(a:Tx){b:Tx}(h:gP b):gP (a++b):=by
 obtain⟨p,c,rfl,hc⟩:=h;exact⟨a++p,c,aq,hc⟩
theorem gP.one(a:Tx){c:UInt8}(h:c≠32):gP (a++[c]):=⟨a,c,rfl,h⟩
theorem gP.of{p:UInt8->Bool}(h0:s≠[])(h: ∀b∈s,p b=true)(hp:p 32=false):gP s:=by
 refine⟨s.dropLast,s.getLast h0,(MK h0).symm,fun e=>?_⟩;have:=h _ (List.getLast_mem h0);rw[e,hp]at this;cases this
theorem gP.ok(h:gP s):s=[]\/s.getLast?≠some 32:=by
 obtain⟨p,c,rfl,hc⟩:=h
 right;simpa using hc
theorem gP.ne(h:gP s):s≠[]:=by
 obtain⟨p,c,rfl,hc⟩:=h;simp
theorem arY(h:aU s=true):gP s:=by
 obtain⟨c,r,e, -⟩:=Dt h;exact gP.of (by rw[e];simp) (Gw h) ay
theorem agb(n:Int):gP (Lib.itoa n):=gP.of (WV n) (yO n) ay
theorem NP(n:Nat):gP (gf n):=by
 have d: ∀n a,gP (a++[mL n]):=fun n a=>gP.one a (by
  have key: ∀k:Fin 10,(UInt8.ofNat (48+k.val))≠32:=ay;exact key ⟨n%10,ES _ ah⟩)
 unfold gf;split
 ·exact d _ []
 split
 ·exact d _ [_]
 split
 ·exact d _ [_,_]
 exact d _ [_,_,_]
theorem anu(n:Int):gP (jI n):=by
 unfold jI;split
 ·exact(NP _).app [45]
 exact NP _
theorem aiv(n:Int):gP (rT n):=(NP _).app [_]
theorem awL{n:Nat}(h:n<15):gP (cg n):=by
 have k: ∀n:Fin 15,(cg n.val).all pP=true:=dD;exact gP.of (Qt ⟨n,h⟩).2 (fP.1 (k ⟨n,h⟩)) ay
theorem aoq(n:Int):gP (iY n):=by
 unfold iY;split
 ·exact⟨[],114,rfl,ay⟩
 split
 ·exact⟨[],119,rfl,ay⟩
 exact⟨[114],119,rfl,ay⟩
theorem atl(h:cD i=true):gP (fH i):=by
 unfold cD at h;simp only[bV]at h;obtain⟨⟨⟨⟨ho, -⟩,hd⟩,ha⟩,hb⟩:=h
 have hl:i.op=11\/i.op=12->gP i.av:=fun e=>by
  unfold gm at ho;rw[ai ah,ak e]at ho;exact arY ho
 unfold fH
 by_cases e1:i.op=6
 ·rw[ak e1];exact gP.one _ ay
 rw[ai e1]
 by_cases e2:i.op=7
 ·rw[ak e2];exact gP.one _ ay
 rw[ai e2]
 by_cases e3:i.op=8
 ·rw[ak e3];exact(anu _).app _
 rw[ai e3]
 by_cases e4:i.op=9
 ·rw[ak e4];exact(aiv _).app _
 rw[ai e4]
 by_cases e5:i.op=10
 ·rw[ak e5];exact(aiv _).app _
 rw[ai e5]
 by_cases e6:i.op=11
 ·rw[ak e6];exact(hl (.inl e6)).app _
 rw[ai e6]
 by_cases e7:i.op=12
 ·rw[ak e7];exact gP.one _ ay
 rw[ai e7];split
 ·exact⟨[102,101,110,99,101,46,116,115],111,rfl,ay⟩
 exact(aoq _).app _
theorem ato(h:fh i=true):gP (jP i):=by
 unfold fh eM at h;unfold jP
 by_cases h1:i.op=1
 ·rw[ak h1];exact(agb _).app _
 rw[ai h1]at h⊢
 by_cases h2:i.op=2
 ·rw[ak h2]at h⊢
  simp only[bV]at h;obtain⟨k,hk,e⟩:=xx h.1.2;rw[e,xu];exact(awL hk).app _
 rw[ai h2]at h⊢
 by_cases h3:i.op=3
 ·rw[ak h3];exact gP.one _ ay
 rw[ai h3]at h⊢
 by_cases h4:i.op=4
 ·rw[ak h4];exact(agb _).app _
 rw[ai h4];exact⟨[77,70,69,78,67],69,rfl,ay⟩
theorem al2(h:fh i=true):
 (∃l n,i=⟨1,0,0,0,n,l,[],0⟩/\aU l=true)\/(∃l,∃a:Nat,i=⟨2,0,a,0,0,l,[],0⟩/\aU l=true/\a<15)\/(∃l,∃d:Nat,i=⟨3,d,0,0,0,l,[],0⟩/\aU l=true/\d<15)\/(∃n,∃d:Nat,i=⟨4,d,0,0,n,[],[],0⟩/\d<15)\/i=⟨5,0,0,0,0,[],[],0⟩:=by
 obtain⟨ho,hw⟩:=Uk h;unfold eM at ho;unfold zG at hw
 by_cases h1:i.op=1
 ·rw[ak h1]at ho hw
  simp only[bV]at ho;exact .inl ⟨_,_,hw,ho.1⟩
 rw[ai h1]at ho hw
 by_cases h2:i.op=2
 ·rw[ak h2]at ho hw
  simp only[bV]at ho;obtain⟨k,hk,e⟩:=xx ho.2;exact .inr (.inl ⟨_,k,by rw[e]at hw;exact hw,ho.1,hk⟩)
 rw[ai h2]at ho hw
 by_cases h3:i.op=3
 ·rw[ak h3]at ho hw
  simp only[bV]at ho;obtain⟨k,hk,e⟩:=xx ho.2;exact .inr (.inr (.inl ⟨_,k,by rw[e]at hw;exact hw,ho.1,hk⟩))
 rw[ai h3]at ho hw
 by_cases h4:i.op=4
 ·rw[ak h4]at ho hw
  simp only[bV]at ho;obtain⟨k,hk,e⟩:=xx ho.1;exact .inr (.inr (.inr (.inl ⟨_,k,by rw[e]at hw;exact hw,hk⟩)))
 exact adH
theorem aiR(h:a<15): ∀b∈cg a,pP b=true:=by
 have k: ∀n:Fin 15,(cg n.val).all pP=true:=dD;exact fP.1 (k ⟨a,h⟩)
theorem Yw(h:a<15): ∃c t,cg a=c::t/\c≠91/\c≠36:=by
 cases e:cg a with
 |nil=>exact absurd e (Qt ⟨a,h⟩).2
 | cons c t=>
   have:=aiR h c (by rw[e];simp);refine⟨c,t,rfl,?_,?_⟩
   ·rintro rfl;exact absurd this ay
   rintro rfl;exact absurd this ay
theorem abf{ag:Int}(ha:bD ag=true)(h:kO ag i=true):gP (jG ag i).1:=by
 unfold bD at ha;simp only[uD,dw]at ha;unfold kO at h;unfold jG;rcases ha with rfl|rfl
 ·rw[ak rfl]at h ⊢; rw[ak h];exact ato h
 rw[ai ay]at h ⊢; rw[ak rfl,ak h];exact atl h
def L8(t:aT):Prop:= ∀x∈t.code,∀i∈x.l,kO t.ag i=true
theorem ao7(t:aT){z:Cd}(hz:z∈t.code):z.l.length<=uP t:=by
 have key: ∀(l:List Cd) (n:Nat),n<=l.foldl (fun n x=>max n x.l.length) n/\ ∀z∈l,z.l.length<=l.foldl (fun n x=>max n x.l.length) n:=by
  intro l
  induction l with
  |nil=>intro n;simp
  | cons x r ih=>
    intro n;have:=ih (max n x.l.length);refine⟨by have:=this.1;simp only[List.foldl_cons];omega,fun z hz=>?_⟩;simp only[List.foldl_cons];rcases cq.1 hz with rfl|hz
    ·have:=this.1;omega
    exact this.2 z hz
 exact(key t.code 0).2 z hz
theorem aaM{b:UInt8}: ∀{l:List Tx},(∀s∈l,cU s)->b≠32->b≠124->rS b=false->b∉jh l
 |[],_,_,_,_=>by simp[jh,List.intercalate]
 |[x],h,_,_,hb=>by rw[EX];exact KJ (h x aq) hb
 | x::y::r,h,h1,h2,hb=>by
   rw[EY];intro m;rcases fc.1 m with m|m
   ·exact KJ (h x aq) hb m
   rcases fc.1 m with m|m
   ·simp at m;rcases m with e|e
    ·exact h1 e
    rcases e with e|e
    ·exact h2 e
    exact h1 e
   exact aaM (l:=y::r) (fun s hs=>h s (by simp at hs ⊢; exact .inr hs)) h1 h2 hb m
open Go.RowKit
theorem Ay{o q x y z:Bool}(hc:cD i=(o&&q&&x&&y&&z))(ho:o=true):(q=false/\iX i=91)\/(q=true/\x=false/\iX i=91)\/(q=true/\x=true/\y=false/\iX i=91)\/(q=true/\x=true/\y=true/\z=false/\iX i=91)\/(q=true/\x=true/\y=true/\z=true/\iX i=0):=by
 subst ho;cases q
 ·exact .inl ⟨rfl,kL hc⟩
 cases x
 ·exact .inr (.inl ⟨rfl,rfl,kL hc⟩)
 cases y
 ·exact .inr (.inr (.inl ⟨rfl,rfl,rfl,kL hc⟩))
 cases z
 ·exact .inr (.inr (.inr (.inl ⟨rfl,rfl,rfl,rfl,kL hc⟩)))
 exact .inr (.inr (.inr (.inr ⟨rfl,rfl,rfl,rfl,wM hc⟩)))
section
variable (op d a b ax:Int) (aj av:Tx) (az:Int) (w:aAX)
theorem awa(hl:av.length<=9223372036854775807):aA7 prog 107 #[vI ⟨6,d,a,b,ax,aj,av,az⟩] w (bg w (.int .i64 (iX ⟨6,d,a,b,ax,aj,av,az⟩))):=by
 obtain⟨n,hn⟩: ∃n,n= !decide ((⟨6,d,a,b,ax,aj,av,az⟩:aL)=⟨6,d,a,0,0,[],[],0⟩):=⟨_,rfl⟩;have oH: ∀w,(binOp .neq 50 (.agg #[.int .i64 6,.int .i64 d,.int .i64 a,.int .i64 b,.int .i64 ax,.string (tx aj),.string (tx av),.int .i64 az]) (.agg #[.int .i64 6,.int .i64 d,.int .i64 a,.int .i64 0,.int .i64 0,.string ⟨#[]⟩,.string ⟨#[]⟩,.int .i64 0])).run prog w= .ok (.bool n) w:=fun w=>by rw[hn];exact jO ⟨6,d,a,b,ax,aj,av,az⟩ ⟨6,d,a,0,0,[],[],0⟩ w
 rcases Ay (i:=⟨6,d,a,b,ax,aj,av,az⟩) (o:=gm ⟨6,d,a,b,ax,aj,av,az⟩) (q:=decide ((⟨6,d,a,b,ax,aj,av,az⟩:aL)=⟨6,d,a,0,0,[],[],0⟩)) (x:=ek d) (y:=ek a) (z:=ek b) rfl rfl with⟨hq,h⟩|⟨hq,h1,h⟩|⟨hq,h1,h2,h⟩|⟨hq,h1,h2,h3,h⟩|⟨hq,h1,h2,h3,h⟩
 all_goals
  rw[hq]at hn;simp only[mV,nK]at hn;subst hn;have HE:=af h
  (try have H1:=af h1);(try have H2:=af h2);(try have H3:=af h3)
  (try clear h1);(try clear h2);(try clear h3);go_in
  go_wp2_with (first|(go_at_call 191;refine aK (qs _ _) ?_;(try rw[H1.oo]);(try rw[H2.oo]);(try rw[H3.oo]))|(go_at_call 190;refine aK (qq av hl _) ?_;rw[HM.oo]))
  exact jl
theorem awf(hl:av.length<=9223372036854775807):aA7 prog 107 #[vI ⟨7,d,a,b,ax,aj,av,az⟩] w (bg w (.int .i64 (iX ⟨7,d,a,b,ax,aj,av,az⟩))):=by
 obtain⟨n,hn⟩: ∃n,n= !decide ((⟨7,d,a,b,ax,aj,av,az⟩:aL)=⟨7,0,a,b,0,[],[],0⟩):=⟨_,rfl⟩;have oH: ∀w,(binOp .neq 50 (.agg #[.int .i64 7,.int .i64 d,.int .i64 a,.int .i64 b,.int .i64 ax,.string (tx aj),.string (tx av),.int .i64 az]) (.agg #[.int .i64 7,.int .i64 0,.int .i64 a,.int .i64 b,.int .i64 0,.string ⟨#[]⟩,.string ⟨#[]⟩,.int .i64 0])).run prog w= .ok (.bool n) w:=fun w=>by rw[hn];exact jO ⟨7,d,a,b,ax,aj,av,az⟩ ⟨7,0,a,b,0,[],[],0⟩ w
 rcases Ay (i:=⟨7,d,a,b,ax,aj,av,az⟩) (o:=gm ⟨7,d,a,b,ax,aj,av,az⟩) (q:=decide ((⟨7,d,a,b,ax,aj,av,az⟩:aL)=⟨7,0,a,b,0,[],[],0⟩)) (x:=ek d) (y:=ek a) (z:=ek b) rfl rfl with⟨hq,h⟩|⟨hq,h1,h⟩|⟨hq,h1,h2,h⟩|⟨hq,h1,h2,h3,h⟩|⟨hq,h1,h2,h3,h⟩
 all_goals
  rw[hq]at hn;simp only[mV,nK]at hn;subst hn;have HE:=af h
  (try have H1:=af h1);(try have H2:=af h2);(try have H3:=af h3)
  (try clear h1);(try clear h2);(try clear h3);go_in
  go_wp2_with (first|(go_at_call 191;refine aK (qs _ _) ?_;(try rw[H1.oo]);(try rw[H2.oo]);(try rw[H3.oo]))|(go_at_call 190;refine aK (qq av hl _) ?_;rw[HM.oo]))
  exact jl
theorem awg(hl:av.length<=9223372036854775807):aA7 prog 107 #[vI ⟨9,d,a,b,ax,aj,av,az⟩] w (bg w (.int .i64 (iX ⟨9,d,a,b,ax,aj,av,az⟩))):=by
 obtain⟨n,hn⟩: ∃n,n= !decide ((⟨9,d,a,b,ax,aj,av,az⟩:aL)=⟨9,d,a,b,0,[],[],0⟩):=⟨_,rfl⟩;have oH: ∀w,(binOp .neq 50 (.agg #[.int .i64 9,.int .i64 d,.int .i64 a,.int .i64 b,.int .i64 ax,.string (tx aj),.string (tx av),.int .i64 az]) (.agg #[.int .i64 9,.int .i64 d,.int .i64 a,.int .i64 b,.int .i64 0,.string ⟨#[]⟩,.string ⟨#[]⟩,.int .i64 0])).run prog w= .ok (.bool n) w:=fun w=>by rw[hn];exact jO ⟨9,d,a,b,ax,aj,av,az⟩ ⟨9,d,a,b,0,[],[],0⟩ w
 rcases Ay (i:=⟨9,d,a,b,ax,aj,av,az⟩) (o:=gm ⟨9,d,a,b,ax,aj,av,az⟩) (q:=decide ((⟨9,d,a,b,ax,aj,av,az⟩:aL)=⟨9,d,a,b,0,[],[],0⟩)) (x:=ek d) (y:=ek a) (z:=ek b) rfl rfl with⟨hq,h⟩|⟨hq,h1,h⟩|⟨hq,h1,h2,h⟩|⟨hq,h1,h2,h3,h⟩|⟨hq,h1,h2,h3,h⟩
 all_goals
  rw[hq]at hn;simp only[mV,nK]at hn;subst hn;have HE:=af h
  (try have H1:=af h1);(try have H2:=af h2);(try have H3:=af h3)
  (try clear h1);(try clear h2);(try clear h3);go_in
  go_wp2_with (first|(go_at_call 191;refine aK (qs _ _) ?_;(try rw[H1.oo]);(try rw[H2.oo]);(try rw[H3.oo]))|(go_at_call 190;refine aK (qq av hl _) ?_;rw[HM.oo]))
  exact jl
theorem av2(hl:av.length<=9223372036854775807):aA7 prog 107 #[vI ⟨10,d,a,b,ax,aj,av,az⟩] w (bg w (.int .i64 (iX ⟨10,d,a,b,ax,aj,av,az⟩))):=by
 obtain⟨n,hn⟩: ∃n,n= !decide ((⟨10,d,a,b,ax,aj,av,az⟩:aL)=⟨10,d,a,b,0,[],[],0⟩):=⟨_,rfl⟩;have oH: ∀w,(binOp .neq 50 (.agg #[.int .i64 10,.int .i64 d,.int .i64 a,.int .i64 b,.int .i64 ax,.string (tx aj),.string (tx av),.int .i64 az]) (.agg #[.int .i64 10,.int .i64 d,.int .i64 a,.int .i64 b,.int .i64 0,.string ⟨#[]⟩,.string ⟨#[]⟩,.int .i64 0])).run prog w= .ok (.bool n) w:=fun w=>by rw[hn];exact jO ⟨10,d,a,b,ax,aj,av,az⟩ ⟨10,d,a,b,0,[],[],0⟩ w
 rcases Ay (i:=⟨10,d,a,b,ax,aj,av,az⟩) (o:=gm ⟨10,d,a,b,ax,aj,av,az⟩) (q:=decide ((⟨10,d,a,b,ax,aj,av,az⟩:aL)=⟨10,d,a,b,0,[],[],0⟩)) (x:=ek d) (y:=ek a) (z:=ek b) rfl rfl with⟨hq,h⟩|⟨hq,h1,h⟩|⟨hq,h1,h2,h⟩|⟨hq,h1,h2,h3,h⟩|⟨hq,h1,h2,h3,h⟩
 all_goals
  rw[hq]at hn;simp only[mV,nK]at hn;subst hn;have HE:=af h
  (try have H1:=af h1);(try have H2:=af h2);(try have H3:=af h3)
  (try clear h1);(try clear h2);(try clear h3);go_in
  go_wp2_with (first|(go_at_call 191;refine aK (qs _ _) ?_;(try rw[H1.oo]);(try rw[H2.oo]);(try rw[H3.oo]))|(go_at_call 190;refine aK (qq av hl _) ?_;rw[HM.oo]))
  exact jl
theorem awe(hl:av.length<=9223372036854775807)(h:ax< -2048):aA7 prog 107 #[vI ⟨8,d,a,b,ax,aj,av,az⟩] w (bg w (.int .i64 (iX ⟨8,d,a,b,ax,aj,av,az⟩))):=by
 have z1:decide (-2048<=ax)=false:=aC;have HE:=af (kL (i:=⟨8,d,a,b,ax,aj,av,az⟩) (show cD ⟨8,d,a,b,ax,aj,av,az⟩=false by unfold cD;rw[show gm ⟨8,d,a,b,ax,aj,av,az⟩=false from(by show(decide (-2048<=ax)&&decide (ax<=2047))=false;simp;omega)];rfl));go_in
 go_wp2_with (first|(go_at_call 191;refine aK (qs _ _) ?_;(try rw[H1.oo]);(try rw[H2.oo]);(try rw[H3.oo]))|(go_at_call 190;refine aK (qq av hl _) ?_;rw[HM.oo]))
 exact jl
theorem awc(hl:av.length<=9223372036854775807)(h:2047<ax):aA7 prog 107 #[vI ⟨8,d,a,b,ax,aj,av,az⟩] w (bg w (.int .i64 (iX ⟨8,d,a,b,ax,aj,av,az⟩))):=by
 have z1:decide (-2048<=ax)=true:=aC;have z2:decide (ax<=2047)=false:=aC;have HE:=af (kL (i:=⟨8,d,a,b,ax,aj,av,az⟩) (show cD ⟨8,d,a,b,ax,aj,av,az⟩=false by unfold cD;rw[show gm ⟨8,d,a,b,ax,aj,av,az⟩=false from(by show(decide (-2048<=ax)&&decide (ax<=2047))=false;simp;omega)];rfl));go_in
 go_wp2_with (first|(go_at_call 191;refine aK (qs _ _) ?_;(try rw[H1.oo]);(try rw[H2.oo]);(try rw[H3.oo]))|(go_at_call 190;refine aK (qq av hl _) ?_;rw[HM.oo]))
 exact jl
theorem awd(hl:av.length<=9223372036854775807)(g1: -2048<=ax)(g2:ax<=2047):aA7 prog 107 #[vI ⟨8,d,a,b,ax,aj,av,az⟩] w (bg w (.int .i64 (iX ⟨8,d,a,b,ax,aj,av,az⟩))):=by
 have z1:decide (-2048<=ax)=true:=aC;have z2:decide (ax<=2047)=true:=aC;obtain⟨n,hn⟩: ∃n,n= !decide ((⟨8,d,a,b,ax,aj,av,az⟩:aL)=⟨8,d,a,0,ax,[],[],0⟩):=⟨_,rfl⟩;have oH: ∀w,(binOp .neq 50 (.agg #[.int .i64 8,.int .i64 d,.int .i64 a,.int .i64 b,.int .i64 ax,.string (tx aj),.string (tx av),.int .i64 az]) (.agg #[.int .i64 8,.int .i64 d,.int .i64 a,.int .i64 0,.int .i64 ax,.string ⟨#[]⟩,.string ⟨#[]⟩,.int .i64 0])).run prog w= .ok (.bool n) w:=fun w=>by rw[hn];exact jO ⟨8,d,a,b,ax,aj,av,az⟩ ⟨8,d,a,0,ax,[],[],0⟩ w
 rcases Ay (i:=⟨8,d,a,b,ax,aj,av,az⟩) (o:=gm ⟨8,d,a,b,ax,aj,av,az⟩) (q:=decide ((⟨8,d,a,b,ax,aj,av,az⟩:aL)=⟨8,d,a,0,ax,[],[],0⟩)) (x:=ek d) (y:=ek a) (z:=ek b) rfl (by show(decide (-2048<=ax)&&decide (ax<=2047))=true;simp;omega)with⟨hq,h⟩|⟨hq,h1,h⟩|⟨hq,h1,h2,h⟩|⟨hq,h1,h2,h3,h⟩|⟨hq,h1,h2,h3,h⟩
 all_goals
  rw[hq]at hn;simp only[mV,nK]at hn;subst hn;have HE:=af h
  (try have H1:=af h1);(try have H2:=af h2);(try have H3:=af h3)
  (try clear h1);(try clear h2);(try clear h3);go_in
  go_wp2_with (first|(go_at_call 191;refine aK (qs _ _) ?_;(try rw[H1.oo]);(try rw[H2.oo]);(try rw[H3.oo]))|(go_at_call 190;refine aK (qq av hl _) ?_;rw[HM.oo]))
  exact jl
theorem av7(hl:av.length<=9223372036854775807)(h:az<2):aA7 prog 107 #[vI ⟨13,d,a,b,ax,aj,av,az⟩] w (bg w (.int .i64 (iX ⟨13,d,a,b,ax,aj,av,az⟩))):=by
 have z1:decide (2<=az)=false:=aC;have HE:=af (kL (i:=⟨13,d,a,b,ax,aj,av,az⟩) (show cD ⟨13,d,a,b,ax,aj,av,az⟩=false by unfold cD;rw[show gm ⟨13,d,a,b,ax,aj,av,az⟩=false from(by show(decide (2<=az)&&decide (az<=11))=false;simp;omega)];rfl));go_in
 go_wp2_with (first|(go_at_call 191;refine aK (qs _ _) ?_;(try rw[H1.oo]);(try rw[H2.oo]);(try rw[H3.oo]))|(go_at_call 190;refine aK (qq av hl _) ?_;rw[HM.oo]))
 exact jl
theorem av5(hl:av.length<=9223372036854775807)(h:11<az):aA7 prog 107 #[vI ⟨13,d,a,b,ax,aj,av,az⟩] w (bg w (.int .i64 (iX ⟨13,d,a,b,ax,aj,av,az⟩))):=by
 have z1:decide (2<=az)=true:=aC;have z2:decide (az<=11)=false:=aC;have HE:=af (kL (i:=⟨13,d,a,b,ax,aj,av,az⟩) (show cD ⟨13,d,a,b,ax,aj,av,az⟩=false by unfold cD;rw[show gm ⟨13,d,a,b,ax,aj,av,az⟩=false from(by show(decide (2<=az)&&decide (az<=11))=false;simp;omega)];rfl));go_in
 go_wp2_with (first|(go_at_call 191;refine aK (qs _ _) ?_;(try rw[H1.oo]);(try rw[H2.oo]);(try rw[H3.oo]))|(go_at_call 190;refine aK (qq av hl _) ?_;rw[HM.oo]))
 exact jl
theorem av6(hl:av.length<=9223372036854775807)(g1:2<=az)(g2:az<=11):aA7 prog 107 #[vI ⟨13,d,a,b,ax,aj,av,az⟩] w (bg w (.int .i64 (iX ⟨13,d,a,b,ax,aj,av,az⟩))):=by
 have z1:decide (2<=az)=true:=aC;have z2:decide (az<=11)=true:=aC;obtain⟨n,hn⟩: ∃n,n= !decide ((⟨13,d,a,b,ax,aj,av,az⟩:aL)=⟨13,0,0,0,0,[],[],az⟩):=⟨_,rfl⟩;have oH: ∀w,(binOp .neq 50 (.agg #[.int .i64 13,.int .i64 d,.int .i64 a,.int .i64 b,.int .i64 ax,.string (tx aj),.string (tx av),.int .i64 az]) (.agg #[.int .i64 13,.int .i64 0,.int .i64 0,.int .i64 0,.int .i64 0,.string ⟨#[]⟩,.string ⟨#[]⟩,.int .i64 az])).run prog w= .ok (.bool n) w:=fun w=>by rw[hn];exact jO ⟨13,d,a,b,ax,aj,av,az⟩ ⟨13,0,0,0,0,[],[],az⟩ w
 rcases Ay (i:=⟨13,d,a,b,ax,aj,av,az⟩) (o:=gm ⟨13,d,a,b,ax,aj,av,az⟩) (q:=decide ((⟨13,d,a,b,ax,aj,av,az⟩:aL)=⟨13,0,0,0,0,[],[],az⟩)) (x:=ek d) (y:=ek a) (z:=ek b) rfl (by show(decide (2<=az)&&decide (az<=11))=true;simp;omega)with⟨hq,h⟩|⟨hq,h1,h⟩|⟨hq,h1,h2,h⟩|⟨hq,h1,h2,h3,h⟩|⟨hq,h1,h2,h3,h⟩
 all_goals
  rw[hq]at hn;simp only[mV,nK]at hn;subst hn;have HE:=af h
  (try have H1:=af h1);(try have H2:=af h2);(try have H3:=af h3)
  (try clear h1);(try clear h2);(try clear h3);go_in
  go_wp2_with (first|(go_at_call 191;refine aK (qs _ _) ?_;(try rw[H1.oo]);(try rw[H2.oo]);(try rw[H3.oo]))|(go_at_call 190;refine aK (qq av hl _) ?_;rw[HM.oo]))
  exact jl
theorem awb(hl:av.length<=9223372036854775807)(h:op<6\/13<op):aA7 prog 107 #[vI ⟨op,d,a,b,ax,aj,av,az⟩] w (bg w (.int .i64 (iX ⟨op,d,a,b,ax,aj,av,az⟩))):=by
 have z6:(op==6)=false:=aC;have z7:(op==7)=false:=aC;have z8:(op==8)=false:=aC;have z9:(op==9)=false:=aC;have z10:(op==10)=false:=aC;have LW:(op==11)=false:=aC;have z12:(op==12)=false:=aC;have z13:(op==13)=false:=aC;have HE:=af (kL (i:=⟨op,d,a,b,ax,aj,av,az⟩) (show cD ⟨op,d,a,b,ax,aj,av,az⟩=false by unfold cD;rw[show gm ⟨op,d,a,b,ax,aj,av,az⟩=false from(by unfold gm;simp only;rw[ai ah,ai ah,ai ah];simp;omega)];rfl));go_in
 go_wp2_with (first|(go_at_call 191;refine aK (qs _ _) ?_;(try rw[H1.oo]);(try rw[H2.oo]);(try rw[H3.oo]))|(go_at_call 190;refine aK (qq av hl _) ?_;rw[HM.oo]))
 exact jl
theorem av3(hl:av.length<=9223372036854775807)(hm:aU av=true):aA7 prog 107 #[vI ⟨11,d,a,b,ax,aj,av,az⟩] w (bg w (.int .i64 (iX ⟨11,d,a,b,ax,aj,av,az⟩))):=by
 have HM:=af hm;obtain⟨n,hn⟩: ∃n,n= !decide ((⟨11,d,a,b,ax,aj,av,az⟩:aL)=⟨11,0,a,b,0,[],av,0⟩):=⟨_,rfl⟩;have oH: ∀w,(binOp .neq 50 (.agg #[.int .i64 11,.int .i64 d,.int .i64 a,.int .i64 b,.int .i64 ax,.string (tx aj),.string (tx av),.int .i64 az]) (.agg #[.int .i64 11,.int .i64 0,.int .i64 a,.int .i64 b,.int .i64 0,.string ⟨#[]⟩,.string (tx av),.int .i64 0])).run prog w= .ok (.bool n) w:=fun w=>by rw[hn];exact jO ⟨11,d,a,b,ax,aj,av,az⟩ ⟨11,0,a,b,0,[],av,0⟩ w
 rcases Ay (i:=⟨11,d,a,b,ax,aj,av,az⟩) (o:=gm ⟨11,d,a,b,ax,aj,av,az⟩) (q:=decide ((⟨11,d,a,b,ax,aj,av,az⟩:aL)=⟨11,0,a,b,0,[],av,0⟩)) (x:=ek d) (y:=ek a) (z:=ek b) rfl hm with⟨hq,h⟩|⟨hq,h1,h⟩|⟨hq,h1,h2,h⟩|⟨hq,h1,h2,h3,h⟩|⟨hq,h1,h2,h3,h⟩
 all_goals
  rw[hq]at hn;simp only[mV,nK]at hn;subst hn;have HE:=af h
  (try have H1:=af h1);(try have H2:=af h2);(try have H3:=af h3)
  (try clear h1);(try clear h2);(try clear h3);go_in
  go_wp2_with (first|(go_at_call 191;refine aK (qs _ _) ?_;(try rw[H1.oo]);(try rw[H2.oo]);(try rw[H3.oo]))|(go_at_call 190;refine aK (qq av hl _) ?_;rw[HM.oo]))
  exact jl
theorem av4(hl:av.length<=9223372036854775807)(hm:aU av=false):aA7 prog 107 #[vI ⟨11,d,a,b,ax,aj,av,az⟩] w (bg w (.int .i64 (iX ⟨11,d,a,b,ax,aj,av,az⟩))):=by
 have HE:=af (kL (i:=⟨11,d,a,b,ax,aj,av,az⟩) (show cD ⟨11,d,a,b,ax,aj,av,az⟩=false by unfold cD;rw[show gm ⟨11,d,a,b,ax,aj,av,az⟩=false from hm];rfl));have HM:=af hm;go_in
 go_wp2_with (first|(go_at_call 191;refine aK (qs _ _) ?_;(try rw[H1.oo]);(try rw[H2.oo]);(try rw[H3.oo]))|(go_at_call 190;refine aK (qq av hl _) ?_;rw[HM.oo]))
 exact jl
theorem av8(hl:av.length<=9223372036854775807)(hm:aU av=true):aA7 prog 107 #[vI ⟨12,d,a,b,ax,aj,av,az⟩] w (bg w (.int .i64 (iX ⟨12,d,a,b,ax,aj,av,az⟩))):=by
 have HM:=af hm;obtain⟨n,hn⟩: ∃n,n= !decide ((⟨12,d,a,b,ax,aj,av,az⟩:aL)=⟨12,0,0,0,0,[],av,0⟩):=⟨_,rfl⟩;have oH: ∀w,(binOp .neq 50 (.agg #[.int .i64 12,.int .i64 d,.int .i64 a,.int .i64 b,.int .i64 ax,.string (tx aj),.string (tx av),.int .i64 az]) (.agg #[.int .i64 12,.int .i64 0,.int .i64 0,.int .i64 0,.int .i64 0,.string ⟨#[]⟩,.string (tx av),.int .i64 0])).run prog w= .ok (.bool n) w:=fun w=>by rw[hn];exact jO ⟨12,d,a,b,ax,aj,av,az⟩ ⟨12,0,0,0,0,[],av,0⟩ w
 rcases Ay (i:=⟨12,d,a,b,ax,aj,av,az⟩) (o:=gm ⟨12,d,a,b,ax,aj,av,az⟩) (q:=decide ((⟨12,d,a,b,ax,aj,av,az⟩:aL)=⟨12,0,0,0,0,[],av,0⟩)) (x:=ek d) (y:=ek a) (z:=ek b) rfl hm with⟨hq,h⟩|⟨hq,h1,h⟩|⟨hq,h1,h2,h⟩|⟨hq,h1,h2,h3,h⟩|⟨hq,h1,h2,h3,h⟩
 all_goals
  rw[hq]at hn;simp only[mV,nK]at hn;subst hn;have HE:=af h
  (try have H1:=af h1);(try have H2:=af h2);(try have H3:=af h3)
  (try clear h1);(try clear h2);(try clear h3);go_in
  go_wp2_with (first|(go_at_call 191;refine aK (qs _ _) ?_;(try rw[H1.oo]);(try rw[H2.oo]);(try rw[H3.oo]))|(go_at_call 190;refine aK (qq av hl _) ?_;rw[HM.oo]))
  exact jl
theorem av9(hl:av.length<=9223372036854775807)(hm:aU av=false):aA7 prog 107 #[vI ⟨12,d,a,b,ax,aj,av,az⟩] w (bg w (.int .i64 (iX ⟨12,d,a,b,ax,aj,av,az⟩))):=by
 have HE:=af (kL (i:=⟨12,d,a,b,ax,aj,av,az⟩) (show cD ⟨12,d,a,b,ax,aj,av,az⟩=false by unfold cD;rw[show gm ⟨12,d,a,b,ax,aj,av,az⟩=false from hm];rfl));have HM:=af hm;go_in
 go_wp2_with (first|(go_at_call 191;refine aK (qs _ _) ?_;(try rw[H1.oo]);(try rw[H2.oo]);(try rw[H3.oo]))|(go_at_call 190;refine aK (qq av hl _) ?_;rw[HM.oo]))
 exact jl
end
theorem Qn(i:aL)(hl:i.av.length<=9223372036854775807)(w:aAX):aA7 prog 107 #[vI i] w (bg w (.int .i64 (iX i))):=by
 obtain⟨op,d,a,b,ax,aj,av,az⟩:=i
 by_cases h6:op=6
 ·subst h6;apply awa _ _ _ _ _ _ _ _ hl
 by_cases h7:op=7
 ·subst h7;apply awf _ _ _ _ _ _ _ _ hl
 by_cases h8:op=8
 ·subst h8
  by_cases h1:ax< -2048
  ·apply awe _ _ _ _ _ _ _ _ hl;omega
  by_cases h2:ax<=2047
  ·apply awd _ _ _ _ _ _ _ _ hl<;>omega
  apply awc _ _ _ _ _ _ _ _ hl;omega
 by_cases h9:op=9
 ·subst h9;apply awg _ _ _ _ _ _ _ _ hl
 by_cases h10:op=10
 ·subst h10;apply av2 _ _ _ _ _ _ _ _ hl
 by_cases h11:op=11
 ·subst h11
  cases hm:aU av
  ·apply av4 _ _ _ _ _ _ _ _ hl;exact hm
  apply av3 _ _ _ _ _ _ _ _ hl;exact hm
 by_cases h12:op=12
 ·subst h12
  cases hm:aU av
  ·apply av9 _ _ _ _ _ _ _ _ hl;exact hm
  apply av8 _ _ _ _ _ _ _ _ hl;exact hm
 by_cases AB:op=13
 ·subst AB
  by_cases h1:az<2
  ·apply av7 _ _ _ _ _ _ _ _ hl;omega
  by_cases h2:az<=11
  ·apply av6 _ _ _ _ _ _ _ _ hl<;>omega
  apply av5 _ _ _ _ _ _ _ _ hl;omega
 apply awb _ _ _ _ _ _ _ _ _ hl;omega
attribute [local go_sem high] wL jO
abbrev W2(w:aAX):aAX:=(w.alloc cK).alloc cK
theorem JW{w w':aAX}(h:Below (W2 w).heap.size (W2 w) w'):
 (w'.cell? ⟨w.heap.size,0,none⟩=some (.int .i64 0)/\w'.cell? ⟨w.heap.size,1,none⟩=some (.int .i64 0)/\w'.cell? ⟨w.heap.size,2,none⟩=some (.int .i64 0)/\w'.cell? ⟨w.heap.size,3,none⟩=some (.int .i64 0)/\w'.cell? ⟨w.heap.size,4,none⟩=some (.int .i64 0)/\w'.cell? ⟨w.heap.size,5,none⟩=some (.string ⟨#[]⟩)/\w'.cell? ⟨w.heap.size,6,none⟩=some (.string ⟨#[]⟩)/\w'.cell? ⟨w.heap.size,7,none⟩=some (.int .i64 0))/\
 (w'.cell? ⟨w.heap.size+1,0,none⟩=some (.int .i64 0)/\w'.cell? ⟨w.heap.size+1,1,none⟩=some (.int .i64 0)/\w'.cell? ⟨w.heap.size+1,2,none⟩=some (.int .i64 0)/\w'.cell? ⟨w.heap.size+1,3,none⟩=some (.int .i64 0)/\w'.cell? ⟨w.heap.size+1,4,none⟩=some (.int .i64 0)/\w'.cell? ⟨w.heap.size+1,5,none⟩=some (.string ⟨#[]⟩)/\w'.cell? ⟨w.heap.size+1,6,none⟩=some (.string ⟨#[]⟩)/\w'.cell? ⟨w.heap.size+1,7,none⟩=some (.int .i64 0))/\
 (∀k,w'.frozen? ⟨w.heap.size,k,none⟩=false)/\w.heap.size+1<w'.heap.size/\Below w.heap.size w w':=by
 obtain⟨d,f,-, B⟩:=gE (aI (al (w.alloc cK) cK) h);obtain⟨e,-, aA, -⟩:=gE (w:=w.alloc cK) h;have hs:(w.alloc cK).heap.size=w.heap.size+1:=aq;rw[hs]at e aA;exact⟨d,e,f,aA,B⟩
theorem Qo(s:Tx)(hs:s.length<=9223372036854775807)(w:aAX):aA7 prog 106 #[.string (tx s)] w (bg w (.string (tx (aG s)))):=
 (Yr s hs w).mono fun e w' hh=>⟨hh.1,by rw[<-hh.2];exact bS _ _⟩
theorem awp(s:Tx)(hl:262144<s.length)(w:aAX):aA7 prog 47 #[.string (tx s)] w (dr (eN s) w):=by
 obtain⟨r,hr⟩:=aF (eN s);rw[hr];have HK:=af (show r=none by rw[<-hr];unfold eN;rw[ak hl]);obtain⟨n,hn⟩:=aF ((tx s).size);have hz:decide (262144<(n:Int))=true:=by rw[<-hn,bC];simp;omega
 go_in;go_wp2;exact aZ (by simp[results,results47,go_sem]) rfl (dr.no HK.oo rfl cG)
theorem awr(s:Tx)(hl:s.length<=262144)(ht:aG s=[102,101,110,99,101,46,116,115,111])(w:aAX):aA7 prog 47 #[.string (tx s)] w (dr (eN s) w):=by
 obtain⟨r,hr⟩:=aF (eN s);rw[hr];have HK:=af (show r=some ⟨13,0,0,0,0,[],[],2⟩ by rw[<-hr];unfold eN;rw[ai ah];simp only[ht];rw[ak trivial]);obtain⟨n,hn⟩:=aF ((tx s).size);have gF:n=s.length:=by rw[<-hn,bC]
 have hz:decide (262144<(n:Int))=false:=aC;have TR:=af (fun(w:aAX)=>Qo s ah w);rw[ht]at TR;have z:((tx [102,101,110,99,101,46,116,115,111]).toList==[102,101,110,99,101,46,116,115,111])=true:=by rw[bU];rfl
 go_in;go_wp2_with fail;refine aQ (TR.oo _) fun w1 E=>?_
 obtain⟨⟨d0,d1,d2,d3,d4,d5,d6,d7⟩,⟨e0,e1,e2,e3,e4,e5,e6,e7⟩,hf,aA,B⟩:=JW E;go_wp2;exact aZ (by simp[results,results47,go_sem,d0,d1,d2,d3,d4,d5,d6,d7]) rfl (dr.akt HK.oo rfl cG)
theorem awo(s t:Tx)(hl:s.length<=262144)(ht:aG s=t)(h1:t≠[102,101,110,99,101,46,116,115,111])(h2:t.getLast?=some 58)(w:aAX):aA7 prog 47 #[.string (tx s)] w (dr (eN s) w):=by
 obtain⟨r,hr⟩:=aF (eN s);rw[hr];have HK:=af (show r=if aU (aG t.dropLast)then some ⟨12,0,0,0,0,[],aG t.dropLast,0⟩else none by rw[<-hr];unfold eN;rw[ai ah];simp only[ht];rw[ai h1,ak h2]);obtain⟨n,hn⟩:=aF ((tx s).size);have gF:n=s.length:=by rw[<-hn,bC]
 have hz:decide (262144<(n:Int))=false:=aC;have TR:=af (fun(w:aAX)=>Qo s ah w);rw[ht]at TR;have htl:=lZ s;rw[ht]at htl;have z:((tx t).toList==[102,101,110,99,101,46,116,115,111])=false:=eD _ _ h1;obtain⟨m,hm⟩:=aF t.length;have Ws:(tx t).size=m:=by rw[bC,hm]
 have yK:1<=m:=by
  rcases M4 m with h0|h0
  ·rw[h0]at hm;have:=lH hm;rw[this]at h2;cases h2
  exact h0
 have ix: ∀w,(aBx 9 (.string (tx t)) (.int .i64 ((m:Int)-1))).run prog w= .ok (.int .u8 (58:UInt8).toNat) w:=by
  have:=cH t (m-1) 58 (by rw[<-h2,Er,hm])
  rwa[show((m-1:Nat):Int)=(m:Int)-1 by omega]at this
 have z58:(((58:UInt8).toNat:Int)==58)=true:=ay
 have sl: ∀w,(Instr.sliceAt 9 (.string (tx t)) none (some (.int .i64 ((m:Int)-1))) none).run prog w= .ok (.string (tx t.dropLast)) w:=by
  have:=xA t (m-1) ah
  rwa[show((m-1:Nat):Int)=(m:Int)-1 by omega,show t.take (m-1)=t.dropLast by rw[MW,hm]]at this
 have T2:=af (fun(w:aAX)=>Qo t.dropLast aC w);have eL:=lZ t.dropLast;have hmb:m<=262144:=ah;rw[Ev,hm]at eL;generalize t.dropLast=u at*;generalize aG u=lb at*;have CK:=af (fun(w:aAX)=>Qn ⟨12,0,0,0,0,[],lb,0⟩ aC w)
 by_cases hnm:aU lb=true
 ·skip
  have hE:=wM (i:=⟨12,0,0,0,0,[],lb,0⟩) (by rw[Jy];exact hnm);rw[ak hnm]at HK;rw[hE]at CK;go_in;go_wp2_with fail;refine aQ (TR.oo _) fun w1 E=>?_
  go_wp2_with fail;refine aQ (T2.oo _) fun w3 E3=>?_
  have E:=aI E E3;go_wp2_with fail;refine aQ (CK.oo _) fun w4 E4=>?_
  obtain⟨⟨f0,f1,f2,f3,f4,f5,f6,f7⟩,uO,dS,B2⟩:=JX E4;have E:=aI E B2;obtain⟨⟨d0,d1,d2,d3,d4,d5,d6,d7⟩,⟨e0,e1,e2,e3,e4,e5,e6,e7⟩,hf,aA,B⟩:=JW E;go_wp2;exact aZ (by simp[results,results47,go_sem,d0,d1,d2,d3,d4,d5,d6,d7]) rfl (dr.yes HK.oo rfl cG)
 skip
 have hE:=kL (i:=⟨12,0,0,0,0,[],lb,0⟩) (by rw[Jy];simpa using hnm);rw[ai hnm]at HK;rw[hE]at CK;go_in;go_wp2_with fail;refine aQ (TR.oo _) fun w1 E=>?_
 go_wp2_with fail;refine aQ (T2.oo _) fun w3 E3=>?_
 have E:=aI E E3;go_wp2_with fail;refine aQ (CK.oo _) fun w4 E4=>?_
 obtain⟨⟨f0,f1,f2,f3,f4,f5,f6,f7⟩,uO,dS,B2⟩:=JX E4;have E:=aI E B2;obtain⟨⟨d0,d1,d2,d3,d4,d5,d6,d7⟩,⟨e0,e1,e2,e3,e4,e5,e6,e7⟩,hf,aA,B⟩:=JW E;go_wp2;exact aZ (by simp[results,results47,go_sem,d0,d1,d2,d3,d4,d5,d6,d7]) rfl (dr.no HK.oo rfl cG)
theorem awq(s t:Tx)(hl:s.length<=262144)(ht:aG s=t)(h1:t≠[102,101,110,99,101,46,116,115,111])(h2: ¬t.getLast?=some 58)(w:aAX):aA7 prog 47 #[.string (tx s)] w (dr (eN s) w):=by
 obtain⟨r,hr⟩:=aF (eN s);rw[hr];have HK:=af (show fq (t.takeWhile fun c=> !aH c) ((bh 44 (t.dropWhile fun c=> !aH c)).map aG)=r by rw[<-hr];unfold eN;rw[ai ah];simp only[ht];rw[ai h1,ai h2]);obtain⟨n,hn⟩:=aF ((tx s).size);have gF:n=s.length:=by rw[<-hn,bC]
 have hz:decide (262144<(n:Int))=false:=aC;have TR:=af (fun(w:aAX)=>Qo s ah w);rw[ht]at TR;have htl:=lZ s;rw[ht]at htl;have z:((tx t).toList==[102,101,110,99,101,46,116,115,111])=false:=eD _ _ h1;obtain⟨m,hm⟩:=aF t.length;have Ws:(tx t).size=m:=by rw[bC,hm]
 have hmb:m<=262144:=ah;have HM:=af hm
 have HG:Hid (0<m-> ∃x:UInt8,(∀w,(aBx 9 (.string (tx t)) (.int .i64 ((m:Int)-1))).run prog w= .ok (.int .u8 x.toNat) w)/\((x.toNat:Int)==58)=false):=af (fun h0=>by
  obtain⟨x,hx⟩: ∃x,t[m-1]? =some x:=⟨_,aV ah⟩;refine⟨x,?_,aj3 x 58 (fun e=>h2 (by rw[Er,hm,hx,e]))⟩;have:=cH t (m-1) x hx
  rwa[show((m-1:Nat):Int)=(m:Int)-1 by omega]at this)
 clear hr hl gF ht h2 h1 hm htl
 have HZ:(decide ((0:Int)<(m:Int))=false/\ ¬0<m)\/(0<m/\ ∃x:UInt8,(∀w,(aBx 9 (.string (tx t)) (.int .i64 ((m:Int)-1))).run prog w= .ok (.int .u8 x.toNat) w)/\((x.toNat:Int)==58)=false):=by
  rcases M4 m with h|h
  ·exact .inl ⟨ aC,ah⟩
  exact .inr ⟨h,HG.oo h⟩
 clear HG;rcases HZ with⟨z0,h0⟩|⟨h0,x,yH,z58⟩
 all_goals
  go_in;go_wp2_with fail;refine aQ (TR.oo _) fun w1 E=>?_
  go_wp2_with fail
  go_loop [6] (fun i=> ∃k:Nat,k<=m/\i= .int .i64 k/\Hid (∀(j:Nat) (c:UInt8),j<k->t[j]? =some c->aH c=false)) (fun i=>m-(intOf i).toNat)
  ·exact adq
  obtain⟨k,hk,rfl,HB⟩:=hrel
  by_cases hend:k<m/\ ∃c,t[k]? =some c/\aH c=false
  ·obtain⟨aA,c,hc,hbc⟩:=hend
   have ix:=cH t k c hc
   have Ec:=af (show ∀(j:Nat) (c:UInt8),j<k+1->t[j]? =some c->aH c=false from fun j c' hj hc'=>by
    rcases fO.1 hj with h|h
    ·exact HB.oo j c' h hc'
    subst h;rw[hc]at hc';cases hc';exact hbc)
   have HC:=af hbc;clear hc hbc
   go_wp2_with (go_at_call 108;refine aK (Ba c _) ?_;rw[HC.oo])
   go_round
   case rel=>exact⟨k+1,ah,by go_num,Ec⟩
   case measure=>simp[intOf];omega
  have hlen:=YP (fun c=> !aH c) t k (fun j c hj hc=>by rw[HB.oo j c hj hc];rfl) (fun c hc=>by
   have aA:=(bt.1 hc).1;cases hb:aH c with
   |true=>rfl
   |false=>exact absurd ⟨by have:=HM.oo;omega,c,hc,hb⟩ hend) (bE HM.oo)
  have fC:=HK.oo;rw[QL,UE,hlen]at fC;have YK:=xA t k (bE HM.oo);have vD:=xz t k (bE HM.oo);have hsm:Sm ((bh 44 (t.drop k)).map aG):=ajz 44 _ (by have:=HM.oo;simp;omega);have SP:=af (fun(w:aAX)=>aiG (t.drop k) 44 (by have:=HM.oo;simp;omega) w);have RD:=af (fun(a:Option Addr) (c:Nat) (w:aAX) (h:cO w a ((bh 44 (t.drop k)).map aG))=>awm (t.take k) _ a c w h hsm);rw[fC]at RD;clear hsm fC HK hlen;generalize (bh 44 (t.drop k)).map aG=ps at*;generalize t.drop k=t2 at*;generalize t.take k=t1 at*
  obtain⟨c,hex⟩: ∃c:UInt8,(k<m/\t[k]? =some c/\aH c=true)\/k=m:=by
   by_cases hkm:k<m
   ·obtain⟨c,hc⟩: ∃c,t[k]? =some c:=⟨_,aV (bE HM.oo)⟩
    refine⟨c,.inl ⟨hkm,hc,?_⟩⟩;cases hb:aH c with
    |true=>rfl
    |false=>exact absurd ⟨hkm,c,hc,hb⟩ hend
   exact⟨0,.inr ah⟩
  clear hend;rcases hex with⟨aA,hc,hbc⟩|hkm
  all_goals first|(exfalso;omega)|skip
  all_goals
   (try have ix:=cH t k c hc)
   (try have HC:=af hbc)
   (try subst hkm)
   (try clear hc hbc)
   go_wp2_with (first|(go_at_call 108;refine aK (Ba c _) ?_;rw[HC.oo])|fail)
   go_cut [7,8] (fun x y wx=> ∃(bb:Nat) (op d a1 b1 ax:Int) (av:Tx) (az:Int) (ok:Bool),x= .pointer (some ⟨bb,0,none⟩)/\y= .bool ok/\Hid (gG ⟨op,d,a1,b1,ax,[],av,az⟩ ok=r)/\av.length<=1000000/\iU wx bb ⟨op,d,a1,b1,ax,[],av,az⟩/\Below (W2 w).heap.size (W2 w) wx)
   case first=>
    go_region_with (first|(go_at_call 110;refine(SP.oo _).mono ?_;rintro e' w' ⟨a2,c2,rfl,Bm,E2⟩;have E5:=aI (a:=w1) cG E2;have s5:=E5.size)|(go_at_call 109;refine(RD.oo _ _ _ (by first|exact Bm|exact Bm.below (al _ _))).mono ?_;rintro e' w' ⟨op,d,a1,b,ax,av,az,ok,rfl,hk,hl,E3⟩;have E6:=aI (a:=w1) (by first|exact E5|exact gU E5 _) E3;have s6:=E6.size;first|(revert E3;with_reducible refine Ou ?_;intro E3 f0 f1 f2 f3 f4 f5 f6 f7 uO dS)|(have o8:=aI E2 E3;revert o8;with_reducible refine Vp ?_;intro o8 f0 f1 f2 f3 f4 f5 f6 f7 uO dS)|skip))
    all_goals
     go_wp2_with fail
     go_meet
     refine⟨_,op,d,a1,b,ax,av,az,ok,rfl,rfl,hk,hl,iU.XQ rfl ?_ ?_ ?_ ?_ ?_ ?_ ?_ ?_ ?_,aI E cG⟩
     all_goals go_simp
   case rest=>
    clear E;obtain⟨bb,op,d,a1,b1,ax,av,az,ok,rfl,rfl,hkk,hl,bx,E⟩:=hcut;have CK:=af (fun(w:aAX)=>Qn ⟨op,d,a1,b1,ax,[],av,az⟩ aC w);obtain⟨q0,q1,q2,q3,q4,q5,q6,q7⟩:=bx.cells;cases ok
    ·obtain⟨⟨d0,d1,d2,d3,d4,d5,d6,d7⟩,⟨e0,e1,e2,e3,e4,e5,e6,e7⟩,hf,aA,B⟩:=JW E
     have HN:=af (show r=none from hkk.oo.symm);clear E q0 q1 q2 q3 q4 q5 q6 q7 bx;go_wp2_with fail;exact adU
    cases fE:cD ⟨op,d,a1,b1,ax,[],av,az⟩
    have HN:=af (show r=none by rw[<-hkk.oo];unfold gG;rw[fE];rfl);rw[kL fE]at CK
    rotate_left
    have HN:=af (show r=some ⟨op,d,a1,b1,ax,[],av,az⟩ by rw[<-hkk.oo];unfold gG;rw[fE];rfl);rw[wM fE]at CK
    all_goals
     clear fE;go_wp2_with fail;refine aQ (CK.oo _) fun w9 E4=>?_
     have E:=aI E E4;have bx:=bx.below E4;clear q0 q1 q2 q3 q4 q5 q6 q7;obtain⟨q0,q1,q2,q3,q4,KV,q6,q7⟩:=bx.cells;have q5:w9.cell? ⟨bb,5,none⟩=some (.string ⟨#[]⟩):=KV;obtain⟨⟨d0,d1,d2,d3,d4,d5,d6,d7⟩,⟨e0,e1,e2,e3,e4,e5,e6,e7⟩,hf,aA,B⟩:=JW E;clear E E4 bx KV;go_wp2_with fail
    ·exact aZ (by simp[results,results47,go_sem,d0,d1,d2,d3,d4,d5,d6,d7]) rfl (dr.yes HN.oo rfl cG)
    exact adU
theorem awn(s:Tx)(w:aAX):aA7 prog 47 #[.string (tx s)] w (dr (eN s) w):=by
 by_cases hl:s.length<=262144
 ·by_cases h1:aG s=[102,101,110,99,101,46,116,115,111]
  ·exact awr s hl h1 w
  by_cases h2:(aG s).getLast?=some 58
  ·exact awo s _ hl rfl h1 h2 w
  exact awq s _ hl rfl h1 h2 w
 exact awp s ah w
end Go.Proofs.YtkbbgjloifmmbaaGreatDoor
